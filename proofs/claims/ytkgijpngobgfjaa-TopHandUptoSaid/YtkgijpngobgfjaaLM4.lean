/- This file proves parts of what its law needs: each part is told ahead of it. No conditions. -/
import Derived.Test.YtkgijpngobgfjaaLM2
import Derived.Test.YtkgijpngobgfjaaLM3
import Derived.Test.YtkgijpngobgfjaaLM1
set_option linter.unusedVariables false
set_option linter.unusedSimpArgs false
set_option maxHeartbeats 1000000
set_option maxRecDepth 8000
namespace Go.Proofs.Ytkgijpngobgfjaa
open Go
variable {L : List Chunk} {R : List Fact} {w : World}
theorem Lx {LX : List Chunk} {R : List Fact} {w : World} {vh vo u : Value} {i bk : Nat} {e : Entry} {ms : List Msg} {line id : Int} {xs : List Entry} (hs : St (blk bk 140 [(ep vh 10 i 0), vi line, vi id, vo] :: row 115 vo ms :: foc 84 vh xs i (Entry.cells u e) :: LX) R w) (hA : EpAll vh 10 i) (hone : u.oneCell' = true) (hn : ms.length ≤ 500) (hb : EB e) (hl : An line) (hid : An id) : Calls Try.prog 72 [bp bk 0].toArray w (Cd (fun v : Value => .tuple #[]) (fun v => blk bk 140 [(ep vh 10 i 0), vi line, vi id, v] :: row 115 v (ms ++ E9 (Ct e) line id) :: foc 84 vh xs i (Entry.cells u (Ct e)) :: LX) (fun v => R)) := by
 have hb0 := hb
 unfold EB Entry.wf An at hb0
 have hl0 := hl
 have hid0 := hid
 unfold An at hl0 hid0
 refine Ah Try.func72 rfl Try.ntmps72 rfl hs ?_
 clear hs
 refine Gm ?_
 refine rn6 ?_
 refine sc ?_
 refine Gl ?_
 refine Bv ?_
 refine dn14 ?_
 refine djc (fun _ _ => Fz (a := 1) (b := e.who) (Sa (by omega) (by omega))) ?_
 refine djc (fun _ _ => Fz (a := e.sharers) (b := ((2 ^ e.who.toNat : Nat) : Int)) (Nl (by omega) (by omega) (by omega) (by omega))) ?_
 refine Zae ?_;intro ρ
 refine Gm ?_
 refine Ga9 ?_
 refine cdy ?_ ?_
 ·intro ht31
  refine kp [0, 2, 40, 41, 42, 43, 44, 45] ?_
  refine ZaA ?_
  refine sc ?_
  refine ZJ ?_
  have en : Ct e = { e with need := 0, phase := 1 } := by unfold Ct; rw [if_pos ht31]
  have hbn : EB ({ e with need := 0, phase := 1 }) := en ▸ Gv hb
  refine Ak Try.call77 rfl (fun w hs => H8 (e := { e with need := 0, phase := 1 }) (u := u) (ms := ms) (line := line) (id := id) (LX := foc 84 vh xs i [vi e.value, vi e.owner, vi e.sharers, vi 1, vi e.who, vi e.serial, .bool e.alone, vi e.turn, vi 0, u] :: LX) (Ae hs) (Nm .hd rfl) hA hn hbn hl hid) ?_; intro v72
  refine Gl ?_
  rw [en]
  refine A1 (.inl rfl) (fun B w hs => Gf rfl _ w) (fun w hs => ⟨v72, rfl, Ae hs⟩)
 ·intro ht31
  refine Gl ?_
  refine kp [0, 2, 46, 47, 48, 49, 50, 51, 52, 53, 54, 55, 56, 57] ?_
  refine Aa ?_
  refine rn8 ?_
  refine S5 (t := 54) (b := ?b2) ?e2 ?_ ?_; case e2 => exact rfl
  ·intro ht54
   refine Ga4 ?_
   refine cdy ?_ ?_
   ·intro ht46
    refine cq_ (foc 84 vh xs i [vi e.value, vi e.owner, vi e.sharers, vi e.phase, vi e.who, vi e.serial, .bool e.alone, vi e.turn, vi 0, u] :: blk bk 140 [(ep vh 10 i 0), vi line, vi id, vo] :: row 115 vo ms :: LX) ?_
    refine jd_ (fun ρ S => foc 84 vh xs i (bif S 14 then [vi e.value, vi e.owner, vi e.sharers, vi 2, vi e.who, vi e.serial, .bool e.alone, vi e.turn, vi (Gg e.sharers e.who), u] else (bif S 11 then [vi e.value, vi e.owner, vi e.sharers, vi 2, vi e.who, vi e.serial, .bool e.alone, vi e.turn, vi 0, u] else [vi e.value, vi e.owner, vi e.sharers, vi e.phase, vi e.who, vi e.serial, .bool e.alone, vi e.turn, vi 0, u])) :: blk bk 140 [(ep vh 10 i 0), vi line, vi id, vo] :: row 115 vo ms :: (LX)) ?_
    refine dn11 ?_
    refine D2 (T0 := 84) (f := 3) (k := i) (sz := 10) (hv := vh) (xs := xs) (vs := fun ρ => [vi e.value, vi e.owner, vi e.sharers, vi e.phase, vi e.who, vi e.serial, .bool e.alone, vi e.turn, vi 0, u]) (v := fun ρ => (vi 2)) rfl Try.sizeOf3 (fun _ => rfl) (fun _ => rfl) (fun _ _ _ _ _ _ _ _ => rfl) (fun _ => rfl) (fun ρ g S hS hB hA => ?_) ?_
    ·have ui : upS S 11 11 = true := rfl; have u14 : upS S 11 14 = S 14 := rfl; have h14 : S 14 = false := hA 14 ⟨0, rfl⟩
     simp only [ui, hS, u14, h14, cond_true, cond_false]
     exact pex
    refine dn2 ?_
    refine D2 (T0 := 84) (f := 8) (k := i) (sz := 10) (hv := vh) (xs := xs) (vs := fun ρ => [vi e.value, vi e.owner, vi e.sharers, vi 2, vi e.who, vi e.serial, .bool e.alone, vi e.turn, vi 0, u]) (v := fun ρ => (vi (Gg e.sharers e.who))) rfl Try.sizeOf3 (fun _ => rfl) (fun _ => rfl) (fun _ _ _ _ _ _ _ _ => rfl) (fun _ => rfl) (fun ρ g S hS hB hA => ?_) ?_
    ·have ui : upS S 14 14 = true := rfl; have u11 : upS S 14 11 = S 11 := rfl; have h11 : S 11 = true := hB 11 ⟨0, rfl⟩
     simp only [ui, hS, u11, h11, cond_true, cond_false]
     exact pex
    refine dnl ?_; intro ρ
    refine xq_ (foc 84 vh xs i [vi e.value, vi e.owner, vi e.sharers, vi 2, vi e.who, vi e.serial, .bool e.alone, vi e.turn, vi (Gg e.sharers e.who), u] :: blk bk 140 [(ep vh 10 i 0), vi line, vi id, vo] :: row 115 vo ms :: (LX)) ?_
    refine ZJ ?_
    have en : Ct e = { e with need := (Gg e.sharers e.who), phase := 2 } := by unfold Ct; rw [if_neg ht31, if_pos ⟨ht54, ht46⟩]
    have hbn : EB ({ e with need := (Gg e.sharers e.who), phase := 2 }) := en ▸ Gv hb
    refine Ak Try.call77 rfl (fun w hs => H8 (e := { e with need := (Gg e.sharers e.who), phase := 2 }) (u := u) (ms := ms) (line := line) (id := id) (LX := foc 84 vh xs i [vi e.value, vi e.owner, vi e.sharers, vi 2, vi e.who, vi e.serial, .bool e.alone, vi e.turn, vi (Gg e.sharers e.who), u] :: LX) (Ae hs) (Nm .hd rfl) hA hn hbn hl hid) ?_; intro v72
    refine Gl ?_
    rw [en]
    refine A1 (.inl rfl) (fun B w hs => Gf rfl _ w) (fun w hs => ⟨v72, rfl, Ae hs⟩)
   ·intro ht46
    refine ZaA ?_
    refine sc ?_
    refine ZJ ?_
    have en : Ct e = { e with need := 0, phase := 3 } := by unfold Ct; rw [if_neg ht31, if_neg (fun h => h.2 (by omega))]
    exact ZdT
  ·intro ht54
   refine Gd4 ?_
   refine rn6 ?_
   refine sc ?_
   refine ZJ ?_
   have en : Ct e = { e with need := 0, phase := 3 } := by unfold Ct; rw [if_neg ht31, if_neg (fun h => by rw [h.1] at ht54; cases ht54)]
   exact ZdT
theorem Zc {LX : List Chunk} {R : List Fact} {w : World} {vh vo u : Value} {i bk : Nat} {e : Entry} {ms : List Msg} {line id : Int} {xs : List Entry} {bm : Nat} {m : Msg} (hs : St (blk bk 140 [(ep vh 10 i 0), vi line, vi id, vo] :: row 115 vo ms :: foc 84 vh xs i (Entry.cells u e) :: row 3 u e.last :: blk bm 115 m.cells :: LX) R w) (hA : EpAll vh 10 i) (hone : u.oneCell' = true) (hn : ms.length ≤ 500) (hb : EB e) (hl : An line) (hid : An id) (hm : m.wf) (hline : m.line = line) (hsrc : 0 ≤ m.src ∧ m.src < (e.last.length : Int)) (hla : e.last.length ≤ 4) (hk : m.kind = 1 ∨ m.kind = 2) : Calls Try.prog 70 [bp bk 0, bp bm 0].toArray w (Cd (fun v : Value => .tuple #[]) (fun v => blk bk 140 [(ep vh 10 i 0), vi line, vi id, v] :: row 115 v (ms ++ (Af e id m).2) :: foc 84 vh xs i (Entry.cells u (Af e id m).1) :: row 3 u (Af e id m).1.last :: blk bm 115 m.cells :: LX) (fun v => R)) := by
 have hb0 := hb
 unfold EB Entry.wf An at hb0
 have hl0 := hl
 have hid0 := hid
 unfold An at hl0 hid0
 have hm0 := hm
 unfold Msg.wf An at hm0
 refine Ah Try.func70 rfl Try.ntmps70 rfl hs ?_
 clear hs
 refine Gl ?_
 rcases (show (e.phase ≠ 0) ∨ (e.phase = 0 ∧ m.serial ≤ e.last.getD m.src.toNat 0) ∨ (e.phase = 0 ∧ e.last.getD m.src.toNat 0 < m.serial ∧ 65535 ≤ e.turn) ∨ (e.phase = 0 ∧ e.last.getD m.src.toNat 0 < m.serial ∧ e.turn < 65535) from by omega) with hc | hc | hc | hc
 ·refine Bv ?_
  refine dn7 ?_
  refine djc (fun _ _ => Al rfl rfl (Ju (by omega))) ?_
  refine djm ?_
  refine dn18 ?_
  refine ZP ?_
  refine dn8 ?_
  refine Zag ?_
  refine ZbP ?_;intro ρ er
  exact Zdu
 ·refine ZbT ?_
  refine dj (dgy ?_)
  refine Zcd ?_
  refine dj (dgy ?_)
  refine dc (fun _ _ => Al rfl rfl (Aat (by omega))) ?_
  refine ZZ ?_
  refine dn8 ?_
  refine Zag ?_
  refine ZbP ?_;intro ρ er
  exact Zdu
 ·refine ZbT ?_
  refine dj (dgy ?_)
  refine Zcd ?_
  refine dj (dgy ?_)
  refine dc (fun _ _ => Al rfl rfl (Tk (by omega))) ?_
  refine ZZ ?_
  refine dn7 ?_
  refine dj (dgy ?_)
  refine dc (fun _ _ => Al rfl rfl (P5 (by omega))) ?_
  refine djf ?_
  refine ZbP ?_;intro ρ er
  exact Zdu
 ·refine ZbT ?_
  refine dj (dgy ?_)
  refine Zcd ?_
  refine dj (dgy ?_)
  refine dc (fun _ _ => Al rfl rfl (Tk (by omega))) ?_
  refine ZZ ?_
  refine dn7 ?_
  refine dj (dgy ?_)
  refine dc (fun _ _ => Al rfl rfl (Dy (by omega))) ?_
  refine djf ?_
  refine dnl ?_; intro ρ
  refine Glc ?_
  refine kp [0, 1, 42, 43, 44, 45, 46, 47, 48, 49, 50, 51, 52, 53, 54, 55, 56, 57] ?_
  refine Bv ?_
  refine dn16 ?_
  refine dtl ?_; intro ρ
  refine Gz (xs := e.last) Try.sizeOf3 rfl rfl pkk (getD_some 0 (by omega)) hm.2.2.2.2.1 ?_
  refine Gl ?_
  refine Zcs ?_
  refine jd_ (fun ρ S => foc 84 vh xs i (bif S 33 then [vi e.value, vi e.owner, vi e.sharers, vi e.phase, vi m.src, vi m.serial, .bool (decide (m.kind = 2)), vi e.turn, vi e.need, u] else (bif S 30 then [vi e.value, vi e.owner, vi e.sharers, vi e.phase, vi m.src, vi m.serial, .bool e.alone, vi e.turn, vi e.need, u] else (bif S 27 then [vi e.value, vi e.owner, vi e.sharers, vi e.phase, vi m.src, vi e.serial, .bool e.alone, vi e.turn, vi e.need, u] else [vi e.value, vi e.owner, vi e.sharers, vi e.phase, vi e.who, vi e.serial, .bool e.alone, vi e.turn, vi e.need, u]))) :: blk bk 140 [(ep vh 10 i 0), vi line, vi id, vo] :: row 115 vo ms :: row 3 u (e.last.set m.src.toNat m.serial) :: blk bm 115 m.cells :: (LX)) ?_
  refine dn27 ?_
  refine D2 (T0 := 84) (f := 4) (k := i) (sz := 10) (hv := vh) (xs := xs) (vs := fun ρ => [vi e.value, vi e.owner, vi e.sharers, vi e.phase, vi e.who, vi e.serial, .bool e.alone, vi e.turn, vi e.need, u]) (v := fun ρ => (vi m.src)) rfl Try.sizeOf3 (fun _ => rfl) (fun _ => rfl) (fun _ _ _ _ _ _ _ _ => rfl) (fun _ => rfl) (fun ρ g S hS hB hA => ?_) ?_
  ·have ui : upS S 27 27 = true := rfl; have u30 : upS S 27 30 = S 30 := rfl; have u33 : upS S 27 33 = S 33 := rfl; have h30 : S 30 = false := hA 30 ⟨0, rfl⟩; have h33 : S 33 = false := hA 33 ⟨0, rfl⟩
   simp only [ui, hS, u30, u33, h30, h33, cond_true, cond_false]
   exact pex
  refine dn2 ?_
  refine D2 (T0 := 84) (f := 5) (k := i) (sz := 10) (hv := vh) (xs := xs) (vs := fun ρ => [vi e.value, vi e.owner, vi e.sharers, vi e.phase, vi m.src, vi e.serial, .bool e.alone, vi e.turn, vi e.need, u]) (v := fun ρ => (vi m.serial)) rfl Try.sizeOf3 (fun _ => rfl) (fun _ => rfl) (fun _ _ _ _ _ _ _ _ => rfl) (fun _ => rfl) (fun ρ g S hS hB hA => ?_) ?_
  ·have ui : upS S 30 30 = true := rfl; have u27 : upS S 30 27 = S 27 := rfl; have u33 : upS S 30 33 = S 33 := rfl; have h27 : S 27 = true := hB 27 ⟨0, rfl⟩; have h33 : S 33 = false := hA 33 ⟨0, rfl⟩
   simp only [ui, hS, u27, u33, h27, h33, cond_true, cond_false]
   exact pex
  refine dn2 ?_
  refine D2 (T0 := 84) (f := 6) (k := i) (sz := 10) (hv := vh) (xs := xs) (vs := fun ρ => [vi e.value, vi e.owner, vi e.sharers, vi e.phase, vi m.src, vi m.serial, .bool e.alone, vi e.turn, vi e.need, u]) (v := fun ρ => (.bool (decide (m.kind = 2)))) rfl Try.sizeOf4 (fun _ => rfl) (fun _ => rfl) (fun _ _ _ _ _ _ _ _ => rfl) (fun _ => rfl) (fun ρ g S hS hB hA => ?_) ?_
  ·have ui : upS S 33 33 = true := rfl; have u27 : upS S 33 27 = S 27 := rfl; have u30 : upS S 33 30 = S 30 := rfl; have h27 : S 27 = true := hB 27 ⟨0, rfl⟩; have h30 : S 30 = true := hB 30 ⟨0, rfl⟩
   simp only [ui, hS, u27, u30, h27, h30, cond_true, cond_false]
   exact pex
  refine dnl ?_; intro ρ
  refine xq_ (foc 84 vh xs i [vi e.value, vi e.owner, vi e.sharers, vi e.phase, vi m.src, vi m.serial, .bool (decide (m.kind = 2)), vi e.turn, vi e.need, u] :: blk bk 140 [(ep vh 10 i 0), vi line, vi id, vo] :: row 115 vo ms :: row 3 u (e.last.set m.src.toNat m.serial) :: blk bm 115 m.cells :: (LX)) ?_
  refine Gl ?_
  refine kp [0, 89, 90, 91, 92, 93, 94, 95, 96, 97, 98] ?_
  refine Aa ?_
  refine rn10 ?_
  refine sc ?_
  refine ZJ ?_
  have hX : EB ({ e with last := (e.last.set m.src.toNat m.serial), who := m.src, serial := m.serial, alone := m.kind == 2, turn := e.turn + 1 }) := by unfold EB Entry.wf An; simp only; omega
  refine Ak Try.call72 rfl (fun w hs => Lx (e := { e with last := (e.last.set m.src.toNat m.serial), who := m.src, serial := m.serial, alone := m.kind == 2, turn := e.turn + 1 }) (u := u) (ms := ms) (line := line) (id := id) (xs := xs) (LX := row 3 u (e.last.set m.src.toNat m.serial) :: blk bm 115 m.cells :: LX) (Ae hs) hA hone hn hX hl hid) ?_; intro v100
  refine Gl ?_
  have er : Af e id m = (Ct ({ e with last := (e.last.set m.src.toNat m.serial), who := m.src, serial := m.serial, alone := m.kind == 2, turn := e.turn + 1 }), E9 (Ct ({ e with last := (e.last.set m.src.toNat m.serial), who := m.src, serial := m.serial, alone := m.kind == 2, turn := e.turn + 1 })) m.line id) := by unfold Af; rw [if_pos (by omega), if_neg (by unfold Fd; omega)]; rfl
  rw [er, hline, Ir]
  refine A1 (.inl rfl) (fun B w hs => Gf rfl _ w) (fun w hs => ⟨v100, rfl, Ae hs⟩)
theorem Ait {LX : List Chunk} {R : List Fact} {w : World} {vh vo u : Value} {i bk : Nat} {e : Entry} {ms : List Msg} {line id : Int} {xs : List Entry} {bm : Nat} {m : Msg} (hs : St (blk bk 140 [(ep vh 10 i 0), vi line, vi id, vo] :: row 115 vo ms :: foc 84 vh xs i (Entry.cells u e) :: row 3 u e.last :: blk bm 115 m.cells :: LX) R w) (hA : EpAll vh 10 i) (hone : u.oneCell' = true) (hn : ms.length ≤ 500) (hb : EB e) (hl : An line) (hid : An id) (hm : m.wf) (hline : m.line = line) (hsrc : 0 ≤ m.src ∧ m.src < (e.last.length : Int)) (hla : e.last.length ≤ 4) (hk : m.kind = 3) : Calls Try.prog 71 [bp bk 0, bp bm 0].toArray w (Cd (fun v : Value => .tuple #[]) (fun v => blk bk 140 [(ep vh 10 i 0), vi line, vi id, v] :: row 115 v (ms ++ (Af e id m).2) :: foc 84 vh xs i (Entry.cells u (Af e id m).1) :: row 3 u (Af e id m).1.last :: blk bm 115 m.cells :: LX) (fun v => R)) := by
 have hb0 := hb
 unfold EB Entry.wf An at hb0
 have hl0 := hl
 have hid0 := hid
 unfold An at hl0 hid0
 have hm0 := hm
 unfold Msg.wf An at hm0
 refine Ah Try.func71 rfl Try.ntmps71 rfl hs ?_
 clear hs
 refine Gm ?_
 refine Ga8 ?_
 refine cdy ?_ ?_
 ·intro ht11
  refine Gl ?_
  have er : Af e id m = (e, []) := by unfold Af; rw [if_neg (by omega), if_pos (by omega), if_pos ht11]
  rw [er, List.append_nil]
  exact Zdu
 ·intro ht11
  refine Gl ?_
  refine Bv ?_
  refine dn16 ?_
  refine djc (fun _ _ => D8 (hc := I1 (xs := e.last) pkk (by omega)) Try.isAgg3) ?_
  refine djc (fun _ _ => Fz Tm) ?_
  refine dnl ?_; intro ρ
  refine Gl ?_
  refine cdy ?_ ?_
  ·intro ht29
   refine Gl ?_
   refine Bv ?_
   refine dn16 ?_
   refine dtl ?_; intro ρ
   refine Gz (xs := e.last) Try.sizeOf3 rfl rfl pkk (getD_some 0 (by omega)) hm.2.2.2.2.1 ?_
   refine Gl ?_
   refine kp [0, 1, 46, 47, 48, 49, 50, 51, 52, 53, 54, 55, 56, 57] ?_
   refine Bv ?_
   refine dn12 ?_
   refine dnl ?_; intro ρ
   refine Gl ?_
   refine cdy ?_ ?_
   ·intro ht57
    refine Zcs ?_
    refine jd_ (fun ρ S => foc 84 vh xs i (bif S 17 then [vi m.value, vi (-1), vi e.sharers, vi e.phase, vi e.who, vi e.serial, .bool e.alone, vi e.turn, vi e.need, u] else (bif S 14 then [vi m.value, vi e.owner, vi e.sharers, vi e.phase, vi e.who, vi e.serial, .bool e.alone, vi e.turn, vi e.need, u] else [vi e.value, vi e.owner, vi e.sharers, vi e.phase, vi e.who, vi e.serial, .bool e.alone, vi e.turn, vi e.need, u])) :: blk bk 140 [(ep vh 10 i 0), vi line, vi id, vo] :: row 115 vo ms :: row 3 u (e.last.set m.src.toNat m.serial) :: blk bm 115 m.cells :: (LX)) ?_
    refine dn14 ?_
    refine D2 (T0 := 84) (f := 0) (k := i) (sz := 10) (hv := vh) (xs := xs) (vs := fun ρ => [vi e.value, vi e.owner, vi e.sharers, vi e.phase, vi e.who, vi e.serial, .bool e.alone, vi e.turn, vi e.need, u]) (v := fun ρ => (vi m.value)) rfl Try.sizeOf3 (fun _ => rfl) (fun _ => rfl) (fun _ _ _ _ _ _ _ _ => rfl) (fun _ => rfl) (fun ρ g S hS hB hA => ?_) ?_
    ·have ui : upS S 14 14 = true := rfl; have u17 : upS S 14 17 = S 17 := rfl; have h17 : S 17 = false := hA 17 ⟨0, rfl⟩
     simp only [ui, hS, u17, h17, cond_true, cond_false]
     exact pex
    refine dn2 ?_
    refine D2 (T0 := 84) (f := 1) (k := i) (sz := 10) (hv := vh) (xs := xs) (vs := fun ρ => [vi m.value, vi e.owner, vi e.sharers, vi e.phase, vi e.who, vi e.serial, .bool e.alone, vi e.turn, vi e.need, u]) (v := fun ρ => (vi (-1))) rfl Try.sizeOf3 (fun _ => rfl) (fun _ => rfl) (fun _ _ _ _ _ _ _ _ => rfl) (fun _ => rfl) (fun ρ g S hS hB hA => ?_) ?_
    ·have ui : upS S 17 17 = true := rfl; have u14 : upS S 17 14 = S 14 := rfl; have h14 : S 14 = true := hB 14 ⟨0, rfl⟩
     simp only [ui, hS, u14, h14, cond_true, cond_false]
     exact pex
    refine dnl ?_; intro ρ
    refine xq_ (foc 84 vh xs i [vi m.value, vi (-1), vi e.sharers, vi e.phase, vi e.who, vi e.serial, .bool e.alone, vi e.turn, vi e.need, u] :: blk bk 140 [(ep vh 10 i 0), vi line, vi id, vo] :: row 115 vo ms :: row 3 u (e.last.set m.src.toNat m.serial) :: blk bm 115 m.cells :: (LX)) ?_
    refine Gl ?_
    refine ZbY ?_;intro hwf
    refine cq_ (blk bk 140 [(ep vh 10 i 0), vi line, vi id, vo] :: row 115 vo ms :: foc 84 vh xs i [vi m.value, vi (-1), vi e.sharers, vi e.phase, vi e.who, vi e.serial, .bool e.alone, vi e.turn, vi e.need, u] :: row 3 u (e.last.set m.src.toNat m.serial) :: blk bm 115 m.cells :: LX) ?_
    refine jd_ (fun ρ S => blk bk 140 (bif S 26 then [(ep vh 10 i 0), vi line, vi id, (Gh.dec (γ := Value) (ρ 23))] else [(ep vh 10 i 0), vi line, vi id, vo]) :: (bif S 23 then row 115 (Gh.dec (γ := Value) (ρ 23)) (ms ++ [(⟨11, id, m.src, line, m.serial, 0, 0, false⟩ : Msg)]) else row 115 vo ms) :: foc 84 vh xs i [vi m.value, vi (-1), vi e.sharers, vi e.phase, vi e.who, vi e.serial, .bool e.alone, vi e.turn, vi e.need, u] :: row 3 u (e.last.set m.src.toNat m.serial) :: blk bm 115 m.cells :: (LX)) ?_
    refine dn4 ?_
    refine Jr (v := vo) (fun ρ S hS hB hA => by have h26 : S 26 = false := hA 26 ⟨0, rfl⟩; simp only [h26, cond_false]; exact D8 (hc := Bt pkk (by repeat (first | exact rfl | refine Da rfl ?_))) Try.isAgg90) (fun _ _ _ _ _ => rfl) ?_
    refine dn3 ?_
    refine Jr (v := vi id) (fun ρ S hS hB hA => by have h26 : S 26 = false := hA 26 ⟨0, rfl⟩; simp only [h26, cond_false]; exact D8 (hc := Bt pkk (by repeat (first | exact rfl | refine Da rfl ?_))) Try.isAgg3) (fun _ _ _ _ _ => rfl) ?_
    refine dn7 ?_
    refine Jr (v := vi line) (fun ρ S hS hB hA => by have h26 : S 26 = false := hA 26 ⟨0, rfl⟩; simp only [h26, cond_false]; exact D8 (hc := Bt pkk (by repeat (first | exact rfl | refine Da rfl ?_))) Try.isAgg3) (fun _ _ _ _ _ => rfl) ?_
    refine dn4 ?_
    first | refine epc (fun _ _ => Fg C7) ?_ | refine epc (fun _ _ => Fs C7) ?_ | refine epp (fun _ _ => Fg C7) ?_ | refine epp (fun _ _ => Fs C7) ?_
    refine ZbJ ?_
    refine Eo (e := 115) (xs := ms) (ys := [(⟨11, id, m.src, line, m.serial, 0, 0, false⟩ : Msg)]) (v := vo) Nf (fun _ => rfl) (fun _ => rfl) rfl (by decide) (fun ρ R hd => (hd.dep (it := ⟨22, _, _, _, _⟩) (by repeat (first | exact List.Mem.head _ | refine List.Mem.tail _ ?_)) ⟨9, rfl⟩ (List.Mem.head _))) (by have : maxN = 16777216 := rfl; simp only [List.length_cons, List.length_nil]; omega) (fun ρ g S hS hB hA => ?_) ?_
    ·exact Zda
    refine dn2 ?_
    refine D3 (T0 := 140) (f := 3) (vs := fun ρ => [(ep vh 10 i 0), vi line, vi id, vo]) (v := fun ρ => (Gh.dec (γ := Value) (ρ 23))) (fun ρ => bk) Try.sizeOf90 (fun _ => rfl) (fun _ => rfl) (fun ρ S R w L9 hB hd hs => by have h23 : S 23 = true := hB 23 ⟨9, rfl⟩; simp only [h23, cond_true] at hs; exact Bm pkk hs) (fun _ => rfl) (fun ρ g S hS hB hA => ?_) ?_
    ·exact Zdh
    refine dnl ?_; intro ρ
    refine xq_ (blk bk 140 [(ep vh 10 i 0), vi line, vi id, (Gh.dec (γ := Value) (ρ 23))] :: row 115 (Gh.dec (γ := Value) (ρ 23)) (ms ++ [(⟨11, id, m.src, line, m.serial, 0, 0, false⟩ : Msg)]) :: foc 84 vh xs i [vi m.value, vi (-1), vi e.sharers, vi e.phase, vi e.who, vi e.serial, .bool e.alone, vi e.turn, vi e.need, u] :: row 3 u (e.last.set m.src.toNat m.serial) :: blk bm 115 m.cells :: (LX)) ?_
    generalize (Gh.dec (γ := Value) (ρ 22)) = v96
    generalize (Gh.dec (γ := Value) (ρ 23)) = v97
    have er : Af e id m = ({ e with last := (e.last.set m.src.toNat m.serial), value := m.value, owner := -1 }, [(⟨11, id, m.src, line, m.serial, 0, 0, false⟩ : Msg)]) := by unfold Af; rw [if_neg (by omega), if_pos (by omega), if_neg ht11]; rw [hline]; unfold Fv; rw [if_pos (by unfold Fd; omega), if_pos ht57]
    rw [er]
    refine A1 (.inl rfl) (fun B w hs => Gf rfl _ w) (fun w hs => ⟨v97, rfl, Ae hs⟩)
   ·intro ht57
    refine Gl ?_
    refine ZbY ?_;intro hwf
    refine cq_ (blk bk 140 [(ep vh 10 i 0), vi line, vi id, vo] :: row 115 vo ms :: foc 84 vh xs i [vi e.value, vi e.owner, vi e.sharers, vi e.phase, vi e.who, vi e.serial, .bool e.alone, vi e.turn, vi e.need, u] :: row 3 u (e.last.set m.src.toNat m.serial) :: blk bm 115 m.cells :: LX) ?_
    refine jd_ (fun ρ S => blk bk 140 (bif S 26 then [(ep vh 10 i 0), vi line, vi id, (Gh.dec (γ := Value) (ρ 23))] else [(ep vh 10 i 0), vi line, vi id, vo]) :: (bif S 23 then row 115 (Gh.dec (γ := Value) (ρ 23)) (ms ++ [(⟨11, id, m.src, line, m.serial, 0, 0, false⟩ : Msg)]) else row 115 vo ms) :: foc 84 vh xs i [vi e.value, vi e.owner, vi e.sharers, vi e.phase, vi e.who, vi e.serial, .bool e.alone, vi e.turn, vi e.need, u] :: row 3 u (e.last.set m.src.toNat m.serial) :: blk bm 115 m.cells :: (LX)) ?_
    refine dn4 ?_
    refine Jr (v := vo) (fun ρ S hS hB hA => by have h26 : S 26 = false := hA 26 ⟨0, rfl⟩; simp only [h26, cond_false]; exact D8 (hc := Bt pkk (by repeat (first | exact rfl | refine Da rfl ?_))) Try.isAgg90) (fun _ _ _ _ _ => rfl) ?_
    refine dn3 ?_
    refine Jr (v := vi id) (fun ρ S hS hB hA => by have h26 : S 26 = false := hA 26 ⟨0, rfl⟩; simp only [h26, cond_false]; exact D8 (hc := Bt pkk (by repeat (first | exact rfl | refine Da rfl ?_))) Try.isAgg3) (fun _ _ _ _ _ => rfl) ?_
    refine dn7 ?_
    refine Jr (v := vi line) (fun ρ S hS hB hA => by have h26 : S 26 = false := hA 26 ⟨0, rfl⟩; simp only [h26, cond_false]; exact D8 (hc := Bt pkk (by repeat (first | exact rfl | refine Da rfl ?_))) Try.isAgg3) (fun _ _ _ _ _ => rfl) ?_
    refine dn4 ?_
    first | refine epc (fun _ _ => Fg C7) ?_ | refine epc (fun _ _ => Fs C7) ?_ | refine epp (fun _ _ => Fg C7) ?_ | refine epp (fun _ _ => Fs C7) ?_
    refine ZbJ ?_
    refine Eo (e := 115) (xs := ms) (ys := [(⟨11, id, m.src, line, m.serial, 0, 0, false⟩ : Msg)]) (v := vo) Nf (fun _ => rfl) (fun _ => rfl) rfl (by decide) (fun ρ R hd => (hd.dep (it := ⟨22, _, _, _, _⟩) (by repeat (first | exact List.Mem.head _ | refine List.Mem.tail _ ?_)) ⟨9, rfl⟩ (List.Mem.head _))) (by have : maxN = 16777216 := rfl; simp only [List.length_cons, List.length_nil]; omega) (fun ρ g S hS hB hA => ?_) ?_
    ·exact Zda
    refine dn2 ?_
    refine D3 (T0 := 140) (f := 3) (vs := fun ρ => [(ep vh 10 i 0), vi line, vi id, vo]) (v := fun ρ => (Gh.dec (γ := Value) (ρ 23))) (fun ρ => bk) Try.sizeOf90 (fun _ => rfl) (fun _ => rfl) (fun ρ S R w L9 hB hd hs => by have h23 : S 23 = true := hB 23 ⟨9, rfl⟩; simp only [h23, cond_true] at hs; exact Bm pkk hs) (fun _ => rfl) (fun ρ g S hS hB hA => ?_) ?_
    ·exact Zdh
    refine dnl ?_; intro ρ
    refine xq_ (blk bk 140 [(ep vh 10 i 0), vi line, vi id, (Gh.dec (γ := Value) (ρ 23))] :: row 115 (Gh.dec (γ := Value) (ρ 23)) (ms ++ [(⟨11, id, m.src, line, m.serial, 0, 0, false⟩ : Msg)]) :: foc 84 vh xs i [vi e.value, vi e.owner, vi e.sharers, vi e.phase, vi e.who, vi e.serial, .bool e.alone, vi e.turn, vi e.need, u] :: row 3 u (e.last.set m.src.toNat m.serial) :: blk bm 115 m.cells :: (LX)) ?_
    generalize (Gh.dec (γ := Value) (ρ 22)) = v96
    generalize (Gh.dec (γ := Value) (ρ 23)) = v97
    have er : Af e id m = ({ e with last := (e.last.set m.src.toNat m.serial) }, [(⟨11, id, m.src, line, m.serial, 0, 0, false⟩ : Msg)]) := by unfold Af; rw [if_neg (by omega), if_pos (by omega), if_neg ht11]; rw [hline]; unfold Fv; rw [if_pos (by unfold Fd; omega), if_neg ht57]
    rw [er]
    refine A1 (.inl rfl) (fun B w hs => Gf rfl _ w) (fun w hs => ⟨v97, rfl, Ae hs⟩)
  ·intro ht29
   refine Gl ?_
   refine ZbY ?_;intro hwf
   refine cq_ (blk bk 140 [(ep vh 10 i 0), vi line, vi id, vo] :: row 115 vo ms :: foc 84 vh xs i [vi e.value, vi e.owner, vi e.sharers, vi e.phase, vi e.who, vi e.serial, .bool e.alone, vi e.turn, vi e.need, u] :: row 3 u e.last :: blk bm 115 m.cells :: LX) ?_
   refine jd_ (fun ρ S => blk bk 140 (bif S 26 then [(ep vh 10 i 0), vi line, vi id, (Gh.dec (γ := Value) (ρ 23))] else [(ep vh 10 i 0), vi line, vi id, vo]) :: (bif S 23 then row 115 (Gh.dec (γ := Value) (ρ 23)) (ms ++ [(⟨11, id, m.src, line, m.serial, 0, 0, false⟩ : Msg)]) else row 115 vo ms) :: foc 84 vh xs i [vi e.value, vi e.owner, vi e.sharers, vi e.phase, vi e.who, vi e.serial, .bool e.alone, vi e.turn, vi e.need, u] :: row 3 u e.last :: blk bm 115 m.cells :: (LX)) ?_
   refine dn4 ?_
   refine Jr (v := vo) (fun ρ S hS hB hA => by have h26 : S 26 = false := hA 26 ⟨0, rfl⟩; simp only [h26, cond_false]; exact D8 (hc := Bt pkk (by repeat (first | exact rfl | refine Da rfl ?_))) Try.isAgg90) (fun _ _ _ _ _ => rfl) ?_
   refine dn3 ?_
   refine Jr (v := vi id) (fun ρ S hS hB hA => by have h26 : S 26 = false := hA 26 ⟨0, rfl⟩; simp only [h26, cond_false]; exact D8 (hc := Bt pkk (by repeat (first | exact rfl | refine Da rfl ?_))) Try.isAgg3) (fun _ _ _ _ _ => rfl) ?_
   refine dn7 ?_
   refine Jr (v := vi line) (fun ρ S hS hB hA => by have h26 : S 26 = false := hA 26 ⟨0, rfl⟩; simp only [h26, cond_false]; exact D8 (hc := Bt pkk (by repeat (first | exact rfl | refine Da rfl ?_))) Try.isAgg3) (fun _ _ _ _ _ => rfl) ?_
   refine dn4 ?_
   first | refine epc (fun _ _ => Fg C7) ?_ | refine epc (fun _ _ => Fs C7) ?_ | refine epp (fun _ _ => Fg C7) ?_ | refine epp (fun _ _ => Fs C7) ?_
   refine ZbJ ?_
   refine Eo (e := 115) (xs := ms) (ys := [(⟨11, id, m.src, line, m.serial, 0, 0, false⟩ : Msg)]) (v := vo) Nf (fun _ => rfl) (fun _ => rfl) rfl (by decide) (fun ρ R hd => (hd.dep (it := ⟨22, _, _, _, _⟩) (by repeat (first | exact List.Mem.head _ | refine List.Mem.tail _ ?_)) ⟨9, rfl⟩ (List.Mem.head _))) (by have : maxN = 16777216 := rfl; simp only [List.length_cons, List.length_nil]; omega) (fun ρ g S hS hB hA => ?_) ?_
   ·exact Zda
   refine dn2 ?_
   refine D3 (T0 := 140) (f := 3) (vs := fun ρ => [(ep vh 10 i 0), vi line, vi id, vo]) (v := fun ρ => (Gh.dec (γ := Value) (ρ 23))) (fun ρ => bk) Try.sizeOf90 (fun _ => rfl) (fun _ => rfl) (fun ρ S R w L9 hB hd hs => by have h23 : S 23 = true := hB 23 ⟨9, rfl⟩; simp only [h23, cond_true] at hs; exact Bm pkk hs) (fun _ => rfl) (fun ρ g S hS hB hA => ?_) ?_
   ·exact Zdh
   refine dnl ?_; intro ρ
   refine xq_ (blk bk 140 [(ep vh 10 i 0), vi line, vi id, (Gh.dec (γ := Value) (ρ 23))] :: row 115 (Gh.dec (γ := Value) (ρ 23)) (ms ++ [(⟨11, id, m.src, line, m.serial, 0, 0, false⟩ : Msg)]) :: foc 84 vh xs i [vi e.value, vi e.owner, vi e.sharers, vi e.phase, vi e.who, vi e.serial, .bool e.alone, vi e.turn, vi e.need, u] :: row 3 u e.last :: blk bm 115 m.cells :: (LX)) ?_
   generalize (Gh.dec (γ := Value) (ρ 22)) = v96
   generalize (Gh.dec (γ := Value) (ρ 23)) = v97
   have er : Af e id m = (e, [(⟨11, id, m.src, line, m.serial, 0, 0, false⟩ : Msg)]) := by unfold Af; rw [if_neg (by omega), if_pos (by omega), if_neg ht11]; rw [hline]; unfold Fv; rw [if_neg (by unfold Fd; omega)]
   rw [er]
   refine A1 (.inl rfl) (fun B w hs => Gf rfl _ w) (fun w hs => ⟨v97, rfl, Ae hs⟩)
theorem Ds {e : Entry} {id : Int} {m : Msg} (he : EB e) (hm : m.wf) (hs : 0 ≤ m.src ∧ m.src < 4) : EB (Af e id m).1 := by
 have h0 := he
 unfold EB Entry.wf An at h0
 have hm0 := hm
 unfold Msg.wf An at hm0
 have b1 := E7 h0.2.1.1 h0.2.1.2 hs.1 hs.2
 have b2 := E7 h0.2.2.1.1 h0.2.2.1.2 hs.1 hs.2
 unfold Af
 split
 ·split
  ·exact he
  ·refine Gv ?_
   exact Zd6
 split
 ·split
  ·exact he
  ·show EB (Fv e m)
   unfold Fv
   split
   ·split
    ·exact Zd6
    ·exact he
   ·exact he
 split
 ·rename_i k3
  have hs4 : 0 ≤ (if e.alone = true then e.sharers else Hv e.sharers e.owner) ∧ (if e.alone = true then e.sharers else Hv e.sharers e.owner) < 16 := by
   split
   ·omega
   ·obtain ⟨_, _, r, _⟩ := E7 h0.2.1.1 h0.2.1.2 (show 0 ≤ e.owner by omega) h0.2.2.2.2.1.2; exact r
  refine Gv ?_
  exact ZdU
 have hg : EB (Ch e m) := by
  have c1 := b1.2.2.2; have c2 := b2.2.2.2
  unfold Ch EB Entry.wf An; simp only; omega
 split
 ·split
  ·exact Gv hg
  ·exact hg
 split
 ·show EB (Ej e)
  unfold Ej
  split
  ·exact Zd6
  ·obtain ⟨_, _, r, _⟩ := E7 h0.2.1.1 h0.2.1.2 h0.2.2.2.1.1 h0.2.2.2.1.2
   exact Zd6
 ·exact he
theorem T6 (e : Entry) (i id : Int) : (E9 e i id).length ≤ 4 := by
 unfold E9; split
 ·simp
 split
 ·rw [List.length_map]; exact Nat.le_trans (List.length_filter_le ..) (by simp)
 split <;> simp
theorem Lg (id : Int) : ∀ (l : List Entry) (i : Int), (Ci id i l).length ≤ 4 * l.length
 | [], _ => by simp [Ci]
 | e :: l, i => by
  have := Lg id l (i + 1)
  have := T6 e i id
  simp only [Ci, List.length_append, List.length_cons]; omega
theorem q_max {P : Program} {n : Nat} {L : List Chunk} {R : List Fact} {al : List (Nat × Value)} {d : Nat} {x : Operand} {T ty : TypeId} {pos : String} {aft : Array Edge} {a : Int} (hx : ev n al x = some (vi a)) (h0 : 0 ≤ a) : Au P n al L R ⟨some d, .call { callee := .builtin .max, args := #[x, .const (.int .i64 0)], argTypes := #[T, T] }, ty, pos, aft, none⟩ (vi a) :=
 ⟨rfl, fun ρ w h _ => by
  have hx' := h x (by simp [Op.operands, Call.operands]) _ hx
  have hc' := h (.const (.int .i64 0)) (by simp [Op.operands, Call.operands]) _ rfl
  simp [execOp, resolve, invoke, builtin, hx', hc', Builtin.max_, Builtin.max2, show ¬ (a < 0) from by omega]⟩
theorem Wz {v0 : Value} {l : List Entry} {id : Int} {m : Msg} (hs : St (L) R w) (h0 : sl v0 l ∈ R) (hb : ∀ i, i < l.length → EB (l.getD i A5)) (hla : ∀ i, i < l.length → (l.getD i A5).last.length ≤ 4) (hm : m.wf) (hid : An id) (hk : ¬ (0 ≤ m.line ∧ m.line < (l.length : Int) ∧ 0 ≤ m.src ∧ m.src < ((Ai l m.line).last.length : Int))) : Calls Try.prog 56 [v0, vi id, .agg m.cells.toArray].toArray w (Cd (fun v : Value × Value => .tuple #[v.1, v.2]) (fun v => L) (fun v => sl v.1 (Am l id m).1 :: sl v.2 (Am l id m).2 :: R)) := by
 refine Za5 ?_;intro hlen hm0 hid0
 clear hs
 refine Za4 ?_;intro b5 g13
 rcases (show (m.line < 0) ∨ (¬ m.line < 0 ∧ (l.length : Int) ≤ m.line) ∨ (¬ m.line < 0 ∧ m.line < (l.length : Int) ∧ m.src < 0) ∨ (¬ m.line < 0 ∧ m.line < (l.length : Int) ∧ 0 ≤ m.src ∧ ((Ai l m.line).last.length : Int) ≤ m.src) from by omega) with hc | hc | hc | hc
 ·refine JC.conseq (L' := blk b5 115 m.cells :: L) (R' := sl g13.1 l :: R) (fun w hs => by
   have h1 : g13.2.map EV.e = l := G0 (.head _) hs
   have h2 := Nc hs
   rw [h1] at h2
   exact h2.sub .refl (fun f hf => by
    rcases List.mem_cons.1 hf with e | e
    ·
     exact List.mem_cons.2 (.inl e)
    ·
     exact List.mem_cons.2 (.inr (.tail _ e)))) ?_
  refine Zas ?_
  refine djc (fun _ _ => Al rfl rfl (Tj (by omega))) ?_
  refine djm ?_
  refine dn5 ?_
  refine ZP ?_
  refine dn3 ?_
  refine ZP ?_
  refine dn10 ?_
  refine Zag ?_
  refine Zbs ?_;intro ρ er
  exact D5 (g13.1, .slice none 0 0) (hs := fun w hs => Ae (St.shut (hs.rowNil 115 Msg)))
 ·refine JC.conseq (L' := blk b5 115 m.cells :: L) (R' := sl g13.1 l :: R) (fun w hs => by
   have h1 : g13.2.map EV.e = l := G0 (.head _) hs
   have h2 := Nc hs
   rw [h1] at h2
   exact h2.sub .refl (fun f hf => by
    rcases List.mem_cons.1 hf with e | e
    ·
     exact List.mem_cons.2 (.inl e)
    ·
     exact List.mem_cons.2 (.inr (.tail _ e)))) ?_
  refine Zb4 ?_
  refine dj (dgy ?_)
  refine dc (fun _ _ => Al rfl rfl (P5 (by omega))) ?_
  refine ZZ ?_
  refine dn3 ?_
  refine ZP ?_
  refine dn10 ?_
  refine Zag ?_
  refine Zbs ?_;intro ρ er
  exact D5 (g13.1, .slice none 0 0) (hs := fun w hs => Ae (St.shut (hs.rowNil 115 Msg)))
 ·refine JC.conseq (L' := blk b5 115 m.cells :: L) (R' := sl g13.1 l :: R) (fun w hs => by
   have h1 : g13.2.map EV.e = l := G0 (.head _) hs
   have h2 := Nc hs
   rw [h1] at h2
   exact h2.sub .refl (fun f hf => by
    rcases List.mem_cons.1 hf with e | e
    ·
     exact List.mem_cons.2 (.inl e)
    ·
     exact List.mem_cons.2 (.inr (.tail _ e)))) ?_
  refine Zb4 ?_
  refine dj (dgy ?_)
  refine Zaw ?_
  refine dj (dgy ?_)
  refine dc (fun _ _ => Al rfl rfl (Tj (by omega))) ?_
  refine ZZ ?_
  refine dn10 ?_
  refine Zag ?_
  refine Zbs ?_;intro ρ er
  exact D5 (g13.1, .slice none 0 0) (hs := fun w hs => Ae (St.shut (hs.rowNil 115 Msg)))
 ·refine JC.conseq (L' := blk b5 115 m.cells :: L) (R' := sl g13.1 l :: R) (fun w hs => by
   have h1 : g13.2.map EV.e = l := G0 (.head _) hs
   have h2 := Nc hs
   rw [h1] at h2
   exact h2.sub .refl (fun f hf => by
    rcases List.mem_cons.1 hf with e | e
    ·
     exact List.mem_cons.2 (.inl e)
    ·
     exact List.mem_cons.2 (.inr (.tail _ e)))) ?_
  refine Zcg ?_;intro hEw u hE hE0 hL hone hlin
  refine dj (dgy ?_)
  refine Zaw ?_
  refine dj (dgy ?_)
  refine Za7 ?_
  refine dj (dgy ?_)
  refine dc (fun _ _ => Al rfl rfl (P5 (show ((Ai l m.line).last.length : Int) ≤ m.src by omega))) ?_
  refine djf ?_
  refine Zbs ?_;intro ρ er
  exact D5 (g13.1, .slice none 0 0) (hs := fun w hs => Ae (St.shut (hs.rowNil 115 Msg)))
theorem Wy {v0 : Value} {l : List Entry} {id : Int} {m : Msg} (hs : St (L) R w) (h0 : sl v0 l ∈ R) (hb : ∀ i, i < l.length → EB (l.getD i A5)) (hla : ∀ i, i < l.length → (l.getD i A5).last.length ≤ 4) (hm : m.wf) (hid : An id) (hk : 0 ≤ m.line ∧ m.line < (l.length : Int) ∧ 0 ≤ m.src ∧ m.src < ((Ai l m.line).last.length : Int) ∧ m.kind = 1) : Calls Try.prog 56 [v0, vi id, .agg m.cells.toArray].toArray w (Cd (fun v : Value × Value => .tuple #[v.1, v.2]) (fun v => L) (fun v => sl v.1 (Am l id m).1 :: sl v.2 (Am l id m).2 :: R)) := by
 refine Za5 ?_;intro hlen hm0 hid0
 clear hs
 refine Za4 ?_;intro b5 g13
 refine JC.conseqEx (γ := Value) (L' := fun u => foc 84 g13.1 l m.line.toNat (Entry.cells u (Ai l m.line)) :: row 3 u (Ai l m.line).last :: blk b5 115 m.cells :: L) (R' := fun u => pr (u.oneCell' = true) :: R) (fun w hs => by
  have h1 : g13.2.map EV.e = l := G0 (.head _) hs
  obtain ⟨u, h2, h3, h4⟩ := Jq m.line.toNat h1 (by omega) hs
  exact ⟨u, St.pr h3 (h4.sub .refl (fun f hf => .tail _ hf))⟩) (fun uo => ?_)
 refine ZaM ?_;intro honeo hEw u hE hE0 hL hone hlin
 refine dj (dgy ?_)
 refine Zaw ?_
 refine dj (dgy ?_)
 refine Za7 ?_
 refine dj (dgy ?_)
 refine ZaD ?_;intro ρ hA honeE b51
 refine ZU ?_
 refine dnl ?_; intro ρ
 refine ZK ?_
 refine C8 ?_
 refine Gd6 ?_
 refine Zct ?_;intro v69
 refine J.conseq (L' := foc 84 g13.1 l m.line.toNat (Entry.cells uo (Af (Ai l m.line) id m).1) :: row 3 uo (Af (Ai l m.line) id m).1.last :: blk b51 140 [ep g13.1 10 m.line.toNat 0, vi m.line, vi id, v69] :: row 115 v69 (Af (Ai l m.line) id m).2 :: L) (fun w hs => by rw [List.nil_append] at hs; exact Ae hs) ?_
 refine Gl ?_
 refine ZbB ?_;intro hEB ρ er
 exact D5 (g13.1, v69) (hs := fun w hs => Ae (St.shut (hs.pick pkk)))
theorem Wx {v0 : Value} {l : List Entry} {id : Int} {m : Msg} (hs : St (L) R w) (h0 : sl v0 l ∈ R) (hb : ∀ i, i < l.length → EB (l.getD i A5)) (hla : ∀ i, i < l.length → (l.getD i A5).last.length ≤ 4) (hm : m.wf) (hid : An id) (hk : 0 ≤ m.line ∧ m.line < (l.length : Int) ∧ 0 ≤ m.src ∧ m.src < ((Ai l m.line).last.length : Int) ∧ m.kind = 2) : Calls Try.prog 56 [v0, vi id, .agg m.cells.toArray].toArray w (Cd (fun v : Value × Value => .tuple #[v.1, v.2]) (fun v => L) (fun v => sl v.1 (Am l id m).1 :: sl v.2 (Am l id m).2 :: R)) := by
 refine Za5 ?_;intro hlen hm0 hid0
 clear hs
 refine Za4 ?_;intro b5 g13
 refine JC.conseqEx (γ := Value) (L' := fun u => foc 84 g13.1 l m.line.toNat (Entry.cells u (Ai l m.line)) :: row 3 u (Ai l m.line).last :: blk b5 115 m.cells :: L) (R' := fun u => pr (u.oneCell' = true) :: R) (fun w hs => by
  have h1 : g13.2.map EV.e = l := G0 (.head _) hs
  obtain ⟨u, h2, h3, h4⟩ := Jq m.line.toNat h1 (by omega) hs
  exact ⟨u, St.pr h3 (h4.sub .refl (fun f hf => .tail _ hf))⟩) (fun uo => ?_)
 refine ZaM ?_;intro honeo hEw u hE hE0 hL hone hlin
 refine dj (dgy ?_)
 refine Zaw ?_
 refine dj (dgy ?_)
 refine Za7 ?_
 refine dj (dgy ?_)
 refine ZaD ?_;intro ρ hA honeE b51
 refine ZU ?_
 refine dnl ?_; intro ρ
 refine ZK ?_
 refine A4 ?_
 refine ZF ?_
 refine C8 ?_
 refine Gd2 ?_
 refine Zct ?_;intro v69
 refine J.conseq (L' := foc 84 g13.1 l m.line.toNat (Entry.cells uo (Af (Ai l m.line) id m).1) :: row 3 uo (Af (Ai l m.line) id m).1.last :: blk b51 140 [ep g13.1 10 m.line.toNat 0, vi m.line, vi id, v69] :: row 115 v69 (Af (Ai l m.line) id m).2 :: L) (fun w hs => by rw [List.nil_append] at hs; exact Ae hs) ?_
 refine Gl ?_
 refine ZbB ?_;intro hEB ρ er
 exact D5 (g13.1, v69) (hs := fun w hs => Ae (St.shut (hs.pick pkk)))
theorem Ww {v0 : Value} {l : List Entry} {id : Int} {m : Msg} (hs : St (L) R w) (h0 : sl v0 l ∈ R) (hb : ∀ i, i < l.length → EB (l.getD i A5)) (hla : ∀ i, i < l.length → (l.getD i A5).last.length ≤ 4) (hm : m.wf) (hid : An id) (hk : 0 ≤ m.line ∧ m.line < (l.length : Int) ∧ 0 ≤ m.src ∧ m.src < ((Ai l m.line).last.length : Int) ∧ m.kind = 3) : Calls Try.prog 56 [v0, vi id, .agg m.cells.toArray].toArray w (Cd (fun v : Value × Value => .tuple #[v.1, v.2]) (fun v => L) (fun v => sl v.1 (Am l id m).1 :: sl v.2 (Am l id m).2 :: R)) := by
 refine Za5 ?_;intro hlen hm0 hid0
 clear hs
 refine Za4 ?_;intro b5 g13
 refine JC.conseqEx (γ := Value) (L' := fun u => foc 84 g13.1 l m.line.toNat (Entry.cells u (Ai l m.line)) :: row 3 u (Ai l m.line).last :: blk b5 115 m.cells :: L) (R' := fun u => pr (u.oneCell' = true) :: R) (fun w hs => by
  have h1 : g13.2.map EV.e = l := G0 (.head _) hs
  obtain ⟨u, h2, h3, h4⟩ := Jq m.line.toNat h1 (by omega) hs
  exact ⟨u, St.pr h3 (h4.sub .refl (fun f hf => .tail _ hf))⟩) (fun uo => ?_)
 refine ZaM ?_;intro honeo hEw u hE hE0 hL hone hlin
 refine dj (dgy ?_)
 refine Zaw ?_
 refine dj (dgy ?_)
 refine Za7 ?_
 refine dj (dgy ?_)
 refine ZaD ?_;intro ρ hA honeE b51
 refine ZU ?_
 refine dnl ?_; intro ρ
 refine ZK ?_
 refine A4 ?_
 refine ZF ?_
 refine A4 ?_
 refine Gd2 ?_
 refine rn2 ?_
 refine C8 ?_
 refine Gc1 ?_
 refine kp [5, 6, 7, 8, 9, 10, 11, 74] ?_
 refine ZC ?_
 refine Ak Try.call71 rfl (fun w hs => Ait (vh := g13.1) (vo := .slice none 0 0) (u := uo) (i := m.line.toNat) (e := (Ai l m.line)) (ms := []) (line := m.line) (id := id) (xs := l) (m := m) (bm := b5) (LX := L) (Ae hs) hA honeo (by simp) hE hm.2.2.2.1 hid hm rfl (by omega) hL (by omega)) ?_; intro v75
 refine J.conseq (L' := foc 84 g13.1 l m.line.toNat (Entry.cells uo (Af (Ai l m.line) id m).1) :: row 3 uo (Af (Ai l m.line) id m).1.last :: blk b51 140 [ep g13.1 10 m.line.toNat 0, vi m.line, vi id, v75] :: row 115 v75 (Af (Ai l m.line) id m).2 :: L) (fun w hs => by rw [List.nil_append] at hs; exact Ae hs) ?_
 refine Gl ?_
 refine Zau ?_;intro hEB
 refine Zav ?_;intro ρ er
 exact D5 (g13.1, v75) (hs := fun w hs => Ae (St.shut (hs.pick pkk)))
theorem Wt {v0 : Value} {l : List Entry} {id : Int} {m : Msg} (hs : St (L) R w) (h0 : sl v0 l ∈ R) (hb : ∀ i, i < l.length → EB (l.getD i A5)) (hla : ∀ i, i < l.length → (l.getD i A5).last.length ≤ 4) (hm : m.wf) (hid : An id) (hk : 0 ≤ m.line ∧ m.line < (l.length : Int) ∧ 0 ≤ m.src ∧ m.src < ((Ai l m.line).last.length : Int) ∧ m.kind ≠ 1 ∧ m.kind ≠ 2 ∧ m.kind ≠ 3 ∧ m.kind ≠ 9 ∧ m.kind ≠ 8 ∧ m.kind ≠ 10) : Calls Try.prog 56 [v0, vi id, .agg m.cells.toArray].toArray w (Cd (fun v : Value × Value => .tuple #[v.1, v.2]) (fun v => L) (fun v => sl v.1 (Am l id m).1 :: sl v.2 (Am l id m).2 :: R)) := by
 refine Za5 ?_;intro hlen hm0 hid0
 clear hs
 refine Za4 ?_;intro b5 g13
 refine JC.conseqEx (γ := Value) (L' := fun u => foc 84 g13.1 l m.line.toNat (Entry.cells u (Ai l m.line)) :: row 3 u (Ai l m.line).last :: blk b5 115 m.cells :: L) (R' := fun u => pr (u.oneCell' = true) :: R) (fun w hs => by
  have h1 : g13.2.map EV.e = l := G0 (.head _) hs
  obtain ⟨u, h2, h3, h4⟩ := Jq m.line.toNat h1 (by omega) hs
  exact ⟨u, St.pr h3 (h4.sub .refl (fun f hf => .tail _ hf))⟩) (fun uo => ?_)
 refine ZaM ?_;intro honeo hEw u hE hE0 hL hone hlin
 refine dj (dgy ?_)
 refine Zaw ?_
 refine dj (dgy ?_)
 refine Za7 ?_
 refine dj (dgy ?_)
 refine ZaD ?_;intro ρ hA honeE b51
 refine ZU ?_
 refine Zbi ?_;intro ρ
 refine Za3 ?_
 refine ZaT ?_;intro eh hEB ρ er
 exact D5 (g13.1, .slice none 0 0) (hs := fun w hs => Ae (St.shut (hs.pick pkk)))
theorem Wu {v0 : Value} {l : List Entry} {id : Int} {m : Msg} (hs : St (L) R w) (h0 : sl v0 l ∈ R) (hb : ∀ i, i < l.length → EB (l.getD i A5)) (hla : ∀ i, i < l.length → (l.getD i A5).last.length ≤ 4) (hm : m.wf) (hid : An id) (hk : 0 ≤ m.line ∧ m.line < (l.length : Int) ∧ 0 ≤ m.src ∧ m.src < ((Ai l m.line).last.length : Int) ∧ m.kind = 9) : Calls Try.prog 56 [v0, vi id, .agg m.cells.toArray].toArray w (Cd (fun v : Value × Value => .tuple #[v.1, v.2]) (fun v => L) (fun v => sl v.1 (Am l id m).1 :: sl v.2 (Am l id m).2 :: R)) := by
 refine Za5 ?_;intro hlen hm0 hid0
 clear hs
 refine Za4 ?_;intro b5 g13
 refine JC.conseqEx (γ := Value) (L' := fun u => foc 84 g13.1 l m.line.toNat (Entry.cells u (Ai l m.line)) :: row 3 u (Ai l m.line).last :: blk b5 115 m.cells :: L) (R' := fun u => pr (u.oneCell' = true) :: R) (fun w hs => by
  have h1 : g13.2.map EV.e = l := G0 (.head _) hs
  obtain ⟨u, h2, h3, h4⟩ := Jq m.line.toNat h1 (by omega) hs
  exact ⟨u, St.pr h3 (h4.sub .refl (fun f hf => .tail _ hf))⟩) (fun uo => ?_)
 refine ZaM ?_;intro honeo hEw u hE hE0 hL hone hlin
 refine dj (dgy ?_)
 refine Zaw ?_
 refine dj (dgy ?_)
 refine Za7 ?_
 refine dj (dgy ?_)
 refine ZaD ?_;intro ρ hA honeE b51
 rcases (show (m.turn ≠ (Ai l m.line).turn) ∨ (m.turn = (Ai l m.line).turn ∧ (Ai l m.line).phase ≠ 1) ∨ (m.turn = (Ai l m.line).turn ∧ (Ai l m.line).phase = 1 ∧ m.src ≠ (Ai l m.line).owner) ∨ (m.turn = (Ai l m.line).turn ∧ (Ai l m.line).phase = 1 ∧ m.src = (Ai l m.line).owner) from by omega) with hc | hc | hc | hc
 ·refine Zak ?_
  refine ZaB ?_
  refine Zbn ?_;intro ρ
  refine dn5 ?_
  refine ZZ ?_
  refine ZaC ?_;intro ρ
  exact Zeo
 ·refine Zak ?_
  refine Zat ?_
  refine Zbn ?_;intro ρ
  refine dn4 ?_
  refine dj (dgy ?_)
  refine Zaz ?_
  refine ZP ?_
  refine ZaC ?_;intro ρ
  exact Zeo
 ·refine Zak ?_
  refine Zat ?_
  refine Zbn ?_;intro ρ
  refine dn4 ?_
  refine dj (dgy ?_)
  refine ZaX ?_
  refine dj (dgy ?_)
  refine Zaz ?_
  refine Zar ?_;intro ρ
  refine Glc ?_
  exact Zeo
 ·refine Zak ?_
  refine Zat ?_
  refine Zbn ?_;intro ρ
  refine dn4 ?_
  refine dj (dgy ?_)
  refine ZaX ?_
  refine dj (dgy ?_)
  refine ZaQ ?_
  refine Zar ?_;intro ρ
  refine Gmc ?_
  refine rn5 ?_
  refine sc ?_
  refine Za9 ?_
  refine Cc (b := ?b1) ?e1 ?_ ?_; case e1 => exact rfl
  ·intro ht108
   refine kp [5, 6, 7, 8, 9, 10, 11, 109, 110, 111, 112, 113, 114, 115, 116, 117, 118, 119, 120] ?_
   refine ZU ?_
   refine djc (fun _ _ => Fz (a := 1) (b := (Ai l m.line).owner) (Sa (by omega) (by omega))) ?_
   refine djc (fun _ _ => Fz (a := (Ai l m.line).sharers) (b := ((2 ^ (Ai l m.line).owner.toNat : Nat) : Int)) (b_orB (by omega) (by omega) (by omega) (by omega))) ?_
   refine dn2 ?_
   refine dtl ?_; intro ρ
   refine sc ?_
   refine Gm ?_
   refine rn3 ?_
   refine sc ?_
   refine ZJ ?_
   have hX : EB ({ (Ai l m.line) with value := m.value, sharers := (Hv (Ai l m.line).sharers (Ai l m.line).owner), owner := -1 }) := by obtain ⟨_, _, r9, _⟩ := E7 hE0.2.1.1 hE0.2.1.2 (show 0 ≤ (Ai l m.line).owner by omega) hE0.2.2.2.2.1.2; unfold EB Entry.wf An; simp only; omega
   have eh : (Af (Ai l m.line) id m) = (Ct ({ (Ai l m.line) with value := m.value, sharers := (Hv (Ai l m.line).sharers (Ai l m.line).owner), owner := -1 }), E9 (Ct ({ (Ai l m.line) with value := m.value, sharers := (Hv (Ai l m.line).sharers (Ai l m.line).owner), owner := -1 })) m.line id) := by
    have hal : (Ai l m.line).alone = false := by simpa using ht108
    unfold Af
    rw [if_neg (by omega), if_neg (by omega), if_pos (by omega)]
    unfold Hn
    rw [if_neg (by rw [hal]; decide)]
   refine Ak Try.call72 rfl (fun w hs => Lx (vh := g13.1) (vo := .slice none 0 0) (u := uo) (i := m.line.toNat) (e := { (Ai l m.line) with value := m.value, sharers := (Hv (Ai l m.line).sharers (Ai l m.line).owner), owner := -1 }) (ms := []) (line := m.line) (id := id) (xs := l) (LX := row 3 uo (Ai l m.line).last :: blk b5 115 m.cells :: L) (Ae hs) hA honeo (by simp) hX hm.2.2.2.1 hid) ?_; intro v125
   refine J.conseq (L' := foc 84 g13.1 l m.line.toNat (Entry.cells uo (Af (Ai l m.line) id m).1) :: row 3 uo (Af (Ai l m.line) id m).1.last :: blk b51 140 [ep g13.1 10 m.line.toNat 0, vi m.line, vi id, v125] :: row 115 v125 (Af (Ai l m.line) id m).2 :: L) (fun w hs => by rw [List.nil_append] at hs; rw [eh, Ir]; exact Ae hs) ?_
   refine Gl ?_
   refine Zau ?_;intro hEB
   refine Zav ?_;intro ρ er
   exact D5 (g13.1, v125) (hs := fun w hs => Ae (St.shut (hs.pick pkk)))
  ·intro ht108
   refine Gl ?_
   refine kp [5, 6, 7, 8, 9, 10, 11, 121, 122, 123] ?_
   refine ZL ?_
   refine sc ?_
   refine ZJ ?_
   have hX : EB ({ (Ai l m.line) with value := m.value, sharers := (Ai l m.line).sharers, owner := -1 }) := by unfold EB Entry.wf An; simp only; omega
   have eh : (Af (Ai l m.line) id m) = (Ct ({ (Ai l m.line) with value := m.value, sharers := (Ai l m.line).sharers, owner := -1 }), E9 (Ct ({ (Ai l m.line) with value := m.value, sharers := (Ai l m.line).sharers, owner := -1 })) m.line id) := by
    have hal : (Ai l m.line).alone = true := by simpa using ht108
    unfold Af
    rw [if_neg (by omega), if_neg (by omega), if_pos (by omega)]
    unfold Hn
    rw [if_pos hal]
   refine Ak Try.call72 rfl (fun w hs => Lx (vh := g13.1) (vo := .slice none 0 0) (u := uo) (i := m.line.toNat) (e := { (Ai l m.line) with value := m.value, sharers := (Ai l m.line).sharers, owner := -1 }) (ms := []) (line := m.line) (id := id) (xs := l) (LX := row 3 uo (Ai l m.line).last :: blk b5 115 m.cells :: L) (Ae hs) hA honeo (by simp) hX hm.2.2.2.1 hid) ?_; intro v125
   refine J.conseq (L' := foc 84 g13.1 l m.line.toNat (Entry.cells uo (Af (Ai l m.line) id m).1) :: row 3 uo (Af (Ai l m.line) id m).1.last :: blk b51 140 [ep g13.1 10 m.line.toNat 0, vi m.line, vi id, v125] :: row 115 v125 (Af (Ai l m.line) id m).2 :: L) (fun w hs => by rw [List.nil_append] at hs; rw [eh, Ir]; exact Ae hs) ?_
   refine Gl ?_
   refine Zau ?_;intro hEB
   refine Zav ?_;intro ρ er
   exact D5 (g13.1, v125) (hs := fun w hs => Ae (St.shut (hs.pick pkk)))
theorem Wv {v0 : Value} {l : List Entry} {id : Int} {m : Msg} (hs : St (L) R w) (h0 : sl v0 l ∈ R) (hb : ∀ i, i < l.length → EB (l.getD i A5)) (hla : ∀ i, i < l.length → (l.getD i A5).last.length ≤ 4) (hm : m.wf) (hid : An id) (hk : 0 ≤ m.line ∧ m.line < (l.length : Int) ∧ 0 ≤ m.src ∧ m.src < ((Ai l m.line).last.length : Int) ∧ m.kind = 8) : Calls Try.prog 56 [v0, vi id, .agg m.cells.toArray].toArray w (Cd (fun v : Value × Value => .tuple #[v.1, v.2]) (fun v => L) (fun v => sl v.1 (Am l id m).1 :: sl v.2 (Am l id m).2 :: R)) := by
 refine Za5 ?_;intro hlen hm0 hid0
 clear hs
 refine Za4 ?_;intro b5 g13
 refine JC.conseqEx (γ := Value) (L' := fun u => foc 84 g13.1 l m.line.toNat (Entry.cells u (Ai l m.line)) :: row 3 u (Ai l m.line).last :: blk b5 115 m.cells :: L) (R' := fun u => pr (u.oneCell' = true) :: R) (fun w hs => by
  have h1 : g13.2.map EV.e = l := G0 (.head _) hs
  obtain ⟨u, h2, h3, h4⟩ := Jq m.line.toNat h1 (by omega) hs
  exact ⟨u, St.pr h3 (h4.sub .refl (fun f hf => .tail _ hf))⟩) (fun uo => ?_)
 refine ZaM ?_;intro honeo hEw u hE hE0 hL hone hlin
 refine dj (dgy ?_)
 refine Zaw ?_
 refine dj (dgy ?_)
 refine Za7 ?_
 refine dj (dgy ?_)
 refine ZaD ?_;intro ρ hA honeE b51
 rcases (show (m.turn ≠ (Ai l m.line).turn) ∨ (m.turn = (Ai l m.line).turn ∧ (Ai l m.line).phase ≠ 2) ∨ (m.turn = (Ai l m.line).turn ∧ (Ai l m.line).phase = 2 ∧ Nu (Ai l m.line).need m.src = false) ∨ (m.turn = (Ai l m.line).turn ∧ (Ai l m.line).phase = 2 ∧ Nu (Ai l m.line).need m.src = true) from by rcases Bool.eq_false_or_eq_true (Nu (Ai l m.line).need m.src) with h1 | h1 <;> simp only [h1, and_true, and_false, or_false, false_or, reduceCtorEq] <;> omega) with hc | hc | hc | hc
 ·refine Zak ?_
  refine ZaB ?_
  refine djc (fun _ _ => Di) ?_
  refine Zbi ?_;intro ρ
  refine ZaF ?_
  refine ZP ?_
  refine dn5 ?_
  refine ZZ ?_
  exact ZdA
 ·refine ZaS ?_;intro ρ
  refine ZaF ?_
  refine ZP ?_
  refine dn4 ?_
  refine dj (dgy ?_)
  refine Zaz ?_
  refine ZP ?_
  exact ZdA
 ·refine ZaS ?_;intro ρ
  refine ZaF ?_
  refine ZP ?_
  refine dn4 ?_
  refine dj (dgy ?_)
  refine ZaX ?_
  refine dj (dgy ?_)
  refine dc (fun _ _ => Fz (a := (Ai l m.line).need) (b := m.src) (Aar (by omega) (by omega) (by omega) (by omega))) ?_
  refine dj (dgy ?_)
  refine Zc6 ?_
  refine dj (dgy ?_)
  refine dc (fun _ _ => Al rfl rfl (Bh (by rw [if_neg (by rw [hc.2.2]; decide)]; decide))) ?_
  refine Zag ?_
  refine Zae ?_;intro ρ
  refine Zb8 ?_
  refine Za3 ?_
  refine ZaC ?_;intro ρ
  have eh : (Af (Ai l m.line) id m) = ((Ai l m.line), []) := by unfold Af; rw [if_neg (by omega), if_neg (by omega), if_neg (by omega), if_neg (fun h => by have h4 := h.2.2.2; rw [hc.2.2] at h4; cases h4), if_neg (by omega)]
  exact ZdB
 ·have hhas := hc.2.2
  refine ZaS ?_;intro ρ
  refine ZaF ?_
  refine ZP ?_
  refine dn4 ?_
  refine dj (dgy ?_)
  refine ZaX ?_
  refine dj (dgy ?_)
  refine dc (fun _ _ => Fz (a := (Ai l m.line).need) (b := m.src) (Aar (by omega) (by omega) (by omega) (by omega))) ?_
  refine dj (dgy ?_)
  refine Zc6 ?_
  refine dj (dgy ?_)
  refine dc (fun _ _ => Al rfl rfl (Ay (by rw [if_pos hc.2.2]))) ?_
  refine Zar ?_;intro ρ
  refine Glc ?_
  refine kp [5, 6, 7, 8, 9, 10, 11, 151, 152, 153, 154, 155, 156, 157, 158, 159, 160] ?_
  refine Zak ?_
  refine djc (fun _ _ => Fz (a := 1) (b := m.src) (Sa (by omega) (by omega))) ?_
  refine djc (fun _ _ => Fz (a := (Ai l m.line).need) (b := ((2 ^ m.src.toNat : Nat) : Int)) (Nl (by omega) (by omega) (by omega) (by omega))) ?_
  refine dn2 ?_
  refine dtl ?_; intro ρ
  refine sc ?_
  refine Gl ?_
  refine Zak ?_
  refine djc (fun _ _ => Fz (a := 1) (b := m.src) (Sa (by omega) (by omega))) ?_
  refine djc (fun _ _ => Fz (a := (Ai l m.line).sharers) (b := ((2 ^ m.src.toNat : Nat) : Int)) (Nl (by omega) (by omega) (by omega) (by omega))) ?_
  refine dn2 ?_
  refine dtl ?_; intro ρ
  refine sc ?_
  refine Za9 ?_
  refine cdy ?_ ?_
  ·intro ht175
   refine ZC ?_
   have hX : EB ((Ch (Ai l m.line) m)) := by have c1 := (E7 hE0.2.1.1 hE0.2.1.2 (show 0 ≤ m.src by omega) (show m.src < 4 by omega)).2.2.2; have c2 := (E7 hE0.2.2.1.1 hE0.2.2.1.2 (show 0 ≤ m.src by omega) (show m.src < 4 by omega)).2.2.2; unfold Ch EB Entry.wf An; simp only; omega
   have eh : (Af (Ai l m.line) id m) = (Ct ((Ch (Ai l m.line) m)), E9 (Ct ((Ch (Ai l m.line) m))) m.line id) := by
    unfold Af
    rw [if_neg (by omega), if_neg (by omega), if_neg (by omega), if_pos ⟨by omega, by omega, by omega, hhas⟩, if_pos (by unfold Ch; simp only; omega)]
   refine Ak Try.call72 rfl (fun w hs => Lx (vh := g13.1) (vo := .slice none 0 0) (u := uo) (i := m.line.toNat) (e := (Ch (Ai l m.line) m)) (ms := []) (line := m.line) (id := id) (xs := l) (LX := row 3 uo (Ai l m.line).last :: blk b5 115 m.cells :: L) (Ae hs) hA honeo (by simp) hX hm.2.2.2.1 hid) ?_; intro v177
   refine J.conseq (L' := foc 84 g13.1 l m.line.toNat (Entry.cells uo (Af (Ai l m.line) id m).1) :: row 3 uo (Af (Ai l m.line) id m).1.last :: blk b51 140 [ep g13.1 10 m.line.toNat 0, vi m.line, vi id, v177] :: row 115 v177 (Af (Ai l m.line) id m).2 :: L) (fun w hs => by rw [List.nil_append] at hs; rw [eh, Ir]; exact Ae hs) ?_
   refine Gl ?_
   refine Zau ?_;intro hEB
   refine Zav ?_;intro ρ er
   exact D5 (g13.1, v177) (hs := fun w hs => Ae (St.shut (hs.pick pkk)))
  ·intro ht175
   refine Gl ?_
   have eh : (Af (Ai l m.line) id m) = ((Ch (Ai l m.line) m), []) := by
    unfold Af
    rw [if_neg (by omega), if_neg (by omega), if_neg (by omega), if_pos ⟨by omega, by omega, by omega, hhas⟩, if_neg (by unfold Ch; simp only; omega)]
   exact ZdB
theorem S8 {v0 : Value} {l : List Entry} {id : Int} {m : Msg} (hs : St (L) R w) (h0 : sl v0 l ∈ R) (hb : ∀ i, i < l.length → EB (l.getD i A5)) (hla : ∀ i, i < l.length → (l.getD i A5).last.length ≤ 4) (hm : m.wf) (hid : An id) (hk : 0 ≤ m.line ∧ m.line < (l.length : Int) ∧ 0 ≤ m.src ∧ m.src < ((Ai l m.line).last.length : Int) ∧ m.kind = 10) : Calls Try.prog 56 [v0, vi id, .agg m.cells.toArray].toArray w (Cd (fun v : Value × Value => .tuple #[v.1, v.2]) (fun v => L) (fun v => sl v.1 (Am l id m).1 :: sl v.2 (Am l id m).2 :: R)) := by
 refine Za5 ?_;intro hlen hm0 hid0
 clear hs
 refine Za4 ?_;intro b5 g13
 refine JC.conseqEx (γ := Value) (L' := fun u => foc 84 g13.1 l m.line.toNat (Entry.cells u (Ai l m.line)) :: row 3 u (Ai l m.line).last :: blk b5 115 m.cells :: L) (R' := fun u => pr (u.oneCell' = true) :: R) (fun w hs => by
  have h1 : g13.2.map EV.e = l := G0 (.head _) hs
  obtain ⟨u, h2, h3, h4⟩ := Jq m.line.toNat h1 (by omega) hs
  exact ⟨u, St.pr h3 (h4.sub .refl (fun f hf => .tail _ hf))⟩) (fun uo => ?_)
 refine ZaM ?_;intro honeo hEw u hE hE0 hL hone hlin
 refine dj (dgy ?_)
 refine Zaw ?_
 refine dj (dgy ?_)
 refine Za7 ?_
 refine dj (dgy ?_)
 refine ZaD ?_;intro ρ hA honeE b51
 rcases (show (m.turn ≠ (Ai l m.line).turn) ∨ (m.turn = (Ai l m.line).turn ∧ (Ai l m.line).phase ≠ 3) ∨ (m.turn = (Ai l m.line).turn ∧ (Ai l m.line).phase = 3 ∧ m.src ≠ (Ai l m.line).who) ∨ (m.turn = (Ai l m.line).turn ∧ (Ai l m.line).phase = 3 ∧ m.src = (Ai l m.line).who) from by omega) with hc | hc | hc | hc
 ·refine Zak ?_
  refine ZaB ?_
  refine djc (fun _ _ => Di) ?_
  refine Zbi ?_;intro ρ
  refine Zbk ?_;intro ρ
  refine dn5 ?_
  refine ZZ ?_
  refine ZaC ?_;intro ρ
  exact Zei
 ·refine ZaS ?_;intro ρ
  refine Zbk ?_;intro ρ
  refine dn4 ?_
  refine dj (dgy ?_)
  refine Zaz ?_
  refine ZP ?_
  refine ZaC ?_;intro ρ
  exact Zei
 ·refine ZaS ?_;intro ρ
  refine Zbk ?_;intro ρ
  refine dn4 ?_
  refine dj (dgy ?_)
  refine ZaX ?_
  refine dj (dgy ?_)
  refine Zaz ?_
  refine Zar ?_;intro ρ
  refine Glc ?_
  exact Zei
 ·refine ZaS ?_;intro ρ
  refine Zbk ?_;intro ρ
  refine dn4 ?_
  refine dj (dgy ?_)
  refine ZaX ?_
  refine dj (dgy ?_)
  refine ZaQ ?_
  refine Zar ?_;intro ρ
  refine Glc ?_
  refine ZU ?_
  refine djc (fun _ _ => Fz (a := 1) (b := (Ai l m.line).who) (Sa (by omega) (by omega))) ?_
  refine djc (fun _ _ => Fz (a := (Ai l m.line).sharers) (b := ((2 ^ (Ai l m.line).who.toNat : Nat) : Int)) (b_orB (by omega) (by omega) (by omega) (by omega))) ?_
  refine dn2 ?_
  refine dtl ?_; intro ρ
  refine sc ?_
  refine Gl ?_
  refine kp [6, 7, 8, 9, 10, 213, 214, 215, 216] ?_
  refine Aa ?_
  refine Ga4 ?_
  refine Cc (b := ?b1) ?e1 ?_ ?_; case e1 => exact rfl
  ·intro ht216
   refine Aa ?_
   refine rn8 ?_
   refine sc ?_
   refine ZW ?_
   refine Gm ?_
   refine rn6 ?_
   refine sc ?_
   refine ZW ?_
   refine ZW ?_
   refine ZW ?_
   refine Gl ?_
   have eh : (Af (Ai l m.line) id m) = ({ (Ai l m.line) with owner := (Ai l m.line).who, sharers := 0, phase := 0, who := 0, serial := 0, alone := false }, []) := by
    unfold Af
    rw [if_neg (by omega), if_neg (by omega), if_neg (by omega), if_neg (by omega), if_pos (by omega)]
    unfold Ej
    rw [if_pos ht216]
   refine Zbe ?_
   refine ZbB ?_;intro hEB ρ er
   exact ZcT
  ·intro ht216
   refine Gm ?_
   refine rn6 ?_
   refine sc ?_
   refine ZW ?_
   refine ZW ?_
   refine ZW ?_
   refine Gl ?_
   have eh : (Af (Ai l m.line) id m) = ({ (Ai l m.line) with sharers := Hv (Ai l m.line).sharers (Ai l m.line).who, phase := 0, who := 0, serial := 0, alone := false }, []) := by
    unfold Af
    rw [if_neg (by omega), if_neg (by omega), if_neg (by omega), if_neg (by omega), if_pos (by omega)]
    unfold Ej
    rw [if_neg (by rw [ht216]; decide)]
   exact ZdB
theorem Rh {v0 : Value} {l : List Entry} {id : Int} {m : Msg} (hs : St (L) R w) (h0 : sl v0 l ∈ R) (hb : ∀ i, i < l.length → EB (l.getD i A5)) (hla : ∀ i, i < l.length → (l.getD i A5).last.length ≤ 4) (hm : m.wf) (hid : An id) : Calls Try.prog 56 [v0, vi id, .agg m.cells.toArray].toArray w (Cd (fun v : Value × Value => .tuple #[v.1, v.2]) (fun v => L) (fun v => sl v.1 (Am l id m).1 :: sl v.2 (Am l id m).2 :: R)) := by
 by_cases h : 0 ≤ m.line ∧ m.line < (l.length : Int) ∧ 0 ≤ m.src ∧ m.src < ((Ai l m.line).last.length : Int)
 ·by_cases h1 : m.kind = 1
  ·exact Wy hs h0 hb hla hm hid (by omega)
  by_cases h2 : m.kind = 2
  ·exact Wx hs h0 hb hla hm hid (by omega)
  by_cases h3 : m.kind = 3
  ·exact Ww hs h0 hb hla hm hid (by omega)
  by_cases h9 : m.kind = 9
  ·exact Wu hs h0 hb hla hm hid (by omega)
  by_cases h8 : m.kind = 8
  ·exact Wv hs h0 hb hla hm hid (by omega)
  by_cases h10 : m.kind = 10
  ·exact S8 hs h0 hb hla hm hid (by omega)
  exact Wt hs h0 hb hla hm hid (by omega)
 ·exact Wz hs h0 hb hla hm hid h
theorem Ws {v0 : Value} {l : List Entry} {id : Int} (hs : St (L) R w) (h0 : sl v0 l ∈ R) (hb : ∀ i, i < l.length → EB (l.getD i A5)) (hln : l.length ≤ 100) (hid : An id) : Calls Try.prog 59 [v0, vi id].toArray w (Cd (fun v : Value => v) (fun v => L) (fun v => sl v (Ei l id) :: R)) := by
 have hlen := Bx h0 hs
 refine Ah Try.func59 rfl Try.ntmps59 rfl hs ?_
 clear hs
 refine ZM ?_
 refine Za0 ?_
 refine Ak Try.call46 rfl (fun w hs => U1 (l := l) hs mm) ?_; intro v10
 refine Zah ?_
 refine ZV ?_
 refine Bs (γ := Nat × Value) (fun g => g.1 ≤ l.length) (fun g => row 115 g.2 (Ci id 0 (l.take g.1)) :: L) (fun _ => sl v10 l :: R) (fun g => [(1, vi id), (5, g.2), (6, v10), (12, vi (l.length : Int)), (13, vi (g.1 : Int))]) (fun g => l.length - g.1) (0, .slice none 0 0) (Nat.zero_le _) alT (fun w hs => hs) ?_
 rintro ⟨k, vs⟩ hk
 try simp only at hk ⊢
 have hsl := Lg id (l.take k) 0
 rw [List.length_take] at hsl
 refine ZB ?_
 refine cdy ?_ ?_
 ·intro ht14
  refine ZD ?_
  refine Ach (l := l) (v := v10) k mm (by omega) (fun _ u => ?_)
  refine JC.know (p := EpAll v10 10 k) (fun w hs => ok_c (v := v10) (i := k) (.head _) w hs) (fun hA => ?_)
  have honeE : (ep v10 10 k 0).oneCell' = true := hA.one
  refine ZaA ?_
  refine bx ?_; intro b22
  refine Ga1 ?_
  refine ZV ?_
  refine ZC ?_
  refine Ak Try.call77 rfl (fun w hs => H8 (vh := v10) (vo := .slice none 0 0) (u := u) (i := k) (e := (l.getD k A5)) (ms := []) (line := (k : Int)) (id := id) (LX := row 115 vs (Ci id 0 (l.take k)) :: L) (Ae hs) (Aba (cs := Entry.cells u (l.getD k A5)) mm) hA (by simp) (hb k (by omega)) (by unfold An; omega) hid) ?_; intro vq
  refine Gl ?_
  refine JC.shut (v := vq) pkk ?_
  have hs4 := T6 (l.getD k A5) (k : Int) id
  refine Zal ?_
  refine ap Nf (hb := fun w hs => by have : maxN = 16777216 := rfl; simp only [List.length_append, List.length_nil]; omega) (k := ?_); intro v30
  refine ZH ?_
  refine A7 (k + 1, v30) (by show k + 1 ≤ l.length; omega) (by show l.length - (k + 1) < l.length - k; omega) alT (fun w hs => ?_)
  try simp only
  rw [Hu A5 (by omega), J3, List.length_take, Nat.min_eq_left (by omega), Int.zero_add]; exact Ae hs
 ·intro ht14
  refine ZD ?_
  have hkl : k = l.length := by omega
  rw [show Ci id 0 (l.take k) = Ei l id from by rw [hkl, List.take_length]; rfl]
  exact Bq vs (hs := fun w hs => Ae (St.shut (hs.pick pkk)))
theorem Adc {cores lines : Int} (hs : St (L) R w) (hc : 0 ≤ cores ∧ cores ≤ 4) (hl : 0 ≤ lines ∧ lines ≤ 4) : Calls Try.prog 33 [vi cores, vi lines].toArray w (Cd (fun v : Value => v) (fun v => L) (fun v => sl v (M0 cores lines) :: R)) := by
 refine Ah Try.func33 rfl Try.ntmps33 rfl hs ?_
 clear hs
 refine ZM ?_
 refine ZH ?_
 refine JC.rowNil 84 Entry ?_
 refine Bs (γ := Nat × Value) (fun g => (g.1 : Int) ≤ lines) (fun g => row 84 g.2 (List.replicate g.1 (Q4 ⟨cores, lines⟩)) :: L) (fun _ => R) (fun g => [(0, vi cores), (5, g.2), (6, vi lines), (7, vi (g.1 : Int))]) (fun g => lines.toNat - g.1) (0, .slice none 0 0) (by show (0 : Int) ≤ lines; omega) alT (fun w hs => hs) ?_
 rintro ⟨k, vs⟩ hk
 try simp only at hk ⊢
 refine ZB ?_
 refine cdy ?_ ?_
 ·intro ht8
  refine ZK ?_
  refine ob (q_max (a := cores) rfl (by omega)) ?_
  refine Ue (α := Int) (x0 := 0) (zc := [vi 0]) Hm rfl (by decide) rfl rfl rfl (fun j => ⟨rfl, by unfold An; omega⟩) (by omega) (by omega) ?_; intro v12
  refine J.shut .hd ?_
  refine J.know (p := v12.oneCell' = true) (fun w hs => isSlice.one (hs.fact (.head _))) (fun honev12 => ?_)
  refine rn1 ?_
  refine li (α := Entry) [Q4 ⟨cores, lines⟩] Aej rfl (fun j hj => ⟨⟨_, rfl, ⟨_, rfl, hj _ (.head _), Yr ⟨cores, lines⟩⟩⟩, trivial⟩) ?_; intro v14
  refine ap Aej (hb := fun w hs => by have : maxN = 16777216 := rfl; simp only [List.length_replicate, List.length_cons, List.length_nil]; omega) (k := ?_); intro v15
  refine ZH ?_
  refine A7 (k + 1, v15) (by show ((k + 1 : Nat) : Int) ≤ lines; omega) (by show lines.toNat - (k + 1) < lines.toNat - k; omega) alT (fun w hs => ?_)
  try simp only
  rw [T9]; exact Ae hs
 ·intro ht8
  refine ZD ?_
  have hkl : k = lines.toNat := by omega
  rw [show List.replicate k (Q4 ⟨cores, lines⟩) = M0 cores lines from by rw [hkl]; rfl]
  exact Bq vs (hs := fun w hs => Ae (St.shut (hs.pick pkk)))
end Go.Proofs.Ytkgijpngobgfjaa
set_option maxHeartbeats 1000000
set_option maxRecDepth 8000
namespace Go.Proofs.Ytkgijpngobgfjaa
open Go
end Go.Proofs.Ytkgijpngobgfjaa
set_option maxHeartbeats 1000000
set_option maxRecDepth 8000
namespace Go.Proofs.Ytkgijpngobgfjaa
open Go
end Go.Proofs.Ytkgijpngobgfjaa
set_option maxHeartbeats 1000000
set_option maxRecDepth 8000
namespace Go.Proofs.Ytkgijpngobgfjaa
open Go
end Go.Proofs.Ytkgijpngobgfjaa
set_option maxHeartbeats 1000000
set_option maxRecDepth 8000
namespace Go.Proofs.Ytkgijpngobgfjaa
open Go
end Go.Proofs.Ytkgijpngobgfjaa
set_option maxHeartbeats 1000000
set_option maxRecDepth 8000
namespace Go.Proofs.Ytkgijpngobgfjaa
open Go
end Go.Proofs.Ytkgijpngobgfjaa
set_option maxHeartbeats 1000000
set_option maxRecDepth 8000
namespace Go.Proofs.Ytkgijpngobgfjaa
open Go
variable {L : List Chunk} {R : List Fact} {w : World}
theorem Is {v0 : Value} {l : Frames} {n : Int} (hs : St (L) R w) (h0 : sl v0 l ∈ R) (hn : An n) : Calls Try.prog 38 [v0, vi n].toArray w (Cd (fun v : Value × Value => .tuple #[v.1, v.2, vi (Df l n).2.2]) (fun v => row 94 v.1 (Df l n).1 :: L) (fun v => sl v.2 (Df l n).2.1 :: R)) := by
 have hlen := Bx h0 hs
 unfold An at hn
 refine Ah Try.func38 rfl Try.ntmps38 rfl hs ?_
 clear hs
 refine Zac ?_
 rcases (show (n < 0) ∨ (¬ n < 0 ∧ (l.length : Int) ≤ n) ∨ (0 ≤ n ∧ n < (l.length : Int)) from by omega) with hc | hc | hc
 ·refine Za2 ?_
  refine Gd6 ?_
  exact Zdw
 ·refine ZR ?_
  refine ZE ?_
  refine J8 ?_
  refine Gd1 ?_
  exact Zdw
 ·refine ZR ?_
  refine ZE ?_
  refine D6 ?_
  refine Zax ?_
  refine Ak Try.call47 rfl (fun w hs => Ut hs mm) ?_; intro v18
  refine Gb1 ?_
  refine rn2 ?_
  refine ob (Ks Qs) ?_
  refine l_Sr Try.isAgg94 rfl .hd (by omega) ?_; intro v22
  refine Gb1 ?_
  refine rn3 ?_
  refine ob Sr ?_
  rw [show n + 1 = ((n.toNat + 1 : Nat) : Int) by omega]
  refine Ak Try.call53 rfl (fun w hs => by have h := Yt (i := n.toNat) (Ahg hs) (by omega); rw [Int.toNat_of_nonneg (by omega)] at h; exact h) ?_; intro v27
  refine Ga4 ?_
  have er : Df l n = (l.eraseIdx n.toNat, Cg l n, 0) := by unfold Df; rw [if_neg (by omega)]
  rw [er]
  exact Gy (v27, v22)
theorem Q5 {v0 : Value} {l : Frames} {n : Int} (hs : St (L) R w) (h0 : sl v0 l ∈ R) (hn : An n) : Calls Try.prog 40 [v0, vi n].toArray w (Cd (fun v : Value => .tuple #[v, vi (En l n).2]) (fun v => row 94 v (En l n).1 :: L) (fun v => R)) := by
 have hlen := Bx h0 hs
 unfold An at hn
 refine Ah Try.func40 rfl Try.ntmps40 rfl hs ?_
 clear hs
 refine ZD ?_
 rcases (show (n < 0) ∨ (¬ n < 0 ∧ (l.length : Int) ≤ n) ∨ (0 ≤ n ∧ n < (l.length : Int)) from by omega) with hc | hc | hc
 ·refine Za2 ?_
  refine Gd6 ?_
  exact ZdX
 ·refine ZR ?_
  refine ZE ?_
  refine J8 ?_
  refine Gd1 ?_
  exact ZdX
 ·refine ZR ?_
  refine ZE ?_
  refine D6 ?_
  refine Gc1 ?_
  refine JC.open1 (xs := l) n.toNat mm (by omega) (fun _ u => ?_)
  refine Zal ?_
  refine Ak Try.call51 rfl (fun w hs => Us hs mm mm) ?_; intro v19
  refine Ga2 ?_
  have er : En l n = (Cu l (Cg l n), 0) := by unfold En; rw [if_neg (by omega)]
  rw [er]
  exact D5 v19
theorem Ys {v0 : Value} {l : Frames} {n bit : Int} (hs : St (L) R w) (h0 : sl v0 l ∈ R) (hn : An n) (hbit : An bit) : Calls Try.prog 58 [v0, vi n, vi bit].toArray w (Cd (fun v : Value => .tuple #[v, vi (By l n bit).2]) (fun v => row 94 v (By l n bit).1 :: L) (fun v => R)) := by
 have hlen := Bx h0 hs
 unfold An at hn
 refine Ah Try.func58 rfl Try.ntmps58 rfl hs ?_
 clear hs
 refine ZD ?_
 rcases (show (n < 0) ∨ (¬ n < 0 ∧ (l.length : Int) ≤ n) ∨ (0 ≤ n ∧ n < (l.length : Int)) from by omega) with hc | hc | hc
 ·refine Za2 ?_
  refine Gd6 ?_
  exact ZdV
 ·refine ZR ?_
  refine ZE ?_
  refine J8 ?_
  refine Gd1 ?_
  exact ZdV
 ·refine ZR ?_
  refine ZE ?_
  refine D6 ?_
  refine Gc1 ?_
  refine JC.open1 (xs := l) n.toNat mm (by omega) (fun _ u => ?_)
  refine JC.know (p := (l.getD n.toNat []).length ≤ 16777216) (fun w hs => Bx (α := UInt8) (v := u) (.tail _ (.head _)) hs) (fun hlb => ?_)
  rcases (show (bit < 0) ∨ (¬ bit < 0 ∧ 8 * ((l.getD n.toNat []).length : Int) ≤ bit) ∨ (0 ≤ bit ∧ bit < 8 * ((l.getD n.toNat []).length : Int)) from by omega) with hc | hc | hc
  ·refine Za2 ?_
   refine Gd10 ?_
   exact ZdN
  ·refine Zc3 ?_
   refine J8 ?_
   refine Gd1 ?_
   exact ZdN
  ·refine Zc3 ?_
   refine D6 ?_
   refine Zax ?_
   refine Ak Try.call47 rfl (fun w hs => Ut hs mm) ?_; intro v30
   refine Gb1 ?_
   refine rn4 ?_
   refine ob (Ks Qs) ?_
   refine l_Sr Try.isAgg94 rfl .hd (by omega) ?_; intro v36
   refine rn1 ?_
   refine Ak Try.call76 rfl (fun w hs => M6 (bit := bit) hs mm hbit) ?_; intro v38
   refine ob (Ks Qs) ?_
   refine s_Sr Try.sizeOf94 rfl rfl mm .hd (by omega) ?_
   refine Gl ?_
   refine kp [6, 7, 8, 40] ?_
   refine Aa ?_
   refine Ga3 ?_
   have er : By l n bit = (l.set n.toNat (Ew (Cg l n) bit), 0) := by unfold By Cg; rw [if_neg (by omega), if_neg (by omega)]
   rw [er]
   exact D5 v30
theorem Aci {P : Program} {n : Nat} {Q : Exit → Act → World → Prop} {L : List Chunk} {R : List Fact} {al : List (Nat × Value)} {c : Code} {v : Value} {x : Chip} (i : Int) (hm : sl v x.cores ∈ R) (h0 : 0 ≤ i) (hi : i < x.cores.length) (k : (Ap x i).wait.wf → ∀ u, JC P n c Q L (cF v 4 i.toNat (Core.cells u (Ap x i)) :: sl u (Ap x i).lines :: R) al) : JC P n c Q L R al := JC.open1 i.toNat hm (by omega) k
theorem Xl {c : Core} {id home : Int} {o : Op} (ho : o.wf) : (Aj c id home o).1.wait.wf := by
 have hz : zOp.wf := by unfold zOp Op.wf An; simp only; omega
 unfold Aj
 split
 ·exact hz
 split
 ·exact hz
 split
 ·exact hz
 split
 ·exact hz
 ·exact ho
theorem Zd {c : Core} {id home : Int} {m : Msg} (ho : c.wait.wf) : (Ac c id home m).1.wait.wf := by
 have hz : zOp.wf := by unfold zOp Op.wf An; simp only; omega
 unfold Ac
 split
 ·exact ho
 split
 ·exact ho
 split
 ·split
  ·show (if _ then zOp else c.wait).wf
   split
   ·exact hz
   ·exact ho
  split
  ·exact ho
  ·exact ho
 split
 ·split
  ·exact ho
  split
  ·exact hz
  ·exact ho
 split
 ·exact hz
 ·exact ho
section
variable {n nl : Nat} {x : Chip} {M : List Int}
theorem Inv.lbs (h : Inv n nl x M) {p : Int} (hp : 0 ≤ p ∧ p < x.cores.length) : ∀ i, i < (Ap x p).lines.length → LB ((Ap x p).lines.getD i zLine) := fun i hi => by
 have hnc := h.nc
 have h1 : (Ap x p).lines.length = nl := h.ncl p.toNat (by omega)
 exact h.lb (i := i) (p := p.toNat) (by omega) (by omega)
theorem Inv.ebs (h : Inv n nl x M) : ∀ i, i < x.home.length → EB (x.home.getD i A5) ∧ (x.home.getD i A5).turn ≤ 65535 ∧ (0 ≤ (x.home.getD i A5).serial ∧ (x.home.getD i A5).serial ≤ 65535) ∧ (0 ≤ (x.home.getD i A5).value ∧ (x.home.getD i A5).value ≤ 255) ∧ (x.home.getD i A5).last.length ≤ 4 := fun i hi => by
 have hnh := h.nh
 have hn := h.n1
 have := h.nla i (by omega)
 exact ⟨h.eb (i := i) (by omega), (h.ebd (i := i) (by omega)).1, (h.ebd (i := i) (by omega)).2.1, (h.ebd (i := i) (by omega)).2.2, by show (ent x i).last.length ≤ 4; omega⟩
theorem Inv.says_in (h : Inv n nl x M) (i : Nat) (hi : i < x.home.length) : ∀ a ∈ E9 (x.home.getD i A5) i n, MsgIn a := fun a ha => by
 have hnh := h.nh; have hn := h.n1; have hl := h.l1
 exact Acn (Kq h (i := i) (by omega) a ha).1 (by simp only [Cz]; omega) (by simp only [Cz]; omega)
end
end Go.Proofs.Ytkgijpngobgfjaa
set_option maxHeartbeats 1000000
set_option maxRecDepth 8000
namespace Go.Proofs.Ytkgijpngobgfjaa
open Go
end Go.Proofs.Ytkgijpngobgfjaa
set_option maxHeartbeats 1000000
set_option maxRecDepth 8000
namespace Go.Proofs.Ytkgijpngobgfjaa
open Go
variable {L : List Chunk} {R : List Fact} {w : World}
def bAt (c : Config) (l : List Step) (k : Nat) : Chip × List Done := Bu (A2 c).1 (l.take k)
theorem Dq {x : Chip} {a : Step} {l : List Step} (h : (Ag x a).2.2 = 0) : Bu x (a :: l) = ((Bu (Ag x a).1 l).1, (Ag x a).2.1 ++ (Bu (Ag x a).1 l).2) := by simp only [Bu]; rw [if_pos h]
theorem Ep {x : Chip} {a : Step} {l : List Step} (h : ¬ (Ag x a).2.2 = 0) : Bu x (a :: l) = Bu x l := by simp only [Bu]; rw [if_neg h]
theorem G9 (s : Step) : ∀ (l : List Step) (x : Chip), (Ag (Bu x l).1 s).2.2 = 0 → Bu x (l ++ [s]) = ((Ag (Bu x l).1 s).1, (Bu x l).2 ++ (Ag (Bu x l).1 s).2.1)
 | [], x, h => by
  have h' : (Ag x s).2.2 = 0 := h
  rw [List.nil_append, Dq h']; simp [Bu]
 | a :: l, x, h => by
  by_cases h1 : (Ag x a).2.2 = 0
  ·rw [Dq h1] at h ⊢
   rw [List.cons_append, Dq h1, G9 s l _ h]; simp
  ·rw [Ep h1] at h ⊢
   rw [List.cons_append, Ep h1]; exact G9 s l x h
theorem Pu (s : Step) : ∀ (l : List Step) (x : Chip), ¬ (Ag (Bu x l).1 s).2.2 = 0 → Bu x (l ++ [s]) = Bu x l
 | [], x, h => by
  have h' : ¬ (Ag x s).2.2 = 0 := h
  rw [List.nil_append, Ep h']
 | a :: l, x, h => by
  by_cases h1 : (Ag x a).2.2 = 0
  ·rw [Dq h1] at h ⊢
   rw [List.cons_append, Dq h1, Pu s l _ h]
  ·rw [Ep h1] at h ⊢
   rw [List.cons_append, Ep h1]; exact Pu s l x h
theorem Aaw {c : Config} {l : List Step} {k : Nat} (h : k < l.length) (h0 : (Ag (bAt c l k).1 (l.getD k zStep)).2.2 = 0) : bAt c l (k + 1) = ((Ag (bAt c l k).1 (l.getD k zStep)).1, (bAt c l k).2 ++ (Ag (bAt c l k).1 (l.getD k zStep)).2.1) := by
 unfold bAt at h0 ⊢; rw [Hu zStep h]; exact G9 _ _ _ h0
theorem Agy {c : Config} {l : List Step} {k : Nat} (h : k < l.length) (h0 : ¬ (Ag (bAt c l k).1 (l.getD k zStep)).2.2 = 0) : bAt c l (k + 1) = bAt c l k := by
 unfold bAt at h0 ⊢; rw [Hu zStep h]; exact Pu _ _ _ h0
theorem Aap (c : Core) (id home : Int) (o : Op) : (Aj c id home o).2.2.1.length ≤ 1 := by
 unfold Aj
 split
 ·simp
 split
 ·simp
 split
 ·simp
 split <;> simp
theorem Adf (c : Core) (id home : Int) (m : Msg) : (Ac c id home m).2.2.length ≤ 1 := by
 unfold Ac
 split
 ·simp
 split
 ·simp
 split
 ·split
  ·simp only; split <;> simp
  split <;> simp
 split
 ·split
  ·simp
  split <;> simp
 split <;> simp
theorem Nj (x : Chip) (s : Step) : (Ag x s).2.1.length ≤ 1 := by
 unfold Ag
 split
 ·split
  ·simp
  split
  ·simp
  ·exact Aap ..
 split
 ·split
  ·simp
  ·simp only
   unfold A6
   split
   ·simp
   split
   ·simp
   ·exact Adf ..
 split
 ·split <;> simp
 split
 ·split <;> simp
 split
 ·split
  ·simp
  split
  ·simp
  split <;> simp
 split
 ·split
  ·simp
  split <;> simp
 ·simp
theorem Aax (c : Config) (l : List Step) : ∀ k, (bAt c l k).2.length ≤ k
 | 0 => by unfold bAt; simp [Bu]
 | k + 1 => by
  have ih := Aax c l k
  by_cases h : k < l.length
  ·by_cases h0 : (Ag (bAt c l k).1 (l.getD k zStep)).2.2 = 0
   ·have := Nj (bAt c l k).1 (l.getD k zStep)
    rw [Aaw h h0]
    simp only [List.length_append]; omega
   ·rw [Agy h h0]; omega
  ·unfold bAt at ih ⊢
   rw [List.take_of_length_le (by omega)]
   rw [List.take_of_length_le (by omega)] at ih
   omega
theorem Alk {c : Config} (l : List Step) (h : (A2 c).2 = 0) (k : Nat) : ∃ n nl M, Inv n nl (bAt c l k).1 M := by
 obtain ⟨n, nl, h1, h2, _, h4⟩ := Om h
 obtain ⟨M, h5, _⟩ := Fu (l.take k) (Pe h1 h2)
 exact ⟨n, nl, M, by unfold bAt; rw [h4]; exact h5⟩
def hE0 : List Entry := [⟨0, -1, 0, 0, 0, 0, false, 0, 0, [0, 0]⟩]
theorem Adn {m : Msg} (hs : St (L) R w) (hin : MsgIn m) : Calls Try.prog 52 [.agg m.cells.toArray].toArray w (Cd (fun v : Value => v) (fun v => L) (fun v => sl v (msgBytes m) :: R)) := by
 obtain ⟨k0, k1, k2, k3, k4, k5, k6⟩ := hin
 refine Ah Try.func52 rfl Try.ntmps52 rfl hs ?_
 clear hs
 refine Gm ?_
 refine bx ?_; intro b1
 refine Gb1 ?_
 refine ZH ?_
 refine Cc (b := ?b1) ?e1 ?_ ?_; case e1 => exact rfl
 ·intro ht7
  refine Aa ?_
  refine Gb1 ?_
  refine Zco ?_
  refine liO (α := UInt8) ([u8 m.kind, u8 (16 * m.src + m.dst % 16), u8 m.line, u8 (m.serial / 256), u8 m.serial, u8 (m.turn / 256), u8 m.turn, u8 m.value, 1, 0] : List UInt8) Pq rfl (fun j hj => ⟨⟨_, rfl, rfl⟩, ⟨_, rfl, rfl⟩, ⟨_, rfl, rfl⟩, ⟨_, rfl, rfl⟩, ⟨_, rfl, rfl⟩, ⟨_, rfl, rfl⟩, ⟨_, rfl, rfl⟩, ⟨_, rfl, rfl⟩, ⟨_, rfl, rfl⟩, ⟨_, rfl, rfl⟩, trivial⟩) ?_; intro v40
  have hxs : ([u8 m.kind, u8 (16 * m.src + m.dst % 16), u8 m.line, u8 (m.serial / 256), u8 m.serial, u8 (m.turn / 256), u8 m.turn, u8 m.value, 1, 0] : List UInt8) = Dm m := by unfold Dm; rw [ht7, show 16 * m.src + m.dst % 16 = 16 * m.src + m.dst by omega]; rfl
  rw [hxs]
  have hsm := Tz (Dm m)
  refine Ga1 ?_
  refine kp [2, 4, 5, 41, 42] ?_
  refine ZC ?_
  refine Ak (γ := Unit) (val := fun _ => vi (L7 (Dm m))) Try.call68 rfl (fun w hs => lend .hd (fun L R w hs hf _ => Gq hs hf) hs) ?_; intro _
  refine Zcw ?_;intro v49
  refine ap Pq (hb := fun w hs => by have : maxN = 16777216 := rfl; rw [Ux]; simp only [List.length_cons, List.length_nil]; omega) (k := ?_); intro v50
  refine Ga1 ?_
  exact Bq v50 (hs := fun w hs => Ae (St.shut (hs.pick pkk)))
 ·intro ht7
  refine Gm ?_
  refine Zco ?_
  refine liO (α := UInt8) ([u8 m.kind, u8 (16 * m.src + m.dst % 16), u8 m.line, u8 (m.serial / 256), u8 m.serial, u8 (m.turn / 256), u8 m.turn, u8 m.value, 0, 0] : List UInt8) Pq rfl (fun j hj => ⟨⟨_, rfl, rfl⟩, ⟨_, rfl, rfl⟩, ⟨_, rfl, rfl⟩, ⟨_, rfl, rfl⟩, ⟨_, rfl, rfl⟩, ⟨_, rfl, rfl⟩, ⟨_, rfl, rfl⟩, ⟨_, rfl, rfl⟩, ⟨_, rfl, rfl⟩, ⟨_, rfl, rfl⟩, trivial⟩) ?_; intro v40
  have hxs : ([u8 m.kind, u8 (16 * m.src + m.dst % 16), u8 m.line, u8 (m.serial / 256), u8 m.serial, u8 (m.turn / 256), u8 m.turn, u8 m.value, 0, 0] : List UInt8) = Dm m := by unfold Dm; rw [ht7, show 16 * m.src + m.dst % 16 = 16 * m.src + m.dst by omega]; rfl
  rw [hxs]
  have hsm := Tz (Dm m)
  refine Ga1 ?_
  refine kp [2, 4, 5, 41, 42] ?_
  refine ZC ?_
  refine Ak (γ := Unit) (val := fun _ => vi (L7 (Dm m))) Try.call68 rfl (fun w hs => lend .hd (fun L R w hs hf _ => Gq hs hf) hs) ?_; intro _
  refine Zcw ?_;intro v49
  refine ap Pq (hb := fun w hs => by have : maxN = 16777216 := rfl; rw [Ux]; simp only [List.length_cons, List.length_nil]; omega) (k := ?_); intro v50
  refine Ga1 ?_
  exact Bq v50 (hs := fun w hs => Ae (St.shut (hs.pick pkk)))
theorem Ol {c : Config} (hs : St (L) R w) : Calls Try.prog 31 [.agg c.cells.toArray].toArray w (Cd (fun _ : Unit => vi (Bw c)) (fun _ => L) (fun _ => R)) := by
 refine Ah Try.func31 rfl Try.ntmps31 rfl hs ?_
 clear hs
 refine Gm ?_
 refine bx ?_; intro b1
 refine Ga1 ?_
 refine Zcc ?_
 refine Dn 20 (.bool (decide ((c.cores < 1) ∨ (4 < c.cores) ∨ (c.lines < 1) ∨ (4 < c.lines)))) ?_ ?_
 ·rcases (show ((c.cores < 1)) ∨ (¬ (c.cores < 1) ∧ (4 < c.cores)) ∨ (¬ (c.cores < 1) ∧ ¬ (4 < c.cores) ∧ (c.lines < 1)) ∨ (¬ (c.cores < 1) ∧ ¬ (4 < c.cores) ∧ ¬ (c.lines < 1) ∧ (4 < c.lines)) ∨ (¬ (c.cores < 1) ∧ ¬ (4 < c.cores) ∧ ¬ (c.lines < 1) ∧ ¬ (4 < c.lines)) from by omega) with hm | hm | hm | hm | hm
  ·refine Zad ?_
   refine Ga15 ?_
   exact ZcO
  ·refine ZS ?_
   refine Ft ?_
   refine Ga11 ?_
   exact ZcO
  ·refine Zcc ?_
   refine ZS ?_
   refine De ?_
   refine ZE ?_
   refine Dt ?_
   exact ZdY
  ·refine ZS ?_
   refine De ?_
   refine ZX ?_
   exact Zd3
  ·refine Zcc ?_
   refine ZS ?_
   refine De ?_
   refine ZX ?_
   exact Zd4
 ·refine Bc ?_
  refine Gl ?_
  first | (refine cdx (p := ?p1) (hd := ?d1) ?e1 ?_ ?_; case e1 => exact rfl) | (refine Cc (b := ?b1) ?e1 ?_ ?_; case e1 => exact rfl)
  ·intro ht20
   refine ZB ?_
   have er : Bw c = 3 := by unfold Bw; rw [if_pos ht20]
   exact Zdr
  ·intro ht20
   refine ZB ?_
   have er : Bw c = 0 := by unfold Bw; rw [if_neg ht20]
   exact Zdr
theorem Vo {c : Config} (hs : St (L) R w) (hcw : c.wf) : Calls Try.prog 22 [.agg c.cells.toArray].toArray w (Cd (fun v : Value × Value => .tuple #[.agg #[v.1, v.2, .slice none 0 0], vi (A2 c).2]) (fun v => L) (fun v => sl v.1 (A2 c).1.cores :: sl v.2 (A2 c).1.home :: sl (.slice none 0 0) (A2 c).1.frames :: R)) := by
 refine Ah Try.func22 rfl Try.ntmps22 rfl hs ?_
 clear hs
 refine Zbw ?_;intro b1 b2
 refine Za0 ?_
 refine Ak Try.call31 rfl (fun w hs => Ol hs) ?_; intro _
 refine ZH ?_
 refine cdy ?_ ?_
 ·intro ht9
  have h3 : Bw c = 3 := by revert ht9; unfold Bw; split <;> simp
  refine JC.slNil Core ?_
  refine JC.slNil Entry ?_
  refine ZaG ?_
  refine Gm ?_
  refine Zbl ?_
  refine rn1 ?_
  refine s_B Try.sizeOf27 ?_
  refine Ga1 ?_
  have h3 : Bw c = 3 := by revert ht9; unfold Bw; split <;> simp
  have er : A2 c = (Er, 3) := by unfold A2; rw [if_pos ht9]
  rw [er, h3]
  exact O6 (.slice none 0 0, .slice none 0 0) Try.isAgg27 Try.sizeOf27
 ·intro ht9
  have hcg : ¬ (c.cores < 1 ∨ 4 < c.cores ∨ c.lines < 1 ∨ 4 < c.lines) := by revert ht9; unfold Bw; split <;> simp_all
  refine Gm ?_
  refine rn4 ?_
  refine Ak Try.call33 rfl (fun w hs => Adc (cores := c.cores) (lines := c.lines) hs (by omega) (by omega)) ?_; intro v16
  refine J.know (p := v16.oneCell' = true) (fun w hs => isSlice.one (hs.fact (.head _))) (fun hone16 => ?_)
  refine rn1 ?_
  refine Zce ?_;intro b5
  refine s_B (cs := [.slice none 0 0, v16, .slice none 0 0]) Try.sizeOf27 ?_
  refine Zac ?_
  refine JC.rowNil 55 Core ?_
  refine Bs (γ := Nat × Value) (fun g => (g.1 : Int) ≤ c.cores) (fun g => row 55 g.2 (List.replicate g.1 (Dw c.lines)) :: blk b5 27 [g.2, v16, .slice none 0 0] :: blk b2 27 [.slice none 0 0, .slice none 0 0, .slice none 0 0] :: blk b1 34 c.cells :: L) (fun _ => sl v16 (M0 c.cores c.lines) :: R) (fun g => [(1, bp b1 0), (2, bp b2 0), (5, bp b5 0), (19, vi c.cores), (20, vi (g.1 : Int))]) (fun g => c.cores.toNat - g.1) (0, .slice none 0 0) (by show (0 : Int) ≤ c.cores; omega) alT (fun w hs => Ae hs) ?_
  rintro ⟨k, vs⟩ hk
  try simp only at hk ⊢
  refine ZB ?_
  refine cdy ?_ ?_
  ·intro ht21
   refine Gl ?_
   refine cq_ (blk b5 27 [vs, v16, .slice none 0 0] :: row 55 vs (List.replicate k (Dw c.lines)) :: blk b2 27 [.slice none 0 0, .slice none 0 0, .slice none 0 0] :: blk b1 34 c.cells :: L) ?_
   refine jd_ (fun ρ S => blk b5 27 (bif S 8 then [(Gh.dec (γ := Value) (ρ 6)), v16, .slice none 0 0] else [vs, v16, .slice none 0 0]) :: (bif S 6 then row 55 (Gh.dec (γ := Value) (ρ 6)) ((List.replicate k (Dw c.lines)) ++ [(Dw c.lines)]) else row 55 vs (List.replicate k (Dw c.lines))) :: blk b2 27 [.slice none 0 0, .slice none 0 0, .slice none 0 0] :: blk b1 34 c.cells :: L) ?_
   refine dn1 ?_
   refine Jr (v := vs) (fun ρ S hS hB hA => by have h8 : S 8 = false := hA 8 ⟨0, rfl⟩; simp only [h8, cond_false]; exact D8 (hc := Bt pkk (by repeat (first | exact rfl | refine Da rfl ?_))) Try.isAgg23) (fun _ _ _ _ _ => rfl) ?_
   refine dn2 ?_
   refine G8 (γ := Value) (val := fun v => .agg (Core.cells v (Dw c.lines)).toArray) (F := fun v => [sl v (Dw c.lines).lines]) Try.call34 (fun _ => rfl) (fun ρ L R w hd hs => Aen (lines := c.lines) hs (by omega)) (fun _ _ _ _ _ => rfl) ?_
   refine Lr ([(Dw c.lines)] : List Core) Aek rfl (fun _ => rfl) rfl (fun _ => rfl) rfl rfl (fun ρ R hd j hj => ⟨⟨_, rfl, ⟨_, rfl, hj (sl (Gh.dec (γ := Value) (ρ 4)) (Dw c.lines).lines) (hd.dep (it := ⟨4, _, _, _, _⟩) (by repeat (first | exact List.Mem.head _ | refine List.Mem.tail _ ?_)) ⟨9, rfl⟩ (List.Mem.head _)), by unfold Dw zOp Op.wf An; simp only; omega⟩⟩, trivial⟩) (fun _ _ _ _ _ => rfl) ?_
   refine Eo (e := 55) (xs := (List.replicate k (Dw c.lines))) (ys := [(Dw c.lines)]) (v := vs) Aek (fun _ => rfl) (fun _ => rfl) rfl (by decide) (fun ρ R hd => (hd.dep (it := ⟨5, _, _, _, _⟩) (by repeat (first | exact List.Mem.head _ | refine List.Mem.tail _ ?_)) ⟨9, rfl⟩ (List.Mem.head _))) (by have : maxN = 16777216 := rfl; simp only [List.length_cons, List.length_nil, List.length_replicate]; omega) (fun ρ g S hS hB hA => ?_) ?_
   ·have ui : upS S 6 6 = true := rfl; have u8 : upS S 6 8 = S 8 := rfl; have h8 : S 8 = false := hA 8 ⟨0, rfl⟩; have rs : (Gh.dec (γ := Value) (Rho.set ρ 6 (Gh.enc g) 6)) = g := rfl
    simp only [ui, hS, u8, h8, rs, cond_true, cond_false]
    exact pex
   refine dn1 ?_
   refine D3 (T0 := 27) (f := 0) (vs := fun ρ => [vs, v16, .slice none 0 0]) (v := fun ρ => (Gh.dec (γ := Value) (ρ 6))) (fun ρ => b5) Try.sizeOf23 (fun _ => rfl) (fun _ => rfl) (fun ρ S R w L9 hB hd hs => by have h6 : S 6 = true := hB 6 ⟨9, rfl⟩; simp only [h6, cond_true] at hs; exact Bm pkk hs) (fun _ => rfl) (fun ρ g S hS hB hA => ?_) ?_
   ·have ui : upS S 8 8 = true := rfl; have u6 : upS S 8 6 = S 6 := rfl; have r6 : Rho.set ρ 8 g 6 = ρ 6 := rfl
    simp only [ui, hS, u6, r6, cond_true, cond_false]
    exact pex
   refine dnl ?_; intro ρ
   refine xq_ (blk b5 27 [(Gh.dec (γ := Value) (ρ 6)), v16, .slice none 0 0] :: row 55 (Gh.dec (γ := Value) (ρ 6)) ((List.replicate k (Dw c.lines)) ++ [(Dw c.lines)]) :: blk b2 27 [.slice none 0 0, .slice none 0 0, .slice none 0 0] :: blk b1 34 c.cells :: L) ?_
   generalize (Gh.dec (γ := Value) (ρ 4)) = v26
   generalize (Gh.dec (γ := Value) (ρ 5)) = v27
   generalize (Gh.dec (γ := Value) (ρ 6)) = v28
   refine ZD ?_
   refine A7 (k + 1, v28) (by show ((k + 1 : Nat) : Int) ≤ c.cores; omega) (by show c.cores.toNat - (k + 1) < c.cores.toNat - k; omega) alT (fun w hs => ?_)
   try simp only
   rw [T9]; exact Ae hs
  ·intro ht21
   refine Gl ?_
   refine JC.know (p := vs.oneCell' = true) (fun w hs => Bm .hd hs) (fun hones => ?_)
   refine JC.shut (v := vs) .hd ?_
   refine ZaG ?_
   refine ZC ?_
   refine s_B (cs := [vs, v16, .slice none 0 0]) Try.sizeOf27 ?_
   refine Ga1 ?_
   have er : A2 c = (⟨List.replicate k (Dw c.lines), M0 c.cores c.lines, []⟩, 0) := by unfold A2; rw [if_neg ht9, show c.cores.toNat = k by omega]
   rw [er]
   exact O6 (vs, v16) Try.isAgg27 Try.sizeOf27
theorem Akv {b : Nat} {cv hv fv : Value} {x : Chip} (hs : St (row 55 cv x.cores :: blk b 27 [cv, hv, fv] :: L) R w) (hhv : sl hv x.home ∈ R) : Calls Try.prog 55 [bp b 0].toArray w (Cd (fun _ : Unit => .agg (Aq x).cells.toArray) (fun _ => row 55 cv x.cores :: blk b 27 [cv, hv, fv] :: L) (fun _ => R)) := by
 refine Ah Try.func55 rfl Try.ntmps55 rfl hs ?_
 clear hs
 refine Gm ?_
 refine al_ (cs := zConfig.cells) Try.zeroValue34 ?_; intro b2
 refine Gl ?_
 refine cq_ (blk b2 34 zConfig.cells :: row 55 cv x.cores :: blk b 27 [cv, hv, fv] :: L) ?_
 refine jd_ (fun ρ S => blk b2 34 (bif S 11 then [vi (x.cores.length : Int), vi (x.home.length : Int)] else zConfig.cells) :: row 55 cv x.cores :: blk b 27 [cv, hv, fv] :: L) ?_
 refine Zc5 ?_;intro ρ
 refine xq_ (blk b2 34 [vi (x.cores.length : Int), vi (x.home.length : Int)] :: row 55 cv x.cores :: blk b 27 [cv, hv, fv] :: L) ?_
 refine Gl ?_
 exact Wg () Try.isAgg34 Try.sizeOf34
theorem Aey {b : Nat} {cv hv fv : Value} {x : Chip} (hs : St (blk b 27 [cv, hv, fv] :: L) R w) (hcv : sl cv x.cores ∈ R) (hhv : sl hv x.home ∈ R) : Calls Try.prog 55 [bp b 0].toArray w (Cd (fun _ : Unit => .agg (Aq x).cells.toArray) (fun _ => blk b 27 [cv, hv, fv] :: L) (fun _ => R)) := by
 refine Ah Try.func55 rfl Try.ntmps55 rfl hs ?_
 clear hs
 refine Gm ?_
 refine al_ (cs := zConfig.cells) Try.zeroValue34 ?_; intro b2
 refine Gl ?_
 refine cq_ (blk b2 34 zConfig.cells :: blk b 27 [cv, hv, fv] :: L) ?_
 refine jd_ (fun ρ S => blk b2 34 (bif S 11 then [vi (x.cores.length : Int), vi (x.home.length : Int)] else zConfig.cells) :: blk b 27 [cv, hv, fv] :: L) ?_
 refine Zc5 ?_;intro ρ
 refine xq_ (blk b2 34 [vi (x.cores.length : Int), vi (x.home.length : Int)] :: blk b 27 [cv, hv, fv] :: L) ?_
 refine Gl ?_
 exact Wg () Try.isAgg34 Try.sizeOf34
theorem Kh {b : Nat} {cv hv fv vm : Value} {fs : Frames} {ms : List Msg} (hs : St (blk b 27 [cv, hv, fv] :: L) R w) (hfv : sl fv fs ∈ R) (hvm : sl vm ms ∈ R) (hmi : ∀ a ∈ ms, MsgIn a) : Calls Try.prog 37 [bp b 0, vm].toArray w (Cd (fun v : Value => .tuple #[]) (fun v => blk b 27 [cv, hv, v] :: L) (fun v => sl v (way fs ms) :: R)) := by
 have hlen := Bx hvm hs
 refine Ah Try.func37 rfl Try.ntmps37 rfl hs ?_
 clear hs
 refine Zac ?_
 refine Bs (γ := Nat × Value) (fun g => g.1 ≤ ms.length) (fun g => blk b 27 [cv, hv, g.2] :: L) (fun g => sl g.2 (way fs (ms.take g.1)) :: R) (fun g => [(0, bp b 0), (6, vm), (7, vi (ms.length : Int)), (8, vi (g.1 : Int))]) (fun g => ms.length - g.1) (0, fv) (Nat.zero_le _) alT (fun w hs => hs.sub .refl (fun f hf => by rcases List.mem_cons.1 hf with e | e; rw [e]; exact hfv; exact e)) ?_
 rintro ⟨k, gv⟩ hk
 try simp only at hk ⊢
 refine ZB ?_
 refine cdy ?_ ?_
 ·intro ht9
  refine Gl ?_
  refine JC.open0 (xs := ms) (v := vm) k mm (by omega) (fun hmw => ?_)
  have hkm : (ms.getD k zMsg) ∈ ms := by rw [List.getD_eq_getElem?_getD, List.getElem?_eq_getElem (by omega)]; exact List.getElem_mem _
  refine ZA ?_
  refine al_ (cs := zMsg.cells) Try.zeroValue115 ?_; intro b5
  refine s_B (cs := (ms.getD k zMsg).cells) Try.sizeOf115 ?_
  refine Gl ?_
  refine cq_ (blk b 27 [cv, hv, gv] :: blk b5 115 (ms.getD k zMsg).cells :: L) ?_
  refine jd_ (fun ρ S => blk b 27 (bif S 10 then [cv, hv, (Gh.dec (γ := Value) (ρ 7))] else [cv, hv, gv]) :: blk b5 115 (ms.getD k zMsg).cells :: L) ?_
  refine dn4 ?_
  refine Jr (v := gv) (fun ρ S hS hB hA => by have h10 : S 10 = false := hA 10 ⟨0, rfl⟩; simp only [h10, cond_false]; exact D8 (hc := Bt pkk (by repeat (first | exact rfl | refine Da rfl ?_))) Try.isAgg25) (fun _ _ _ _ _ => rfl) ?_
  refine dn1 ?_
  refine G8 (γ := Value) (val := fun v => v) (F := fun v => [sl v (msgBytes (ms.getD k zMsg))]) Try.call52 (fun _ => rfl) (fun ρ L R w hd hs => Adn hs (hmi _ hkm)) (fun _ _ _ _ _ => rfl) ?_
  refine G8 (γ := Value) (val := fun v => v) (F := fun v => [sl v (Cu (way fs (ms.take k)) (msgBytes (ms.getD k zMsg)))]) Try.call51 (fun _ => rfl) (fun ρ L R w hd hs => frz (Us hs (hd.base mm) (hd.dep (it := ⟨6, _, _, _, _⟩) (by repeat (first | exact List.Mem.head _ | refine List.Mem.tail _ ?_)) ⟨9, rfl⟩ (List.Mem.head _)))) (fun ρ g S hS hA => by have u10 : upS S 7 10 = S 10 := rfl; have h10 : S 10 = false := hA 10 ⟨0, rfl⟩; simp only [u10, h10, cond_false]) ?_
  refine dn2 ?_
  refine D3 (T0 := 27) (f := 2) (vs := fun ρ => [cv, hv, gv]) (v := fun ρ => (Gh.dec (γ := Value) (ρ 7))) (fun ρ => b) Try.sizeOf25 (fun _ => rfl) (fun _ => rfl) (fun ρ S R w L9 hB hd hs => isSlice.one (hs.fact (hd.dep (it := ⟨7, _, _, _, _⟩) (by repeat (first | exact List.Mem.head _ | refine List.Mem.tail _ ?_)) ⟨9, rfl⟩ (List.Mem.head _)))) (fun _ => rfl) (fun ρ g S hS hB hA => ?_) ?_
  ·have ui : upS S 10 10 = true := rfl; have r7 : Rho.set ρ 10 g 7 = ρ 7 := rfl
   simp only [ui, hS, r7, cond_true, cond_false]
   exact pex
  refine dnl ?_; intro ρ
  refine xq_ (blk b 27 [cv, hv, (Gh.dec (γ := Value) (ρ 7))] :: blk b5 115 (ms.getD k zMsg).cells :: L) ?_
  generalize (Gh.dec (γ := Value) (ρ 6)) = v18
  generalize (Gh.dec (γ := Value) (ρ 7)) = v19
  refine ZD ?_
  refine A7 (k + 1, v19) (by show k + 1 ≤ ms.length; omega) (by show ms.length - (k + 1) < ms.length - k; omega) alT (fun w hs => ?_)
  try simp only
  rw [Hu zMsg (by omega), N7]; exact Ae hs
 ·intro ht9
  refine Gl ?_
  have hkl : k = ms.length := by omega
  refine A1 (.inl rfl) (fun B w hs => Gf rfl _ w) (fun w hs => ⟨gv, rfl, by rw [hkl, List.take_length] at hs; exact Ae hs⟩)
def SB (x : Chip) (N : Nat) : Prop := ∀ c ∈ x.cores, ∀ l ∈ c.lines, l.serial ≤ (N : Int)
theorem SB.mono {x : Chip} {N K : Nat} (h : SB x N) (hk : N ≤ K) : SB x K := fun c hc l hl => Int.le_trans (h c hc l hl) (by omega)
theorem SB.set {x : Chip} {N : Nat} {p : Nat} {c : Core} (h : SB x N) (hc : ∀ l ∈ c.lines, l.serial ≤ (N : Int)) {hm : List Entry} {fr : Frames} : SB ⟨x.cores.set p c, hm, fr⟩ N := by
 intro d hd l hl
 rcases List.mem_or_eq_of_mem_set hd with h1 | h1
 ·exact h d h1 l hl
 ·subst h1; exact hc l hl
theorem SB.line {c : Core} {N : Int} (h : ∀ l ∈ c.lines, l.serial ≤ N) (h0 : 0 ≤ N) (i : Int) : (Bo c i).serial ≤ N := by
 unfold Bo
 rw [List.getD_eq_getElem?_getD]
 cases e : c.lines[i.toNat]? with
 | none => exact h0
 | some l => exact h l (List.mem_of_getElem? e)
theorem SB.at {x : Chip} {N : Nat} (h : SB x N) (p : Int) : ∀ l ∈ (Ap x p).lines, l.serial ≤ (N : Int) := by
 unfold Ap
 rw [List.getD_eq_getElem?_getD]
 cases e : x.cores[p.toNat]? with
 | none => intro l hl; cases hl
 | some c => exact h c (List.mem_of_getElem? e)
theorem SB.wl {c : Core} {N K : Int} (h : ∀ l ∈ c.lines, l.serial ≤ N) (hk : N ≤ K) {i : Int} {l : Line} {w : Op} (hl : l.serial ≤ K) : ∀ l' ∈ (Ce c i l w).lines, l'.serial ≤ K := by
 intro l' h'
 rcases List.mem_or_eq_of_mem_set h' with h1 | h1
 ·exact Int.le_trans (h l' h1) hk
 ·subst h1; exact hl
theorem SB.hear {c : Core} {N : Nat} (h : ∀ l ∈ c.lines, l.serial ≤ (N : Int)) {id home : Int} {m : Msg} : ∀ l ∈ (Ac c id home m).1.lines, l.serial ≤ (N : Int) := by
 have h0 := SB.line h (by omega) m.line
 unfold Ac
 split
 ·exact h
 split
 ·refine SB.wl h (Int.le_refl _) ?_
  unfold C4; split <;> (try split) <;> exact h0
 split
 ·split
  ·refine SB.wl h (Int.le_refl _) ?_
   unfold Cv; split <;> (try split) <;> exact h0
  split <;> exact h
 split
 ·split
  ·exact h
  split
  ·exact SB.wl h (Int.le_refl _) h0
  ·exact h
 split
 ·exact SB.wl h (Int.le_refl _) h0
 ·exact h
theorem SB.begin {c : Core} {N : Nat} (h : ∀ l ∈ c.lines, l.serial ≤ (N : Int)) {id home : Int} {o : Op} : ∀ l ∈ (Aj c id home o).1.lines, l.serial ≤ ((N + 1 : Nat) : Int) := by
 have h0 := SB.line h (by omega) o.line
 have h1 : (A8 (Bo c o.line) o).serial ≤ ((N + 1 : Nat) : Int) := by
  unfold A8
  split <;> (try split) <;> (simp only; omega)
 unfold Aj
 split
 ·intro l hl; cases hl
 split
 ·intro l hl; cases hl
 split
 ·intro l hl; cases hl
 split
 ·exact SB.wl h (by omega) h1
 ·exact SB.wl h (by omega) h1
theorem SB.zero {N : Nat} : SB Er N := fun c hc => by cases hc
theorem SB.step {x : Chip} {N : Nat} (h : SB x N) (s : Step) : SB (Ag x s).1 (N + 1) := by
 have hc : ∀ fr b, SB (A6 ⟨x.cores, x.home, fr⟩ b).1 N := by
  intro fr b
  unfold A6
  split
  ·exact h
  split
  ·exact h
  ·exact SB.set h (SB.hear (SB.at h _))
 unfold Ag
 split
 ·split
  ·exact SB.zero
  split
  ·exact SB.zero
  ·exact SB.set (h.mono (by omega)) (SB.begin (SB.at h _))
 split
 ·split
  ·exact SB.zero
  ·exact (hc _ _).mono (by omega)
 split
 ·split
  ·exact SB.zero
  ·exact ZdD
 split
 ·split
  ·exact SB.zero
  ·exact ZdD
 split
 ·split
  ·exact SB.zero
  split
  ·exact SB.zero
  split
  ·exact SB.zero
  ·exact ZdD
 split
 ·split
  ·exact SB.zero
  split
  ·exact ZdD
  ·exact ZdD
 ·exact SB.zero
theorem SB.all : ∀ (l : List Step) {x : Chip} {N : Nat}, SB x N → SB (Bu x l).1 (N + l.length)
 | [], _, _, h => h
 | s :: r, x, N, h => by
  unfold Bu
  split
  ·refine (SB.all r (SB.step h s)).mono ?_
   rw [List.length_cons]; omega
  ·exact (SB.all r h).mono (by rw [List.length_cons]; omega)
theorem SB.build (c : Config) (l : List Step) : SB (build c l).1 300 := by
 unfold Go.Proofs.Ytkgijpngobgfjaa.build
 split
 ·exact SB.zero
 ·rename_i hg
  have h0 : SB (A2 c).1 0 := by
   intro k hk l hl
   unfold A2 at hk
   split at hk
   ·cases hk
   ·have e := List.eq_of_mem_replicate hk
    subst e
    have e2 := List.eq_of_mem_replicate hl
    subst e2
    exact Int.le_refl _
  refine (SB.all (l.take 300) h0).mono ?_
  rw [List.length_take]; omega
def Nr (f : Nat → Bool) : Nat → Bool
 | 0 => true
 | k + 1 => Nr f k && f k
theorem allN_iff {f : Nat → Bool} : ∀ {k : Nat}, Nr f k = true ↔ ∀ i, i < k → f i = true
 | 0 => ⟨fun _ i hi => absurd hi (by omega), fun _ => rfl⟩
 | k + 1 => by
  simp only [Nr, Bool.and_eq_true, allN_iff (k := k)]
  refine ⟨fun h i hi => ?_, fun h => ⟨fun i hi => h i (by omega), h k (by omega)⟩⟩
  by_cases e : i = k
  ·rw [e]; exact h.2
  ·exact h.1 i (by omega)
theorem Tr {f : Nat → Bool} {k i : Nat} (hi : i < k) (h : f i = false) : Nr f k = false := by
 cases e : Nr f k with
 | false => rfl
 | true => rw [allN_iff.1 e i hi] at h; cases h
theorem Nq {f : Nat → Bool} {k : Nat} (h : Nr f k = true) (h2 : f k = true) : Nr f (k + 1) = true := by simp only [Nr, h, h2, Bool.and_self]
structure CX (x : Chip) : Prop where
 n4 : x.cores.length ≤ 4
 h4 : x.home.length ≤ 4
 ln : ∀ p, p < x.cores.length → (cor x p).lines.length = x.home.length
 la : ∀ i, i < x.home.length → (ent x i).last.length = x.cores.length
 ow : ∀ i, i < x.home.length → (ent x i).phase = 1 → 0 ≤ (ent x i).owner ∧ (ent x i).owner < (x.cores.length : Int)
 sh : ∀ i, i < x.home.length → 0 ≤ (ent x i).sharers ∧ (ent x i).sharers < 16
def stN (x : Chip) (i p : Nat) : Int := (lin x i p).state
def ownB (x : Chip) (i p : Nat) : Bool := stN x i p == 2 || (stN x i p == 3 && decide ((ent x i).last.getD p 0 < (lin x i p).serial))
def valN (x : Chip) (i : Nat) : Nat → Option Int
 | 0 => none
 | k + 1 => match valN x i k with
  | some v => some v
  | none => if ownB x i k then some (lin x i k).value else none
def valE (x : Chip) (i : Nat) : Int := if (ent x i).phase = 1 ∧ (lin x i (ent x i).owner.toNat).gave = (ent x i).turn then (lin x i (ent x i).owner.toNat).given else (ent x i).value
def Aep (x : Chip) (i : Nat) : Int := (valN x i x.cores.length).getD (valE x i)
def stale (x : Chip) (i p : Nat) : Bool := stN x i p == 1 && (lin x i p).value != Aep x i
def sameAt (x : Chip) (i : Nat) : Bool := Nr (fun p => !stale x i p) x.cores.length
def I9 (x : Chip) (i : Nat) : Bool := (ent x i).phase == 0
def Hs (x : Chip) (p : Nat) : Bool := (cor x p).wait.kind == 0
def C1 (x : Chip) : Bool := Nr (I9 x) x.home.length && Nr (Hs x) x.cores.length
def F0 (x : Chip) : Bool := Nr (I9 x) x.home.length && (decide (x.frames.length = 0) && Nr (Hs x) x.cores.length)
theorem Tf (x : Chip) : F0 x = (decide (x.frames.length = 0) && C1 x) := by
 unfold F0 C1
 cases Nr (I9 x) x.home.length <;> cases decide (x.frames.length = 0) <;> simp
section
open Abs
variable {n nl : Nat} {x : Chip} {M : List Int}
theorem Inv.cx (h : Inv n nl x M) : CX x := by
 have h1 := h.nc
 have h2 := h.nh
 have h3 := h.n1
 have h4 := h.l1
 refine ⟨by omega, by omega, fun p hp => ?_, fun i hi => ?_, fun i hi h0 => ?_, fun i hi => ?_⟩
 ·rw [h.ncl p (by omega), h2]
 ·rw [h.nla i (by omega), h1]
 ·have hg := h.gi i (by omega)
  have := hg.f1 h0
  have := hg.own
  simp only [ab] at *
  omega
 ·have hb := h.bit i (by omega)
  have := He h3.2 hb.1
  exact this
end
theorem Q0 : ∀ {d : List Done} {M M' : List Int} {i : Int}, Cn M d M' → Fo M i d = (M', -1)
 | [], M, M', i, h => by rw [show M' = M from h]; rfl
 | d :: r, M, M', i, ⟨h1, h2, h3, h4, h5⟩ => by
  have e : Bj M d.op = (M.set d.op.line.toNat (Be (M.getD d.op.line.toNat 0) d.op).1, (Be (M.getD d.op.line.toNat 0) d.op).2, 0) := by
   unfold Bj; rw [if_neg (by omega), if_neg (by omega)]
  have e2 : (Be (M.getD d.op.line.toNat 0) d.op).2 = d.value := by
   rw [h4]; split
   ·rename_i k; unfold Be; rw [if_neg (by omega), if_neg (by omega), if_neg (by omega)]
   ·rfl
  rw [Mn (by rw [e]; simp only; rw [e2]; simp), e]
  exact Q0 h5
section
variable {n nl : Nat} {x : Chip} {M : List Int}
end
theorem Afa (x : Chip) (b : List UInt8) (fs gs : Frames) : (A6 ⟨x.cores, x.home, fs⟩ b).1.cores = (A6 ⟨x.cores, x.home, gs⟩ b).1.cores ∧ (A6 ⟨x.cores, x.home, fs⟩ b).1.home = (A6 ⟨x.cores, x.home, gs⟩ b).1.home ∧ (A6 ⟨x.cores, x.home, fs⟩ b).2 = (A6 ⟨x.cores, x.home, gs⟩ b).2 := by
 unfold A6 Aq Az Cf Ap
 simp only
 repeat' split
 all_goals exact ⟨rfl, rfl, rfl⟩
theorem Aez (x : Chip) (b : List UInt8) : (A6 x b).1.frames = x.frames ∨ ∃ ms, (A6 x b).1.frames = way x.frames ms := by
 unfold A6 Cf
 repeat' split
 ·exact .inl rfl
 ·exact .inr ⟨_, rfl⟩
 ·exact .inr ⟨_, rfl⟩
section
variable {n nl : Nat} {x : Chip} {M : List Int}
def once (x : Chip) (k : Int) : Chip × List Done × Int := Ag x ⟨2, 0, k, 0, zOp⟩
end
theorem Z8 {v u : Value} {cs : List Core} {i : Nat} (c : Core) (hu : sl u c.lines ∈ R) (hw : c.wait.wf) (hs : St (foc 55 v cs i (Core.cells u c) :: L) R w) : St (row 55 v (cs.set i c) :: L) R w := hs.unfocus (fun j hj => ⟨u, rfl, hj _ hu, hw⟩)
theorem Ry {v u : Value} {cs : List Core} {i : Nat} (hu : sl u (cs.getD i Fa).lines ∈ R) (hw : (cs.getD i Fa).wait.wf) (hs : St (foc 55 v cs i (Core.cells u (cs.getD i Fa)) :: L) R w) : St (row 55 v cs :: L) R w := by
 have h := Z8 _ hu hw hs
 rwa [Io] at h
theorem Mc {id : Int} : ∀ (l : List Entry) (i : Int), (∀ k, k < l.length → ∀ a ∈ E9 (l.getD k A5) (i + (k : Int)) id, MsgIn a) → ∀ a ∈ Ci id i l, MsgIn a
 | [], i, h, a, ha => by cases ha
 | e :: r, i, h, a, ha => by
  simp only [Ci, List.mem_append] at ha
  rcases ha with ha | ha
  ·exact h 0 (by simp) a (by simpa using ha)
  ·refine Mc r (i + 1) (fun k hk a ha => h (k + 1) (by simpa using hk) a ?_) a ha
   rw [show i + ((k + 1 : Nat) : Int) = i + 1 + (k : Int) by omega]; exact ha
def Lm (x : Chip) (node : Int) : Int := if node < 0 ∨ Az x < node then 5 else 0
def Ez (x : Chip) (node : Int) : Frames := if node < 0 ∨ Az x < node then x.frames else if node = Az x then way x.frames (Ei x.home node) else way x.frames (Eb (Ap x node) node (Az x))
def Ln (x : Chip) (s : Step) : Frames × Int := if Ef x s.n then ([], 5) else if (Ad (Aq x) (Cg x.frames s.n)).2 ≠ 0 then ([], 6) else By x.frames s.n s.bit
theorem Xj {b : Nat} {cv hv fv : Value} {x : Chip} {node : Int} {n nl : Nat} {M : List Int} (hs : St (row 55 cv x.cores :: blk b 27 [cv, hv, fv] :: L) R w) (hhv : sl hv x.home ∈ R) (hfv : sl fv x.frames ∈ R) (h : Inv n nl x M) : Calls Try.prog 42 [bp b 0, vi node].toArray w (Cd (fun v : Value => vi (Lm x node)) (fun v => row 55 cv x.cores :: blk b 27 [cv, hv, v] :: L) (fun v => sl v (Ez x node) :: R)) := by
 have hnc := h.nc
 have hnh := h.nh
 have hn1 := h.n1
 have hn2 := h.l1
 refine Ah Try.func42 rfl Try.ntmps42 rfl hs ?_
 clear hs
 refine ZB ?_
 rcases (show (node < 0) ∨ (0 ≤ node ∧ (x.cores.length : Int) < node) ∨ (0 ≤ node ∧ node ≤ (x.cores.length : Int)) from by omega) with hc | hc | hc
 ·refine Za2 ?_
  refine Gd10 ?_
  exact Zd5
 ·refine ZR ?_
  refine Za8 ?_
  refine Ft ?_
  refine Gd2 ?_
  exact Zd5
 ·refine ZR ?_
  refine Za8 ?_
  refine De ?_
  refine Gd2 ?_
  refine Ga8 ?_
  refine cdy ?_ ?_
  ·intro ht33
   refine ZaA ?_
   refine Ak Try.call59 rfl (fun w hs => Ws (l := x.home) (id := node) hs mm (fun i hi => (h.ebs i hi).1) (by omega) (by unfold An; omega)) ?_; intro vt
   refine Ak Try.call37 rfl (fun w hs => Kh (cv := cv) (hv := hv) (fv := fv) (fs := x.frames) (ms := Ei x.home node) (Ae (L' := blk b 27 [cv, hv, fv] :: row 55 cv x.cores :: L) hs) mm mm (Mc _ 0 (fun k hk a ha => h.says_in k hk a (by rw [Int.zero_add] at ha; rw [← hnc, ← ht33]; exact ha)))) ?_; intro vs
   refine ZB ?_
   have er : Lm x node = 0 ∧ Ez x node = way x.frames (Ei x.home node) := by unfold Lm Ez Az; rw [if_neg (by omega), if_neg (by omega), if_pos ht33]; exact ⟨rfl, rfl⟩
   rw [er.1, er.2]
   exact Bq vs
  ·intro ht33
   refine JC.focus1 (T := 55) (v := cv) (xs := x.cores) node.toNat pkk (by omega) (fun hwt u => ?_)
   have hkb : KB (Ap x node) := h.kb (p := node.toNat) (by omega)
   have hlb := h.lbs (p := node) (by omega)
   refine Zak ?_
   refine dj ?_
   refine dc (fun _ _ => Ks (v := cv) (i := node) Ya (hl := C3 (α := Core) (xs := x.cores) pkk)) ?_
   refine djc (fun _ _ => Age (cs := Core.cells u (Ap x node)) Try.isAgg55 Try.sizeOf55) ?_
   refine dn5 ?_
   refine djc (fun _ _ => Qy Try.underlying23 rfl (C3 (α := Core) (xs := x.cores) pkk)) ?_
   refine dj ?_
   refine Agp (γ := Value) (val := fun v => v) (F := fun v => [sl v (Eb (Ap x node) node (x.cores.length : Int))]) (C := fun _ => []) Try.call60 (fun _ => rfl) (fun _ _ _ _ => rfl) (fun ρ L R w hd hs => Xd (c := (Ap x node)) (id := node) (home := (x.cores.length : Int)) (u := u) hs (hd.base mm) (by have := hkb.n; omega) (by unfold An; omega) (by unfold An; omega)) ?_
   refine dtl ?_; intro ρ
   have hkn := hkb.n
   generalize (Gh.dec (γ := Value) (ρ 14)) = vt
   refine Ak Try.call37 rfl (fun w hs => Kh (cv := cv) (hv := hv) (fv := fv) (fs := x.frames) (ms := (Eb (Ap x node) node (x.cores.length : Int))) (Ae (L' := blk b 27 [cv, hv, fv] :: foc 55 cv x.cores node.toNat (Core.cells u (Ap x node)) :: L) hs) mm mm (Ty (by omega) (by omega) _ 0 (by omega) (by omega) (Adl (d := zLine) hlb))) ?_; intro vs
   refine Gl ?_
   refine kp [4] ?_
   refine Aa ?_
   refine Ga1 ?_
   have er : Lm x node = 0 ∧ Ez x node = way x.frames (Eb (Ap x node) node (x.cores.length : Int)) := by unfold Lm Ez Az; rw [if_neg (by omega), if_neg (by omega), if_neg ht33]; exact ⟨rfl, rfl⟩
   rw [er.1, er.2]
   exact Bq vs (hs := fun w hs => Ae (Ry mm hwt (hs.pick pkk)))
theorem Xk {b : Nat} {cv hv fv : Value} {x : Chip} {s : Step} (hs : St (blk b 27 [cv, hv, fv] :: L) R w) (hcv : sl cv x.cores ∈ R) (hhv : sl hv x.home ∈ R) (hfv : sl fv x.frames ∈ R) (hsn : s.wf) : Calls Try.prog 41 [bp b 0, .agg s.cells.toArray].toArray w (Cd (fun v : Value => .tuple #[v, vi (Ln x s).2]) (fun v => blk b 27 [cv, hv, fv] :: L) (fun v => sl v (Ln x s).1 :: R)) := by
 refine Ah Try.func41 rfl Try.ntmps41 rfl hs ?_
 clear hs
 refine Gm ?_
 refine bx ?_; intro b3
 refine Ga2 ?_
 rcases (show (Ef x s.n) ∨ (¬ Ef x s.n) from by exact Decidable.em _) with hc | hc
 ·refine ZbW ?_;intro hnt
  refine Zc4 ?_
  refine G8 (γ := Value × Value) (val := fun v => .tuple #[v.1, v.2, vi 5]) (F := fun v => [sl v.1 ([] : Frames), sl v.2 ([] : List UInt8)]) Try.call38 (fun _ => rfl) (fun ρ L R w hd hs => by have h := Is (l := x.frames) (n := s.n) hs (hd.base mm) hsn.2.2.1; rw [hnt] at h; exact frz h) (fun _ _ _ _ _ => rfl) ?_
  refine e_p (v := fun ρ => .tuple #[(Gh.dec (γ := Value × Value) (ρ 6)).1, (Gh.dec (γ := Value × Value) (ρ 6)).2, vi 5]) (fun _ _ => Ug) (Ind.gh (h := fun g => (.tuple #[(Gh.dec (γ := Value × Value) g).1, (Gh.dec (γ := Value × Value) g).2, vi 5] : Value)) 6 0 rfl) (fun _ _ _ _ _ => rfl) ?_
  refine ZbC ?_
  refine K7 (v := vi 5) (fun _ _ => q_x) (fun _ _ _ _ _ => rfl) ?_
  refine ZbD ?_
  refine K7 (v := vi 5) (fun _ _ => Di) (fun _ _ _ _ _ => rfl) ?_
  refine dnl ?_; intro ρ
  refine xq_ (blk b3 38 s.cells :: blk b 27 [cv, hv, fv] :: L) ?_
  generalize (Gh.dec (γ := Value × Value) (ρ 6)) = vq
  refine ZJ ?_
  refine Zbg ?_
  refine ZaG ?_
  refine Aa ?_
  refine Ga3 ?_
  have er : Ln x s = ([], 5) := by unfold Ln; rw [if_pos hc]
  rw [er]
  exact D5 (.slice none 0 0)
 ·refine ZbO ?_;intro hnt
  refine Zc4 ?_
  refine G8 (γ := Value × Value) (val := fun v => .tuple #[v.1, v.2, vi 0]) (F := fun v => [sl v.1 (x.frames.eraseIdx s.n.toNat), sl v.2 (Cg x.frames s.n)]) Try.call38 (fun _ => rfl) (fun ρ L R w hd hs => by have h := Is (l := x.frames) (n := s.n) hs (hd.base mm) hsn.2.2.1; rw [hnt] at h; exact frz h) (fun _ _ _ _ _ => rfl) ?_
  refine e_p (v := fun ρ => .tuple #[(Gh.dec (γ := Value × Value) (ρ 6)).1, (Gh.dec (γ := Value × Value) (ρ 6)).2, vi 0]) (fun _ _ => Ug) (Ind.gh (h := fun g => (.tuple #[(Gh.dec (γ := Value × Value) g).1, (Gh.dec (γ := Value × Value) g).2, vi 0] : Value)) 6 0 rfl) (fun _ _ _ _ _ => rfl) ?_
  refine ZbC ?_
  refine K7 (v := vi 0) (fun _ _ => q_x) (fun _ _ _ _ _ => rfl) ?_
  refine ZbD ?_
  refine K7 (v := vi 0) (fun _ _ => Di) (fun _ _ _ _ _ => rfl) ?_
  refine dnl ?_; intro ρ
  refine xq_ (blk b3 38 s.cells :: blk b 27 [cv, hv, fv] :: L) ?_
  generalize (Gh.dec (γ := Value × Value) (ρ 6)) = vq
  refine ZJ ?_
  refine Zaj ?_
  refine Za1 ?_
  refine Ak Try.call55 rfl (fun w hs => Aey (x := x) (cv := cv) (hv := hv) (fv := fv) (Ae (L' := blk b 27 [cv, hv, fv] :: blk b3 38 s.cells :: L) hs) mm mm) ?_; intro _
  refine rn1 ?_
  refine Ak Try.call54 rfl (fun w hs => Vc (c := Aq x) (b := Cg x.frames s.n) hs mm) ?_; intro _
  refine rn3 ?_
  refine al_ (cs := zMsg.cells) Try.zeroValue115 ?_; intro b9
  refine s_B (cs := (Ad (Aq x) (Cg x.frames s.n)).1.cells) Try.sizeOf115 ?_
  refine ZH ?_
  refine cdy ?_ ?_
  ·intro ht33
   refine Gl ?_
   refine ZaG ?_
   refine kp [0, 3, 4, 5] ?_
   refine Zaq ?_
   have er : Ln x s = ([], 6) := by unfold Ln; rw [if_neg hc, if_pos ht33]
   rw [er]
   exact D5 (.slice none 0 0)
  ·intro ht33
   refine Gl ?_
   refine kp [0, 3, 4, 5, 34, 35, 36, 37, 38, 39, 40, 41, 42, 43, 44] ?_
   refine cq_ (blk b9 115 (Ad (Aq x) (Cg x.frames s.n)).1.cells :: blk b3 38 s.cells :: blk b 27 [cv, hv, fv] :: L) ?_
   refine jd_ (fun ρ S => blk b9 115 (Ad (Aq x) (Cg x.frames s.n)).1.cells :: blk b3 38 s.cells :: blk b 27 [cv, hv, fv] :: L) ?_
   refine dn8 ?_
   refine G8 (γ := Value) (val := fun v => .tuple #[v, vi (By x.frames s.n s.bit).2]) (F := fun v => [sl v (By x.frames s.n s.bit).1]) Try.call58 (fun _ => rfl) (fun ρ L R w hd hs => frz (Ys (l := x.frames) (n := s.n) (bit := s.bit) hs (hd.base mm) hsn.2.2.1 hsn.2.2.2.1)) (fun _ _ _ _ _ => rfl) ?_
   refine e_p (v := fun ρ => (Gh.dec (γ := Value) (ρ 8))) (fun _ _ => q_x) (Ind.gh (h := fun g => ((Gh.dec (γ := Value) g) : Value)) 8 0 rfl) (fun _ _ _ _ _ => rfl) ?_
   refine K7 (v := vi (By x.frames s.n s.bit).2) (fun _ _ => q_x) (fun _ _ _ _ _ => rfl) ?_
   refine epg 8 0 ?_
   refine K7 (v := vi (By x.frames s.n s.bit).2) (fun _ _ => Di) (fun _ _ _ _ _ => rfl) ?_
   refine dnl ?_; intro ρ
   refine xq_ (blk b9 115 (Ad (Aq x) (Cg x.frames s.n)).1.cells :: blk b3 38 s.cells :: blk b 27 [cv, hv, fv] :: L) ?_
   generalize (Gh.dec (γ := Value) (ρ 8)) = vz
   refine Gl ?_
   have er : Ln x s = (By x.frames s.n s.bit) := by unfold Ln; rw [if_neg hc, if_neg ht33]
   rw [er]
   exact D5 vz
theorem fs_A {a b p : Fact} {R : List Fact} (ha : a ∈ R) (hb : b ∈ R) : ∀ f ∈ a :: b :: p :: R, f ∈ p :: R := fun f hf => by
 simp only [List.mem_cons] at hf ⊢
 rcases hf with e | e | e | e
 ·rw [e]; exact .inr ha
 ·rw [e]; exact .inr hb
 ·exact .inl e
 ·exact .inr e
theorem fs_B {a p q : Fact} {R : List Fact} (ha : a ∈ R) : ∀ f ∈ a :: p :: q :: R, f ∈ p :: q :: R := fun f hf => by
 simp only [List.mem_cons] at hf ⊢
 rcases hf with e | e | e | e
 ·rw [e]; exact .inr (.inr ha)
 ·exact .inl e
 ·exact .inr (.inl e)
 ·exact .inr (.inr e)
theorem Aal {b : Nat} {cv hv fv : Value} {x : Chip} {vb : Value} {bt : List UInt8} {n nl : Nat} {M : List Int} (hs : St (row 55 cv x.cores :: blk b 27 [cv, hv, fv] :: L) R w) (hhv : sl hv x.home ∈ R) (hfv : sl fv x.frames ∈ R) (hvb : sl vb bt ∈ R) (h : Inv n nl x M) : Calls Try.prog 39 [bp b 0, vb].toArray w (Cd (fun g : Value × Value × Value => g.2.2) (fun g => row 55 cv (A6 x bt).1.cores :: blk b 27 [cv, g.1, g.2.1] :: L) (fun g => sl g.1 (A6 x bt).1.home :: sl g.2.1 (A6 x bt).1.frames :: sl g.2.2 (A6 x bt).2 :: R)) := by
 have hnc := h.nc
 have hnh := h.nh
 have hn1 := h.n1
 have hn2 := h.l1
 have honec : cv.oneCell' = true := Bm .hd hs
 have honeh : hv.oneCell' = true := isSlice.one (hs.fact hhv)
 have honef : fv.oneCell' = true := isSlice.one (hs.fact hfv)
 have hn64 : An (x.cores.length : Int) := by unfold An; omega
 refine Ah Try.func39 rfl Try.ntmps39 rfl hs ?_
 clear hs
 refine Zam ?_
 refine Ak Try.call55 rfl (fun w hs => Akv (x := x) (cv := cv) (hv := hv) (fv := fv) hs mm) ?_; intro _
 refine rn1 ?_
 refine Ak Try.call54 rfl (fun w hs => Vc (c := Aq x) (b := bt) hs mm) ?_; intro _
 refine rn3 ?_
 refine al_ (cs := zMsg.cells) Try.zeroValue115 ?_; intro b5
 refine s_B (cs := (Ad (Aq x) bt).1.cells) Try.sizeOf115 ?_
 refine ZH ?_
 refine cdy ?_ ?_
 ·intro ht21
  refine Gl ?_
  refine Zaa ?_
  refine Aa ?_
  refine Ga1 ?_
  have er : A6 x bt = (x, []) := by unfold A6; rw [if_pos ht21]
  rw [er]
  exact Bq (hv, fv, .slice none 0 0) (hs := fun w hs => (Ae hs : St _ (sl (.slice none 0 0) ([] : List Done) :: R) w).sub .refl (fs_A hhv hfv))
 ·intro ht21
  refine Gl ?_
  have hp0 : (Ad (Aq x) bt).2 = 0 := Decidable.not_not.1 ht21
  have hpk := El (c := Aq x) (b := bt) (m := (Ad (Aq x) bt).1) (by rw [← hp0])
  have hwk := Ec hpk.2.2.2.2.1
  have hpw : (Ad (Aq x) bt).1.wf := by rw [hpk.2.2.2.2.2]; exact Acm _
  have ecn : (Aq x).cores = (x.cores.length : Int) := rfl
  rw [ecn] at hwk
  refine Aa ?_
  refine Gb6 ?_
  refine Ga4 ?_
  refine cdy ?_ ?_
  ·intro ht30
   refine Gl ?_
   refine cq_ (blk b5 115 (Ad (Aq x) bt).1.cells :: row 55 cv x.cores :: blk b 27 [cv, hv, fv] :: L) ?_
   refine jd_ (fun ρ S => blk b5 115 (Ad (Aq x) bt).1.cells :: row 55 cv x.cores :: blk b 27 [cv, hv, fv] :: L) ?_
   refine dn6 ?_
   refine G8 (γ := Value × Value) (val := fun v => .tuple #[v.1, v.2]) (F := fun v => [sl v.1 (Am x.home (x.cores.length : Int) (Ad (Aq x) bt).1).1, sl v.2 (Am x.home (x.cores.length : Int) (Ad (Aq x) bt).1).2]) Try.call56 (fun _ => rfl) (fun ρ L R w hd hs => Rh (l := x.home) (id := (x.cores.length : Int)) (m := (Ad (Aq x) bt).1) hs (hd.base mm) (fun i hi => (h.ebs i hi).1) (fun i hi => (h.ebs i hi).2.2.2.2) hpw hn64) (fun _ _ _ _ _ => rfl) ?_
   refine e_p (v := fun ρ => .tuple #[(Gh.dec (γ := Value × Value) (ρ 6)).1, (Gh.dec (γ := Value × Value) (ρ 6)).2]) (fun _ _ => Ug) (Ind.gh (h := fun g => (.tuple #[(Gh.dec (γ := Value × Value) g).1, (Gh.dec (γ := Value × Value) g).2] : Value)) 6 0 rfl) (fun _ _ _ _ _ => rfl) ?_
   refine ZbC ?_
   refine ZbD ?_
   refine dnl ?_; intro ρ
   refine xq_ (blk b5 115 (Ad (Aq x) bt).1.cells :: row 55 cv x.cores :: blk b 27 [cv, hv, fv] :: L) ?_
   generalize (Gh.dec (γ := Value × Value) (ρ 6)) = vh
   refine Gl ?_
   refine JC.know (p := vh.1.oneCell' = true) (fun w hs => isSlice.one (hs.fact (mm (f := sl vh.1 (Am x.home (x.cores.length : Int) (Ad (Aq x) bt).1).1)))) (fun honeh1 => ?_)
   refine kp [0, 4, 5, 7, 8, 9, 41, 42, 43, 44] ?_
   refine ZI ?_
   refine sc ?_
   refine ZK ?_
   refine Ak Try.call37 rfl (fun w hs => Kh (cv := cv) (hv := vh.1) (fv := fv) (fs := x.frames) (ms := (Am x.home (x.cores.length : Int) (Ad (Aq x) bt).1).2) (Ae (L' := blk b 27 [cv, vh.1, fv] :: row 55 cv x.cores :: L) hs) mm mm (S7 (by omega) (by omega) h.ebs hwk.2.2.2.1 hwk.2.2.2.2.2.1)) ?_; intro vs
   refine Gl ?_
   refine Zaa ?_
   refine Aa ?_
   refine Ga1 ?_
   have er : A6 x bt = (⟨x.cores, (Am x.home (x.cores.length : Int) (Ad (Aq x) bt).1).1, way x.frames (Am x.home (x.cores.length : Int) (Ad (Aq x) bt).1).2⟩, []) := by unfold A6 Az; rw [if_neg ht21, if_pos ht30]
   rw [er]
   exact Bq (vh.1, vs, .slice none 0 0)
  ·intro ht30
   refine Gl ?_
   refine JC.focus1 (T := 55) (v := cv) (xs := x.cores) (Ad (Aq x) bt).1.dst.toNat pkk (by omega) (fun hwt u => ?_)
   have hkb : KB (Ap x (Ad (Aq x) bt).1.dst) := h.kb (p := (Ad (Aq x) bt).1.dst.toNat) (by omega)
   have hlb := h.lbs (p := (Ad (Aq x) bt).1.dst) (by omega)
   have hk4 := hkb.n
   have hpd64 : An (Ad (Aq x) bt).1.dst := by unfold An; omega
   refine cq_ (foc 55 cv x.cores (Ad (Aq x) bt).1.dst.toNat (Core.cells u (Ap x (Ad (Aq x) bt).1.dst)) :: blk b5 115 (Ad (Aq x) bt).1.cells :: blk b 27 [cv, hv, fv] :: L) ?_
   refine jd_ (fun ρ S => foc 55 cv x.cores (Ad (Aq x) bt).1.dst.toNat (Core.cells u (Ap x (Ad (Aq x) bt).1.dst)) :: blk b5 115 (Ad (Aq x) bt).1.cells :: blk b 27 [cv, hv, fv] :: ((bif S 17 then [blk (Gh.dec (γ := Nat) (ρ 17)) 55 (bif S 18 then [(Gh.dec (γ := Value × Value × Value) (ρ 12)).1, vi (Ac (Ap x (Ad (Aq x) bt).1.dst) (Ad (Aq x) bt).1.dst (x.cores.length : Int) (Ad (Aq x) bt).1).1.wait.kind, vi (Ac (Ap x (Ad (Aq x) bt).1.dst) (Ad (Aq x) bt).1.dst (x.cores.length : Int) (Ad (Aq x) bt).1).1.wait.line, vi (Ac (Ap x (Ad (Aq x) bt).1.dst) (Ad (Aq x) bt).1.dst (x.cores.length : Int) (Ad (Aq x) bt).1).1.wait.value] else [.slice none 0 0, vi 0, vi 0, vi 0])] else []) ++ (L))) ?_
   refine dn6 ?_
   refine epc (fun _ _ => Ks (v := cv) (i := (Ad (Aq x) bt).1.dst) Ya (hl := C3 (α := Core) (xs := x.cores) pkk)) ?_
   refine epc (fun _ _ => Age (cs := Core.cells u (Ap x (Ad (Aq x) bt).1.dst)) Try.isAgg55 Try.sizeOf55) ?_
   refine dn4 ?_
   refine G8 (γ := Value × Value × Value) (val := fun v => .tuple #[.agg (Core.cells v.1 (Ac (Ap x (Ad (Aq x) bt).1.dst) (Ad (Aq x) bt).1.dst (x.cores.length : Int) (Ad (Aq x) bt).1).1).toArray, v.2.1, v.2.2]) (F := fun v => [sl v.1 (Ac (Ap x (Ad (Aq x) bt).1.dst) (Ad (Aq x) bt).1.dst (x.cores.length : Int) (Ad (Aq x) bt).1).1.lines, sl v.2.1 (Ac (Ap x (Ad (Aq x) bt).1.dst) (Ad (Aq x) bt).1.dst (x.cores.length : Int) (Ad (Aq x) bt).1).2.1, sl v.2.2 (Ac (Ap x (Ad (Aq x) bt).1.dst) (Ad (Aq x) bt).1.dst (x.cores.length : Int) (Ad (Aq x) bt).1).2.2]) Try.call57 (fun _ => rfl) (fun ρ L R w hd hs => Aab (c := (Ap x (Ad (Aq x) bt).1.dst)) (id := (Ad (Aq x) bt).1.dst) (home := (x.cores.length : Int)) (m := (Ad (Aq x) bt).1) (u := u) hs (hd.base mm) hkb.kh hpd64 hn64 hpw) (fun ρ g S hS hA => by have u17 : upS S 12 17 = S 17 := rfl; have u18 : upS S 12 18 = S 18 := rfl; have r17 : Rho.set ρ 12 g 17 = ρ 17 := rfl; have h18 : S 18 = false := hA 18 ⟨0, rfl⟩; simp only [u17, u18, r17, h18, cond_false]) ?_
   refine e_p (v := fun ρ => .tuple #[.agg (Core.cells (Gh.dec (γ := Value × Value × Value) (ρ 12)).1 (Ac (Ap x (Ad (Aq x) bt).1.dst) (Ad (Aq x) bt).1.dst (x.cores.length : Int) (Ad (Aq x) bt).1).1).toArray, (Gh.dec (γ := Value × Value × Value) (ρ 12)).2.1, (Gh.dec (γ := Value × Value × Value) (ρ 12)).2.2]) (fun _ _ => Ug) (Ind.gh (h := fun g => (.tuple #[.agg (Core.cells (Gh.dec (γ := Value × Value × Value) g).1 (Ac (Ap x (Ad (Aq x) bt).1.dst) (Ad (Aq x) bt).1.dst (x.cores.length : Int) (Ad (Aq x) bt).1).1).toArray, (Gh.dec (γ := Value × Value × Value) g).2.1, (Gh.dec (γ := Value × Value × Value) g).2.2] : Value)) 12 0 rfl) (fun _ _ _ _ _ => rfl) ?_
   refine e_p (v := fun ρ => .agg (Core.cells (Gh.dec (γ := Value × Value × Value) (ρ 12)).1 (Ac (Ap x (Ad (Aq x) bt).1.dst) (Ad (Aq x) bt).1.dst (x.cores.length : Int) (Ad (Aq x) bt).1).1).toArray) (fun _ _ => q_x) (Ind.gh (h := fun g => (.agg (Core.cells (Gh.dec (γ := Value × Value × Value) g).1 (Ac (Ap x (Ad (Aq x) bt).1.dst) (Ad (Aq x) bt).1.dst (x.cores.length : Int) (Ad (Aq x) bt).1).1).toArray : Value)) 12 1 rfl) (fun _ _ _ _ _ => rfl) ?_
   refine e_p (v := fun ρ => (Gh.dec (γ := Value × Value × Value) (ρ 12)).2.1) (fun _ _ => q_x) (Ind.gh (h := fun g => ((Gh.dec (γ := Value × Value × Value) g).2.1 : Value)) 12 1 rfl) (fun _ _ _ _ _ => rfl) ?_
   refine e_p (v := fun ρ => (Gh.dec (γ := Value × Value × Value) (ρ 12)).2.2) (fun _ _ => q_x) (Ind.gh (h := fun g => ((Gh.dec (γ := Value × Value × Value) g).2.2 : Value)) 12 1 rfl) (fun _ _ _ _ _ => rfl) ?_
   refine Ng (cs := [.slice none 0 0, vi 0, vi 0, vi 0]) Try.zeroValue55 rfl (fun ρ b S hS hA => ?_) ?_
   ·have ui : upS S 17 17 = true := rfl; have u18 : upS S 17 18 = S 18 := rfl; have r12 : Rho.set ρ 17 (Gh.enc b) 12 = ρ 12 := rfl; have h18 : S 18 = false := hA 18 ⟨0, rfl⟩; have rs : (Gh.dec (γ := Nat) (Rho.set ρ 17 (Gh.enc b) 17)) = b := rfl
    simp only [ui, hS, u18, r12, h18, rs, cond_true, cond_false, List.nil_append]
    exact Zdk
   refine es_ 55 0 [17] [] (fun ρ => (Gh.dec (γ := Nat) (ρ 17))) (fun ρ => [.slice none 0 0, vi 0, vi 0, vi 0]) (fun ρ => [(Gh.dec (γ := Value × Value × Value) (ρ 12)).1, vi (Ac (Ap x (Ad (Aq x) bt).1.dst) (Ad (Aq x) bt).1.dst (x.cores.length : Int) (Ad (Aq x) bt).1).1.wait.kind, vi (Ac (Ap x (Ad (Aq x) bt).1.dst) (Ad (Aq x) bt).1.dst (x.cores.length : Int) (Ad (Aq x) bt).1).1.wait.line, vi (Ac (Ap x (Ad (Aq x) bt).1.dst) (Ad (Aq x) bt).1.dst (x.cores.length : Int) (Ad (Aq x) bt).1).1.wait.value]) Try.sizeOf55 (h1 := (fun ρ R w L' hd hs => Dl (isSlice.one (hs.fact (hd.dep (it := ⟨12, _, _, _, _⟩) (by repeat (first | exact List.Mem.head _ | refine List.Mem.tail _ ?_)) ⟨9, rfl⟩ (List.Mem.head _)))) (by repeat (first | exact H1 | refine Dl rfl ?_)))) ?_
   refine e_p (v := fun ρ => (Gh.dec (γ := Value × Value × Value) (ρ 12)).2.1) (fun _ _ => Di) (Ind.gh (h := fun g => ((Gh.dec (γ := Value × Value × Value) g).2.1 : Value)) 12 0 rfl) (fun _ _ _ _ _ => rfl) ?_
   refine e_p (v := fun ρ => (Gh.dec (γ := Value × Value × Value) (ρ 12)).2.2) (fun _ _ => Di) (Ind.gh (h := fun g => ((Gh.dec (γ := Value × Value × Value) g).2.2 : Value)) 12 0 rfl) (fun _ _ _ _ _ => rfl) ?_
   refine dnl ?_; intro ρ
   refine xq_ (foc 55 cv x.cores (Ad (Aq x) bt).1.dst.toNat (Core.cells u (Ap x (Ad (Aq x) bt).1.dst)) :: blk b5 115 (Ad (Aq x) bt).1.cells :: blk b 27 [cv, hv, fv] :: (blk (Gh.dec (γ := Nat) (ρ 17)) 55 [(Gh.dec (γ := Value × Value × Value) (ρ 12)).1, vi (Ac (Ap x (Ad (Aq x) bt).1.dst) (Ad (Aq x) bt).1.dst (x.cores.length : Int) (Ad (Aq x) bt).1).1.wait.kind, vi (Ac (Ap x (Ad (Aq x) bt).1.dst) (Ad (Aq x) bt).1.dst (x.cores.length : Int) (Ad (Aq x) bt).1).1.wait.line, vi (Ac (Ap x (Ad (Aq x) bt).1.dst) (Ad (Aq x) bt).1.dst (x.cores.length : Int) (Ad (Aq x) bt).1).1.wait.value] :: L)) ?_
   generalize (Gh.dec (γ := Value × Value × Value) (ρ 12)) = vk
   generalize (Gh.dec (γ := Nat) (ρ 17)) = b10
   refine Gl ?_
   refine JC.conseq (L' := row 55 cv x.cores :: blk b10 55 (Core.cells vk.1 (Ac (Ap x (Ad (Aq x) bt).1.dst) (Ad (Aq x) bt).1.dst (x.cores.length : Int) (Ad (Aq x) bt).1).1) :: blk b5 115 (Ad (Aq x) bt).1.cells :: blk b 27 [cv, hv, fv] :: L) (fun w hs => Ae (Ry mm hwt (hs.pick pkk))) ?_
   refine kp [0, 4, 5, 10, 11, 12, 65, 66, 67, 68, 69, 70, 71, 72] ?_
   refine ZU ?_
   refine dtl ?_; intro ρ
   refine s_W (α := Core) (Ac (Ap x (Ad (Aq x) bt).1.dst) (Ad (Aq x) bt).1.dst (x.cores.length : Int) (Ad (Aq x) bt).1).1 Try.sizeOf55 rfl rfl rfl pkk (by omega) (Agc mm (Zd hkb.wwf)) ?_
   refine ZK ?_
   refine Ak Try.call37 rfl (fun w hs => Kh (cv := cv) (hv := hv) (fv := fv) (fs := x.frames) (ms := (Ac (Ap x (Ad (Aq x) bt).1.dst) (Ad (Aq x) bt).1.dst (x.cores.length : Int) (Ad (Aq x) bt).1).2.1) (Ae (L' := blk b 27 [cv, hv, fv] :: row 55 cv (x.cores.set (Ad (Aq x) bt).1.dst.toNat (Ac (Ap x (Ad (Aq x) bt).1.dst) (Ad (Aq x) bt).1.dst (x.cores.length : Int) (Ad (Aq x) bt).1).1) :: L) hs) mm mm (Aiu (by omega) (by omega) hk4 hlb hwk.2.2.2.2.1)) ?_; intro vs
   refine ZD ?_
   have er : A6 x bt = (Cf x (Ad (Aq x) bt).1.dst (Ac (Ap x (Ad (Aq x) bt).1.dst) (Ad (Aq x) bt).1.dst (x.cores.length : Int) (Ad (Aq x) bt).1).1 (Ac (Ap x (Ad (Aq x) bt).1.dst) (Ad (Aq x) bt).1.dst (x.cores.length : Int) (Ad (Aq x) bt).1).2.1, (Ac (Ap x (Ad (Aq x) bt).1.dst) (Ad (Aq x) bt).1.dst (x.cores.length : Int) (Ad (Aq x) bt).1).2.2) := by unfold A6 Az; rw [if_neg ht21, if_neg ht30]
   rw [er]
   exact Bq (hv, vs, vk.2.2) (hs := fun w hs => (Ae hs : St _ (sl vs (way x.frames (Ac (Ap x (Ad (Aq x) bt).1.dst) (Ad (Aq x) bt).1.dst (x.cores.length : Int) (Ad (Aq x) bt).1).2.1) :: sl vk.2.2 (Ac (Ap x (Ad (Aq x) bt).1.dst) (Ad (Aq x) bt).1.dst (x.cores.length : Int) (Ad (Aq x) bt).1).2.2 :: R) w).sub .refl (fs_B hhv))
theorem kv_row {v : Value} {ks : List KV} {cs : List Core} (h : ks.map KV.c = cs) (hs : St (row 55 v ks :: (ks.map Abh ++ L)) R w) : St (row 55 v cs :: L) R w := by
 subst h
 have h1 : St (ks.map Abh ++ (row 55 v ks :: L)) R w := hs.perm List.perm_middle.symm
 have h2 := Q9 ks h1
 have h3 := Wd (fun x hx => List.mem_append.2 (.inl (List.mem_map.2 ⟨x, hx, rfl⟩))) h2
 exact h3.sub .refl (fun f hf => List.mem_append.2 (.inr hf))
theorem Hq {cv hv fv : Value} {x : Chip} (hs : St L R w) (hcv : sl cv x.cores ∈ R) (hhv : sl hv x.home ∈ R) (hfv : sl fv x.frames ∈ R) (hn4 : x.cores.length ≤ 1000) : Calls Try.prog 35 [.agg #[cv, hv, fv]].toArray w (Cd (fun g : Value × Value × Value => .agg #[g.1, g.2.1, g.2.2]) (fun g => row 55 g.1 x.cores :: L) (fun g => sl g.2.2 x.frames :: sl g.2.1 x.home :: R)) :=
 Ix (Aku hs hcv hhv hfv hn4) (fun g w' hs' => ⟨(g.1, g.2.1, g.2.2.1), rfl, by
  have h1 := G0 (.head _) hs'
  exact (kv_row h1 hs').sub .refl (fun f hf => .tail _ hf)⟩)
theorem Acy {n nl : Nat} {x : Chip} {M : List Int} (h : Inv n nl x M) (i : Nat) : Inv n nl ⟨x.cores, x.home, x.frames.eraseIdx i⟩ M :=
 ⟨h.n1, h.l1, h.nc, h.nh, h.ncl, h.nla, h.ml, h.mv, h.bit, h.gi, h.ci, h.cw, by have := h.fr; have := List.length_eraseIdx_le x.frames i; simp only; omega, fun b hb => h.mi b (List.mem_of_mem_eraseIdx hb)⟩
theorem Aew {cv hv fv : Value} {x : Chip} {s : Step} {n nl : Nat} {M : List Int} (hs : St (L) R w) (hcv : sl cv x.cores ∈ R) (hhv : sl hv x.home ∈ R) (hfv : sl fv x.frames ∈ R) (hsn : s.wf) (h : Inv n nl x M) (hk : s.kind = 1) : Calls Try.prog 23 [.agg #[cv, hv, fv], .agg s.cells.toArray].toArray w (Cd (fun v : Value × Value × Value × Value => .tuple #[.agg #[v.1, v.2.1, v.2.2.1], v.2.2.2, vi (Ag x s).2.2]) (fun v => L) (fun v => sl v.1 (Ag x s).1.cores :: sl v.2.1 (Ag x s).1.home :: sl v.2.2.1 (Ag x s).1.frames :: sl v.2.2.2 (Ag x s).2.1 :: R)) := by
 refine ZaE ?_;intro hnc hnh hn1 hn2 honec honeh honef hn64 hop
 clear hs
 refine ZaL ?_;intro b2 b3 b4
 refine Ak Try.call35 rfl (fun w hs => Hq (x := x) (cv := cv) (hv := hv) (fv := fv) hs mm mm mm (by omega)) ?_; intro ⟨cY, hY, fY⟩
 refine ZaJ ?_;intro h12
 obtain ⟨honeY1, honeY2, honeY3⟩ := h12
 refine ZaK ?_;intro b7
 refine C8 ?_
 refine Gc1 ?_
 rcases (show (s.node < 0) ∨ (0 ≤ s.node ∧ (x.cores.length : Int) ≤ s.node) ∨ (0 ≤ s.node ∧ s.node < (x.cores.length : Int)) from by omega) with hc | hc | hc
 ·refine Zad ?_
  refine Gc8 ?_
  exact ZdI
 ·refine ZA ?_
  refine Zb1 ?_
  refine Gc1 ?_
  exact ZdI
 ·refine ZA ?_
  refine Zap ?_
  refine Gc1 ?_
  refine Aci (x := x) (v := cv) s.node mm (by omega) (by omega) (fun hwt u => ?_)
  have hkb : KB (Ap x s.node) := h.kb (p := s.node.toNat) (by omega)
  have hlb := h.lbs (p := s.node) (by omega)
  have hk4 := hkb.n
  refine cq_ (row 55 cY x.cores :: blk b7 27 [cY, hY, fY] :: blk b4 27 [.slice none 0 0, .slice none 0 0, .slice none 0 0] :: blk b3 38 s.cells :: blk b2 27 [cv, hv, fv] :: L) ?_
  refine jd_ (fun ρ S => row 55 cY x.cores :: blk b7 27 [cY, hY, fY] :: blk b4 27 [.slice none 0 0, .slice none 0 0, .slice none 0 0] :: blk b3 38 s.cells :: blk b2 27 [cv, hv, fv] :: ((bif S 19 then [blk (Gh.dec (γ := Nat) (ρ 19)) 55 (bif S 20 then [(Gh.dec (γ := Value × Value × Value) (ρ 13)).1, vi (Aj (Ap x s.node) s.node (x.cores.length : Int) s.op).1.wait.kind, vi (Aj (Ap x s.node) s.node (x.cores.length : Int) s.op).1.wait.line, vi (Aj (Ap x s.node) s.node (x.cores.length : Int) s.op).1.wait.value] else [.slice none 0 0, vi 0, vi 0, vi 0])] else []) ++ (L))) ?_
  refine dn13 ?_
  refine G8 (γ := Value × Value × Value) (val := fun v => .tuple #[.agg (Core.cells v.1 (Aj (Ap x s.node) s.node (x.cores.length : Int) s.op).1).toArray, v.2.1, v.2.2, vi (Aj (Ap x s.node) s.node (x.cores.length : Int) s.op).2.2.2]) (F := fun v => [sl v.1 (Aj (Ap x s.node) s.node (x.cores.length : Int) s.op).1.lines, sl v.2.1 (Aj (Ap x s.node) s.node (x.cores.length : Int) s.op).2.1, sl v.2.2 (Aj (Ap x s.node) s.node (x.cores.length : Int) s.op).2.2.1]) Try.call36 (fun _ => rfl) (fun ρ L R w hd hs => Xf (c := (Ap x s.node)) (id := s.node) (home := (x.cores.length : Int)) (q := s.op) (u := u) hs (hd.base mm) hkb hsn.2.1 hn64 hop) (fun ρ g S hS hA => by have u19 : upS S 13 19 = S 19 := rfl; have u20 : upS S 13 20 = S 20 := rfl; have r19 : Rho.set ρ 13 g 19 = ρ 19 := rfl; have h20 : S 20 = false := hA 20 ⟨0, rfl⟩; simp only [u19, u20, r19, h20, cond_false]) ?_
  refine e_p (v := fun ρ => .tuple #[.agg (Core.cells (Gh.dec (γ := Value × Value × Value) (ρ 13)).1 (Aj (Ap x s.node) s.node (x.cores.length : Int) s.op).1).toArray, (Gh.dec (γ := Value × Value × Value) (ρ 13)).2.1, (Gh.dec (γ := Value × Value × Value) (ρ 13)).2.2, vi (Aj (Ap x s.node) s.node (x.cores.length : Int) s.op).2.2.2]) (fun _ _ => Ug) (Ind.gh (h := fun g => (.tuple #[.agg (Core.cells (Gh.dec (γ := Value × Value × Value) g).1 (Aj (Ap x s.node) s.node (x.cores.length : Int) s.op).1).toArray, (Gh.dec (γ := Value × Value × Value) g).2.1, (Gh.dec (γ := Value × Value × Value) g).2.2, vi (Aj (Ap x s.node) s.node (x.cores.length : Int) s.op).2.2.2] : Value)) 13 0 rfl) (fun _ _ _ _ _ => rfl) ?_
  refine e_p (v := fun ρ => .agg (Core.cells (Gh.dec (γ := Value × Value × Value) (ρ 13)).1 (Aj (Ap x s.node) s.node (x.cores.length : Int) s.op).1).toArray) (fun _ _ => q_x) (Ind.gh (h := fun g => (.agg (Core.cells (Gh.dec (γ := Value × Value × Value) g).1 (Aj (Ap x s.node) s.node (x.cores.length : Int) s.op).1).toArray : Value)) 13 1 rfl) (fun _ _ _ _ _ => rfl) ?_
  refine e_p (v := fun ρ => (Gh.dec (γ := Value × Value × Value) (ρ 13)).2.1) (fun _ _ => q_x) (Ind.gh (h := fun g => ((Gh.dec (γ := Value × Value × Value) g).2.1 : Value)) 13 1 rfl) (fun _ _ _ _ _ => rfl) ?_
  refine e_p (v := fun ρ => (Gh.dec (γ := Value × Value × Value) (ρ 13)).2.2) (fun _ _ => q_x) (Ind.gh (h := fun g => ((Gh.dec (γ := Value × Value × Value) g).2.2 : Value)) 13 1 rfl) (fun _ _ _ _ _ => rfl) ?_
  refine K7 (v := vi (Aj (Ap x s.node) s.node (x.cores.length : Int) s.op).2.2.2) (fun _ _ => q_x) (fun _ _ _ _ _ => rfl) ?_
  refine Ng (cs := [.slice none 0 0, vi 0, vi 0, vi 0]) Try.zeroValue55 rfl (fun ρ b S hS hA => ?_) ?_
  ·have ui : upS S 19 19 = true := rfl; have u20 : upS S 19 20 = S 20 := rfl; have r13 : Rho.set ρ 19 (Gh.enc b) 13 = ρ 13 := rfl; have h20 : S 20 = false := hA 20 ⟨0, rfl⟩; have rs : (Gh.dec (γ := Nat) (Rho.set ρ 19 (Gh.enc b) 19)) = b := rfl
   simp only [ui, hS, u20, r13, h20, rs, cond_true, cond_false, List.nil_append]
   exact Zdk
  refine es_ 55 0 [19] [] (fun ρ => (Gh.dec (γ := Nat) (ρ 19))) (fun ρ => [.slice none 0 0, vi 0, vi 0, vi 0]) (fun ρ => [(Gh.dec (γ := Value × Value × Value) (ρ 13)).1, vi (Aj (Ap x s.node) s.node (x.cores.length : Int) s.op).1.wait.kind, vi (Aj (Ap x s.node) s.node (x.cores.length : Int) s.op).1.wait.line, vi (Aj (Ap x s.node) s.node (x.cores.length : Int) s.op).1.wait.value]) Try.sizeOf55 (h1 := (fun ρ R w L' hd hs => Dl (isSlice.one (hs.fact (hd.dep (it := ⟨13, _, _, _, _⟩) (by repeat (first | exact List.Mem.head _ | refine List.Mem.tail _ ?_)) ⟨9, rfl⟩ (List.Mem.head _)))) (by repeat (first | exact H1 | refine Dl rfl ?_)))) ?_
  refine e_p (v := fun ρ => (Gh.dec (γ := Value × Value × Value) (ρ 13)).2.1) (fun _ _ => Di) (Ind.gh (h := fun g => ((Gh.dec (γ := Value × Value × Value) g).2.1 : Value)) 13 0 rfl) (fun _ _ _ _ _ => rfl) ?_
  refine e_p (v := fun ρ => (Gh.dec (γ := Value × Value × Value) (ρ 13)).2.2) (fun _ _ => Di) (Ind.gh (h := fun g => ((Gh.dec (γ := Value × Value × Value) g).2.2 : Value)) 13 0 rfl) (fun _ _ _ _ _ => rfl) ?_
  refine K7 (v := vi (Aj (Ap x s.node) s.node (x.cores.length : Int) s.op).2.2.2) (fun _ _ => Di) (fun _ _ _ _ _ => rfl) ?_
  refine dnl ?_; intro ρ
  refine xq_ (row 55 cY x.cores :: blk b7 27 [cY, hY, fY] :: blk b4 27 [.slice none 0 0, .slice none 0 0, .slice none 0 0] :: blk b3 38 s.cells :: blk b2 27 [cv, hv, fv] :: (blk (Gh.dec (γ := Nat) (ρ 19)) 55 [(Gh.dec (γ := Value × Value × Value) (ρ 13)).1, vi (Aj (Ap x s.node) s.node (x.cores.length : Int) s.op).1.wait.kind, vi (Aj (Ap x s.node) s.node (x.cores.length : Int) s.op).1.wait.line, vi (Aj (Ap x s.node) s.node (x.cores.length : Int) s.op).1.wait.value] :: L)) ?_
  generalize (Gh.dec (γ := Value × Value × Value) (ρ 13)) = vk
  generalize (Gh.dec (γ := Nat) (ρ 19)) = b10
  refine Gl ?_
  refine kp [2, 3, 4, 5, 6, 7, 8, 9, 10, 11, 12, 13, 20, 54, 55] ?_
  refine Zaq ?_
  refine cdy ?_ ?_
  ·intro ht55
   refine Gl ?_
   refine ZaP ?_
   have er : Ag x s = (Er, [], (Aj (Ap x s.node) s.node (x.cores.length : Int) s.op).2.2.2) := by unfold Ag Az; rw [if_pos (by omega), if_neg (by omega), if_pos ht55]
   rw [er]
   exact ZcW
  ·intro ht55
   refine Gm ?_
   refine rn6 ?_
   refine s_W (α := Core) (Aj (Ap x s.node) s.node (x.cores.length : Int) s.op).1 Try.sizeOf55 rfl rfl rfl pkk (by omega) (Agc mm (Xl hop)) ?_
   refine ZJ ?_
   refine Ak Try.call37 rfl (fun w hs => Kh (cv := cY) (hv := hY) (fv := fY) (fs := x.frames) (ms := (Aj (Ap x s.node) s.node (x.cores.length : Int) s.op).2.1) (Ae (L' := blk b7 27 [cY, hY, fY] :: row 55 cY (x.cores.set s.node.toNat (Aj (Ap x s.node) s.node (x.cores.length : Int) s.op).1) :: blk b4 27 [.slice none 0 0, .slice none 0 0, .slice none 0 0] :: blk b3 38 s.cells :: blk b2 27 [cv, hv, fv] :: L) hs) mm mm (Afj (by omega) (by omega) hk4 hlb)) ?_; intro vs
   refine Gm ?_
   refine Zaf ?_
   refine Zaj ?_
   refine Glc ?_
   refine JC.shut (v := cY) (xs := (x.cores.set s.node.toNat (Aj (Ap x s.node) s.node (x.cores.length : Int) s.op).1)) pkk ?_
   refine JC.know (p := vs.oneCell' = true) (fun w hs => isSlice.one (hs.fact (mm (f := sl vs (way x.frames (Aj (Ap x s.node) s.node (x.cores.length : Int) s.op).2.1))))) (fun honevs => ?_)
   refine ZA ?_
   refine s_B (cs := [cY, hY, vs]) Try.sizeOf27 ?_
   refine Ga2 ?_
   have er : Ag x s = (Cf x s.node (Aj (Ap x s.node) s.node (x.cores.length : Int) s.op).1 (Aj (Ap x s.node) s.node (x.cores.length : Int) s.op).2.1, (Aj (Ap x s.node) s.node (x.cores.length : Int) s.op).2.2.1, 0) := by unfold Ag Az; rw [if_pos (by omega), if_neg (by omega), if_neg ht55]
   rw [er]
   exact Eu (cY, hY, vs, vk.2.2) Try.isAgg27 Try.sizeOf27
theorem Aex {cv hv fv : Value} {x : Chip} {s : Step} {n nl : Nat} {M : List Int} (hs : St (L) R w) (hcv : sl cv x.cores ∈ R) (hhv : sl hv x.home ∈ R) (hfv : sl fv x.frames ∈ R) (hsn : s.wf) (h : Inv n nl x M) (hk : s.kind < 1 ∨ 6 < s.kind) : Calls Try.prog 23 [.agg #[cv, hv, fv], .agg s.cells.toArray].toArray w (Cd (fun v : Value × Value × Value × Value => .tuple #[.agg #[v.1, v.2.1, v.2.2.1], v.2.2.2, vi (Ag x s).2.2]) (fun v => L) (fun v => sl v.1 (Ag x s).1.cores :: sl v.2.1 (Ag x s).1.home :: sl v.2.2.1 (Ag x s).1.frames :: sl v.2.2.2 (Ag x s).2.1 :: R)) := by
 refine ZaE ?_;intro hnc hnh hn1 hn2 honec honeh honef hn64 hop
 clear hs
 refine ZaL ?_;intro b2 b3 b4
 refine Ak Try.call35 rfl (fun w hs => Hq (x := x) (cv := cv) (hv := hv) (fv := fv) hs mm mm mm (by omega)) ?_; intro ⟨cY, hY, fY⟩
 refine ZaJ ?_;intro h12
 obtain ⟨honeY1, honeY2, honeY3⟩ := h12
 refine ZaK ?_;intro b7
 refine ZG ?_
 refine ZG ?_
 refine ZG ?_
 refine ZG ?_
 refine ZG ?_
 refine ZG ?_
 refine Za0 ?_
 refine Zbg ?_
 refine ZaP ?_
 have er : Ag x s = (Er, [], 1) := by unfold Ag Az; rw [if_neg (by omega), if_neg (by omega), if_neg (by omega), if_neg (by omega), if_neg (by omega), if_neg (by omega)]
 rw [er]
 exact ZcW
theorem Aev {cv hv fv : Value} {x : Chip} {s : Step} {n nl : Nat} {M : List Int} (hs : St (L) R w) (hcv : sl cv x.cores ∈ R) (hhv : sl hv x.home ∈ R) (hfv : sl fv x.frames ∈ R) (hsn : s.wf) (h : Inv n nl x M) (hk : s.kind = 2) : Calls Try.prog 23 [.agg #[cv, hv, fv], .agg s.cells.toArray].toArray w (Cd (fun v : Value × Value × Value × Value => .tuple #[.agg #[v.1, v.2.1, v.2.2.1], v.2.2.2, vi (Ag x s).2.2]) (fun v => L) (fun v => sl v.1 (Ag x s).1.cores :: sl v.2.1 (Ag x s).1.home :: sl v.2.2.1 (Ag x s).1.frames :: sl v.2.2.2 (Ag x s).2.1 :: R)) := by
 refine ZaE ?_;intro hnc hnh hn1 hn2 honec honeh honef hn64 hop
 clear hs
 refine ZaL ?_;intro b2 b3 b4
 refine Ak Try.call35 rfl (fun w hs => Hq (x := x) (cv := cv) (hv := hv) (fv := fv) hs mm mm mm (by omega)) ?_; intro ⟨cY, hY, fY⟩
 refine ZaJ ?_;intro h12
 obtain ⟨honeY1, honeY2, honeY3⟩ := h12
 refine ZaK ?_;intro b7
 refine ZG ?_
 refine C8 ?_
 refine Gc1 ?_
 rcases (show (Ef x s.n) ∨ (¬ Ef x s.n) from by exact Classical.em _) with hc | hc
 ·refine ZbW ?_;intro hnt
  refine ZI ?_
  refine Ak (γ := Value × Value) (val := fun v => .tuple #[v.1, v.2, vi 5]) (Rf := fun v => sl v.1 ([] : Frames) :: sl v.2 ([] : List UInt8) :: _) Try.call38 rfl (fun w hs => by have h := Is (v0 := fv) (l := x.frames) (n := s.n) hs mm hsn.2.2.1; rw [hnt] at h; exact frz h) ?_; intro ⟨va, vb⟩
  refine Gb7 ?_
  refine rn1 ?_
  refine Zbg ?_
  refine ZaO ?_
  refine kp [2, 3, 4, 5, 6, 7, 8, 9, 14, 15, 16, 20, 81, 82] ?_
  refine Zbm ?_
  refine Ga2 ?_
  have er : Ag x s = (Er, [], 5) := by unfold Ag Az; rw [if_neg (by omega), if_pos (by omega)]; rw [if_pos hc]
  rw [er]
  exact ZcW
 ·refine ZbO ?_;intro hnt
  refine ZI ?_
  refine Ak (γ := Value × Value) (val := fun v => .tuple #[v.1, v.2, vi 0]) (Rf := fun v => sl v.1 (x.frames.eraseIdx s.n.toNat) :: sl v.2 (Cg x.frames s.n) :: _) Try.call38 rfl (fun w hs => by have h := Is (v0 := fv) (l := x.frames) (n := s.n) hs mm hsn.2.2.1; rw [hnt] at h; exact frz h) ?_; intro ⟨va, vb⟩
  refine Gb7 ?_
  refine rn1 ?_
  refine ZcI ?_;intro honeva
  refine kp [2, 3, 4, 5, 6, 7, 8, 9, 14, 15, 20, 83, 84] ?_
  refine ZA ?_
  refine sc ?_
  refine ZK ?_
  refine C8 ?_
  refine Za1 ?_
  refine Ak Try.call39 rfl (fun w hs => Aal (x := ⟨x.cores, x.home, x.frames.eraseIdx s.n.toNat⟩) (cv := cY) (hv := hY) (fv := va) (bt := (Cg x.frames s.n)) (Ae (L' := row 55 cY x.cores :: blk b7 27 [cY, hY, va] :: blk b4 27 [.slice none 0 0, .slice none 0 0, .slice none 0 0] :: blk b3 38 s.cells :: blk b2 27 [cv, hv, fv] :: L) hs) mm mm mm (Acy h _)) ?_; intro ⟨vh, vf, vd⟩
  refine Za0 ?_
  refine Zaj ?_
  refine Glc ?_
  refine JC.shut (v := cY) (xs := (A6 ⟨x.cores, x.home, x.frames.eraseIdx s.n.toNat⟩ (Cg x.frames s.n)).1.cores) pkk ?_
  refine JC.know (p := vh.oneCell' = true) (fun w hs => isSlice.one (hs.fact (mm (f := sl vh (A6 ⟨x.cores, x.home, x.frames.eraseIdx s.n.toNat⟩ (Cg x.frames s.n)).1.home)))) (fun honevh => ?_)
  refine JC.know (p := vf.oneCell' = true) (fun w hs => isSlice.one (hs.fact (mm (f := sl vf (A6 ⟨x.cores, x.home, x.frames.eraseIdx s.n.toNat⟩ (Cg x.frames s.n)).1.frames)))) (fun honevf => ?_)
  refine ZA ?_
  refine s_B (cs := [cY, vh, vf]) Try.sizeOf27 ?_
  refine Ga2 ?_
  have er : Ag x s = ((A6 ⟨x.cores, x.home, x.frames.eraseIdx s.n.toNat⟩ (Cg x.frames s.n)).1, (A6 ⟨x.cores, x.home, x.frames.eraseIdx s.n.toNat⟩ (Cg x.frames s.n)).2, 0) := by unfold Ag Az; rw [if_neg (by omega), if_pos (by omega)]; rw [if_neg hc]
  rw [er]
  exact Eu (cY, vh, vf, vd) Try.isAgg27 Try.sizeOf27
theorem Aeu {cv hv fv : Value} {x : Chip} {s : Step} {n nl : Nat} {M : List Int} (hs : St (L) R w) (hcv : sl cv x.cores ∈ R) (hhv : sl hv x.home ∈ R) (hfv : sl fv x.frames ∈ R) (hsn : s.wf) (h : Inv n nl x M) (hk : s.kind = 3) : Calls Try.prog 23 [.agg #[cv, hv, fv], .agg s.cells.toArray].toArray w (Cd (fun v : Value × Value × Value × Value => .tuple #[.agg #[v.1, v.2.1, v.2.2.1], v.2.2.2, vi (Ag x s).2.2]) (fun v => L) (fun v => sl v.1 (Ag x s).1.cores :: sl v.2.1 (Ag x s).1.home :: sl v.2.2.1 (Ag x s).1.frames :: sl v.2.2.2 (Ag x s).2.1 :: R)) := by
 refine ZaE ?_;intro hnc hnh hn1 hn2 honec honeh honef hn64 hop
 clear hs
 refine ZaL ?_;intro b2 b3 b4
 refine Ak Try.call35 rfl (fun w hs => Hq (x := x) (cv := cv) (hv := hv) (fv := fv) hs mm mm mm (by omega)) ?_; intro ⟨cY, hY, fY⟩
 refine ZaJ ?_;intro h12
 obtain ⟨honeY1, honeY2, honeY3⟩ := h12
 refine ZaK ?_;intro b7
 refine ZaN ?_
 refine Gc1 ?_
 rcases (show (Ef x s.n) ∨ (¬ Ef x s.n) from by exact Classical.em _) with hc | hc
 ·refine ZbW ?_;intro hnt
  refine ZI ?_
  refine Ak (γ := Value × Value) (val := fun v => .tuple #[v.1, v.2, vi 5]) (Rf := fun v => sl v.1 ([] : Frames) :: sl v.2 ([] : List UInt8) :: _) Try.call38 rfl (fun w hs => by have h := Is (v0 := fv) (l := x.frames) (n := s.n) hs mm hsn.2.2.1; rw [hnt] at h; exact frz h) ?_; intro ⟨va, vb⟩
  refine Ga7 ?_
  refine kp [2, 3, 4, 5, 6, 7, 8, 9, 14, 15, 16, 20, 79, 80] ?_
  refine ZC ?_
  refine Zbg ?_
  refine ZaP ?_
  have er : Ag x s = (Er, [], 5) := by unfold Ag Az; rw [if_neg (by omega), if_neg (by omega), if_pos (by omega)]; rw [if_pos hc]
  rw [er]
  exact ZcW
 ·refine ZbO ?_;intro hnt
  refine ZI ?_
  refine Ak (γ := Value × Value) (val := fun v => .tuple #[v.1, v.2, vi 0]) (Rf := fun v => sl v.1 (x.frames.eraseIdx s.n.toNat) :: sl v.2 (Cg x.frames s.n) :: _) Try.call38 rfl (fun w hs => by have h := Is (v0 := fv) (l := x.frames) (n := s.n) hs mm hsn.2.2.1; rw [hnt] at h; exact frz h) ?_; intro ⟨va, vb⟩
  refine Ga7 ?_
  refine kp [2, 3, 4, 5, 6, 7, 8, 9, 14, 15, 16, 20, 79, 80] ?_
  refine ZC ?_
  refine ZcI ?_;intro honeva
  refine ZA ?_
  refine sc ?_
  refine ZK ?_
  refine A4 ?_
  refine Za1 ?_
  refine Zaj ?_
  refine Glc ?_
  refine ZbN ?_
  have er : Ag x s = (⟨x.cores, x.home, x.frames.eraseIdx s.n.toNat⟩, [], 0) := by unfold Ag Az; rw [if_neg (by omega), if_neg (by omega), if_pos (by omega)]; rw [if_neg hc]
  exact Zep
theorem Aet {cv hv fv : Value} {x : Chip} {s : Step} {n nl : Nat} {M : List Int} (hs : St (L) R w) (hcv : sl cv x.cores ∈ R) (hhv : sl hv x.home ∈ R) (hfv : sl fv x.frames ∈ R) (hsn : s.wf) (h : Inv n nl x M) (hk : s.kind = 4) : Calls Try.prog 23 [.agg #[cv, hv, fv], .agg s.cells.toArray].toArray w (Cd (fun v : Value × Value × Value × Value => .tuple #[.agg #[v.1, v.2.1, v.2.2.1], v.2.2.2, vi (Ag x s).2.2]) (fun v => L) (fun v => sl v.1 (Ag x s).1.cores :: sl v.2.1 (Ag x s).1.home :: sl v.2.2.1 (Ag x s).1.frames :: sl v.2.2.2 (Ag x s).2.1 :: R)) := by
 refine ZaE ?_;intro hnc hnh hn1 hn2 honec honeh honef hn64 hop
 clear hs
 refine ZaL ?_;intro b2 b3 b4
 refine Ak Try.call35 rfl (fun w hs => Hq (x := x) (cv := cv) (hv := hv) (fv := fv) hs mm mm mm (by omega)) ?_; intro ⟨cY, hY, fY⟩
 refine ZaJ ?_;intro h12
 obtain ⟨honeY1, honeY2, honeY3⟩ := h12
 refine ZaK ?_;intro b7
 refine ZG ?_
 refine ZaN ?_
 refine Gc1 ?_
 rcases (show (Ef x s.n) ∨ (¬ Ef x s.n) from by exact Classical.em _) with hc | hc
 ·have hnt : En x.frames s.n = ([], 5) := by unfold En; rw [if_pos (show s.n < 0 ∨ (x.frames.length : Int) ≤ s.n from hc)]
  refine ZI ?_
  refine Ak (γ := Value) (val := fun v => .tuple #[v, vi 5]) (Rf := fun v => sl v ([] : Frames) :: _) Try.call40 rfl (fun w hs => by have h := Q5 (v0 := fv) (l := x.frames) (n := s.n) hs mm hsn.2.2.1; rw [hnt] at h; exact frz h) ?_; intro va
  refine ZbK ?_;intro honeva
  refine ZC ?_
  refine Zbg ?_
  refine ZaP ?_
  have er : Ag x s = (Er, [], 5) := by unfold Ag Az; rw [if_neg (by omega), if_neg (by omega), if_neg (by omega), if_pos (by omega)]; rw [if_pos hc]
  rw [er]
  exact ZcW
 ·have hnt : En x.frames s.n = (Cu x.frames (Cg x.frames s.n), 0) := by unfold En; rw [if_neg (show ¬ (s.n < 0 ∨ (x.frames.length : Int) ≤ s.n) from hc)]
  refine ZI ?_
  refine Ak (γ := Value) (val := fun v => .tuple #[v, vi 0]) (Rf := fun v => sl v (Cu x.frames (Cg x.frames s.n)) :: _) Try.call40 rfl (fun w hs => by have h := Q5 (v0 := fv) (l := x.frames) (n := s.n) hs mm hsn.2.2.1; rw [hnt] at h; exact frz h) ?_; intro va
  refine ZbK ?_;intro honeva
  refine ZC ?_
  refine Zaj ?_
  refine Glc ?_
  refine ZbN ?_
  have er : Ag x s = (⟨x.cores, x.home, Cu x.frames (Cg x.frames s.n)⟩, [], 0) := by unfold Ag Az; rw [if_neg (by omega), if_neg (by omega), if_neg (by omega), if_pos (by omega)]; rw [if_neg hc]
  exact Zep
theorem Aes {cv hv fv : Value} {x : Chip} {s : Step} {n nl : Nat} {M : List Int} (hs : St (L) R w) (hcv : sl cv x.cores ∈ R) (hhv : sl hv x.home ∈ R) (hfv : sl fv x.frames ∈ R) (hsn : s.wf) (h : Inv n nl x M) (hk : s.kind = 5) : Calls Try.prog 23 [.agg #[cv, hv, fv], .agg s.cells.toArray].toArray w (Cd (fun v : Value × Value × Value × Value => .tuple #[.agg #[v.1, v.2.1, v.2.2.1], v.2.2.2, vi (Ag x s).2.2]) (fun v => L) (fun v => sl v.1 (Ag x s).1.cores :: sl v.2.1 (Ag x s).1.home :: sl v.2.2.1 (Ag x s).1.frames :: sl v.2.2.2 (Ag x s).2.1 :: R)) := by
 refine ZaE ?_;intro hnc hnh hn1 hn2 honec honeh honef hn64 hop
 clear hs
 refine ZaL ?_;intro b2 b3 b4
 refine Ak Try.call35 rfl (fun w hs => Hq (x := x) (cv := cv) (hv := hv) (fv := fv) hs mm mm mm (by omega)) ?_; intro ⟨cY, hY, fY⟩
 refine ZaJ ?_;intro h12
 obtain ⟨honeY1, honeY2, honeY3⟩ := h12
 refine ZaK ?_;intro b7
 refine ZG ?_
 refine ZG ?_
 refine ZaN ?_
 refine Zax ?_
 refine Ak Try.call41 rfl (fun w hs => Xk (x := x) (cv := cv) (hv := hv) (fv := fv) (s := s) (Ae (L' := blk b2 27 [cv, hv, fv] :: row 55 cY x.cores :: blk b7 27 [cY, hY, fY] :: blk b4 27 [.slice none 0 0, .slice none 0 0, .slice none 0 0] :: blk b3 38 s.cells :: L) hs) mm mm mm hsn) ?_; intro va
 refine ZbK ?_;intro honeva
 refine Zaq ?_
 refine cdy ?_ ?_
 ·intro ht115
  refine Gl ?_
  refine ZaP ?_
  have er : Ag x s = (Er, [], (Ln x s).2) := by unfold Ag Az; rw [if_neg (by omega), if_neg (by omega), if_neg (by omega), if_neg (by omega), if_pos (by omega)]; revert ht115; unfold Ln; (repeat' split) <;> simp_all
  rw [er]
  exact Eu (.slice none 0 0, .slice none 0 0, .slice none 0 0, .slice none 0 0) Try.isAgg27 Try.sizeOf27
 ·intro ht115
  refine Gl ?_
  refine ZbN ?_
  have er : Ag x s = (⟨x.cores, x.home, (Ln x s).1⟩, [], 0) := by unfold Ag Az; rw [if_neg (by omega), if_neg (by omega), if_neg (by omega), if_neg (by omega), if_pos (by omega)]; revert ht115; unfold Ln; (repeat' split) <;> simp_all
  rw [er]
  exact Eu (cY, hY, va, .slice none 0 0) Try.isAgg27 Try.sizeOf27
theorem Aer {cv hv fv : Value} {x : Chip} {s : Step} {n nl : Nat} {M : List Int} (hs : St (L) R w) (hcv : sl cv x.cores ∈ R) (hhv : sl hv x.home ∈ R) (hfv : sl fv x.frames ∈ R) (hsn : s.wf) (h : Inv n nl x M) (hk : s.kind = 6) : Calls Try.prog 23 [.agg #[cv, hv, fv], .agg s.cells.toArray].toArray w (Cd (fun v : Value × Value × Value × Value => .tuple #[.agg #[v.1, v.2.1, v.2.2.1], v.2.2.2, vi (Ag x s).2.2]) (fun v => L) (fun v => sl v.1 (Ag x s).1.cores :: sl v.2.1 (Ag x s).1.home :: sl v.2.2.1 (Ag x s).1.frames :: sl v.2.2.2 (Ag x s).2.1 :: R)) := by
 refine ZaE ?_;intro hnc hnh hn1 hn2 honec honeh honef hn64 hop
 clear hs
 refine ZaL ?_;intro b2 b3 b4
 refine Ak Try.call35 rfl (fun w hs => Hq (x := x) (cv := cv) (hv := hv) (fv := fv) hs mm mm mm (by omega)) ?_; intro ⟨cY, hY, fY⟩
 refine ZaJ ?_;intro h12
 obtain ⟨honeY1, honeY2, honeY3⟩ := h12
 refine ZaK ?_;intro b7
 refine ZG ?_
 refine ZG ?_
 refine ZG ?_
 refine ZaN ?_
 refine Gd1 ?_
 refine rn2 ?_
 refine Ak Try.call42 rfl (fun w hs => Xj (x := x) (cv := cY) (hv := hY) (fv := fY) (node := s.node) (Ae (L' := row 55 cY x.cores :: blk b7 27 [cY, hY, fY] :: blk b4 27 [.slice none 0 0, .slice none 0 0, .slice none 0 0] :: blk b3 38 s.cells :: blk b2 27 [cv, hv, fv] :: L) hs) mm mm h) ?_; intro va
 refine J.know (p := va.oneCell' = true) (fun w hs => isSlice.one (hs.fact (.head _))) (fun honeva => ?_)
 refine ZH ?_
 refine cdy ?_ ?_
 ·intro ht115
  refine Gl ?_
  refine ZaO ?_
  refine kp [4, 5, 6, 7, 8, 9, 116, 117] ?_
  refine Zbm ?_
  refine Ga2 ?_
  have er : Ag x s = (Er, [], (Lm x s.node)) := by unfold Ag Az; rw [if_neg (by omega), if_neg (by omega), if_neg (by omega), if_neg (by omega), if_neg (by omega), if_pos (by omega)]; revert ht115; unfold Lm Az; split <;> simp_all
  rw [er]
  exact Eu (.slice none 0 0, .slice none 0 0, .slice none 0 0, .slice none 0 0) Try.isAgg27 Try.sizeOf27
 ·intro ht115
  refine Gl ?_
  refine JC.shut (v := cY) (xs := x.cores) pkk ?_
  refine Zaa ?_
  refine kp [4, 5, 6, 7, 8, 118, 119] ?_
  refine ZA ?_
  refine s_B (cs := [cY, hY, va]) Try.sizeOf27 ?_
  refine Ga2 ?_
  have er : Ag x s = (⟨x.cores, x.home, Ez x s.node⟩, [], 0) := by unfold Ag Az; rw [if_neg (by omega), if_neg (by omega), if_neg (by omega), if_neg (by omega), if_neg (by omega), if_pos (by omega)]; revert ht115; unfold Lm Ez Az; split <;> simp_all; split <;> rfl
  rw [er]
  exact Eu (cY, hY, va, .slice none 0 0) Try.isAgg27 Try.sizeOf27
theorem Ha {cv hv fv : Value} {x : Chip} {s : Step} {n nl : Nat} {M : List Int} (hs : St (L) R w) (hcv : sl cv x.cores ∈ R) (hhv : sl hv x.home ∈ R) (hfv : sl fv x.frames ∈ R) (hsn : s.wf) (h : Inv n nl x M) : Calls Try.prog 23 [.agg #[cv, hv, fv], .agg s.cells.toArray].toArray w (Cd (fun v : Value × Value × Value × Value => .tuple #[.agg #[v.1, v.2.1, v.2.2.1], v.2.2.2, vi (Ag x s).2.2]) (fun v => L) (fun v => sl v.1 (Ag x s).1.cores :: sl v.2.1 (Ag x s).1.home :: sl v.2.2.1 (Ag x s).1.frames :: sl v.2.2.2 (Ag x s).2.1 :: R)) := by
 by_cases h1 : s.kind = 1
 ·exact Aew hs hcv hhv hfv hsn h h1
 by_cases h2 : s.kind = 2
 ·exact Aev hs hcv hhv hfv hsn h h2
 by_cases h3 : s.kind = 3
 ·exact Aeu hs hcv hhv hfv hsn h h3
 by_cases h4 : s.kind = 4
 ·exact Aet hs hcv hhv hfv hsn h h4
 by_cases h5 : s.kind = 5
 ·exact Aes hs hcv hhv hfv hsn h h5
 by_cases h6 : s.kind = 6
 ·exact Aer hs hcv hhv hfv hsn h h6
 exact Aex hs hcv hhv hfv hsn h (by omega)
theorem rdAns {R : List Fact} {e : Answer} (hw : e.wf) : ∀ j, (∀ q ∈ R, q.p j) → RdV [e] [.agg e.cells.toArray] j := fun j _ => ⟨⟨_, rfl, rfl, hw⟩, trivial⟩
def Kk : Chip → List Step → List Answer
 | _, [] => []
 | x, s :: r => ⟨(Ag x s).2.2, ((Ag x s).2.1.length : Int)⟩ :: Kk (if (Ag x s).2.2 = 0 then (Ag x s).1 else x) r
def Abc (x : Chip) (s : Step) : Answer := ⟨(Ag x s).2.2, ((Ag x s).2.1.length : Int)⟩
theorem Jv (s : Step) : ∀ (l : List Step) (x : Chip), Kk x (l ++ [s]) = Kk x l ++ [Abc (Bu x l).1 s]
 | [], x => rfl
 | a :: l, x => by
  rw [List.cons_append]; unfold Kk
  rw [List.cons_append]; congr 1
  by_cases h : (Ag x a).2.2 = 0
  ·rw [if_pos h, Dq h]; exact Jv s l _
  ·rw [if_neg h, Ep h]; exact Jv s l _
theorem Ot : ∀ (l : List Step) (x : Chip), (Kk x l).length = l.length
 | [], _ => rfl
 | a :: l, x => by unfold Kk; rw [List.length_cons, Ot l, List.length_cons]
def aAt (c : Config) (l : List Step) (k : Nat) : List Answer := Kk (A2 c).1 (l.take k)
theorem Vt {c : Config} {l : List Step} {k : Nat} (h : k < l.length) : aAt c l (k + 1) = aAt c l k ++ [Abc (bAt c l k).1 (l.getD k zStep)] := by
 unfold aAt bAt; rw [Hu zStep h]; exact Jv ..
theorem Alr {c : Config} {l : List Step} {k : Nat} (h : k ≤ l.length) : (aAt c l k).length = k := by
 unfold aAt; rw [Ot, List.length_take]; omega
def C0 (c : Config) (l : List Step) : Chip × List Answer × List Done × Int :=
 if (A2 c).2 ≠ 0 then (Er, [], [], (A2 c).2)
 else if 300 < l.length then (Er, [], [], 4)
 else ((Bu (A2 c).1 l).1, Kk (A2 c).1 l, (Bu (A2 c).1 l).2, 0)
theorem pS_1 {c : Config} {l : List Step} (h : (A2 c).2 ≠ 0) : C0 c l = (Er, [], [], (A2 c).2) := if_pos h
theorem pS_2 {c : Config} {l : List Step} (h : (A2 c).2 = 0) (h2 : 300 < l.length) : C0 c l = (Er, [], [], 4) := by unfold C0; rw [if_neg (by rw [h]; decide), if_pos h2]
theorem pS_3 {c : Config} {l : List Step} (h : (A2 c).2 = 0) (h2 : l.length ≤ 300) : C0 c l = ((bAt c l l.length).1, aAt c l l.length, (bAt c l l.length).2, 0) := by
 unfold C0 bAt aAt; rw [if_neg (by rw [h]; decide), if_neg (by omega), List.take_length]
theorem Aaq (c : Core) (id home : Int) (o : Op) : 0 ≤ (Aj c id home o).2.2.2 ∧ (Aj c id home o).2.2.2 ≤ 8 := by
 unfold Aj
 repeat' split
 all_goals exact ⟨by simp, by simp⟩
theorem X8 (l : Frames) (k b : Int) : 0 ≤ (By l k b).2 ∧ (By l k b).2 ≤ 8 := by
 unfold By
 repeat' split
 all_goals exact ⟨by simp, by simp⟩
theorem Akn (x : Chip) (s : Step) : 0 ≤ (Ag x s).2.2 ∧ (Ag x s).2.2 ≤ 8 := by
 have h1 := X8 x.frames s.n s.bit
 have h2 := Aaq (Ap x s.node) s.node (Az x) s.op
 unfold Ag
 generalize By x.frames s.n s.bit = z at *
 generalize Aj (Ap x s.node) s.node (Az x) s.op = y at *
 repeat' split
 all_goals first | exact h1 | exact h2 | exact ⟨by simp, by simp⟩
theorem Afr (x : Chip) (s : Step) : (Abc x s).wf := by
 have h1 := Akn x s; have h2 := Nj x s
 unfold Answer.wf Abc An; simp only; omega
def Ax (l : List Done) (p : Int) : List Done := l.filter (fun d => d.core == p)
theorem Vk {l : List Done} {p : Int} {k : Nat} (h : k < l.length) (hd : (l.getD k zDone).core = p) : Ax (l.take (k + 1)) p = Ax (l.take k) p ++ [l.getD k zDone] := by
 unfold Ax; rw [Hu zDone h, List.filter_append]; congr 1; generalize l.getD k zDone = d at hd ⊢; simp [hd]
theorem Vl {l : List Done} {p : Int} {k : Nat} (h : k < l.length) (hd : ¬ (l.getD k zDone).core = p) : Ax (l.take (k + 1)) p = Ax (l.take k) p := by
 unfold Ax; rw [Hu zDone h, List.filter_append]; generalize l.getD k zDone = d at hd ⊢; simp [hd]
theorem Oh (l : List Done) (p : Int) (k : Nat) : (Ax (l.take k) p).length ≤ l.length := by
 unfold Ax
 exact Nat.le_trans (List.length_filter_le _ _) (by rw [List.length_take]; omega)
theorem Oe {vl : Value} {c : Config} {l : List Step} (hs : St (L) R w) (hl : sl vl l ∈ R) (hcw : c.wf) : Calls Try.prog 10 [.agg c.cells.toArray, vl].toArray w (Cd (fun v : Value × Value × Value × Value × Value => .tuple #[.agg #[v.1, v.2.1, v.2.2.1], v.2.2.2.1, v.2.2.2.2, vi (C0 c l).2.2.2]) (fun v => L) (fun v => sl v.1 (C0 c l).1.cores :: sl v.2.1 (C0 c l).1.home :: sl v.2.2.1 (C0 c l).1.frames :: sl v.2.2.2.1 (C0 c l).2.1 :: sl v.2.2.2.2 (C0 c l).2.2.1 :: R)) := by
 have hlen := Bx hl hs
 refine Ah Try.func10 rfl Try.ntmps10 rfl hs ?_
 clear hs
 refine Gm ?_
 refine bx ?_; intro b2
 refine ZbA ?_;intro b4
 refine Gb3 ?_
 refine rn1 ?_
 refine Ak Try.call22 rfl (fun w hs => Vo (c := c) hs hcw) ?_; intro v19
 refine J.know (p := v19.1.oneCell' = true ∧ v19.2.oneCell' = true) (fun w hs => ⟨isSlice.one (hs.fact (.head _)), isSlice.one (hs.fact (.tail _ (.head _)))⟩) (fun h12 => ?_)
 obtain ⟨honev191, honev192⟩ := h12
 refine rn3 ?_
 refine al_ (cs := [.slice none 0 0, .slice none 0 0, .slice none 0 0]) Try.zeroValue27 ?_; intro b8
 refine s_B (cs := [v19.1, v19.2, .slice none 0 0]) Try.sizeOf27 ?_
 refine ZH ?_
 refine cdy ?_ ?_
 ·intro ht23
  refine Gl ?_
  refine ZaO ?_
  refine JC.slNil Answer ?_
  refine Zbm ?_
  refine Ga3 ?_
  rw [pS_1 ht23]
  exact ZdP
 ·intro ht23
  refine Zac ?_
  refine cdy ?_ ?_
  ·intro ht28
   refine Gl ?_
   refine ZaO ?_
   refine JC.slNil Answer ?_
   refine Aa ?_
   refine Zbl ?_
   refine Zb9 ?_
   refine Ga3 ?_
   rw [pS_2 (Decidable.not_not.1 ht23) (by omega)]
   exact ZdP
  ·intro ht28
   refine ZM ?_
   refine Zah ?_
   have hok : (A2 c).2 = 0 := Decidable.not_not.1 ht23
   have hl3 : l.length ≤ 300 := by omega
   have e0 : bAt c l 0 = ((A2 c).1, []) := by unfold bAt; simp [Bu]
   have e0a : aAt c l 0 = [] := by unfold aAt; simp [Kk]
   refine Zai ?_
   refine JC.rowNil 73 Answer ?_
   refine Bs (γ := Nat × Value × Value × Value × Value × Value) (fun g => g.1 ≤ l.length) (fun g => row 73 g.2.2.2.2.1 (aAt c l g.1) :: row 50 g.2.2.2.2.2 (bAt c l g.1).2 :: blk b8 27 [g.2.1, g.2.2.1, g.2.2.2.1] :: blk b4 27 [.slice none 0 0, .slice none 0 0, .slice none 0 0] :: L) (fun g => sl g.2.1 (bAt c l g.1).1.cores :: sl g.2.2.1 (bAt c l g.1).1.home :: sl g.2.2.2.1 (bAt c l g.1).1.frames :: R) (fun g => [(4, bp b4 0), (8, bp b8 0), (10, g.2.2.2.2.1), (11, g.2.2.2.2.2), (30, vl), (31, vi (l.length : Int)), (32, vi (g.1 : Int))]) (fun g => l.length - g.1) (0, v19.1, v19.2, .slice none 0 0, .slice none 0 0, .slice none 0 0) (Nat.zero_le _) alT (fun w hs => by rw [e0, e0a]; exact Ae hs) ?_
   rintro ⟨k, cv, hv, fv, av, dv⟩ hk
   try simp only at hk ⊢
   refine ZB ?_
   refine cdy ?_ ?_
   ·intro ht33
    refine Gl ?_
    refine JC.open0 (xs := l) (v := vl) k mm (by omega) (fun hsw => ?_)
    refine ZA ?_
    refine al_ (cs := zStep.cells) Try.zeroValue38 ?_; intro b13
    refine s_B (cs := (l.getD k zStep).cells) Try.sizeOf38 ?_
    refine ZK ?_
    obtain ⟨n, nl, M, hI⟩ := Alk l hok k
    have hle := Alr (c := c) (l := l) (k := k) (by omega)
    have h8 := Aax c l k
    have h9 := Nj (bAt c l k).1 (l.getD k zStep)
    refine Ak Try.call23 rfl (fun w hs => Ha (x := (bAt c l k).1) (s := (l.getD k zStep)) hs mm mm mm hsw hI) ?_; intro v39
    refine Zcx ?_;intro h12
    obtain ⟨honev391, honev392, honev393⟩ := h12
    refine rn4 ?_
    refine al_ (cs := [.slice none 0 0, .slice none 0 0, .slice none 0 0]) Try.zeroValue27 ?_; intro b14
    refine Zb0 ?_
    refine Ga2 ?_
    refine kp [4, 5, 6, 7, 8, 10, 11, 13, 14, 15, 16, 30, 31, 32, 33, 34, 35, 36, 37, 38, 39, 40, 41, 42, 43, 44, 45, 46, 47, 48, 49] ?_
    refine Zal ?_
    refine li (α := Answer) ([Abc (bAt c l k).1 (l.getD k zStep)] : List Answer) eo_28 rfl (rdAns (Afr _ _)) ?_; intro v48
    refine ap eo_28 (hb := fun w hs => by have : maxN = 16777216 := rfl; (try simp only [List.length_cons, List.length_nil]); omega) (k := ?_); intro v49
    refine ZH ?_
    refine cdy ?_ ?_
    ·intro ht51
     refine ZJ ?_
     refine Zb0 ?_
     refine ZK ?_
     refine ap G7 (hb := fun w hs => by have : maxN = 16777216 := rfl; (try simp only [List.length_cons, List.length_nil]); omega) (k := ?_); intro v55
     refine ZH ?_
     have e1 := Aaw (c := c) (l := l) (k := k) (by omega) ht51
     have e2 := Vt (c := c) (l := l) (k := k) (by omega)
     refine A7 (k + 1, v39.1, v39.2.1, v39.2.2.1, v49, v55) (by show k + 1 ≤ l.length; omega) (by show l.length - (k + 1) < l.length - k; omega) alT (fun w hs => ?_)
     try simp only
     rw [e1, e2]; exact Ae hs
    ·intro ht51
     refine ZD ?_
     have e1 := Agy (c := c) (l := l) (k := k) (by omega) ht51
     have e2 := Vt (c := c) (l := l) (k := k) (by omega)
     refine A7 (k + 1, cv, hv, fv, v49, dv) (by show k + 1 ≤ l.length; omega) (by show l.length - (k + 1) < l.length - k; omega) alT (fun w hs => ?_)
     try simp only
     rw [e1, e2]; exact Ae hs
   ·intro ht33
    refine Gl ?_
    have hkl : k = l.length := by omega
    subst hkl
    refine JC.shut (v := av) pkk ?_
    refine JC.shut (v := dv) pkk ?_
    refine JC.know (p := cv.oneCell' = true ∧ hv.oneCell' = true ∧ fv.oneCell' = true) (fun w hs => ⟨isSlice.one (hs.fact (mm (f := sl cv (bAt c l l.length).1.cores))), isSlice.one (hs.fact (mm (f := sl hv (bAt c l l.length).1.home))), isSlice.one (hs.fact (mm (f := sl fv (bAt c l l.length).1.frames)))⟩) (fun h12 => ?_)
    obtain ⟨hone1, hone2, hone3⟩ := h12
    refine ZL ?_
    refine Zbh ?_
    refine Ga3 ?_
    rw [pS_3 hok hl3]
    exact I4 (cv, hv, fv, av, dv) Try.isAgg27 Try.sizeOf27
theorem Ss {v0 : Value} {l : List Done} {p : Int} (hs : St (L) R w) (h0 : sl v0 l ∈ R) (hlb : l.length ≤ 1000) (hp : An p) : Calls Try.prog 16 [v0, vi p].toArray w (Cd (fun v : Value => v) (fun v => L) (fun v => sl v (Ax l p) :: R)) := by
 have hlen := Bx h0 hs
 refine Ah Try.func16 rfl Try.ntmps16 rfl hs ?_
 exact ZcS
theorem Ahp {v1 : Value} {l : List Done} {lines : Int} (hs : St (L) R w) (h1 : sl v1 l ∈ R) (hl0 : 0 ≤ lines) (hl4 : lines ≤ 100) : Calls Try.prog 21 [vi lines, v1].toArray w (Cd (fun v : Value => .tuple #[v, vi (Gn lines l).2]) (fun v => L) (fun v => sl v (Gn lines l).1 :: R)) := by
 have hlen := Bx h1 hs
 refine Ah Try.func21 rfl Try.ntmps21 rfl hs ?_
 clear hs
 refine Gm ?_
 refine Gb2 ?_
 refine Za0 ?_
 refine ob (q_mx (a := lines) rfl hl0) ?_
 refine Ga1 ?_
 refine JC.rowNil 3 Int ?_
 refine Bs (γ := Nat × Value) (fun g => (g.1 : Int) ≤ lines) (fun g => row 3 g.2 (List.replicate g.1 (0 : Int)) :: L) (fun _ => R) (fun g => [(1, v1), (6, g.2), (13, vi lines), (14, vi (g.1 : Int))]) (fun g => lines.toNat - g.1) (0, .slice none 0 0) (by show (0 : Int) ≤ lines; omega) alT (fun w hs => Ae hs) ?_
 rintro ⟨k, v6⟩ hk
 try simp only at hk ⊢
 refine ZB ?_
 refine cdy ?_ ?_
 ·intro ht15
  refine ZJ ?_
  refine li (α := Int) ([0] : List Int) Hm rfl (fun j hj => ⟨⟨_, rfl, rfl, by unfold An; decide⟩, trivial⟩) ?_; intro v17
  refine ap Hm (hb := fun w hs => by have : maxN = 16777216 := rfl; simp only [List.length_cons, List.length_nil, List.length_replicate]; omega) (k := ?_); intro v18
  refine ZH ?_
  refine A7 (k + 1, v18) (by show ((k + 1 : Nat) : Int) ≤ lines; omega) (by show lines.toNat - (k + 1) < lines.toNat - k; omega) alT (fun w hs => ?_)
  try simp only
  rw [List.replicate_succ']; exact Ae hs
 ·intro ht15
  refine Gl ?_
  have hkl : lines.toNat = k := by omega
  refine JC.shut (v := v6) pkk ?_
  rw [show List.replicate k (0 : Int) = Vu lines by unfold Vu; rw [hkl]]
  refine Aa ?_
  refine Ga3 ?_
  refine Bs (γ := Nat × Value × List Int) (fun g => g.1 ≤ l.length ∧ g.2.2.length ≤ 16777216 ∧ Gn lines l = Fo g.2.2 (g.1 : Int) (l.drop g.1)) (fun _ => L) (fun g => sl g.2.1 g.2.2 :: R) (fun g => [(6, g.2.1), (20, v1), (21, vi (l.length : Int)), (22, vi (g.1 : Int))]) (fun g => l.length - g.1) (0, v6, Vu lines) ⟨by simp, by unfold Vu; rw [List.length_replicate]; omega, rfl⟩ alT (fun w hs => Ae hs) ?_
  rintro ⟨j, v, mk⟩ ⟨hj, hmk, hpl⟩
  try simp only at hj hmk hpl ⊢
  refine ZB ?_
  refine cdy ?_ ?_
  ·intro ht23
   refine Gl ?_
   refine JC.open0 (xs := l) (v := v1) j mm (by omega) (fun hdw => ?_)
   have hd : l[j]? = some (l.getD j zDone) := by rw [List.getD_eq_getElem?_getD, List.getElem?_eq_getElem (by omega)]; rfl
   refine ZL ?_
   refine al_ (cs := zDone.cells) Try.zeroValue50 ?_; intro b8
   refine rn1 ?_
   refine s_B (cs := (l.getD j zDone).cells) Try.sizeOf50 ?_
   refine ZK ?_
   refine ob (Fr 3 Try.isAgg36 Try.sizeOf36) ?_
   refine Ak Try.call32 rfl (fun w hs => refDo (m := mk) (o := (l.getD j zDone).op) hs mm) ?_; intro v31
   refine Ga7 ?_
   refine kp [4, 5, 6, 7, 8, 9, 10, 11, 20, 21, 22, 23, 24, 25, 26, 27, 28, 29, 30, 31, 32, 33, 34, 35, 36, 37, 38, 39, 40, 41, 42] ?_
   refine Dn 42 (.bool (decide (((Bj mk (l.getD j zDone).op).2.2 ≠ 0) ∨ ((Bj mk (l.getD j zDone).op).2.1 ≠ (l.getD j zDone).value)))) ?_ ?_
   ·rcases (show (((Bj mk (l.getD j zDone).op).2.2 ≠ 0)) ∨ (¬ ((Bj mk (l.getD j zDone).op).2.2 ≠ 0) ∧ ((Bj mk (l.getD j zDone).op).2.1 ≠ (l.getD j zDone).value)) ∨ (¬ ((Bj mk (l.getD j zDone).op).2.2 ≠ 0) ∧ ¬ ((Bj mk (l.getD j zDone).op).2.1 ≠ (l.getD j zDone).value)) from by omega) with hm | hm | hm
    ·refine ZC ?_
     refine Aic ?_
     exact ZdY
    ·refine ZC ?_
     refine Ms ?_
     refine ZE ?_
     refine Aic ?_
     refine Ga1 ?_
     exact ZcO
    ·refine ZC ?_
     refine Ms ?_
     refine ZE ?_
     refine Ms ?_
     refine Ga1 ?_
     exact Zdb
   ·refine Bc ?_
    refine Gl ?_
    first | (refine cdx (p := ?p3) (hd := ?d3) ?e3 ?_ ?_; case e3 => exact rfl) | (refine Cc (b := ?b3) ?e3 ?_ ?_; case e3 => exact rfl)
    ·intro ht42
     refine Gm ?_
     refine Ga4 ?_
     have er : Gn lines l = (mk, (j : Int)) := by rw [hpl, Zw hd, O9 (by omega)]
     rw [er]
     exact D5 v
    ·intro ht42
     refine Gm ?_
     refine Gb2 ?_
     refine Ga2 ?_
     refine A7 (j + 1, v31, (Bj mk (l.getD j zDone).op).1) ⟨by show j + 1 ≤ l.length; omega, Nat.le_trans W4 hmk, ?_⟩ (by show l.length - (j + 1) < l.length - j; omega) alT (fun w hs => Ae hs)
     show Gn lines l = Fo (Bj mk (l.getD j zDone).op).1 ((j + 1 : Nat) : Int) (l.drop (j + 1))
     rw [hpl, Zw hd, Mn (by rintro (h | h) <;> omega)]; rfl
  ·intro ht23
   refine Zac ?_
   have er : Gn lines l = (mk, -1) := by rw [hpl, List.drop_of_length_le (by omega)]; rfl
   rw [er]
   exact D5 v
theorem Ig : ∀ (a b : List Step) (x : Chip), Bu x (a ++ b) = ((Bu (Bu x a).1 b).1, (Bu x a).2 ++ (Bu (Bu x a).1 b).2)
 | [], b, x => by rw [List.nil_append]; simp [Bu]
 | s :: a, b, x => by
  rw [List.cons_append]
  by_cases h : (Ag x s).2.2 = 0
  ·rw [Dq h, Dq h, Ig a b]; simp
  ·rw [Ep h, Ep h, Ig a b]
def Ku (x : Chip) (p : Int) : List Op := if 0 ≤ p ∧ p < Az x ∧ (Ap x p).wait.kind ≠ 0 then [(Ap x p).wait] else []
def Ge (x : Chip) (s : Step) (p : Int) : List Op := if s.kind = 1 ∧ s.node = p ∧ (Ag x s).2.2 = 0 then [s.op] else []
def Iz : Chip → List Step → Int → List Op
 | _, [], _ => []
 | x, s :: r, p => Ge x s p ++ Iz (if (Ag x s).2.2 = 0 then (Ag x s).1 else x) r p
theorem Ro {α : Type} (l : List α) (q p : Int) (a d : α) (h0 : 0 ≤ q) (hq : q < (l.length : Int)) (hp : 0 ≤ p) : (l.set q.toNat a).getD p.toNat d = if p = q then a else l.getD p.toNat d := by
 have h1 := Bi l q.toNat p.toNat a d (by omega)
 rw [h1]
 by_cases e : p = q
 ·rw [if_pos (by omega), if_pos e]
 ·rw [if_neg (by omega), if_neg e]
theorem Uj {x : Chip} {q p : Int} {k : Core} {h : List Entry} {f : Frames} (h0 : 0 ≤ q) (hq : q < Az x) (hp : 0 ≤ p) : Ku ⟨x.cores.set q.toNat k, h, f⟩ p = if p = q then (if k.wait.kind ≠ 0 then [k.wait] else []) else Ku x p := by
 unfold Ku Az Ap at *
 simp only [List.length_set]
 rw [Ro x.cores q p k Fa h0 hq hp]
 by_cases e : p = q
 ·subst e
  rw [if_pos rfl, if_pos rfl]
  by_cases w : k.wait.kind ≠ 0
  ·rw [if_pos ⟨hp, hq, w⟩, if_pos w]
  ·rw [if_neg (fun h => w h.2.2), if_neg w]
 ·rw [if_neg e, if_neg e]
theorem Uk {x : Chip} {p : Int} (h : p < 0) : Ku x p = [] := by unfold Ku; rw [if_neg (by omega)]
theorem Q1 {x y : Chip} (p : Int) (h : y.cores = x.cores) : Ku y p = Ku x p := by unfold Ku Az Ap; rw [h]
theorem Pb (p : Int) : Ax [] p = [] := rfl
theorem Up (d : Done) (p : Int) : (Ax [d] p).map Done.op = if d.core = p then [d.op] else [] := by
 unfold Ax; by_cases h : d.core = p <;> simp [h]
theorem Uq (a b : List Done) (p : Int) : Ax (a ++ b) p = Ax a p ++ Ax b p := List.filter_append ..
theorem R7 {c : Core} {id home : Int} {o : Op} (h : (Aj c id home o).2.2.2 = 0) : c.wait.kind = 0 ∧ o.kind ≠ 0 ∧ (((Aj c id home o).1.wait = zOp ∧ ∃ v, (Aj c id home o).2.2.1 = [⟨id, o, v⟩]) ∨ ((Aj c id home o).1.wait = o ∧ (Aj c id home o).2.2.1 = [])) := by
 revert h; unfold Aj
 split
 ·exact Zd2
 split
 ·exact Zd2
 split
 ·exact Zd2
 rename_i h1 h2 h3
 split
 ·intro _; exact ⟨by omega, by omega, .inl ⟨rfl, _, rfl⟩⟩
 ·intro _; exact ⟨by omega, by omega, .inr ⟨rfl, rfl⟩⟩
theorem Ade {c : Core} {id home : Int} {m : Msg} (hw : ∀ i : Nat, i < c.lines.length → (c.lines.getD i zLine).want ≠ 0 → c.wait.kind ≠ 0) : ((Ac c id home m).1.wait = c.wait ∧ (Ac c id home m).2.2 = []) ∨ (c.wait.kind ≠ 0 ∧ (Ac c id home m).1.wait = zOp ∧ ∃ v, (Ac c id home m).2.2 = [⟨id, c.wait, v⟩]) := by
 have hz : ¬ (m.line < 0 ∨ (c.lines.length : Int) ≤ m.line) → (Bo c m.line).want ≠ 0 → c.wait.kind ≠ 0 := fun h => hw m.line.toNat (by omega)
 unfold Ac
 split
 ·exact ZdK
 rename_i h0
 have hz := hz h0
 split
 ·exact ZdK
 split
 ·split
  ·by_cases w : (Bo c m.line).want = 3
   ·rw [if_pos w, if_pos w]
    exact .inr ⟨hz (by omega), rfl, _, rfl⟩
   ·rw [if_neg w, if_neg w]
    exact ZdK
  split
  ·exact ZdK
  ·exact ZdK
 split
 ·split
  ·exact ZdK
  split
  ·rename_i ha
   exact .inr ⟨hz (by have := ha.2; omega), rfl, _, rfl⟩
  ·exact ZdK
 split
 ·rename_i ha
  exact .inr ⟨hz (by have := ha.2.1; omega), rfl, _, rfl⟩
 ·exact ZdK
section
variable {n nl : Nat} {x : Chip} {M : List Int}
theorem Y5 (h : Inv n nl x M) {p : Int} (h0 : 0 ≤ p) (hp : p < Az x) : ∀ i : Nat, i < (Ap x p).lines.length → ((Ap x p).lines.getD i zLine).want ≠ 0 → (Ap x p).wait.kind ≠ 0 := by
 have hn := h.nc; unfold Az at hp
 have hp' : p.toNat < n := by omega
 intro i hi hw
 have hl := h.ncl p.toNat hp'
 exact (K8 (h.cw p.toNat hp') (by rw [← hl]; exact hi) hw).1
theorem O3 (h : Inv n nl x M) (s : Step) (p : Int) (hok : (Ag x s).2.2 = 0) : Ku x p ++ Ge x s p = (Ax (Ag x s).2.1 p).map Done.op ++ Ku (Ag x s).1 p := by
 have hn := h.nc
 have hnc : Az x = (n : Int) := by unfold Az; rw [hn]
 by_cases hp0 : p < 0
 ·rw [Uk hp0, Uk hp0, List.nil_append, List.append_nil]
  have hb : Ge x s p = [] := by
   unfold Ge; rw [if_neg]; intro ⟨b1, b2, b3⟩
   unfold Ag at b3; rw [if_pos b1, if_pos (by omega)] at b3; exact absurd b3 (by decide)
  rw [hb]
  have hd : ∀ d ∈ (Ag x s).2.1, d.core ≠ p := by
   intro d hd
   revert hd; unfold Ag
   split
   ·split
    ·simp
    split
    ·simp
    ·rename_i a1 a2 a3
     rcases (R7 (Decidable.not_not.1 a3)).2.2 with ⟨_, v, e⟩ | ⟨_, e⟩
     ·rw [e]; intro hd; rw [List.mem_singleton.1 hd]; simp only; omega
     ·rw [e]; simp
   split
   ·split
    ·simp
    ·simp only
     unfold A6
     split
     ·simp
     split
     ·simp
     ·simp only
      intro hd
      by_cases hm : (Ad (Aq ⟨x.cores, x.home, x.frames.eraseIdx s.n.toNat⟩) (Cg x.frames s.n)).1.dst < 0
      ·rename_i b1 b2
       have hpar : Ad (Aq ⟨x.cores, x.home, x.frames.eraseIdx s.n.toNat⟩) (Cg x.frames s.n) = ((Ad (Aq ⟨x.cores, x.home, x.frames.eraseIdx s.n.toNat⟩) (Cg x.frames s.n)).1, 0) := by
        rw [← Decidable.not_not.1 b1]
       have hw := Ec (El hpar).2.2.2.2.1
       omega
      ·generalize (Ad (Aq ⟨x.cores, x.home, x.frames.eraseIdx s.n.toNat⟩) (Cg x.frames s.n)).1 = m at *
       revert hd; unfold Ac
       repeat' split
       all_goals first | (simp; done) | (intro hd; rw [List.mem_singleton.1 hd]; simp only; omega)
   all_goals (repeat' split) <;> simp
  have : Ax (Ag x s).2.1 p = [] := List.filter_eq_nil_iff.2 fun d hm => by simp [hd d hm]
  rw [this]; rfl
 have hp0' : 0 ≤ p := by omega
 have hno : ∀ fr hm, Ku ⟨x.cores, hm, fr⟩ p = Ku x p := fun fr hm => Q1 p rfl
 by_cases k1 : s.kind = 1
 ·unfold Ge
  revert hok
  unfold Ag
  rw [if_pos k1]
  split
  ·intro hok; exact absurd hok (by simp)
  split
  ·intro hok; exact absurd hok (by assumption)
  rename_i a1 a2
  intro _
  simp only [true_and, and_true, k1]
  have hb := R7 (Decidable.not_not.1 a2)
  obtain ⟨w0, w1, w2⟩ := hb
  unfold Cf
  rw [Uj (by omega) (by omega) hp0']
  by_cases e : p = s.node
  ·subst e
   rw [if_pos rfl, if_pos rfl]
   have hx : Ku x s.node = [] := by unfold Ku; rw [if_neg (fun h => h.2.2 w0)]
   rw [hx, List.nil_append]
   rcases w2 with ⟨e1, v, e2⟩ | ⟨e1, e2⟩
   ·rw [e1, e2, Up]; simp [zOp]
   ·rw [e1, e2, Pb, if_pos w1]; rfl
  ·rw [if_neg (fun h => e h.symm), if_neg e, List.append_nil]
   rcases w2 with ⟨_, v, e2⟩ | ⟨_, e2⟩
   ·rw [e2, Up, if_neg (fun h => e h.symm)]; rfl
   ·rw [e2]; rfl
 have hb1 : Ge x s p = [] := by unfold Ge; rw [if_neg (fun h => k1 h.1)]
 rw [hb1, List.append_nil]
 by_cases k2 : s.kind = 2
 ·revert hok
  unfold Ag
  rw [if_neg k1, if_pos k2]
  split
  ·intro hok; exact absurd hok (by simp)
  intro _
  simp only
  unfold A6
  split
  ·rw [Pb, hno]; rfl
  split
  ·rw [Pb, hno]; rfl
  rename_i b1 b2
  have hpar : Ad (Aq ⟨x.cores, x.home, x.frames.eraseIdx s.n.toNat⟩) (Cg x.frames s.n) = ((Ad (Aq ⟨x.cores, x.home, x.frames.eraseIdx s.n.toNat⟩) (Cg x.frames s.n)).1, 0) := by
   rw [← Decidable.not_not.1 b1]
  have hw := Ec (El hpar).2.2.2.2.1
  generalize (Ad (Aq ⟨x.cores, x.home, x.frames.eraseIdx s.n.toNat⟩) (Cg x.frames s.n)).1 = m at *
  have hc2 : (Aq ⟨x.cores, x.home, x.frames.eraseIdx s.n.toNat⟩).cores = Az x := rfl
  have hn2 : Az ⟨x.cores, x.home, x.frames.eraseIdx s.n.toNat⟩ = Az x := rfl
  have hca : Ap ⟨x.cores, x.home, x.frames.eraseIdx s.n.toNat⟩ m.dst = Ap x m.dst := rfl
  rw [hn2] at b2 ⊢
  rw [hca]
  have hd : 0 ≤ m.dst ∧ m.dst < Az x := by rw [hc2] at hw; omega
  unfold Cf
  simp only
  rw [Uj hd.1 hd.2 hp0']
  have ho := Ade (id := m.dst) (home := Az x) (m := m) (Y5 h hd.1 hd.2)
  by_cases e : p = m.dst
  ·subst e
   rw [if_pos rfl]
   rcases ho with ⟨e1, e2⟩ | ⟨w, e1, v, e2⟩
   ·rw [e1, e2, Pb]; unfold Ku
    by_cases w : (Ap x m.dst).wait.kind ≠ 0
    ·rw [if_pos ⟨hd.1, hd.2, w⟩, if_pos w]; rfl
    ·rw [if_neg (fun h => w h.2.2), if_neg w]; rfl
   ·rw [e1, e2, Up, if_pos rfl]; unfold Ku; rw [if_pos ⟨hd.1, hd.2, w⟩]; simp [zOp]
  ·rw [if_neg e]
   rcases ho with ⟨_, e2⟩ | ⟨_, _, v, e2⟩
   ·rw [e2]; rfl
   ·rw [e2, Up, if_neg (fun h => e h.symm)]; rfl
 have hcs : (Ag x s).1.cores = x.cores ∧ (Ag x s).2.1 = [] := by
  revert hok
  unfold Ag
  rw [if_neg k1, if_neg k2]
  exact ZdH
 rw [hcs.2, Q1 p hcs.1]; rfl
theorem Tq (p : Int) : ∀ (l : List Step) {x : Chip} {M : List Int}, Inv n nl x M → Ku x p ++ Iz x l p = (Ax (Bu x l).2 p).map Done.op ++ Ku (Bu x l).1 p
 | [], x, M, h => by simp [Iz, Bu, Ax]
 | s :: l, x, M, h => by
  unfold Iz
  by_cases hok : (Ag x s).2.2 = 0
  ·obtain ⟨M', h', _⟩ := H6 h hok
   rw [if_pos hok, Dq hok, Uq, List.map_append, ← List.append_assoc, O3 h s p hok, List.append_assoc, Tq p l h', List.append_assoc]
  ·have hb : Ge x s p = [] := by unfold Ge; rw [if_neg (fun h => hok h.2.2)]
   rw [if_neg hok, Ep hok, hb, List.nil_append]
   exact Tq p l h
end
def goS : Step := ⟨2, 0, 0, 0, zOp⟩
def tmS (k : Nat) : Step := ⟨6, (k : Int), 0, 0, zOp⟩
theorem Nk : ∀ (l : List Step) (x : Chip), (Bu x l).2.length ≤ l.length
 | [], x => by simp [Bu]
 | s :: l, x => by
  by_cases h : (Ag x s).2.2 = 0
  ·rw [Dq h]; have := Nk l (Ag x s).1; have := Nj x s
   simp only [List.length_append, List.length_cons]; omega
  ·rw [Ep h]; have := Nk l x; simp only [List.length_cons]; omega
theorem Adk {x : Chip} (h : 0 < x.frames.length) : Ag x goS = ((A6 ⟨x.cores, x.home, x.frames.eraseIdx 0⟩ (Cg x.frames 0)).1, (A6 ⟨x.cores, x.home, x.frames.eraseIdx 0⟩ (Cg x.frames 0)).2, 0) := by
 unfold Ag goS
 rw [if_neg (by simp), if_pos rfl, if_neg (by unfold Ef; simp only; omega)]
 simp only
 rw [Int.toNat_zero]
theorem Afx : ∀ (ms : List Msg) (l : Frames), l.length ≤ (way l ms).length
 | [], l => Nat.le_refl _
 | m :: r, l => by
  have h1 : l.length ≤ (Cu l (msgBytes m)).length := by unfold Cu; split <;> simp
  have h2 := Afx r (Cu l (msgBytes m))
  simp only [way]; omega
theorem Rm {x : Chip} (h : 0 < x.frames.length) : (Ag x goS).2.2 = 0 ∧ x.frames.length ≤ (Ag x goS).1.frames.length + 1 := by
 rw [Adk h]
 refine ⟨rfl, ?_⟩
 have he : (x.frames.eraseIdx 0).length = x.frames.length - 1 := by rw [List.length_eraseIdx, if_pos h]
 rcases Aez ⟨x.cores, x.home, x.frames.eraseIdx 0⟩ (Cg x.frames 0) with e | ⟨ms, e⟩
 ·simp only [e]; omega
 ·simp only [e]; have := Afx ms (x.frames.eraseIdx 0); omega
def Dv (x : Chip) (k : Nat) : Chip × List Done := Bu x (List.replicate k goS)
def I2 (y : Chip) (k : Nat) : Chip × List Done := Bu y ((List.range k).map tmS)
theorem Rp {x : Chip} {k : Nat} (h : (Ag (Dv x k).1 goS).2.2 = 0) : Dv x (k + 1) = ((Ag (Dv x k).1 goS).1, (Dv x k).2 ++ (Ag (Dv x k).1 goS).2.1) := by
 unfold Dv at h ⊢; rw [List.replicate_succ']; exact G9 _ _ _ h
theorem Zk (x : Chip) : ∀ k, k ≤ x.frames.length → x.frames.length ≤ (Dv x k).1.frames.length + k
 | 0, _ => by simp [Dv, Bu]
 | k + 1, h => by
  have ih := Zk x k (by omega)
  have h1 := Rm (x := (Dv x k).1) (by omega)
  rw [Rp h1.1]; simp only; omega
theorem Aix {x : Chip} {k : Nat} (h : k < x.frames.length) : (Ag (Dv x k).1 goS).2.2 = 0 := by
 have := Zk x k (by omega)
 exact (Rm (by omega)).1
theorem Vb (x : Chip) (k : Nat) : (Dv x k).2.length ≤ k := by
 unfold Dv; exact Nat.le_trans (Nk _ _) (by simp)
theorem tm_ok {x : Chip} {k : Nat} (h : k ≤ x.cores.length) : (Ag x (tmS k)).2.2 = 0 ∧ (Ag x (tmS k)).2.1 = [] ∧ (Ag x (tmS k)).1.cores = x.cores ∧ (Ag x (tmS k)).1.home = x.home := by
 unfold Ag tmS Az
 rw [if_neg (by simp), if_neg (by simp), if_neg (by simp), if_neg (by simp), if_neg (by simp), if_pos rfl, if_neg (by simp only; omega)]
 split <;> exact ⟨rfl, rfl, rfl, rfl⟩
theorem Hx (y : Chip) : ∀ k, k ≤ y.cores.length + 1 → (I2 y k).1.cores = y.cores ∧ (I2 y k).1.home = y.home ∧ (I2 y k).2 = []
 | 0, _ => by simp [I2, Bu]
 | k + 1, h => by
  obtain ⟨a, b, c⟩ := Hx y k (by omega)
  have h1 := tm_ok (x := (I2 y k).1) (k := k) (by rw [a]; omega)
  have e : I2 y (k + 1) = ((Ag (I2 y k).1 (tmS k)).1, (I2 y k).2 ++ (Ag (I2 y k).1 (tmS k)).2.1) := by
   unfold I2 at h1 ⊢; rw [List.range_succ, List.map_append]; exact G9 _ _ _ h1.1
  rw [e]; simp only
  exact ⟨by rw [h1.2.2.1, a], by rw [h1.2.2.2, b], by rw [c, h1.2.1]; rfl⟩
theorem Qo {y : Chip} {k : Nat} (h : k ≤ y.cores.length) : (Ag (I2 y k).1 (tmS k)).2.2 = 0 ∧ I2 y (k + 1) = ((Ag (I2 y k).1 (tmS k)).1, []) := by
 obtain ⟨a, b, c⟩ := Hx y k (by omega)
 have h1 := tm_ok (x := (I2 y k).1) (k := k) (by rw [a]; omega)
 refine ⟨h1.1, ?_⟩
 have e : I2 y (k + 1) = ((Ag (I2 y k).1 (tmS k)).1, (I2 y k).2 ++ (Ag (I2 y k).1 (tmS k)).2.1) := by
  unfold I2 at h1 ⊢; rw [List.range_succ, List.map_append]; exact G9 _ _ _ h1.1
 rw [e, c, h1.2.1]; rfl
def As (x : Chip) : Chip × List Done := ((I2 (Dv x x.frames.length).1 ((Dv x x.frames.length).1.cores.length + 1)).1, (Dv x x.frames.length).2)
theorem Mi (x : Chip) : As x = Bu x (List.replicate x.frames.length goS ++ (List.range ((Dv x x.frames.length).1.cores.length + 1)).map tmS) := by
 rw [Ig]
 have h := (Hx (Dv x x.frames.length).1 ((Dv x x.frames.length).1.cores.length + 1) (Nat.le_refl _)).2.2
 show _ = ((I2 (Dv x x.frames.length).1 _).1, (Dv x x.frames.length).2 ++ (I2 (Dv x x.frames.length).1 _).2)
 rw [h, List.append_nil]; rfl
section
variable {n nl : Nat} {x : Chip} {M : List Int}
theorem Pg (h : Inv n nl x M) (k : Nat) : ∃ M', Inv n nl (Dv x k).1 M' ∧ Cn M (Dv x k).2 M' := Fu _ h
theorem Pd (h : Inv n nl x M) (k : Nat) : ∃ M', Inv n nl (I2 x k).1 M' := by
 obtain ⟨M', h', _⟩ := Fu ((List.range k).map tmS) h; exact ⟨M', h'⟩
theorem Rd (h : Inv n nl x M) : ∃ M', Inv n nl (As x).1 M' ∧ Cn M (As x).2 M' := by
 rw [Mi]; exact Fu _ h
theorem Mh (h : Inv n nl x M) : (As x).2.length ≤ 40 := Nat.le_trans (Vb x _) h.fr
theorem calmR_iff : C1 x = true ↔ (∀ i, i < x.home.length → (ent x i).phase = 0) ∧ ∀ p, p < x.cores.length → (cor x p).wait.kind = 0 := by
 unfold C1
 rw [Bool.and_eq_true, allN_iff, allN_iff]
 unfold I9 Hs
 simp only [beq_iff_eq]
def frW (b : List UInt8) : Nat := if 3 ≤ (b.getD 0 0).toNat ∧ (b.getD 0 0).toNat ≤ 7 then 2 else 1
def Gr : Frames → Nat
 | [] => 0
 | b :: l => frW b + Gr l
theorem Zn (b : List UInt8) : 1 ≤ frW b ∧ frW b ≤ 2 := by unfold frW; split <;> omega
theorem Ly : ∀ (a b : Frames), Gr (a ++ b) = Gr a + Gr b
 | [], b => by simp [Gr]
 | c :: a, b => by rw [List.cons_append]; simp only [Gr]; rw [Ly a b]; omega
theorem Ps : ∀ (a : Frames), Gr a ≤ 2 * a.length
 | [] => by simp [Gr]
 | c :: a => by have := Ps a; have := Zn c; simp only [Gr, List.length_cons]; omega
theorem Zm (m : Msg) (h : 8 ≤ m.kind ∧ m.kind ≤ 11) : frW (msgBytes m) = 1 := by
 have e : (msgBytes m).getD 0 0 = u8 m.kind := rfl
 unfold frW; rw [e]
 have : m.kind = 8 ∨ m.kind = 9 ∨ m.kind = 10 ∨ m.kind = 11 := by omega
 rcases this with h | h | h | h <;> rw [h] <;> decide
theorem G6 {c : Config} {b : List UInt8} {m : Msg} (h : Ad c b = (m, 0)) (h3 : 3 ≤ m.kind ∧ m.kind ≤ 7) : frW b = 2 := by
 have e : m.kind = ((b.getD 0 0).toNat : Int) := by
  rw [(El h).2.2.2.2.2]; rfl
 unfold frW; rw [if_pos (by omega)]
theorem Zb {e : Entry} {id : Int} {m : Msg} (h0 : e.phase = 0) (hg : m.kind = 1 ∨ m.kind = 2 → m.serial ≤ Fd e m.src) : (Af e id m).1.phase = 0 ∧ ((Af e id m).2 = [] ∨ (m.kind = 3 ∧ ∃ m', (Af e id m).2 = [m'] ∧ m'.kind = 11)) := by
 unfold Af
 split
 ·rename_i hk
  rw [if_pos (.inr (.inl (hg hk)))]; exact ⟨h0, .inl rfl⟩
 split
 ·rename_i hk
  rw [if_neg (fun h => h h0)]
  refine ⟨?_, .inr ⟨hk, _, rfl, rfl⟩⟩
  simp only; unfold Fv
  split
  ·split <;> exact h0
  ·exact h0
 split
 ·exact Zek
 split
 ·exact Zek
 split
 ·exact Zek
 ·exact ⟨h0, .inl rfl⟩
theorem Aaa {c : Core} {id home : Int} {m : Msg} (hw : ¬ (m.line < 0 ∨ (c.lines.length : Int) ≤ m.line) → (Bo c m.line).want = 0) (hf : m.kind = 5 ∨ m.kind = 6 → m.turn ≤ (Bo c m.line).seen) : (Ac c id home m).1.wait = c.wait ∧ (Ac c id home m).2.2 = [] ∧ ((Ac c id home m).2.1 = [] ∨ ((3 ≤ m.kind ∧ m.kind ≤ 7) ∧ ∃ m', (Ac c id home m).2.1 = [m'] ∧ 8 ≤ m'.kind ∧ m'.kind ≤ 11)) := by
 unfold Ac
 split
 ·exact ⟨rfl, rfl, .inl rfl⟩
 rename_i h0
 have hw := hw h0
 split
 ·rename_i hk; exact ⟨rfl, rfl, .inr ⟨by omega, _, rfl, by unfold Ba; simp only; omega⟩⟩
 split
 ·rename_i hk
  rw [if_neg (show ¬ E3 (Bo c m.line) m.turn from fun h => by have := h.2.1; have := hf hk; omega)]
  split
  ·exact ⟨by trivial, by trivial, .inr ⟨by omega, _, rfl, by unfold Ba; simp only; omega⟩⟩
  ·exact ⟨by trivial, by trivial, .inl rfl⟩
 split
 ·split
  ·exact ⟨rfl, rfl, .inl rfl⟩
  rw [if_neg (show ¬ Ls (Bo c m.line) m from fun h => by have := h.2; omega)]
  exact ⟨rfl, rfl, .inr ⟨by omega, _, rfl, by unfold Ba; simp only; omega⟩⟩
 split
 ·rename_i h; exact absurd h.2.1 (by omega)
 ·exact ⟨rfl, rfl, .inl rfl⟩
theorem Z0 (l : Frames) (m : Msg) (h : 8 ≤ m.kind ∧ m.kind ≤ 11) : Gr (Cu l (msgBytes m)) ≤ Gr l + 1 := by
 unfold Cu; split
 ·rw [Ly]; simp only [Gr]; rw [Zm m h]; omega
 ·omega
theorem Pr {l : Frames} {ms : List Msg} {b : List UInt8} (h : ms = [] ∨ (frW b = 2 ∧ ∃ m', ms = [m'] ∧ 8 ≤ m'.kind ∧ m'.kind ≤ 11)) : Gr (way l ms) + 1 ≤ frW b + Gr l := by
 rcases h with rfl | ⟨h1, m', rfl, h2⟩
 ·have := Zn b; simp only [way]; omega
 ·simp only [way]; have := Z0 l m' h2; omega
theorem P2 (h : Inv n nl x M) (hc : C1 x = true) (hf : 0 < x.frames.length) : C1 (Ag x goS).1 = true ∧ (Ag x goS).2.1 = [] ∧ Gr (Ag x goS).1.frames + 1 ≤ Gr x.frames := by
 have hc0 := calmR_iff.1 hc
 obtain ⟨b, fs, hfr⟩ : ∃ b fs, x.frames = b :: fs := by
  cases e : x.frames with
  | nil => rw [e] at hf; exact absurd hf (by simp)
  | cons b fs => exact ⟨b, fs, rfl⟩
 rw [Adk hf]
 have hb : Cg x.frames 0 = b := by rw [hfr]; rfl
 have he : x.frames.eraseIdx 0 = fs := by rw [hfr]; rfl
 have hd : Gr x.frames = frW b + Gr fs := by rw [hfr]; rfl
 rw [hb, he, hd]
 have hcf : Aq ⟨x.cores, x.home, fs⟩ = Cz n nl := by
  exact ZdR
 have hmi := (h.mi b (by rw [hfr]; exact List.mem_cons_self ..)).2
 have hwant : ∀ p i, p < n → i < nl → (lin x i p).want = 0 := fun p i hp hi => ((h.cw p hp).free (hc0.2 p (by rw [h.nc]; exact hp))).2 i hi
 unfold A6
 rw [hcf]
 split
 ·exact ⟨hc, rfl, by have := Zn b; simp only; omega⟩
 rename_i hp0
 have hpar : Ad (Cz n nl) b = ((Ad (Cz n nl) b).1, 0) := by rw [← Decidable.not_not.1 hp0]
 have hMX := hmi _ hpar
 have hw := Ec (El hpar).2.2.2.2.1
 have hfw := fun h3 => G6 hpar h3
 generalize (Ad (Cz n nl) b).1 = m at *
 refine ZcF ?_;intro hnx hcn hln
 rw [hcn, hln] at hw
 have hli : m.line.toNat < nl := by omega
 split
 ·rename_i hdst
  have hpe : I5 n m = m.src.toNat := by unfold I5; rw [if_pos hdst]
  unfold MX at hMX; rw [hpe] at hMX
  have hsrc : m.src.toNat < n := by omega
  have hw0 := hwant m.src.toNat m.line.toNat hsrc hli
  have hg : m.kind = 1 ∨ m.kind = 2 → m.serial ≤ Fd (Ai x.home m.line) m.src := fun hk => by
   have h1 := (hMX.get hk).2
   refine Int.not_lt.1 fun hlt => ?_
   have h2 := (h1 hlt).2
   rw [hw0] at h2; omega
  have h00 : (Ai x.home m.line).phase = 0 := hc0.1 m.line.toNat (by rw [h.nh]; exact hli)
  have hr := Zb (e := Ai x.home m.line) (id := (n : Int)) (m := m) h00 hg
  simp only
  unfold Am
  split
  ·exact ⟨calmR_iff.2 hc0, trivial, Pr (.inl rfl)⟩
  ·refine ⟨calmR_iff.2 ⟨fun i hi => ?_, hc0.2⟩, trivial, Pr ?_⟩
   ·simp only [List.length_set] at hi
    show ((x.home.set m.line.toNat _).getD i A5).phase = 0
    rw [Bi _ _ _ _ _ (by rw [h.nh]; exact hli)]
    split
    ·exact hr.1
    ·exact hc0.1 i hi
   ·simp only
    rcases hr.2 with e | ⟨h3, m', e1, e2⟩
    ·exact .inl e
    ·exact .inr ⟨hfw (by omega), m', e1, by omega⟩
 ·rename_i hdst
  have hpe : I5 n m = m.dst.toNat := by unfold I5; rw [if_neg hdst]
  unfold MX at hMX; rw [hpe] at hMX
  have hdn : m.dst.toNat < n := by omega
  have hw0 := hwant m.dst.toNat m.line.toNat hdn hli
  have h00 : (ent x m.line.toNat).phase = 0 := hc0.1 m.line.toNat (by rw [h.nh]; exact hli)
  have hr := Aaa (c := Ap ⟨x.cores, x.home, fs⟩ m.dst) (id := m.dst) (home := (n : Int)) (m := m) (fun _ => hw0) (fun hk => by
   have h1 := (hMX.fet hk).2
   refine Int.not_lt.1 fun hlt => ?_
   have h2 := (h1 hlt).2.1
   have h3 : (ab (ent x m.line.toNat)).phase = 0 := h00
   omega)
  simp only
  refine ⟨calmR_iff.2 ⟨hc0.1, fun p hp => ?_⟩, hr.2.1, ?_⟩
  ·simp only [Cf, List.length_set] at hp
   show ((x.cores.set m.dst.toNat _).getD p Fa).wait.kind = 0
   rw [Bi _ _ _ _ _ (by rw [h.nc]; exact hdn)]
   split
   ·rw [hr.1]; exact hc0.2 m.dst.toNat (by rw [h.nc]; exact hdn)
   ·exact hc0.2 p hp
  ·show Gr (way fs _) + 1 ≤ _
   have := Pr (l := fs) (b := b) (ms := (Ac (Ap ⟨x.cores, x.home, fs⟩ m.dst) m.dst (n : Int) m).2.1) (by
    rcases hr.2.2 with e | ⟨h3, m', e1, e2⟩
    ·exact .inl e
    ·exact .inr ⟨hfw h3, m', e1, e2⟩)
   omega
def drN : Nat → Chip → Chip
 | 0, x => x
 | k + 1, x => if x.frames.length = 0 then x else drN k (Ag x goS).1
def Ru (x : Chip) : Chip := drN (Gr x.frames) x
theorem Vi {l : Frames} (h : 0 < l.length) : 0 < Gr l := by
 cases l with
 | nil => exact absurd h (by simp)
 | cons b l => have := Zn b; simp only [Gr]; omega
theorem Pt (x : Chip) (h : x.frames.length = 0) : ∀ j, drN j x = x
 | 0 => rfl
 | j + 1 => by simp only [drN]; rw [if_pos h]
theorem Ni {l : Frames} (h : Gr l = 0) : l.length = 0 := by
 refine Classical.byContradiction fun c => ?_
 have := Vi (l := l) (by omega); omega
theorem Vj : ∀ (k j : Nat) {x : Chip} {M : List Int}, Inv n nl x M → C1 x = true → Gr x.frames ≤ k → Gr x.frames ≤ j → drN k x = drN j x
 | 0, j, x, M, _, _, hk, _ => (Pt x (Ni (by omega)) j).symm
 | k + 1, 0, x, M, _, _, _, hj => Pt x (Ni (by omega)) (k + 1)
 | k + 1, j + 1, x, M, h, hc, hk, hj => by
  simp only [drN]
  by_cases hz : x.frames.length = 0
  ·rw [if_pos hz, if_pos hz]
  ·rw [if_neg hz, if_neg hz]
   obtain ⟨c1, c2, c3⟩ := P2 h hc (by omega)
   obtain ⟨M', h', _⟩ := H6 h (Rm (x := x) (by omega)).1
   exact Vj k j h' c1 (by omega) (by omega)
theorem Zz {x : Chip} (h : x.frames.length = 0) : Ru x = x := Pt x h _
theorem Aem (h : Inv n nl x M) (hc : C1 x = true) (hf : 0 < x.frames.length) : Ru x = Ru (Ag x goS).1 := by
 obtain ⟨c1, c2, c3⟩ := P2 h hc hf
 obtain ⟨M', h', _⟩ := H6 h (Rm hf).1
 obtain ⟨d, hd⟩ : ∃ d, Gr x.frames = d + 1 := ⟨Gr x.frames - 1, by have := Vi hf; omega⟩
 unfold Ru
 rw [hd]; simp only [drN]; rw [if_neg (by omega)]
 exact Vj _ _ h' c1 (by omega) (Nat.le_refl _)
end
def Br : Nat → Chip → Chip × List Done × Nat
 | 0, x => (x, [], 0)
 | k + 1, x => if C1 x = true then (x, [], 0) else ((Br k (As x).1).1, (As x).2 ++ (Br k (As x).1).2.1, (Br k (As x).1).2.2 + 1)
def K5 (k n0 : Nat) (x : Chip) (d : List Done) : Chip × List Done × Nat :=
 if (Br k x).2.2 = k then ((Br k x).1, d ++ (Br k x).2.1, n0 + k) else (Ru (Br k x).1, d ++ (Br k x).2.1, n0 + (Br k x).2.2)
theorem fin_0 {n0 : Nat} {x : Chip} {d : List Done} : K5 0 n0 x d = (x, d, n0) := by unfold K5; rw [if_pos (show (Br 0 x).2.2 = 0 from rfl)]; simp [Br]
theorem Ma {k : Nat} {x : Chip} (hc : C1 x = true) : Br (k + 1) x = (x, [], 0) := by simp only [Br]; rw [if_pos hc]
theorem Pm {k n0 : Nat} {x : Chip} {d : List Done} (hc : C1 x = true) : K5 (k + 1) n0 x d = (Ru x, d, n0) := by
 unfold K5; rw [Ma hc, if_neg (by simp)]; simp
theorem Zq {k n0 : Nat} {x : Chip} {d : List Done} (hc : ¬ C1 x = true) : K5 (k + 1) n0 x d = K5 k (n0 + 1) (As x).1 (d ++ (As x).2) := by
 have e : Br (k + 1) x = ((Br k (As x).1).1, (As x).2 ++ (Br k (As x).1).2.1, (Br k (As x).1).2.2 + 1) := by simp only [Br]; rw [if_neg hc]
 unfold K5; rw [e]; simp only
 by_cases h : (Br k (As x).1).2.2 = k
 ·rw [if_pos (by omega), if_pos h]; simp; omega
 ·rw [if_neg (by omega), if_neg h]; simp; omega
def Gw (x : Chip) : Nat := 12 * x.cores.length + 12
def settle (x : Chip) : Chip × List Done × Nat := K5 (Gw x) 0 x []
theorem Qu {a b : Nat} {q : Bool} (h : a ≤ b) : a = b ∨ (a < b ∧ q = true) ∨ (a < b ∧ q = false) := by
 rcases Nat.lt_or_ge a b with h1 | h1
 ·cases q
  ·exact .inr (.inr ⟨h1, rfl⟩)
  ·exact .inr (.inl ⟨h1, rfl⟩)
 ·exact .inl (by omega)
def Wr (p : Nat → Bool) : Nat → Int
 | 0 => -1
 | k + 1 => if 0 ≤ Wr p k then Wr p k else if p k = true then (k : Int) else -1
theorem U0 {p : Nat → Bool} : ∀ {k : Nat}, (∀ i, i < k → p i = false) → Wr p k = -1
 | 0, _ => rfl
 | k + 1, h => by
  simp only [Wr]
  rw [U0 (k := k) fun i hi => h i (by omega), if_neg (by decide), if_neg (by rw [h k (by omega)]; decide)]
theorem Y8 {p : Nat → Bool} {k : Nat} (h : ∀ i, i < k → p i = false) (hk : p k = true) : ∀ {n : Nat}, k < n → Wr p n = (k : Int)
 | 0, hn => absurd hn (by omega)
 | n + 1, hn => by
  simp only [Wr]
  by_cases e : k = n
  ·rw [← e, U0 h, if_neg (by decide), if_pos hk]
  ·rw [Y8 h hk (n := n) (by omega), if_pos (by omega)]
theorem Y7 {p : Nat → Bool} : ∀ {n : Nat}, Nr (fun k => !p k) n = false → 0 ≤ Wr p n
 | 0, e => by cases e
 | n + 1, e => by
  simp only [Nr, Bool.and_eq_false_iff] at e
  simp only [Wr]
  by_cases h : 0 ≤ Wr p n
  ·rw [if_pos h]; exact h
  ·rw [if_neg h]
   rcases e with e | e
   ·exact absurd (Y7 e) h
   ·rw [if_pos (by simpa using e)]; omega
theorem Air {p : Nat → Bool} {n : Nat} : decide (0 ≤ Wr p n) = !Nr (fun k => !p k) n := by
 cases e : Nr (fun k => !p k) n with
 | true => rw [U0 fun i hi => by have := allN_iff.1 e i hi; simpa using this]; rfl
 | false => rw [decide_eq_true (Y7 e)]; rfl
theorem Ais {cv : Value} {x : Chip} {ff : Nat} {caps : List Value} {p : Nat → Bool} (hs : St (L) R w) (hv : sl cv x.cores ∈ R) (hf : ∀ args w, (callFunc ff args).run Try.prog w = .ok (.enter ff args) w) (hc : ∀ k, k < x.cores.length → (cor x k).wait.wf → ∀ uk, uk.oneCell' = true → ∀ R' w, sl uk (cor x k).lines ∈ R' → St L R' w → Calls Try.prog ff ([Value.agg (Core.cells uk (cor x k)).toArray] ++ caps).toArray w (Cd (fun _ : Unit => .bool (p k)) (fun _ => L) (fun _ => R'))) : Calls Try.prog 61 [cv, .func (.func ff) #[] caps.toArray].toArray w (Cd (fun _ : Unit => vi (Wr p x.cores.length)) (fun _ => L) (fun _ => R)) := by
 have hlen := Bx hv hs
 refine Ah Try.func61 rfl Try.ntmps61 rfl hs ?_
 clear hs
 refine ZM ?_
 refine Ga3 ?_
 refine Bs (γ := Nat) (fun k => k ≤ x.cores.length ∧ ∀ i, i < k → p i = false) (fun _ => L) (fun _ => R) (fun k => [(0, cv), (1, .func (.func ff) #[] caps.toArray), (7, vi (x.cores.length : Int)), (8, vi (k : Int))]) (fun k => x.cores.length - k) 0 ⟨Nat.zero_le _, fun i hi => absurd hi (by omega)⟩ alT (fun w hs => hs) ?_
 rintro k ⟨hk, hp0⟩
 refine ZB ?_
 refine cdy ?_ ?_
 ·intro ht9
  refine ZD ?_
  refine Lw k (v := cv) mm (by omega) (fun hwk uk honek => ?_)
  refine Zal ?_
  refine C2 (γ := Unit) (val := fun _ => .bool (p k)) (caps := caps) (vs := [.agg (Core.cells uk (cor x k)).toArray]) rfl hf rfl (fun w hs => hc k (by omega) hwk uk honek _ w mm hs) ?_; intro _
  refine Gl ?_
  first | (refine cdx (p := ?p2) (hd := ?d2) ?e2 ?_ ?_; case e2 => exact rfl) | (refine Cc (b := ?b2) ?e2 ?_ ?_; case e2 => exact rfl)
  ·intro ht16
   refine ZD ?_
   have er : Wr p x.cores.length = (k : Int) := Y8 hp0 ht16 (by omega)
   exact Zdr
  ·intro ht16
   refine ZD ?_
   refine A7 (k + 1) ⟨by omega, fun i hi => ?_⟩ (by omega) alT (fun w hs => Ae hs)
   by_cases e : i = k
   ·rw [e]; exact ht16
   ·exact hp0 i (by omega)
 ·intro ht9
  refine ZB ?_
  have er : Wr p x.cores.length = -1 := U0 fun i hi => hp0 i (by omega)
  exact Zdr
theorem Akq {cv : Value} {x : Chip} {ff : Nat} {caps : List Value} {p : Nat → Bool} (hs : St (L) R w) (hv : sl cv x.cores ∈ R) (hf : ∀ args w, (callFunc ff args).run Try.prog w = .ok (.enter ff args) w) (hc : ∀ k, k < x.cores.length → (cor x k).wait.wf → ∀ uk, uk.oneCell' = true → ∀ R' w, sl uk (cor x k).lines ∈ R' → St L R' w → Calls Try.prog ff ([Value.agg (Core.cells uk (cor x k)).toArray] ++ caps).toArray w (Cd (fun _ : Unit => .bool (p k)) (fun _ => L) (fun _ => R'))) : Calls Try.prog 43 [cv, .func (.func ff) #[] caps.toArray].toArray w (Cd (fun _ : Unit => .bool (!Nr (fun k => !p k) x.cores.length)) (fun _ => L) (fun _ => R)) := by
 refine Ah Try.func43 rfl Try.ntmps43 rfl hs ?_
 clear hs
 refine ZM ?_
 refine rn2 ?_
 refine Ak Try.call61 rfl (fun w hs => Ais (ff := ff) (caps := caps) (p := p) hs hv hf hc) ?_; intro _
 refine Ga2 ?_
 rw [← Air]
 exact Bq ()
theorem Aeq {up : Value} {x : Chip} {p : Nat} (hs : St (L) R w) (honeu : up.oneCell' = true) : Calls Try.prog 44 [.agg (Core.cells up (cor x p)).toArray].toArray w (Cd (fun _ : Unit => .bool (!Hs x p)) (fun _ => L) (fun _ => R)) := by
 refine Ah Try.func44 rfl Try.ntmps44 rfl hs ?_
 clear hs
 refine Gm ?_
 refine bx ?_; intro b1
 refine Gb1 ?_
 refine Ga5 ?_
 have er : (!Hs x p) = decide ((cor x p).wait.kind ≠ 0) := by unfold Hs; by_cases h : (cor x p).wait.kind = 0 <;> simp [h]
 rw [er]
 exact Bq ()
theorem P1 {cv hv fv : Value} {x : Chip} (hs : St (L) R w) (hcv : sl cv x.cores ∈ R) (hhv : sl hv x.home ∈ R) (hx : CX x) (hfv : sl fv x.frames ∈ R) (honef : fv.oneCell' = true) : Calls Try.prog 25 [.agg #[cv, hv, fv]].toArray w (Cd (fun _ : Unit => .bool (F0 x)) (fun _ => L) (fun _ => R)) := by
 refine Zb5 ?_;intro honec honeh
 have hn4 := hx.n4
 have hh4 := hx.h4
 refine Ah Try.func25 rfl Try.ntmps25 rfl hs ?_
 clear hs
 refine Gm ?_
 refine bx ?_; intro b1
 refine Gb1 ?_
 refine Ga4 ?_
 refine Bs (γ := Nat) (fun i => i ≤ x.home.length ∧ Nr (I9 x) i = true) (fun _ => blk b1 27 [cv, hv, fv] :: L) (fun _ => R) (fun i => [(1, bp b1 0), (6, hv), (7, vi (x.home.length : Int)), (8, vi (i : Int))]) (fun i => x.home.length - i) 0 ⟨Nat.zero_le _, rfl⟩ alT (fun w hs => Ae hs) ?_
 rintro i ⟨hi, hal⟩
 refine ZB ?_
 refine cdy ?_ ?_
 ·intro ht9
  refine Gl ?_
  refine Zcz ?_;intro hwe ue honeu b4
  refine cdy ?_ ?_
  ·intro ht14
   refine ZB ?_
   have er : F0 x = false := by unfold F0; rw [Tr (show i < x.home.length by omega) (by unfold I9; simpa using ht14)]; rfl
   exact Zdr
  ·intro ht14
   refine ZD ?_
   refine A7 (i + 1) ⟨by omega, Nq hal (by unfold I9; simpa using ht14)⟩ (by omega) alT (fun w hs => Ae hs)
 ·intro ht9
  refine Gl ?_
  rcases (show ((x.frames.length : Int) ≠ 0) ∨ ((x.frames.length : Int) = 0) from by omega) with hc | hc
  ·refine ZL ?_
   refine A4 ?_
   refine Ga7 ?_
   have er : F0 x = false := by unfold F0; rw [decide_eq_false (show ¬ x.frames.length = 0 by omega)]; simp
   exact Zdr
  ·refine ZL ?_
   refine C8 ?_
   refine ZF ?_
   refine Ak Try.call43 rfl (fun w hs => Akq (x := x) (ff := 44) (caps := []) (p := fun p => !Hs x p) hs hcv Try.call44 (fun k hk hwk uk honek R1 w1 hu1 hs1 => Aeq hs1 honek)) ?_; intro _
   refine Ga3 ?_
   have er : F0 x = Nr (Hs x) x.cores.length := by unfold F0; rw [decide_eq_true (show x.frames.length = 0 by omega), show x.home.length = i by omega, hal]; simp
   rw [er]
   refine Bq () (hv := ?_)
   simp
theorem Ahq {cv hv fv : Value} {x : Chip} (hs : St (L) R w) (hcv : sl cv x.cores ∈ R) (hhv : sl hv x.home ∈ R) (hn4 : x.cores.length ≤ 4) (hh4 : x.home.length ≤ 4) (honef : fv.oneCell' = true) : Calls Try.prog 19 [.agg #[cv, hv, fv]].toArray w (Cd (fun _ : Unit => .bool (C1 x)) (fun _ => L) (fun _ => R)) := by
 refine Zb5 ?_;intro honec honeh
 refine Ah Try.func19 rfl Try.ntmps19 rfl hs ?_
 clear hs
 refine Gm ?_
 refine bx ?_; intro b1
 refine Gb1 ?_
 refine Ga4 ?_
 refine Bs (γ := Nat) (fun i => i ≤ x.home.length ∧ Nr (I9 x) i = true) (fun _ => blk b1 27 [cv, hv, fv] :: L) (fun _ => R) (fun i => [(1, bp b1 0), (8, hv), (9, vi (x.home.length : Int)), (10, vi (i : Int))]) (fun i => x.home.length - i) 0 ⟨Nat.zero_le _, rfl⟩ alT (fun w hs => Ae hs) ?_
 rintro i ⟨hi, hal⟩
 refine ZB ?_
 refine cdy ?_ ?_
 ·intro ht11
  refine Gl ?_
  refine Zcz ?_;intro hwe ue honeu b4
  refine cdy ?_ ?_
  ·intro ht16
   refine ZB ?_
   have er : C1 x = false := by unfold C1; rw [Tr (show i < x.home.length by omega) (by unfold I9; simpa using ht16)]; rfl
   exact Zdr
  ·intro ht16
   refine ZD ?_
   refine A7 (i + 1) ⟨by omega, Nq hal (by unfold I9; simpa using ht16)⟩ (by omega) alT (fun w hs => Ae hs)
 ·intro ht11
  refine Gm ?_
  refine Ga4 ?_
  refine Bs (γ := Nat) (fun p => p ≤ x.cores.length ∧ Nr (Hs x) p = true) (fun _ => blk b1 27 [cv, hv, fv] :: L) (fun _ => R) (fun p => [(19, cv), (20, vi (x.cores.length : Int)), (21, vi (p : Int))]) (fun p => x.cores.length - p) 0 ⟨Nat.zero_le _, rfl⟩ alT (fun w hs => Ae hs) ?_
  rintro p ⟨hp, hfr⟩
  refine ZB ?_
  refine cdy ?_ ?_
  ·intro ht22
   refine Gl ?_
   refine Lw p (v := cv) mm (by omega) (fun hwp up honep => ?_)
   refine ZA ?_
   refine al_ (cs := [.slice none 0 0, vi 0, vi 0, vi 0]) Try.zeroValue55 ?_; intro b6
   refine s_B (cs := Core.cells up (cor x p)) Try.sizeOf55 ?_
   refine Gm ?_
   refine Ga4 ?_
   refine cdy ?_ ?_
   ·intro ht28
    refine ZB ?_
    have er : C1 x = false := by unfold C1; rw [Tr (f := Hs x) (show p < x.cores.length by omega) (by unfold Hs; simpa using ht28)]; simp
    exact Zdr
   ·intro ht28
    refine ZD ?_
    refine A7 (p + 1) ⟨by omega, Nq hfr (by unfold Hs; simpa using ht28)⟩ (by omega) alT (fun w hs => Ae hs)
  ·intro ht22
   refine ZB ?_
   have er : C1 x = true := by unfold C1; rw [show x.home.length = i by omega, show x.cores.length = p by omega, hal, hfr]; rfl
   exact Zdr
theorem So {c : Int} (hs : St (L) R w) (hc : 0 ≤ c ∧ c ≤ 1000) : Calls Try.prog 24 [vi c].toArray w (Cd (fun _ : Unit => vi (12 * c + 12)) (fun _ => L) (fun _ => R)) := by
 refine Ah Try.func24 rfl Try.ntmps24 rfl hs ?_
 clear hs
 refine ZM ?_
 refine Ga4 ?_
 exact Bq ()
theorem Aho {cv hv fv : Value} {x : Chip} {n nl : Nat} {M : List Int} {b0 : Nat} (hs : St (blk b0 27 [cv, hv, fv] :: L) R w) (hcv : sl cv x.cores ∈ R) (hhv : sl hv x.home ∈ R) (hfv : sl fv x.frames ∈ R) (h : Inv n nl x M) : Calls Try.prog 26 [bp b0 0].toArray w (Cd (fun _ : Unit => .bool (C1 x)) (fun _ => blk b0 27 [cv, hv, fv] :: L) (fun _ => R)) := by
 have hn := h.nc
 have hn4 := h.n1
 have hf40 := h.fr
 refine Zba ?_;intro honec honeh honef
 have hcx : CX (⟨x.cores, x.home, []⟩ : Chip) := (h.frames (f := []) (by simp) (fun b hb => absurd hb (by simp))).cx
 refine Ah Try.func26 rfl Try.ntmps26 rfl hs ?_
 clear hs
 refine ZM ?_
 refine rn3 ?_
 refine al_ (cs := [.slice none 0 0, .slice none 0 0, .slice none 0 0]) Try.zeroValue27 ?_; intro b3
 refine Zbh ?_
 refine Gl ?_
 refine ZaG ?_
 refine ZC ?_
 refine sc ?_
 refine ZJ ?_
 refine Ak Try.call25 rfl (fun w hs => P1 (x := ⟨x.cores, x.home, []⟩) hs mm mm hcx mm rfl) ?_; intro _
 refine Ga1 ?_
 have er : C1 x = F0 ⟨x.cores, x.home, []⟩ := by rw [Tf]; simp only [List.length_nil, decide_true, Bool.true_and]; rfl
 rw [er]
 exact Bq ()
theorem Aga {cv hv fv : Value} {x : Chip} {n nl : Nat} {M : List Int} (hs : St (L) R w) (hcv : sl cv x.cores ∈ R) (hhv : sl hv x.home ∈ R) (hfv : sl fv x.frames ∈ R) (h : Inv n nl x M) : Calls Try.prog 12 [.agg #[cv, hv, fv]].toArray w (Cd (fun v : Value × Value × Value × Value => .tuple #[.agg #[v.1, v.2.1, v.2.2.1], v.2.2.2]) (fun v => L) (fun v => sl v.1 (As x).1.cores :: sl v.2.1 (As x).1.home :: sl v.2.2.1 (As x).1.frames :: sl v.2.2.2 (As x).2 :: R)) := by
 have hn := h.nc
 have hn4 := h.n1
 have hf40 := h.fr
 refine Zba ?_;intro honec honeh honef
 refine Ah Try.func12 rfl Try.ntmps12 rfl hs ?_
 clear hs
 refine Zbw ?_;intro b1 b2
 refine Gb1 ?_
 refine Gb1 ?_
 refine Ga4 ?_
 have e0 : Dv x 0 = (x, []) := by unfold Dv; simp [Bu]
 refine Zai ?_
 refine Bs (γ := Nat × Value × Value × Value × Value) (fun g => g.1 ≤ x.frames.length) (fun g => row 50 g.2.2.2.2 (Dv x g.1).2 :: blk b1 27 [g.2.1, g.2.2.1, g.2.2.2.1] :: blk b2 27 [.slice none 0 0, .slice none 0 0, .slice none 0 0] :: L) (fun g => sl g.2.1 (Dv x g.1).1.cores :: sl g.2.2.1 (Dv x g.1).1.home :: sl g.2.2.2.1 (Dv x g.1).1.frames :: R) (fun g => [(1, bp b1 0), (2, bp b2 0), (4, g.2.2.2.2), (14, vi (x.frames.length : Int)), (15, vi (g.1 : Int))]) (fun g => x.frames.length - g.1) (0, cv, hv, fv, .slice none 0 0) (Nat.zero_le _) alT (fun w hs => by rw [e0]; exact Ae hs) ?_
 rintro ⟨k, cv, hv, fv, dv⟩ hk
 try simp only at hk ⊢
 have hdl := Vb x k
 refine ZB ?_
 refine cdy ?_ ?_
 ·intro ht16
  refine ZK ?_
  obtain ⟨Mk, hIk, _⟩ := Pg h k
  have gok := Aix (x := x) (k := k) (by omega)
  have h9 := Nj (Dv x k).1 goS
  refine Ak Try.call23 rfl (fun w hs => Ha (x := (Dv x k).1) (s := goS) hs mm mm mm (by unfold Step.wf An goS zOp; decide) hIk) ?_; intro v20
  refine J.know (p := v20.1.oneCell' = true ∧ v20.2.1.oneCell' = true ∧ v20.2.2.1.oneCell' = true) (fun w hs => ⟨isSlice.one (hs.fact (.head _)), isSlice.one (hs.fact (.tail _ (.head _))), isSlice.one (hs.fact (.tail _ (.tail _ (.head _))))⟩) (fun h12 => ?_)
  obtain ⟨honev201, honev202, honev203⟩ := h12
  refine rn4 ?_
  refine Zce ?_;intro b5
  refine s_B (cs := [v20.1, v20.2.1, v20.2.2.1]) Try.sizeOf27 ?_
  refine Zaf ?_
  refine ob (Al rfl rfl (Dx gok)) ?_
  refine Za1 ?_
  refine s_B (cs := [v20.1, v20.2.1, v20.2.2.1]) Try.sizeOf27 ?_
  refine ZK ?_
  refine ap G7 (hb := fun w hs => by have : maxN = 16777216 := rfl; (try simp only [List.length_cons, List.length_nil]); omega) (k := ?_); intro v29
  refine ZH ?_
  have e1 := Rp gok
  refine A7 (k + 1, v20.1, v20.2.1, v20.2.2.1, v29) (by show k + 1 ≤ x.frames.length; omega) (by show x.frames.length - (k + 1) < x.frames.length - k; omega) alT (fun w hs => ?_)
  try simp only
  rw [e1]; exact Ae hs
 ·intro ht16
  refine Gl ?_
  have hkf : k = x.frames.length := by omega
  subst hkf
  obtain ⟨My, hIy, _⟩ := Pg h x.frames.length
  have hny := hIy.nc
  refine Aa ?_
  refine Ga5 ?_
  have f0 : I2 (Dv x x.frames.length).1 0 = ((Dv x x.frames.length).1, []) := by unfold I2; simp [Bu]
  refine Bs (γ := Nat × Value × Value × Value) (fun g => g.1 ≤ (Dv x x.frames.length).1.cores.length + 1) (fun g => row 50 dv (Dv x x.frames.length).2 :: blk b1 27 [g.2.1, g.2.2.1, g.2.2.2] :: blk b2 27 [.slice none 0 0, .slice none 0 0, .slice none 0 0] :: L) (fun g => sl g.2.1 (I2 (Dv x x.frames.length).1 g.1).1.cores :: sl g.2.2.1 (I2 (Dv x x.frames.length).1 g.1).1.home :: sl g.2.2.2 (I2 (Dv x x.frames.length).1 g.1).1.frames :: R) (fun g => [(1, bp b1 0), (2, bp b2 0), (4, dv), (34, vi ((((Dv x x.frames.length).1.cores.length + 1 : Nat)) : Int)), (35, vi (g.1 : Int))]) (fun g => (Dv x x.frames.length).1.cores.length + 1 - g.1) (0, cv, hv, fv) (Nat.zero_le _) alT (fun w hs => by rw [f0]; exact Ae hs) ?_
  rintro ⟨k, cv, hv, fv⟩ hk
  try simp only at hk ⊢
  refine ZB ?_
  refine cdy ?_ ?_
  ·intro ht36
   refine Gm ?_
   refine Gb2 ?_
   refine rn3 ?_
   obtain ⟨Mk, hIk⟩ := Pd hIy k
   have tok := Qo (y := (Dv x x.frames.length).1) (k := k) (by omega)
   refine Ak Try.call23 rfl (fun w hs => Ha (x := (I2 (Dv x x.frames.length).1 k).1) (s := tmS k) hs mm mm mm (by unfold Step.wf An tmS zOp; simp only; omega) hIk) ?_; intro v42
   refine J.know (p := v42.1.oneCell' = true ∧ v42.2.1.oneCell' = true ∧ v42.2.2.1.oneCell' = true) (fun w hs => ⟨isSlice.one (hs.fact (.head _)), isSlice.one (hs.fact (.tail _ (.head _))), isSlice.one (hs.fact (.tail _ (.tail _ (.head _))))⟩) (fun h12 => ?_)
   obtain ⟨honev421, honev422, honev423⟩ := h12
   refine rn4 ?_
   refine al_ (cs := [.slice none 0 0, .slice none 0 0, .slice none 0 0]) Try.zeroValue27 ?_; intro b9
   refine s_B (cs := [v42.1, v42.2.1, v42.2.2.1]) Try.sizeOf27 ?_
   refine Zaf ?_
   refine ob (Al rfl rfl (Ay tok.1)) ?_
   refine Glc ?_
   refine kp [1, 2, 3, 4, 8, 9, 11, 34, 35, 36, 37, 38, 39, 40, 41, 42, 43, 44, 45, 46, 47, 48] ?_
   refine ZC ?_
   refine s_B (cs := [v42.1, v42.2.1, v42.2.2.1]) Try.sizeOf27 ?_
   refine ZD ?_
   refine A7 (k + 1, v42.1, v42.2.1, v42.2.2.1) (by show k + 1 ≤ (Dv x x.frames.length).1.cores.length + 1; omega) (by show (Dv x x.frames.length).1.cores.length + 1 - (k + 1) < (Dv x x.frames.length).1.cores.length + 1 - k; omega) alT (fun w hs => ?_)
   try simp only
   rw [tok.2]; exact Ae hs
  ·intro ht36
   refine Gl ?_
   have hkl : k = (Dv x x.frames.length).1.cores.length + 1 := by omega
   subst hkl
   refine JC.shut (v := dv) pkk ?_
   refine JC.know (p := cv.oneCell' = true ∧ hv.oneCell' = true ∧ fv.oneCell' = true) (fun w hs => ⟨isSlice.one (hs.fact (mm (f := sl cv (As x).1.cores))), isSlice.one (hs.fact (mm (f := sl hv (As x).1.home))), isSlice.one (hs.fact (mm (f := sl fv (As x).1.frames)))⟩) (fun h12 => ?_)
   obtain ⟨hone1, hone2, hone3⟩ := h12
   refine ZA ?_
   refine Zbh ?_
   refine Ga1 ?_
   exact O6 (cv, hv, fv, dv) Try.isAgg27 Try.sizeOf27
theorem Mj {cv hv fv : Value} {x : Chip} {n nl : Nat} {M : List Int} (hs : St (L) R w) (hcv : sl cv x.cores ∈ R) (hhv : sl hv x.home ∈ R) (hfv : sl fv x.frames ∈ R) (h : Inv n nl x M) : Calls Try.prog 13 [.agg #[cv, hv, fv]].toArray w (Cd (fun v : Value × Value × Value × Value => .tuple #[.agg #[v.1, v.2.1, v.2.2.1], v.2.2.2, vi ((settle x).2.2 : Int)]) (fun v => L) (fun v => sl v.1 (settle x).1.cores :: sl v.2.1 (settle x).1.home :: sl v.2.2.1 (settle x).1.frames :: sl v.2.2.2 (settle x).2.1 :: R)) := by
 have hn := h.nc
 have hn4 := h.n1
 have hf40 := h.fr
 refine Zba ?_;intro honec honeh honef
 refine Ah Try.func13 rfl Try.ntmps13 rfl hs ?_
 clear hs
 refine Zbw ?_;intro b1 b2
 refine Gb2 ?_
 refine Gb1 ?_
 refine Ga1 ?_
 refine Zai ?_
 refine Bs (γ := Nat × Chip × List Done × Value × Value × Value × Value) (fun g => ∃ Mk, Inv n nl g.2.1 Mk ∧ g.1 ≤ Gw x ∧ K5 (Gw x - g.1) g.1 g.2.1 g.2.2.1 = settle x ∧ g.2.2.1.length ≤ 40 * g.1) (fun g => row 50 g.2.2.2.2.2.2 g.2.2.1 :: blk b1 27 [g.2.2.2.1, g.2.2.2.2.1, g.2.2.2.2.2.1] :: blk b2 27 [.slice none 0 0, .slice none 0 0, .slice none 0 0] :: L) (fun g => sl g.2.2.2.1 g.2.1.cores :: sl g.2.2.2.2.1 g.2.1.home :: sl g.2.2.2.2.2.1 g.2.1.frames :: R) (fun g => [(1, bp b1 0), (2, bp b2 0), (5, g.2.2.2.2.2.2), (6, vi (g.1 : Int))]) (fun g => (Gw x - g.1) * 100 + Gr g.2.1.frames) (0, x, [], cv, hv, fv, .slice none 0 0) ⟨M, h, Nat.zero_le _, rfl, by show 0 ≤ 40 * 0; omega⟩ alT (fun w hs => Ae hs) ?_
 rintro ⟨k, X, D, cv, hv, fv, dv⟩ ⟨Mk, hI, hkm, hfin, hDl⟩
 try simp only at hI hkm hfin hDl ⊢
 have hXn := hI.nc
 have hX4 := hI.n1
 have hXh := hI.nh
 have hXl := hI.l1
 have hX40 := hI.fr
 have hdw := Ps X.frames
 have hmo : Gw x = 12 * n + 12 := by unfold Gw; rw [hn]
 refine JC.know (p := cv.oneCell' = true ∧ hv.oneCell' = true ∧ fv.oneCell' = true) (fun w hs => ⟨isSlice.one (hs.fact (mm (f := sl cv X.cores))), isSlice.one (hs.fact (mm (f := sl hv X.home))), isSlice.one (hs.fact (mm (f := sl fv X.frames)))⟩) (fun h12 => ?_)
 obtain ⟨hone1, hone2, hone3⟩ := h12
 refine Gl ?_
 rcases (show (k = Gw x) ∨ (k < Gw x ∧ F0 X = true) ∨ (k < Gw x ∧ F0 X = false) from by exact Qu hkm) with hc | hc | hc
 ·refine ZI ?_
  refine Ak Try.call24 rfl (fun w hs => So hs (by omega)) ?_; intro _
  refine A3 ?_
  refine Gc5 ?_
  refine JC.shut (v := dv) pkk ?_
  refine ZL ?_
  refine Zbh ?_
  refine Ga2 ?_
  rw [← hfin, show Gw x - k = 0 by omega, fin_0]
  exact Eu (cv, hv, fv, dv) Try.isAgg27 Try.sizeOf27
 ·have hcm : X.frames.length = 0 ∧ C1 X = true := by have h8 := hc.2; rw [Tf, Bool.and_eq_true, decide_eq_true_eq] at h8; exact h8
  refine ZI ?_
  refine Ak Try.call24 rfl (fun w hs => So hs (by omega)) ?_; intro _
  refine Dt ?_
  refine ZN ?_
  refine Ak Try.call25 rfl (fun w hs => by have h8 := P1 (x := X) hs mm mm hI.cx mm hone3; rw [hc.2] at h8; exact h8) ?_; intro _
  refine Gc2 ?_
  refine JC.shut (v := dv) pkk ?_
  refine ZL ?_
  refine Zbh ?_
  refine Ga2 ?_
  rw [← hfin, show Gw x - k = (Gw x - k - 1) + 1 by omega, Pm hcm.2, Zz hcm.1]
  exact Eu (cv, hv, fv, dv) Try.isAgg27 Try.sizeOf27
 ·refine ZI ?_
  refine Ak Try.call24 rfl (fun w hs => So hs (by omega)) ?_; intro _
  refine Dt ?_
  refine ZN ?_
  refine Ak Try.call25 rfl (fun w hs => by have h8 := P1 (x := X) hs mm mm hI.cx mm hone3; rw [hc.2] at h8; exact h8) ?_; intro _
  refine Gd2 ?_
  refine Ak Try.call26 rfl (fun w hs => Aho (x := X) (cv := cv) (hv := hv) (fv := fv) (b0 := b1) (Ae (L' := blk b1 27 [cv, hv, fv] :: row 50 dv D :: blk b2 27 [.slice none 0 0, .slice none 0 0, .slice none 0 0] :: L) hs) mm mm mm hI) ?_; intro _
  refine Gl ?_
  refine Cc (b := ?b1) ?e1 ?_ ?_; case e1 => exact rfl
  ·intro ht23
   have hfp : 0 < X.frames.length := by
    refine Nat.pos_of_ne_zero fun h8 => ?_
    have h9 := hc.2
    rw [Tf, ht23, decide_eq_true h8] at h9
    exact absurd h9 (by decide)
   have gok := (Rm hfp).1
   refine ZK ?_
   refine Ak Try.call23 rfl (fun w hs => Ha (x := X) (s := goS) hs mm mm mm (by unfold Step.wf An goS zOp; decide) hI) ?_; intro v27
   refine J.know (p := v27.1.oneCell' = true ∧ v27.2.1.oneCell' = true ∧ v27.2.2.1.oneCell' = true) (fun w hs => ⟨isSlice.one (hs.fact (.head _)), isSlice.one (hs.fact (.tail _ (.head _))), isSlice.one (hs.fact (.tail _ (.tail _ (.head _))))⟩) (fun h12 => ?_)
   obtain ⟨honev271, honev272, honev273⟩ := h12
   refine rn4 ?_
   refine Zbc ?_;intro b7
   refine s_B (cs := [v27.1, v27.2.1, v27.2.2.1]) Try.sizeOf27 ?_
   refine Zaf ?_
   refine ob (Al rfl rfl (Dx gok)) ?_
   refine Glc ?_
   refine kp [1, 2, 3, 4, 5, 6, 7, 8, 9, 12, 13, 14, 15, 16, 17, 18, 19, 20, 21, 22, 23, 24, 25, 26, 27, 28, 29, 30, 31, 32, 33] ?_
   refine ZC ?_
   refine s_B (cs := [v27.1, v27.2.1, v27.2.2.1]) Try.sizeOf27 ?_
   refine Gl ?_
   have h9 := Nj X goS
   refine ZA ?_
   refine ap G7 (hb := fun w hs => by have : maxN = 16777216 := rfl; omega) (k := ?_); intro v36
   refine Ga1 ?_
   have hcg := P2 hI ht23 hfp
   have e1 : K5 (Gw x - k) k (Ag X goS).1 D = settle x := by
    rw [← hfin, show Gw x - k = (Gw x - k - 1) + 1 by omega, Pm hcg.1, Pm ht23, Aem hI ht23 hfp]
   obtain ⟨M2, hI2, _⟩ := H6 hI gok
   refine A7 (k, (Ag X goS).1, D, v27.1, v27.2.1, v27.2.2.1, v36) ⟨M2, hI2, hkm, e1, hDl⟩ (by show (Gw x - k) * 100 + Gr (Ag X goS).1.frames < (Gw x - k) * 100 + Gr X.frames; omega) alT (fun w hs => ?_)
   try simp only
   rw [hcg.2.1, List.append_nil] at hs; exact Ae hs
  ·intro ht23
   refine ZJ ?_
   refine Ak Try.call12 rfl (fun w hs => Aga (x := X) hs mm mm mm hI) ?_; intro v39
   refine Zcx ?_;intro h12
   obtain ⟨honev391, honev392, honev393⟩ := h12
   refine rn3 ?_
   refine al_ (cs := [.slice none 0 0, .slice none 0 0, .slice none 0 0]) Try.zeroValue27 ?_; intro b10
   refine Zb0 ?_
   refine Za0 ?_
   refine Zb0 ?_
   refine Gl ?_
   have h9 := Mh hI
   refine ZA ?_
   refine ap G7 (hb := fun w hs => by have : maxN = 16777216 := rfl; omega) (k := ?_); intro v45
   refine Ga1 ?_
   refine kp [1, 2, 3, 4, 5, 6, 7, 8, 9, 10, 11, 12, 13, 14, 15, 16, 17, 18, 19, 20, 21, 22, 23, 24, 25, 26, 27, 28, 29, 30, 31, 32, 33, 34, 35, 36, 37, 38, 39, 40, 41, 42, 43, 44, 45, 46, 47] ?_
   refine Aa ?_
   refine Ga3 ?_
   have hrl := Mh hI
   obtain ⟨M2, hI2, _⟩ := Rd hI
   have hdw2 := Ps (As X).1.frames
   have hI240 := hI2.fr
   have e1 : K5 (Gw x - (k + 1)) (k + 1) (As X).1 (D ++ (As X).2) = settle x := by
    rw [← hfin, show Gw x - k = (Gw x - (k + 1)) + 1 by omega, Zq (by rw [ht23]; decide)]
   refine A7 (k + 1, (As X).1, D ++ (As X).2, v39.1, v39.2.1, v39.2.2.1, v45) ⟨M2, hI2, by show k + 1 ≤ Gw x; omega, e1, by show (D ++ (As X).2).length ≤ 40 * (k + 1); rw [List.length_append]; omega⟩ (by show (Gw x - (k + 1)) * 100 + Gr (As X).1.frames < (Gw x - k) * 100 + Gr X.frames; omega) alT (fun w hs => ?_)
   try simp only
   exact Ae hs
end Go.Proofs.Ytkgijpngobgfjaa
namespace Go.Proofs.Ytkgijpngobgfjaa
open Abs
def Fq (f : Nat → Nat) : Nat → Nat
 | 0 => 0
 | k + 1 => Fq f k + f k
theorem Fe {f g : Nat → Nat} : ∀ {k : Nat}, (∀ i, i < k → f i = g i) → Fq f k = Fq g k
 | 0, _ => rfl
 | k + 1, h => by
  have h1 := Fe (k := k) (fun i hi => h i (by omega))
  have h2 := h k (by omega)
  simp only [Fq]; omega
theorem Kp {f g : Nat → Nat} : ∀ {k : Nat}, (∀ i, i < k → f i ≤ g i) → Fq f k ≤ Fq g k
 | 0, _ => Nat.le_refl _
 | k + 1, h => by
  have h1 := Kp (k := k) (fun i hi => h i (by omega))
  have h2 := h k (by omega)
  simp only [Fq]; omega
theorem Hc {f g : Nat → Nat} {p : Nat} : ∀ {k : Nat}, p < k → (∀ i, i < k → i ≠ p → f i = g i) → Fq f k + g p = Fq g k + f p
 | 0, h, _ => absurd h (by omega)
 | k + 1, hp, h => by
  simp only [Fq]
  by_cases e : p = k
  ·subst e
   have := Fe (f := f) (g := g) (k := p) (fun i hi => h i (by omega) (by omega))
   omega
  ·have h1 := Hc (k := k) (show p < k by omega) (fun i hi hne => h i (by omega) hne)
   have h2 := h k (by omega) (by omega)
   omega
theorem Gx (c : Nat) : ∀ k, Fq (fun _ => c) k = c * k
 | 0 => rfl
 | k + 1 => by simp only [Fq]; rw [Gx c k, Nat.mul_succ]
theorem Qp {f : Nat → Nat} {k : Nat} (h : ∀ i, i < k → f i = 0) : Fq f k = 0 := by
 rw [Fe (g := fun _ => 0) h, Gx]; omega
theorem T2 {f : Nat → Nat} {p : Nat} : ∀ {k : Nat}, p < k → f p ≤ Fq f k
 | 0, h => absurd h (by omega)
 | k + 1, h => by
  simp only [Fq]
  by_cases e : p = k
  ·subst e; omega
  ·have := T2 (f := f) (p := p) (k := k) (by omega); omega
def Cb (e : Entry) (p : Nat) : Int := e.last.getD p 0
def faA (e : Entry) (p : Nat) (l : Line) : Nat :=
 if l.want = 0 then 0 else if l.want = 3 then (if Cb e p < l.serial then 2 else 1) else (if Cb e p < l.serial then 11 else 0)
def faQ (e : Entry) (p : Nat) (l : Line) : Nat := if Cm e.need p = 1 then (if l.seen = e.turn then 1 else 2) else 0
def faT (e : Entry) (l : Line) : Nat := if l.seen = e.turn then 0 else 1
def faD (n : Nat) (e : Entry) (l : Nat → Line) : Nat :=
 if e.phase = 1 then 4 + faT e (l e.owner.toNat)
 else if e.phase = 2 then 3 + Fq (fun p => faQ e p (l p)) n
 else if e.phase = 3 then 1 + faT e (l e.who.toNat) else 0
def faL (n : Nat) (e : Entry) (l : Nat → Line) : Nat := Fq (fun p => faA e p (l p)) n + faD n e l
def Phi (n nl : Nat) (x : Chip) : Nat := Fq (fun i => faL n (ent x i) (lin x i)) nl
theorem Og (e : Entry) (l : Line) : faT e l ≤ 1 := by unfold faT; split <;> omega
theorem Agn (e : Entry) (p : Nat) (l : Line) : faQ e p l ≤ 2 := by unfold faQ; split <;> (try split) <;> omega
theorem O1 {f : Nat → Nat} {w : Nat} (hf : ∀ i, f i ≤ 2) (h0 : f w = 0) : ∀ {k : Nat}, w < k → Fq f k + 2 ≤ 2 * k
 | 0, h => absurd h (by omega)
 | k + 1, h => by
  simp only [Fq]
  by_cases e : w = k
  ·subst e
   have h1 := Kp (f := f) (g := fun _ => 2) (k := w) (fun i _ => hf i)
   rw [Gx] at h1; omega
  ·have := O1 hf h0 (k := k) (by omega); have := hf k; omega
structure SameE (n : Nat) (e e' : Entry) (l : Nat → Line) : Prop where
 ph : e'.phase = e.phase
 ow : e'.owner = e.owner
 nd : e'.need = e.need
 wh : e'.who = e.who
 se : e'.serial = e.serial
 al : e'.alone = e.alone
 tu : e'.turn = e.turn
 va : e'.value = e.value
 la : ∀ p, p < n → (l p).want ≠ 0 → (Cb e' p < (l p).serial ↔ Cb e p < (l p).serial)
theorem SameE.refl (n : Nat) (e : Entry) (l : Nat → Line) : SameE n e e l := ⟨rfl, rfl, rfl, rfl, rfl, rfl, rfl, rfl, fun _ _ _ => Iff.rfl⟩
theorem SameE.trans {n : Nat} {e e' e'' : Entry} {l : Nat → Line} (h : SameE n e e' l) (g : SameE n e' e'' l) : SameE n e e'' l :=
 ⟨g.ph.trans h.ph, g.ow.trans h.ow, g.nd.trans h.nd, g.wh.trans h.wh, g.se.trans h.se, g.al.trans h.al, g.tu.trans h.tu, g.va.trans h.va, fun p hp hw => (g.la p hp hw).trans (h.la p hp hw)⟩
theorem SameE.faA {n : Nat} {e e' : Entry} {l : Nat → Line} (h : SameE n e e' l) {p : Nat} (hp : p < n) : faA e' p (l p) = faA e p (l p) := by
 unfold Go.Proofs.Ytkgijpngobgfjaa.faA
 by_cases hw : (l p).want = 0
 ·rw [if_pos hw, if_pos hw]
 ·have := h.la p hp hw
  rw [if_neg hw, if_neg hw]
  by_cases hl : Cb e p < (l p).serial
  ·rw [if_pos hl, if_pos (this.2 hl), if_pos hl, if_pos (this.2 hl)]
  ·rw [if_neg hl, if_neg (fun h => hl (this.1 h)), if_neg hl, if_neg (fun h => hl (this.1 h))]
theorem SameE.faD {n : Nat} {e e' : Entry} {l : Nat → Line} (h : SameE n e e' l) : faD n e' l = faD n e l := by
 unfold Go.Proofs.Ytkgijpngobgfjaa.faD faT faQ
 rw [h.ph, h.ow, h.nd, h.wh, h.tu]
theorem SameE.faL {n : Nat} {e e' : Entry} {l : Nat → Line} (h : SameE n e e' l) : faL n e' l = faL n e l := by
 unfold Go.Proofs.Ytkgijpngobgfjaa.faL
 rw [h.faD, Fe (fun p hp => h.faA hp)]
def Jy (n : Nat) (m : Msg) : Msg := ⟨11, (n : Int), m.src, m.line, m.serial, 0, 0, false⟩
inductive HomeDoes (n : Nat) (e : Entry) (l : Nat → Line) (p : Nat) (m : Msg) (e' : Entry) (s : List Msg) : Prop
 | no (h : SameE n e e' l) (hs : s = []) (hk : m.kind = 3 → e.phase ≠ 0) (h12 : m.kind = 1 ∨ m.kind = 2 → e.phase = 0 → m.serial ≤ Cb e p) (h9 : m.kind = 9 → e.phase = 1 → m.turn = e.turn → e.owner ≠ p)
  (h8 : m.kind = 8 → e.phase = 2 → m.turn = e.turn → Cm e.need p ≠ 1) (h10 : m.kind = 10 → e.phase = 3 → m.turn = e.turn → e.who ≠ p) (hge : ∀ q, Cb e q ≤ Cb e' q)
 | late (hk : m.kind = 3) (h0 : e.phase = 0) (h : SameE n e e' l) (hs : s = [Jy n m]) (hl : m.serial ≤ Cb e' p) (hge : ∀ q, Cb e q ≤ Cb e' q)
 | put (hk : m.kind = 3) (h0 : e.phase = 0) (hw : (l p).want = 3) (hm : m.serial = (l p).serial) (hl : Cb e p < (l p).serial) (h0' : e'.phase = 0) (hl' : Cb e' p = (l p).serial) (ho : ∀ q, q ≠ p → Cb e' q = Cb e q) (ht : e'.turn = e.turn) (hs : s = [Jy n m])
 | get (h0 : e.phase = 0) (hw : (l p).want = m.kind) (hk : m.kind = 1 ∨ m.kind = 2) (hm : m.serial = (l p).serial) (hl : Cb e p < (l p).serial) (h0' : 1 ≤ e'.phase ∧ e'.phase ≤ 3) (hl' : Cb e' p = (l p).serial) (ho : ∀ q, q ≠ p → Cb e' q = Cb e q) (ht : e'.turn = e.turn + 1)
  (hwho : e'.who = p) (hse : e'.serial = m.serial) (hnw : Cm e'.need p = 0) (hs : s = E9 e' m.line n)
 | data (hk : m.kind = 9) (h0 : e.phase = 1) (ho : e.owner = p) (hm : m.turn = e.turn) (h0' : e'.phase = 3) (hl' : e'.last = e.last) (ht : e'.turn = e.turn) (hwho : e'.who = e.who) (hse : e'.serial = e.serial) (hs : s = E9 e' m.line n)
 | gone (hk : m.kind = 8) (h0 : e.phase = 2) (hn : Cm e.need p = 1) (hm : m.turn = e.turn) (h0' : e'.phase = 2) (hnd : ∀ q, Cm e'.need q = if q = p then 0 else Cm e.need q) (hl' : e'.last = e.last) (ht : e'.turn = e.turn) (hwho : e'.who = e.who) (hse : e'.serial = e.serial) (hs : s = [])
 | all (hk : m.kind = 8) (h0 : e.phase = 2) (hn : Cm e.need p = 1) (hm : m.turn = e.turn) (h0' : e'.phase = 3) (hl' : e'.last = e.last) (ht : e'.turn = e.turn) (hwho : e'.who = e.who) (hse : e'.serial = e.serial) (hs : s = E9 e' m.line n)
 | thanks (hk : m.kind = 10) (h0 : e.phase = 3) (hw : e.who = p) (hm : m.turn = e.turn) (h0' : e'.phase = 0) (hl' : e'.last = e.last) (ht : e'.turn = e.turn) (hs : s = [])
section
variable {n nl : Nat} {x : Chip} {M : List Int}
theorem Acu {n p : Nat} {e : Entry} {s : Int} (hla : e.last.length = n) (hp : p < n) : (e.last.set p s).getD p 0 = s ∧ ∀ q, q ≠ p → (e.last.set p s).getD q 0 = e.last.getD q 0 := by
 refine ⟨by rw [Bi _ _ _ _ _ (by rw [hla]; exact hp), if_pos rfl], fun q hq => by rw [Bi _ _ _ _ _ (by rw [hla]; exact hp), if_neg hq]⟩
theorem Mt (e : Entry) : (Ct e).turn = e.turn ∧ (Ct e).last = e.last ∧ (Ct e).who = e.who ∧ (Ct e).serial = e.serial ∧ (1 ≤ (Ct e).phase ∧ (Ct e).phase ≤ 3) := by
 unfold Ct; split
 ·exact ⟨rfl, rfl, rfl, rfl, by simp⟩
 split
 ·exact ⟨rfl, rfl, rfl, rfl, by simp⟩
 ·exact ⟨rfl, rfl, rfl, rfl, by simp⟩
theorem N2 (h : Inv n nl x M) {p i : Nat} (hp : p < n) (hi : i < nl) (hop : (ent x i).owner = p) (h0 : (ent x i).phase = 1) (m : Msg) : (Hn (ent x i) m).phase = 3 := by
 have hn := h.n1
 have hb := h.bit i hi
 have hz : (ent x i).sharers = 0 := by
  refine Ii (He (by omega) hb.1) fun q _ => ?_
  by_cases hq : q < n
  ·have h1 := (h.ci i hi q hq).shs
   have h2 := (h.ci i hi q hq).bits
   simp only [ab] at h1 h2
   omega
  ·unfold Cm
   refine Zbt ?_
   rfl
 have hclr0 : ∀ w : Int, Gg 0 w = 0 := by intro w; unfold Gg Nu; simp
 have hc : ¬ ((ent x i).alone = true ∧ Gg (if (ent x i).alone = true then (ent x i).sharers else Hv (ent x i).sharers (ent x i).owner) (ent x i).who ≠ 0) := by
  rintro ⟨h1, h2⟩
  rw [if_pos h1, hz, hclr0] at h2
  exact h2 rfl
 unfold Hn Ct
 simp only
 rw [if_neg (by omega), if_neg hc]
theorem N1 (h : Inv n nl x M) {p i : Nat} {m : Msg} (hp : p < n) (hi : i < nl) (hs : m.src = p) (h0 : (ent x i).phase = 2) (hnd : Cm (ent x i).need p = 1) (hz0 : (Ch (ent x i) m).need = 0) : (Ct (Ch (ent x i) m)).phase = 3 := by
 refine ZaZ ?_;intro hn hb hgi
 have hz : Gg (ent x i).need p = 0 := by unfold Ch at hz0; rw [hs] at hz0; exact hz0
 have hc1 := Oi (by omega) hb.1 (show p < 4 by omega)
 refine ZcB ?_;intro hb1 hb2 hown
 have hrest : ∀ q : Nat, q ≠ p → q < n → Cm (ent x i).need q = 0 := by
  intro q hqp hq
  have := congrFun hb2 q
  exact Zd7
 have hsh : ∀ q, q < n → (ent x i).who ≠ q → q ≠ p → Cm (ent x i).sharers q = 0 := by
  exact ZdO
 have hw := hgi.whor (by show (ent x i).phase ≠ 0; omega)
 simp only [ab] at hw
 obtain ⟨w, hw'⟩ : ∃ w : Nat, (ent x i).who = w := ⟨(ent x i).who.toNat, by omega⟩
 have hcc : Gg (Gg (ent x i).sharers p) (ent x i).who = 0 := by
  exact Zdl
 unfold Ch Ct
 simp only [hs]
 rw [if_neg (by omega), if_neg (by rintro ⟨_, h2⟩; exact h2 hcc)]
theorem Za (h : Inv n nl x M) {p i : Nat} {m : Msg} (hp : p < n) (hi : i < nl) (hs : m.src = p) (hM : MI (ab (ent x i)) p (lin x i p) m) (ht : (ent x i).turn < 65535) :
  HomeDoes n (ent x i) (lin x i) p m (Af (ent x i) n m).1 (Af (ent x i) n m).2 := by
 refine ZaZ ?_;intro hn hb hgi
 have hla := h.nla i hi
 have hsp : m.src.toNat = p := by omega
 have hlast : Fd (ent x i) m.src = Cb (ent x i) p := by unfold Fd Cb; rw [hsp]
 have hci := h.ci i hi p hp
 have hget := hM.get
 have hput := hM.put
 simp only [ab] at hget hput
 obtain ⟨hset, hsetq⟩ := Acu (s := m.serial) hla hp
 unfold Af
 split
 ·rename_i hk
  split
  ·exact .no (.refl ..) rfl (by omega) (fun _ h8 => by rename_i hc; rw [← hlast]; omega) (by omega) (by omega) (by omega) (fun _ => Int.le_refl _)
  ·rename_i hc
   have h0 : (ent x i).phase = 0 := by omega
   have hl : Cb (ent x i) p < m.serial := by rw [← hlast]; omega
   obtain ⟨g1, g2⟩ := (hget hk).2 hl
   have hnx := Mt { ent x i with last := (ent x i).last.set m.src.toNat m.serial, who := m.src, serial := m.serial, alone := m.kind == 2, turn := (ent x i).turn + 1 }
   refine .get h0 g2 hk g1 (by omega) hnx.2.2.2.2 ?_ ?_ hnx.1 ?_ hnx.2.2.2.1 ?_ rfl
   ·unfold Ke Cb; rw [hnx.2.1]; simp only; rw [hsp, hset, g1]
   ·intro q hq; unfold Ke Cb; rw [hnx.2.1]; simp only; rw [hsp, hsetq q hq]
   ·unfold Ke; rw [hnx.2.2.1]; exact hs
   ·unfold Ke Ct
    split
    ·exact C6 p
    split
    ·show Cm (Gg (ent x i).sharers m.src) p = 0
     rw [hs, E8 (He (by omega) hb.1) (show p < 4 by omega), Abk]
    ·exact C6 p
 split
 ·rename_i hk1 hk
  split
  ·rename_i h0; exact .no (.refl ..) rfl (fun _ => h0) (by omega) (by omega) (by omega) (by omega) (fun _ => Int.le_refl _)
  ·rename_i h0
   have h0 : (ent x i).phase = 0 := Decidable.not_not.1 h0
   have htk : (⟨11, (n : Int), m.src, m.line, m.serial, 0, 0, false⟩ : Msg) = Jy n m := rfl
   by_cases hl : Cb (ent x i) p < m.serial
   ·have hpe : (Fv (ent x i) m).phase = 0 ∧ (Fv (ent x i) m).last = (ent x i).last.set p m.serial ∧ (Fv (ent x i) m).turn = (ent x i).turn ∧ ((ent x i).owner ≠ p → Fv (ent x i) m = { ent x i with last := (ent x i).last.set p m.serial }) := by
     unfold Fv
     rw [hlast, if_pos hl, hsp]
     split
     ·rename_i ho; exact ⟨h0, rfl, rfl, fun h => absurd (ho.trans hs) h⟩
     ·exact ⟨h0, rfl, rfl, fun _ => rfl⟩
    rcases (hput hk).2 hl with ⟨g1, g2, _⟩ | ⟨g1, g2, g3⟩
    ·refine .put hk h0 g2 g1 (by omega) hpe.1 ?_ ?_ hpe.2.2.1 rfl
     ·unfold Cb; rw [hpe.2.1, hset, g1]
     ·intro q hq; unfold Cb; rw [hpe.2.1, hsetq q hq]
    ·have ho : (ent x i).owner ≠ p := by
      rcases g2 with g2 | g2
      ·exact g2
      ·omega
     have e := hpe.2.2.2 ho
     refine .late hk h0 ?_ rfl (by unfold Cb; rw [hpe.2.1, hset]; exact Int.le_refl _) (fun q => by
      unfold Cb at hl ⊢; rw [hpe.2.1]
      by_cases e2 : q = p
      ·subst e2; rw [hset]; omega
      ·rw [hsetq q e2]; exact Int.le_refl _)
     rw [e]
     refine ⟨rfl, rfl, rfl, rfl, rfl, rfl, rfl, rfl, fun q hq hw => ?_⟩
     unfold Cb at hl ⊢; simp only
     by_cases e2 : q = p
     ·subst e2
      rw [hset]
      constructor
      ·intro h8; omega
      ·intro _; rcases g1 with g1 | g1
       ·exact g1
       ·exact absurd g1 hw
     ·rw [hsetq q e2]
   ·have e : Fv (ent x i) m = ent x i := by unfold Fv; rw [hlast, if_neg hl]
    refine .late hk h0 (by rw [e]; exact .refl ..) rfl (by simp only [e]; omega) (fun q => by simp only [e]; exact Int.le_refl _)
 split
 ·rename_i hk1 hk2 hk
  obtain ⟨k1, k2, k3, k4⟩ := hk
  have hop : (ent x i).owner = p := by rw [← k4]; exact hs
  have hnx := Mt { ent x i with value := m.value, sharers := if (ent x i).alone then (ent x i).sharers else Hv (ent x i).sharers (ent x i).owner, owner := -1 }
  have hI := N2 h hp hi hop k3 m
  exact .data k1 k3 hop k2 hI hnx.2.1 hnx.1 hnx.2.2.1 hnx.2.2.2.1 rfl
 split
 ·rename_i hk1 hk2 hk3 hk
  obtain ⟨k1, k2, k3, k4⟩ := hk
  have hnd : Cm (ent x i).need p = 1 := by rw [hs] at k4; exact (H9 _ _).1 k4
  have hb2 := E8 (He (by omega) hb.2) (show p < 4 by omega)
  have hgn : (Ch (ent x i) m).need = Gg (ent x i).need p := by unfold Ch; rw [hs]
  split
  ·rename_i hz
   have hnx := Mt (Ch (ent x i) m)
   exact .all k1 k3 hnd k2 (N1 h hp hi hs k3 hnd hz) hnx.2.1 hnx.1 hnx.2.2.1 hnx.2.2.2.1 rfl
  ·refine .gone k1 k3 hnd k2 k3 (fun q => ?_) rfl rfl rfl rfl rfl
   rw [hgn, hb2]; unfold upd; rfl
 split
 ·rename_i hk1 hk2 hk3 hk4 hk
  obtain ⟨k1, k2, k3, k4⟩ := hk
  refine .thanks k1 k3 (by rw [← k4]; exact hs) k2 ?_ ?_ ?_ rfl
  ·unfold Ej; split <;> rfl
  ·unfold Ej; split <;> rfl
  ·unfold Ej; split <;> rfl
 ·rename_i k12 k3 k9 k8 k10
  refine .no (.refl ..) rfl (fun hk => absurd hk k3) (fun hk => absurd hk k12) (fun a b c d => k9 ⟨a, c, b, by rw [hs]; exact d.symm⟩) (fun a b c d => k8 ⟨a, c, b, by rw [hs]; exact (H9 _ _).2 d⟩) (fun a b c d => k10 ⟨a, c, b, by rw [hs]; exact d.symm⟩) (fun _ => Int.le_refl _)
end
inductive CoreDoes (n : Nat) (e : Entry) (p : Nat) (l : Line) (m : Msg) (l' : Line) (s : List Msg) : Prop
 | no (hl : l' = l) (h4 : m.kind = 4 → m.turn ≤ l.seen ∧ s = [Ba 8 p n m.line m.turn 0]) (h5 : m.kind = 5 ∨ m.kind = 6 → (m.turn = e.turn → e.phase = 1 → e.owner = p → l.seen = e.turn) ∧ (m.turn = l.gave → 0 < m.turn → s = [Ba 9 p n m.line l.gave l.given]))
  (h7 : m.kind = 7 → m.serial ≤ l.serial → s = [Ba 10 p n m.line m.turn 0]) (h7' : m.kind = 7 → m.serial = l.serial → l.want = 0 ∨ l.want = 3 ∨ l.seen = e.turn) (hs : s = [] ∨ ((4 ≤ m.kind ∧ m.kind ≤ 7) ∧ ∃ m', s = [m'] ∧ 8 ≤ m'.kind ∧ m'.kind ≤ 10)) (h11 : m.kind = 11 → ¬ (l.want = 3 ∧ m.serial = l.serial))
 | inv (hk : m.kind = 4) (h0 : e.phase = 2) (hn : Cm e.need p = 1) (hm : m.turn = e.turn) (hl : l.seen < e.turn) (hl' : l'.seen = e.turn) (hw : l'.want = l.want) (hse : l'.serial = l.serial) (hs : s = [Ba 8 p n m.line m.turn 0])
 | fet (hk : m.kind = 5 ∨ m.kind = 6) (h0 : e.phase = 1) (ho : e.owner = p) (hm : m.turn = e.turn) (hl : l.seen < e.turn) (hl' : l'.seen = e.turn) (hw : l'.want = l.want ∨ (l.want = 3 ∧ l'.want = 0)) (hse : l'.serial = l.serial) (hs : s = [Ba 9 p n m.line m.turn l.value])
 | grant (hk : m.kind = 7) (h0 : e.phase = 3) (ho : e.who = p) (hm : m.turn = e.turn) (hl : l.seen < e.turn) (hw0 : l.want = 1 ∨ l.want = 2) (hla : Cb e p = l.serial) (hms : m.serial = l.serial) (hl' : l'.seen = e.turn) (hw : l'.want = 0) (hse : l'.serial = l.serial) (hs : s = [Ba 10 p n m.line m.turn 0])
 | tak (hk : m.kind = 11) (hw0 : l.want = 3) (hm : m.serial = l.serial) (hl' : l'.seen = l.seen) (hw : l'.want = 0) (hse : l'.serial = l.serial) (hs : s = [])
section
variable {n nl : Nat} {x : Chip} {M : List Int}
theorem Z9 (h : Inv n nl x M) {p i : Nat} {m : Msg} (hp : p < n) (hi : i < nl) (hmi : m.line = i) (hM : MI (ab (ent x i)) p (lin x i p) m) :
  ∃ l', (∀ j, (Ac (cor x p) p n m).1.lines.getD j zLine = if j = i then l' else (cor x p).lines.getD j zLine) ∧ CoreDoes n (ent x i) p (lin x i p) m l' (Ac (cor x p) p n m).2.1 := by
 have hci := h.ci i hi p hp
 have hcw := h.cw p hp
 have hgi := h.gi i hi
 have hcl := h.ncl p hp
 have hinv := hM.inv
 have hfet := hM.fet
 have hgra := hM.gra
 have hcur := hci.cur
 have hown := hci.own
 have hga := hci.ga
 have hla := hci.la
 have hwa := hci.wa
 have hst := hci.st
 have htu := hgi.tu
 simp only [ab] at hinv hfet hgra hcur hown hga hla htu
 have hat : Bo (cor x p) m.line = lin x i p := by unfold Bo lin; rw [hmi, Int.toNat_natCast]
 have hg : ¬ (m.line < 0 ∨ ((cor x p).lines.length : Int) ≤ m.line) := by rw [hcl]; omega
 have hset : ∀ (l : Line) (w : Op), ∀ j, (Ce (cor x p) m.line l w).lines.getD j zLine = if j = i then l else (cor x p).lines.getD j zLine := fun l w j => by
  unfold Ce; rw [hmi, Int.toNat_natCast]; exact Bi _ _ _ _ _ (by rw [hcl]; exact hi)
 have hsame : ∀ j, (cor x p).lines.getD j zLine = if j = i then lin x i p else (cor x p).lines.getD j zLine := fun j => by
  split
  ·rename_i e; rw [e]; rfl
  ·rfl
 have hlast : Cb (ent x i) p = (ent x i).last.getD p 0 := rfl
 unfold Ac
 rw [if_neg hg, hat]
 split
 ·rename_i hk
  refine ⟨_, hset _ _, ?_⟩
  by_cases hs : (lin x i p).seen < m.turn
  ·obtain ⟨g1, g2, g3⟩ := (hinv hk).2 hs
   refine .inv hk g2 g3 g1 (by omega) ?_ ?_ ?_ rfl
   ·unfold C4; rw [if_pos hs]; split <;> exact g1
   ·unfold C4; rw [if_pos hs]; split <;> rfl
   ·unfold C4; rw [if_pos hs]; split <;> rfl
  ·refine .no (by unfold C4; rw [if_neg hs]) (fun _ => ⟨by omega, rfl⟩) (by omega) (by omega) (by omega) (.inr ⟨by omega, _, rfl, by unfold Ba; simp only; omega⟩) (by omega)
 split
 ·rename_i hk4 hk
  split
  ·rename_i hf
   obtain ⟨f1, f2, f3⟩ := hf
   obtain ⟨g1, g2, g3, g4⟩ := (hfet hk).2 f2
   refine ⟨_, hset _ _, .fet hk g2 g3 g1 (by omega) ?_ ?_ ?_ rfl⟩
   ·unfold Cv; split
    ·exact g1
    ·split <;> exact g1
   ·unfold Cv; split
    ·rename_i w; exact .inr ⟨w, rfl⟩
    ·split <;> exact .inl rfl
   ·unfold Cv; split
    ·rfl
    ·split <;> rfl
  ·rename_i hf
   have hseen : m.turn = (ent x i).turn → (ent x i).phase = 1 → (ent x i).owner = p → (lin x i p).seen = (ent x i).turn := fun h1 h2 h3 => by
    rcases hown h3 with ⟨a, b⟩ | ⟨a, b, c, d⟩
    ·exfalso; apply hf
     have := b h2
     exact ⟨by omega, by omega, by omega⟩
    ·omega
   split
   ·exact ⟨_, hsame, .no rfl (by omega) (fun _ => ⟨hseen, fun _ _ => rfl⟩) (by omega) (by omega) (.inr ⟨by omega, _, rfl, by unfold Ba; simp only; omega⟩) (by omega)⟩
   ·rename_i hg2
    exact ⟨_, hsame, .no rfl (by omega) (fun _ => ⟨hseen, fun a b => absurd ⟨a, b⟩ hg2⟩) (by omega) (by omega) (.inl rfl) (by omega)⟩
 split
 ·rename_i hk4 hk5 hk
  split
  ·exact ⟨_, hsame, .no rfl (by omega) (by omega) (fun _ h8 => by omega) (fun _ h8 => by omega) (.inl rfl) (by omega)⟩
  split
  ·rename_i h1 ha
   obtain ⟨a1, a2⟩ := ha
   obtain ⟨g0, g1, g2⟩ := hgra hk
   obtain ⟨b1, b2, b3, b4, b5⟩ := g1 a1 (by omega)
   have hc := hcur (by omega) b2
   have h9 : (lin x i p).serial = (ent x i).serial := by omega
   have h10 : (lin x i p).seen < (ent x i).turn := by
    rcases hc.2 with ⟨_, _, c3⟩ | ⟨c1, _⟩
    ·exact c3
    ·omega
   refine ⟨_, hset _ _, .grant hk b1 b2 b3 h10 (by omega) (by omega) a1 ?_ rfl rfl rfl⟩
   unfold Ic; simp only; exact b3
  ·rename_i h1 ha
   refine ⟨_, hsame, .no rfl (by omega) (by omega) (fun _ _ => rfl) (fun _ h8 => ?_) (.inr ⟨by omega, _, rfl, by unfold Ba; simp only; omega⟩) (by omega)⟩
   obtain ⟨g0, g1, g2⟩ := hgra hk
   by_cases hw : (lin x i p).want = 0
   ·exact .inl hw
   ·obtain ⟨b1, b2, b3, b4, b5⟩ := g1 h8 hw
    have hc := hcur (by omega) b2
    rcases hc.2 with ⟨c1, c2, c3⟩ | ⟨c1, c2, c3, _⟩
    ·exfalso; apply ha
     refine ⟨h8, ?_⟩
     cases hal : m.alone with
     | true =>
      have := b4.1 hal
      exact .inr ⟨by omega, rfl⟩
     | false =>
      have : ¬ (if (ent x i).alone then (1 : Int) else 0) = 1 := fun h => by rw [b4.2 h] at hal; exact absurd hal (by decide)
      have h01 := hgi.al
      simp only [ab] at h01
      exact .inl ⟨by omega, rfl⟩
    ·exact .inr (.inr c3)
 split
 ·rename_i hk4 hk5 hk7 hk
  exact ⟨_, hset _ _, .tak hk.1 hk.2.1 hk.2.2 rfl rfl rfl rfl⟩
 ·rename_i hk4 hk5 hk7 hk
  exact ⟨_, hsame, .no rfl (by omega) (by omega) (by omega) (by omega) (.inl rfl) (fun h8 h9 => hk ⟨h8, h9⟩)⟩
end
end Go.Proofs.Ytkgijpngobgfjaa
namespace Go.Proofs.Ytkgijpngobgfjaa
open Abs
section
variable {n nl : Nat} {x : Chip} {M : List Int}
theorem Pp {e e' : Entry} {p : Nat} {l : Line} (h : Cb e' p = Cb e p) : faA e' p l = faA e p l := by unfold faA; rw [h]
theorem V2 (e : Entry) (i n : Int) : ∀ m ∈ E9 e i n, 4 ≤ m.kind ∧ m.kind ≤ 7 := by
 unfold E9
 split
 ·intro m hm; rw [List.mem_singleton.1 hm]; simp only; split <;> omega
 split
 ·intro m hm
  obtain ⟨q, _, rfl⟩ := List.mem_map.1 hm
  simp
 split
 ·intro m hm; rw [List.mem_singleton.1 hm]; simp
 ·intro m hm; exact absurd hm (by simp)
theorem Ye (e : Entry) (i n : Int) : (E9 e i n).length ≤ 4 := by
 unfold E9
 split
 ·simp
 split
 ·rw [List.length_map]; exact Nat.le_trans (List.length_filter_le _ _) (by decide)
 split <;> simp
theorem Aeg (h : Inv n nl x M) {p i : Nat} {m : Msg} {e' : Entry} {s : List Msg} (hp : p < n) (hi : i < nl) (hd : HomeDoes n (ent x i) (lin x i) p m e' s) :
  (SameE n (ent x i) e' (lin x i) ∧ (s = [] ∨ (m.kind = 3 ∧ s = [Jy n m]))) ∨ (faL n e' (lin x i) + 1 ≤ faL n (ent x i) (lin x i) ∧ (s = [] ∨ (m.kind = 3 ∧ s = [Jy n m]))) ∨ (faL n e' (lin x i) + 2 ≤ faL n (ent x i) (lin x i) ∧ s = E9 e' m.line n ∧ 1 ≤ e'.phase ∧ e'.phase ≤ 3) := by
 have hci := fun q hq => h.ci i hi q hq
 have hgi := h.gi i hi
 have sumL : ∀ (hl : e'.last = (ent x i).last), Fq (fun q => faA e' q (lin x i q)) n = Fq (fun q => faA (ent x i) q (lin x i q)) n := fun hl => Fe fun q _ => Pp (by unfold Cb; rw [hl])
 cases hd with
 | no h1 h2 => exact .inl ⟨h1, .inl h2⟩
 | late hk h0 h1 h2 h3 hge => exact .inl ⟨h1, .inr ⟨hk, h2⟩⟩
 | put hk h0 hw hm hl h0' hl' ho ht hs =>
  refine .inr (.inl ⟨?_, .inr ⟨hk, hs⟩⟩)
  have h1 := Hc (f := fun q => faA e' q (lin x i q)) (g := fun q => faA (ent x i) q (lin x i q)) hp (fun q _ hq => Pp (ho q hq))
  have h2 : faA (ent x i) p (lin x i p) = 2 := by unfold faA; rw [if_neg (by omega), if_pos hw, if_pos hl]
  have h3 : faA e' p (lin x i p) = 1 := by unfold faA; rw [if_neg (by omega), if_pos hw, if_neg (by omega)]
  have h4 : faD n e' (lin x i) = 0 := by unfold faD; rw [if_neg (by omega), if_neg (by omega), if_neg (by omega)]
  simp only [h2, h3] at h1
  unfold faL; omega
 | get h0 hw hk hm hl h0' hl' ho ht hwho hse hnw hs =>
  refine .inr (.inr ⟨?_, hs, h0'⟩)
  have h1 := Hc (f := fun q => faA e' q (lin x i q)) (g := fun q => faA (ent x i) q (lin x i q)) hp (fun q _ hq => Pp (ho q hq))
  have h2 : faA (ent x i) p (lin x i p) = 11 := by unfold faA; rw [if_neg (by omega), if_neg (by omega), if_pos hl]
  have h3 : faA e' p (lin x i p) = 0 := by unfold faA; rw [if_neg (by omega), if_neg (by omega), if_neg (by omega)]
  have hn := h.n1
  have h4 : faD n e' (lin x i) ≤ 9 := by
   unfold faD
   split
   ·have := Og e' (lin x i e'.owner.toNat); omega
   split
   ·have h5 := O1 (f := fun q => faQ e' q (lin x i q)) (w := p) (fun q => Agn _ _ _) (by unfold faQ; rw [if_neg (by omega)]) hp
    omega
   split
   ·have := Og e' (lin x i e'.who.toNat); omega
   ·omega
  simp only [h2, h3] at h1
  unfold faL; omega
 | data hk h0 ho hm h0' hl' ht hwho hse hs =>
  refine .inr (.inr ⟨?_, hs, by omega⟩)
  have h1 := sumL hl'
  have h4 : faD n e' (lin x i) ≤ 2 := by
   unfold faD; rw [if_neg (by omega), if_neg (by omega), if_pos h0']; have := Og e' (lin x i e'.who.toNat); omega
  have h5 : 4 ≤ faD n (ent x i) (lin x i) := by unfold faD; rw [if_pos h0]; omega
  unfold faL; omega
 | gone hk h0 hn hm h0' hnd hl' ht hwho hse hs =>
  refine .inr (.inl ⟨?_, .inl hs⟩)
  have h1 := sumL hl'
  have h2 := Hc (f := fun q => faQ e' q (lin x i q)) (g := fun q => faQ (ent x i) q (lin x i q)) hp (fun q _ hq => by unfold faQ; rw [hnd, if_neg hq, ht])
  have h3 : faQ e' p (lin x i p) = 0 := by unfold faQ; rw [hnd, if_pos rfl, if_neg (by omega)]
  have h4 : 1 ≤ faQ (ent x i) p (lin x i p) := by unfold faQ; rw [if_pos hn]; split <;> omega
  have h5 : faD n e' (lin x i) = 3 + Fq (fun q => faQ e' q (lin x i q)) n := by unfold faD; rw [if_neg (by omega), if_pos h0']
  have h6 : faD n (ent x i) (lin x i) = 3 + Fq (fun q => faQ (ent x i) q (lin x i q)) n := by unfold faD; rw [if_neg (by omega), if_pos h0]
  simp only [h3] at h2
  unfold faL; omega
 | all hk h0 hn hm h0' hl' ht hwho hse hs =>
  refine .inr (.inr ⟨?_, hs, by omega⟩)
  have h1 := sumL hl'
  have h2 := T2 (f := fun q => faQ (ent x i) q (lin x i q)) hp
  have h4 : 1 ≤ faQ (ent x i) p (lin x i p) := by unfold faQ; rw [if_pos hn]; split <;> omega
  have h5 : faD n e' (lin x i) ≤ 2 := by
   unfold faD; rw [if_neg (by omega), if_neg (by omega), if_pos h0']; have := Og e' (lin x i e'.who.toNat); omega
  have h6 : faD n (ent x i) (lin x i) = 3 + Fq (fun q => faQ (ent x i) q (lin x i q)) n := by unfold faD; rw [if_neg (by omega), if_pos h0]
  unfold faL; omega
 | thanks hk h0 hw hm h0' hl' ht hs =>
  refine .inr (.inl ⟨?_, .inl hs⟩)
  have h1 := sumL hl'
  have h4 : faD n e' (lin x i) = 0 := by unfold faD; rw [if_neg (by omega), if_neg (by omega), if_neg (by omega)]
  have h5 : 1 ≤ faD n (ent x i) (lin x i) := by unfold faD; rw [if_neg (by omega), if_neg (by omega), if_pos h0]; omega
  unfold faL; omega
def V1 (l : Nat → Line) (p : Nat) (l' : Line) : Nat → Line := fun q => if q = p then l' else l q
theorem Aeh (h : Inv n nl x M) {p i : Nat} {m : Msg} {l' : Line} {s : List Msg} (hp : p < n) (hi : i < nl) (hd : CoreDoes n (ent x i) p (lin x i p) m l' s) :
  l' = lin x i p ∨ faL n (ent x i) (V1 (lin x i) p l') + 1 ≤ faL n (ent x i) (lin x i) := by
 have hgi := h.gi i hi
 have hown := hgi.own
 have hwho := hgi.whor
 simp only [ab] at hown hwho
 have sA := Hc (f := fun q => faA (ent x i) q (V1 (lin x i) p l' q)) (g := fun q => faA (ent x i) q (lin x i q)) hp (fun q _ hq => by simp only [V1]; rw [if_neg hq])
 have sQ := Hc (f := fun q => faQ (ent x i) q (V1 (lin x i) p l' q)) (g := fun q => faQ (ent x i) q (lin x i q)) hp (fun q _ hq => by simp only [V1]; rw [if_neg hq])
 have e1 : V1 (lin x i) p l' p = l' := if_pos rfl
 simp only [e1] at sA sQ
 cases hd with
 | no hl => exact .inl hl
 | inv hk h0 hn hm hl hl' hw hse hs =>
  right
  have a1 : faA (ent x i) p l' = faA (ent x i) p (lin x i p) := by unfold faA; rw [hw, hse]
  have q1 : faQ (ent x i) p l' = 1 := by unfold faQ; rw [if_pos hn, if_pos hl']
  have q2 : faQ (ent x i) p (lin x i p) = 2 := by unfold faQ; rw [if_pos hn, if_neg (by omega)]
  have d1 : ∀ l, faD n (ent x i) l = 3 + Fq (fun q => faQ (ent x i) q (l q)) n := fun l => by unfold faD; rw [if_neg (by omega), if_pos h0]
  unfold faL; rw [d1, d1]; omega
 | fet hk h0 ho hm hl hl' hw hse hs =>
  right
  have a1 : faA (ent x i) p l' ≤ faA (ent x i) p (lin x i p) := by
   rcases hw with hw | ⟨_, hw⟩
   ·unfold faA; rw [hw, hse]; omega
   ·unfold faA; rw [if_pos hw]; omega
  have ht : (ent x i).owner.toNat = p := by omega
  have d1 : faD n (ent x i) (V1 (lin x i) p l') = 4 := by unfold faD faT; rw [if_pos h0, ht, e1, if_pos hl']
  have d2 : faD n (ent x i) (lin x i) = 5 := by unfold faD faT; rw [if_pos h0, ht, if_neg (by omega)]
  unfold faL; rw [d1, d2]; omega
 | grant hk h0 ho hm hl hw0 hla hms hl' hw hse hs =>
  right
  have a1 : faA (ent x i) p l' = 0 := by unfold faA; rw [if_pos hw]
  have ht : (ent x i).who.toNat = p := by omega
  have d1 : faD n (ent x i) (V1 (lin x i) p l') = 1 := by unfold faD faT; rw [if_neg (by omega), if_neg (by omega), if_pos h0, ht, e1, if_pos hl']
  have d2 : faD n (ent x i) (lin x i) = 2 := by unfold faD faT; rw [if_neg (by omega), if_neg (by omega), if_pos h0, ht, if_neg (by omega)]
  unfold faL; rw [d1, d2]; omega
 | tak hk hw0 hm hl' hw hse hs =>
  right
  have a1 : faA (ent x i) p l' = 0 := by unfold faA; rw [if_pos hw]
  have a2 : 1 ≤ faA (ent x i) p (lin x i p) := by unfold faA; rw [if_neg (by omega), if_pos hw0]; split <;> omega
  have d1 : faD n (ent x i) (V1 (lin x i) p l') = faD n (ent x i) (lin x i) := by
   have e2 : ∀ q, (V1 (lin x i) p l' q).seen = (lin x i q).seen := fun q => by
    unfold V1; split
    ·rename_i e; rw [e]; exact hl'
    ·rfl
   unfold faD faT faQ
   simp only [e2]
  unfold faL; rw [d1]; omega
inductive GoDoes (n nl : Nat) (x y : Chip) (b : List UInt8) (fs : Frames) : Prop
 | bad (hp : (Ad (Cz n nl) b).2 ≠ 0) (hc : ∀ j q, lin y j q = lin x j q) (hh : ∀ j, ent y j = ent x j) (hf : y.frames = fs)
 | home (m : Msg) (p i : Nat) (e' : Entry) (s : List Msg) (hm : Ad (Cz n nl) b = (m, 0)) (hp : p < n) (hi : i < nl) (h1 : m.src = p) (h2 : m.dst = n) (h3 : m.line = i) (hc : ∀ j q, lin y j q = lin x j q) (hh : ∀ j, ent y j = if j = i then e' else ent x j) (hf : y.frames = way fs s)
  (hd : HomeDoes n (ent x i) (lin x i) p m e' s)
 | core (m : Msg) (p i : Nat) (l' : Line) (s : List Msg) (hm : Ad (Cz n nl) b = (m, 0)) (hp : p < n) (hi : i < nl) (h1 : m.src = n) (h2 : m.dst = p) (h3 : m.line = i) (hc : ∀ j q, lin y j q = if q = p ∧ j = i then l' else lin x j q) (hh : ∀ j, ent y j = ent x j) (hf : y.frames = way fs s)
  (hd : CoreDoes n (ent x i) p (lin x i p) m l' s)
theorem Zj (h : Inv n nl x M) (hT : ∀ i, i < nl → (ent x i).turn < 65535) {b : List UInt8} {fs : Frames} (hfr : x.frames = b :: fs) : GoDoes n nl x (Ag x goS).1 b fs := by
 have hf : 0 < x.frames.length := by rw [hfr]; simp
 rw [Adk hf]
 have hb : Cg x.frames 0 = b := by rw [hfr]; rfl
 have he : x.frames.eraseIdx 0 = fs := by rw [hfr]; rfl
 rw [hb, he]
 have hcf : Aq ⟨x.cores, x.home, fs⟩ = Cz n nl := by
  exact ZdR
 have hmi := (h.mi b (by rw [hfr]; exact List.mem_cons_self ..)).2
 unfold A6
 rw [hcf]
 split
 ·rename_i hp0; exact .bad hp0 (fun _ _ => rfl) (fun _ => rfl) rfl
 rename_i hp0
 have hpar : Ad (Cz n nl) b = ((Ad (Cz n nl) b).1, 0) := by rw [← Decidable.not_not.1 hp0]
 have hMX := hmi _ hpar
 have hw := Ec (El hpar).2.2.2.2.1
 generalize (Ad (Cz n nl) b).1 = m at *
 refine ZcF ?_;intro hnx hcn hln
 rw [hcn, hln] at hw
 have hli : m.line.toNat < nl := by omega
 have hle : m.line = (m.line.toNat : Int) := by omega
 split
 ·rename_i hdst
  have hpe : I5 n m = m.src.toNat := by unfold I5; rw [if_pos hdst]
  unfold MX at hMX; rw [hpe] at hMX
  have hsrc : m.src.toNat < n := by omega
  have hse : m.src = (m.src.toNat : Int) := by omega
  have hat : Ai x.home m.line = ent x m.line.toNat := rfl
  have hla := h.nla m.line.toNat hli
  have hgd : ¬ (m.line < 0 ∨ (x.home.length : Int) ≤ m.line ∨ m.src < 0 ∨ ((Ai x.home m.line).last.length : Int) ≤ m.src) := by
   rw [hat, hla, h.nh]; omega
  simp only
  have hhd : Am x.home (n : Int) m = (x.home.set m.line.toNat (Af (ent x m.line.toNat) n m).1, (Af (ent x m.line.toNat) n m).2) := by
   unfold Am; rw [if_neg hgd, hat]
  rw [hhd]
  refine .home m m.src.toNat m.line.toNat _ _ hpar hsrc hli hse hdst hle (fun _ _ => rfl) (fun j => ?_) rfl (Za h hsrc hli hse hMX (hT _ hli))
  show (x.home.set m.line.toNat _).getD j A5 = _
  rw [Bi _ _ _ _ _ (by rw [h.nh]; exact hli)]; rfl
 ·rename_i hdst
  have hpe : I5 n m = m.dst.toNat := by unfold I5; rw [if_neg hdst]
  unfold MX at hMX; rw [hpe] at hMX
  have hdn : m.dst.toNat < n := by omega
  have hde : m.dst = (m.dst.toNat : Int) := by omega
  obtain ⟨l', hl1, hl2⟩ := Z9 h hdn hli hle hMX
  have hca : Ap ⟨x.cores, x.home, fs⟩ m.dst = cor x m.dst.toNat := rfl
  simp only
  rw [hca]
  rw [← hde] at hl1 hl2
  refine .core m m.dst.toNat m.line.toNat l' _ hpar hdn hli (by omega) hde hle (fun j q => ?_) (fun _ => rfl) rfl hl2
  show ((x.cores.set m.dst.toNat _).getD q Fa).lines.getD j zLine = _
  rw [Bi _ _ _ _ _ (by rw [h.nc]; exact hdn)]
  by_cases hq : q = m.dst.toNat
  ·rw [if_pos hq, hl1]
   by_cases hj : j = m.line.toNat
   ·rw [if_pos hj, if_pos ⟨hq, hj⟩]
   ·rw [if_neg hj, if_neg (fun h => hj h.2), hq]; rfl
  ·rw [if_neg hq, if_neg (fun h => hq h.1)]; rfl
end
end Go.Proofs.Ytkgijpngobgfjaa
namespace Go.Proofs.Ytkgijpngobgfjaa
open Abs
def Has (n nl : Nat) (fs : Frames) (P : Msg → Prop) : Prop := ∃ b ∈ fs, ∃ m, Ad (Cz n nl) b = (m, 0) ∧ P m
theorem Has.mono {n nl : Nat} {fs gs : Frames} {P : Msg → Prop} (h : Has n nl fs P) (hs : ∀ b ∈ fs, b ∈ gs) : Has n nl gs P := by
 obtain ⟨b, h1, m, h2, h3⟩ := h; exact ⟨b, hs b h1, m, h2, h3⟩
theorem Has.imp {n nl : Nat} {fs : Frames} {P Q : Msg → Prop} (h : Has n nl fs P) (hs : ∀ m, P m → Q m) : Has n nl fs Q := by
 obtain ⟨b, h1, m, h2, h3⟩ := h; exact ⟨b, h1, m, h2, hs m h3⟩
def upM (k : Int) (n i p : Nat) (t : Int) (m : Msg) : Prop := m.kind = k ∧ m.src = p ∧ m.dst = n ∧ m.line = i ∧ m.turn = t
def dnM (k : Int) (n i p : Nat) (t : Int) (m : Msg) : Prop := m.kind = k ∧ m.src = n ∧ m.dst = p ∧ m.line = i ∧ m.turn = t
def tkM (n i p : Nat) (s : Int) (m : Msg) : Prop := m.kind = 11 ∧ m.src = n ∧ m.dst = p ∧ m.line = i ∧ m.serial = s
def ptM (n i p : Nat) (s : Int) (m : Msg) : Prop := m.kind = 3 ∧ m.src = p ∧ m.dst = n ∧ m.line = i ∧ m.serial = s
def K3 (n nl : Nat) (x : Chip) (O : Frames) : Prop := ∀ i p, i < nl → p < n →
 ((ent x i).phase = 1 → (ent x i).owner = p → (lin x i p).seen = (ent x i).turn → Has n nl x.frames (upM 9 n i p (ent x i).turn) ∨ Has n nl O (fun m => dnM 5 n i p (ent x i).turn m ∨ dnM 6 n i p (ent x i).turn m)) ∧
 ((ent x i).phase = 2 → Cm (ent x i).need p = 1 → (lin x i p).seen = (ent x i).turn → Has n nl x.frames (upM 8 n i p (ent x i).turn) ∨ Has n nl O (dnM 4 n i p (ent x i).turn)) ∧
 ((ent x i).phase = 3 → (ent x i).who = p → (lin x i p).seen = (ent x i).turn → Has n nl x.frames (upM 10 n i p (ent x i).turn) ∨ Has n nl O (dnM 7 n i p (ent x i).turn))
def K4 (n nl : Nat) (x : Chip) (O : Frames) : Prop := ∀ i p, i < nl → p < n → (lin x i p).want = 3 → Cb (ent x i) p = (lin x i p).serial → Has n nl x.frames (tkM n i p (lin x i p).serial) ∨ Has n nl O (ptM n i p (lin x i p).serial)
theorem Hw : ∀ (s : List Msg) (l : Frames), ∃ t, way l s = l ++ t ∧ t.length ≤ s.length ∧ (∀ b ∈ t, ∃ m ∈ s, b = msgBytes m) ∧ (∀ m r, s = m :: r → l.length < 40 → msgBytes m ∈ t) ∧ (l.length + s.length ≤ 40 → t = s.map msgBytes)
 | [], l => ⟨[], by simp [way], Nat.le_refl _, by simp, by simp, fun _ => rfl⟩
 | m :: r, l => by
  obtain ⟨t, h1, h2, h3, h4, h5⟩ := Hw r (Cu l (msgBytes m))
  by_cases hl : l.length < 40
  ·have e : Cu l (msgBytes m) = l ++ [msgBytes m] := by unfold Cu; rw [if_pos hl]
   refine ⟨msgBytes m :: t, ?_, by simp; omega, ?_, ?_, ?_⟩
   ·simp only [way]; rw [h1, e]; simp
   ·intro b hb
    rcases List.mem_cons.1 hb with hb | hb
    ·exact ⟨m, List.mem_cons_self .., hb⟩
    ·obtain ⟨m', h6, h7⟩ := h3 b hb; exact ⟨m', List.mem_cons_of_mem _ h6, h7⟩
   ·intro m' r' he _
    cases he; exact List.mem_cons_self ..
   ·intro h6
    rw [e] at h5
    rw [h5 (by simp at h6 ⊢; omega)]; rfl
  ·have e : Cu l (msgBytes m) = l := by unfold Cu; rw [if_neg hl]
   rw [e] at h1 h5
   refine ⟨t, by simp only [way]; rw [e]; exact h1, by simp; omega, ?_, fun _ _ _ h => absurd h hl, fun h => absurd h (by simp; omega)⟩
   intro b hb
   obtain ⟨m', h6, h7⟩ := h3 b hb; exact ⟨m', List.mem_cons_of_mem _ h6, h7⟩
section
variable {n nl : Nat} {x y : Chip} {M : List Int}
theorem E6 (h : Inv n nl x M) {l : Frames} {m : Msg} {P : Msg → Prop} (hm : msgBytes m ∈ l) (hw : Bn (Cz n nl) m = 0) (hP : P m) : Has n nl l P :=
 ⟨_, hm, m, Mq hw (by have := h.n1; simp only [Cz]; omega) (by have := h.l1; simp only [Cz]; omega), hP⟩
theorem Ow (s : List Msg) (l : Frames) {b : List UInt8} (hb : b ∈ l) : b ∈ way l s := by
 obtain ⟨t, h1, _⟩ := Hw s l
 rw [h1]; exact List.mem_append.2 (.inl hb)
theorem Xy {l : Frames} {m : Msg} (hl : l.length < 40) : msgBytes m ∈ way l [m] := by
 obtain ⟨t, h1, _, _, h4, _⟩ := Hw [m] l
 rw [h1]; exact List.mem_append.2 (.inr (h4 m [] rfl hl))
theorem Abl (h : Inv n nl x M) {i : Nat} (hi : i < nl) (h0 : (ent x i).phase ≠ 0) (h3 : (ent x i).phase ≠ 3) : 0 < (ent x i).turn := by
 have hgi := h.gi i hi
 have hw := hgi.whor h0
 simp only [ab] at hw
 have hc := h.ci i hi (ent x i).who.toNat (by omega)
 have hcur := hc.cur h0 (by show (ent x i).who = _; omega)
 have hga := hc.ga
 simp only [ab] at hcur hga
 omega
theorem V6 (h : Inv n nl x M) {p i : Nat} (hp : p < n) (hi : i < nl) {k t v : Int} (hk : 1 ≤ k ∧ k ≤ 11) (ht : 0 ≤ t ∧ t ≤ 65535) (hv : 0 ≤ v ∧ v ≤ 255) {line : Int} (hl : line = i) : Bn (Cz n nl) (Ba k p n line t v) = 0 := by
 subst hl; exact Hd h hp hi hk ⟨by omega, by omega⟩ ht hv
theorem Y4 (h : Inv n nl x M) {b : List UInt8} {fs O O' : Frames} (hfr : x.frames = b :: fs) (hd : GoDoes n nl x y b fs) (hO : ∀ P : Msg → Prop, Has n nl O P → Has n nl O' P ∨ ∃ m, Ad (Cz n nl) b = (m, 0) ∧ P m) (hk : K3 n nl x O) : K3 n nl y O' := by
 have hfl : fs.length < 40 := by have := h.fr; rw [hfr] at this; simp at this; omega
 have hfm : ∀ P : Msg → Prop, Has n nl x.frames P → Has n nl fs P ∨ ∃ m, Ad (Cz n nl) b = (m, 0) ∧ P m := by
  intro P ⟨c, h1, m, h2, h3⟩
  rw [hfr] at h1
  exact Zdv
 cases hd with
 | bad hp hc hh hf =>
  have hno : ∀ P : Msg → Prop, ¬ ∃ m, Ad (Cz n nl) b = (m, 0) ∧ P m := fun P ⟨m, h1, _⟩ => hp (by rw [h1])
  have tr : ∀ P Q : Msg → Prop, Has n nl x.frames P ∨ Has n nl O Q → Has n nl y.frames P ∨ Has n nl O' Q := by
   intro P Q h1
   rcases h1 with h1 | h1
   ·rcases hfm P h1 with h2 | h2
    ·rw [hf]; exact .inl h2
    ·exact absurd h2 (hno P)
   ·rcases hO Q h1 with h2 | h2
    ·exact .inr h2
    ·exact absurd h2 (hno Q)
  intro i p hi hp'
  obtain ⟨k1, k2, k3⟩ := hk i p hi hp'
  rw [hh, hc]
  exact ⟨fun a b c => tr _ _ (k1 a b c), fun a b c => tr _ _ (k2 a b c), fun a b c => tr _ _ (k3 a b c)⟩
 | home m p0 i0 e' s hm hp0 hi0 h1 h2 h3 hc hh hf hd =>
  have tr : ∀ P Q : Msg → Prop, ¬ P m → ¬ Q m → Has n nl x.frames P ∨ Has n nl O Q → Has n nl y.frames P ∨ Has n nl O' Q := by
   intro P Q hP hQ h1
   rcases h1 with h1 | h1
   ·rcases hfm P h1 with h2 | ⟨m', h2, h3⟩
    ·left; rw [hf]; exact h2.mono fun c hc => Ow s fs hc
    ·rw [hm] at h2; cases h2; exact absurd h3 hP
   ·rcases hO Q h1 with h2 | ⟨m', h2, h3⟩
    ·exact .inr h2
    ·rw [hm] at h2; cases h2; exact absurd h3 hQ
  have hQd : ∀ i p t k, ¬ dnM k n i p t m := fun i p t k hq => by unfold dnM at hq; omega
  intro i p hi hp
  obtain ⟨k1, k2, k3⟩ := hk i p hi hp
  rw [hh, hc]
  by_cases hii : i = i0
  ·subst hii
   rw [if_pos rfl]
   have hci := h.ci i hi p hp
   have hga := hci.ga
   simp only [ab] at hga
   cases hd with
   | no hS hs hk3 h12 h9 h8 h10 hge =>
    rw [hS.ph, hS.ow, hS.nd, hS.wh, hS.tu]
    refine ⟨fun a b c => tr _ _ (fun hP => ?_) (fun hq => ?_) (k1 a b c), fun a b c => tr _ _ (fun hP => ?_) (hQd _ _ _ _) (k2 a b c), fun a b c => tr _ _ (fun hP => ?_) (hQd _ _ _ _) (k3 a b c)⟩
    ·unfold upM at hP; exact h9 hP.1 a hP.2.2.2.2 (by omega)
    ·rcases hq with hq | hq <;> exact hQd _ _ _ _ hq
    ·unfold upM at hP; obtain ⟨q1, q2, q3, q4, q5⟩ := hP; have e : p = p0 := by omega
     subst e; exact h8 q1 a q5 b
    ·unfold upM at hP; exact h10 hP.1 a hP.2.2.2.2 (by omega)
   | late hkk h0 hS hs hl hge =>
    rw [hS.ph]
    exact ⟨fun a => absurd a (by omega), fun a => absurd a (by omega), fun a => absurd a (by omega)⟩
   | put hkk h0 hw hmm hl h0' hl' ho ht hs => exact ⟨fun a => absurd a (by omega), fun a => absurd a (by omega), fun a => absurd a (by omega)⟩
   | get h0 hw hkk hmm hl h0' hl' ho ht hwho hse hnw hs => rw [ht]; exact ⟨fun _ _ c => absurd c (by omega), fun _ _ c => absurd c (by omega), fun _ _ c => absurd c (by omega)⟩
   | data hkk h0 ho hmm h0' hl' ht hwho hse hs =>
    refine ⟨fun a => absurd a (by omega), fun a => absurd a (by omega), fun a b c => ?_⟩
    exfalso
    rw [hwho] at b; rw [ht] at c
    have hcur := hci.cur (by show (ent x i).phase ≠ 0; omega) b
    simp only [ab] at hcur
    omega
   | gone hkk h0 hnn hmm h0' hnd hl' ht hwho hse hs =>
    rw [ht]
    refine ⟨fun a => absurd a (by omega), fun a b c => ?_, fun a => absurd a (by omega)⟩
    rw [hnd] at b
    by_cases e : p = p0
    ·rw [if_pos e] at b; omega
    ·rw [if_neg e] at b
     exact tr _ _ (fun hP => by unfold upM at hP; omega) (hQd _ _ _ _) (k2 h0 b c)
   | all hkk h0 hnn hmm h0' hl' ht hwho hse hs =>
    refine ⟨fun a => absurd a (by omega), fun a => absurd a (by omega), fun a b c => ?_⟩
    exfalso
    rw [hwho] at b; rw [ht] at c
    have hcur := hci.cur (by show (ent x i).phase ≠ 0; omega) b
    simp only [ab] at hcur
    omega
   | thanks hkk h0 hw hmm h0' hl' ht hs => exact ⟨fun a => absurd a (by omega), fun a => absurd a (by omega), fun a => absurd a (by omega)⟩
  ·rw [if_neg hii]
   have hP : ∀ k t, ¬ upM k n i p t m := fun k t hq => by unfold upM at hq; omega
   exact ⟨fun a b c => tr _ _ (hP _ _) (fun hq => by rcases hq with hq | hq <;> exact hQd _ _ _ _ hq) (k1 a b c), fun a b c => tr _ _ (hP _ _) (hQd _ _ _ _) (k2 a b c), fun a b c => tr _ _ (hP _ _) (hQd _ _ _ _) (k3 a b c)⟩
 | core m p0 i0 l' s hm hp0 hi0 h1 h2 h3 hc hh hf hd =>
  have trP : ∀ P : Msg → Prop, ¬ P m → Has n nl x.frames P → Has n nl y.frames P := by
   intro P hP h1
   rcases hfm P h1 with h2 | ⟨m', h2, h3⟩
   ·rw [hf]; exact h2.mono fun c hc => Ow s fs hc
   ·rw [hm] at h2; cases h2; exact absurd h3 hP
  have hPu : ∀ i p t k, ¬ upM k n i p t m := fun i p t k hq => by unfold upM at hq; omega
  have tr : ∀ P Q : Msg → Prop, ¬ P m → ¬ Q m → Has n nl x.frames P ∨ Has n nl O Q → Has n nl y.frames P ∨ Has n nl O' Q := by
   intro P Q hP hQ h1
   rcases h1 with h1 | h1
   ·exact .inl (trP P hP h1)
   ·rcases hO Q h1 with h2 | ⟨m', h2, h3⟩
    ·exact .inr h2
    ·rw [hm] at h2; cases h2; exact absurd h3 hQ
  have tr2 : ∀ P Q : Msg → Prop, ¬ P m → (Q m → Has n nl y.frames P) → Has n nl x.frames P ∨ Has n nl O Q → Has n nl y.frames P ∨ Has n nl O' Q := by
   intro P Q hP hQ h1
   rcases h1 with h1 | h1
   ·exact .inl (trP P hP h1)
   ·rcases hO Q h1 with h2 | ⟨m', h2, h3⟩
    ·exact .inr h2
    ·rw [hm] at h2; cases h2; exact .inl (hQ h3)
  intro i p hi hp
  obtain ⟨k1, k2, k3⟩ := hk i p hi hp
  rw [hh, hc]
  by_cases hpi : p = p0 ∧ i = i0
  ·obtain ⟨e1, e2⟩ := hpi
   subst e1 e2
   rw [if_pos ⟨rfl, rfl⟩]
   have hci := h.ci i hi p hp
   have hga := hci.ga
   have hown := hci.own
   have hgi' := hci.gi
   have hva := hci.va
   have htu := (h.gi i hi).tu
   have hmw := Ec (El hm).2.2.2.2.1
   have hmiB := (h.mi b (by rw [hfr]; exact List.mem_cons_self ..)).2 m hm
   simp only [ab] at hga hown htu
   have new : ∀ (k t v : Int), 8 ≤ k ∧ k ≤ 10 → 0 ≤ t ∧ t ≤ 65535 → 0 ≤ v ∧ v ≤ 255 → s = [Ba k p n m.line t v] → Has n nl y.frames (upM k n i p t) := by
    intro k t v hk' ht hv hs
    rw [hf, hs]
    exact E6 h (Xy hfl) (V6 h hp hi (by omega) ht hv h3) ⟨rfl, rfl, rfl, h3, rfl⟩
   cases hd with
   | no hl h4 h5 h7 h7' hs h11 =>
    subst hl
    refine ⟨fun a b c => tr2 _ _ (hPu _ _ _ _) (fun hq => ?_) (k1 a b c), fun a b c => tr2 _ _ (hPu _ _ _ _) (fun hq => ?_) (k2 a b c), fun a b c => tr2 _ _ (hPu _ _ _ _) (fun hq => ?_) (k3 a b c)⟩
    ·have hk5 : m.kind = 5 ∨ m.kind = 6 := by
      rcases hq with hq | hq
      ·exact .inl hq.1
      ·exact .inr hq.1
     have hmt : m.turn = (ent x i).turn := by
      rcases hq with hq | hq <;> exact hq.2.2.2.2
     have hgv : (lin x i p).gave = (ent x i).turn := by
      rcases hown b with ⟨q1, q2⟩ | ⟨q1, q2, q3, _⟩
      ·have := q2 a; omega
      ·exact q3
     have htp := Abl h hi (by omega) (by omega)
     have := new 9 _ _ (by omega) (by omega) hgi' ((h5 hk5).2 (by omega) (by omega))
     rw [hgv] at this; exact this
    ·have := new 8 _ _ (by omega) (by omega) (by omega) (h4 hq.1).2
     rw [hq.2.2.2.2] at this; exact this
    ·have hmi := hmiB
     have hpe : I5 n m = p := by unfold I5; rw [if_neg (by omega)]; omega
     unfold MX at hmi
     rw [hpe, show m.line.toNat = i by omega] at hmi
     have hgr := (hmi.gra hq.1).1
     have hla := hci.la
     simp only [ab] at hgr hla
     have := new 10 _ _ (by omega) (by omega) (by omega) (h7 hq.1 (by omega))
     rw [hq.2.2.2.2] at this; exact this
   | inv hkk h0 hnn hmm hl hl' hw hse hs =>
    refine ⟨fun a => absurd a (by omega), fun a b c => .inl ?_, fun a => absurd a (by omega)⟩
    have := new 8 _ _ (by omega) (by omega) (by omega) hs
    rw [hmm] at this; exact this
   | fet hkk h0 ho hmm hl hl' hw hse hs =>
    refine ⟨fun a b c => .inl ?_, fun a => absurd a (by omega), fun a => absurd a (by omega)⟩
    have := new 9 _ _ (by omega) (by omega) hva hs
    rw [hmm] at this; exact this
   | grant hkk h0 ho hmm hl hw0 hla hms hl' hw hse hs =>
    refine ⟨fun a => absurd a (by omega), fun a => absurd a (by omega), fun a b c => .inl ?_⟩
    have := new 10 _ _ (by omega) (by omega) (by omega) hs
    rw [hmm] at this; exact this
   | tak hkk hw0 hmm hl' hw hse hs =>
    rw [hl']
    exact ⟨fun a b c => tr _ _ (hPu _ _ _ _) (fun hq => by rcases hq with hq | hq <;> (unfold dnM at hq; omega)) (k1 a b c), fun a b c => tr _ _ (hPu _ _ _ _) (fun hq => by unfold dnM at hq; omega) (k2 a b c), fun a b c => tr _ _ (hPu _ _ _ _) (fun hq => by unfold dnM at hq; omega) (k3 a b c)⟩
  ·rw [if_neg hpi]
   have hQ : ∀ k t, ¬ dnM k n i p t m := fun k t hq => by
    unfold dnM at hq; exact hpi ⟨by omega, by omega⟩
   exact ⟨fun a b c => tr _ _ (hPu _ _ _ _) (fun hq => by rcases hq with hq | hq <;> exact hQ _ _ hq) (k1 a b c), fun a b c => tr _ _ (hPu _ _ _ _) (hQ _ _) (k2 a b c), fun a b c => tr _ _ (hPu _ _ _ _) (hQ _ _) (k3 a b c)⟩
theorem Y3 (h : Inv n nl x M) {b : List UInt8} {fs O O' : Frames} (hfr : x.frames = b :: fs) (hd : GoDoes n nl x y b fs) (hO : ∀ P : Msg → Prop, Has n nl O P → Has n nl O' P ∨ ∃ m, Ad (Cz n nl) b = (m, 0) ∧ P m) (hz : O = [] ∨ ∀ i, i < nl → (ent x i).phase = 0) (hk : K4 n nl x O) : K4 n nl y O' := by
 have hfl : fs.length < 40 := by have := h.fr; rw [hfr] at this; simp at this; omega
 have hfm : ∀ P : Msg → Prop, Has n nl x.frames P → Has n nl fs P ∨ ∃ m, Ad (Cz n nl) b = (m, 0) ∧ P m := by
  intro P ⟨c, h1, m, h2, h3⟩
  rw [hfr] at h1
  exact Zdv
 have hO0 : O = [] → ∀ P : Msg → Prop, ¬ Has n nl O P := fun e P ⟨c, h1, _⟩ => by rw [e] at h1; exact absurd h1 (by simp)
 cases hd with
 | bad hp hc hh hf =>
  have hno : ∀ P : Msg → Prop, ¬ ∃ m, Ad (Cz n nl) b = (m, 0) ∧ P m := fun P ⟨m, h1, _⟩ => hp (by rw [h1])
  intro i p hi hp' a c
  rw [hh, hc] at *
  rcases hk i p hi hp' a c with h1 | h1
  ·rcases hfm _ h1 with h2 | h2
   ·rw [hf]; exact .inl h2
   ·exact absurd h2 (hno _)
  ·rcases hO _ h1 with h2 | h2
   ·exact .inr h2
   ·exact absurd h2 (hno _)
 | home m p0 i0 e' s hm hp0 hi0 h1 h2 h3 hc hh hf hd =>
  intro i p hi hp a c
  rw [hh, hc] at *
  have tkp : Has n nl x.frames (tkM n i p (lin x i p).serial) → Has n nl y.frames (tkM n i p (lin x i p).serial) := by
   intro h4
   rcases hfm _ h4 with h5 | ⟨m', h5, h6⟩
   ·rw [hf]; exact h5.mono fun c hc => Ow s fs hc
   ·rw [hm] at h5; cases h5; unfold tkM at h6; omega
  have told : ∀ (hs : s = [Jy n m]) (hl : m.serial = (lin x i p).serial) (e : p = p0) (e2 : i = i0), Has n nl y.frames (tkM n i p (lin x i p).serial) := by
   intro hs hl e e2
   subst e e2
   have hmw := Ec (El hm).2.2.2.2.1
   rw [hf, hs]
   refine E6 h (Xy hfl) ?_ ⟨rfl, rfl, h1, h3, hl⟩
   unfold Jy; rw [h1, h3]
   exact L4 h hp hi (by omega) (by omega) (by omega) (by omega)
  have tr : ∀ (hq : ptM n i p (lin x i p).serial m → Has n nl y.frames (tkM n i p (lin x i p).serial)), Has n nl x.frames (tkM n i p (lin x i p).serial) ∨ Has n nl O (ptM n i p (lin x i p).serial) → Has n nl y.frames (tkM n i p (lin x i p).serial) ∨ Has n nl O' (ptM n i p (lin x i p).serial) := by
   intro hq h4
   rcases h4 with h4 | h4
   ·exact .inl (tkp h4)
   ·rcases hO _ h4 with h5 | ⟨m', h5, h6⟩
    ·exact .inr h5
    ·rw [hm] at h5; cases h5; exact .inl (hq h6)
  have hla := (h.ci i hi p hp).la
  have hlaE : Cb (ent x i) p = (ab (ent x i)).last p := rfl
  by_cases hii : i = i0
  ·subst hii
   rw [if_pos rfl] at c
   cases hd with
   | no hS hs hk3 h12 h9 h8 h10 hge =>
    have hl := hS.la p hp (by omega)
    have hx := hk i p hi hp a (by omega)
    rcases hz with hz | hz
    ·rcases hx with hx | hx
     ·exact .inl (tkp hx)
     ·exact absurd hx (hO0 hz _)
    ·exact tr (fun hq => absurd (hz i hi) (hk3 hq.1)) hx
   | late hkk h0 hS hs hl hge =>
    have hl := hS.la p hp (by omega)
    have hx := hk i p hi hp a (by omega)
    exact tr (fun hq => told hs hq.2.2.2.2 (by unfold ptM at hq; omega) rfl) hx
   | put hkk h0 hw hmm hl h0' hl' ho ht hs =>
    by_cases e : p = p0
    ·subst e; exact .inl (told hs hmm rfl rfl)
    ·rw [ho p e] at c
     exact tr (fun hq => absurd (show p = p0 by unfold ptM at hq; omega) e) (hk i p hi hp a c)
   | get h0 hw hkk hmm hl h0' hl' ho ht hwho hse hnw hs =>
    by_cases e : p = p0
    ·subst e; omega
    ·rw [ho p e] at c
     exact tr (fun hq => absurd (show p = p0 by unfold ptM at hq; omega) e) (hk i p hi hp a c)
   | data hkk h0 ho hmm h0' hl' ht hwho hse hs => unfold Cb at c; rw [hl'] at c; exact tr (fun hq => by unfold ptM at hq; omega) (hk i p hi hp a c)
   | gone hkk h0 hnn hmm h0' hnd hl' ht hwho hse hs => unfold Cb at c; rw [hl'] at c; exact tr (fun hq => by unfold ptM at hq; omega) (hk i p hi hp a c)
   | all hkk h0 hnn hmm h0' hl' ht hwho hse hs => unfold Cb at c; rw [hl'] at c; exact tr (fun hq => by unfold ptM at hq; omega) (hk i p hi hp a c)
   | thanks hkk h0 hw hmm h0' hl' ht hs => unfold Cb at c; rw [hl'] at c; exact tr (fun hq => by unfold ptM at hq; omega) (hk i p hi hp a c)
  ·rw [if_neg hii] at c
   exact tr (fun hq => by unfold ptM at hq; omega) (hk i p hi hp a c)
 | core m p0 i0 l' s hm hp0 hi0 h1 h2 h3 hc hh hf hd =>
  intro i p hi hp a c
  rw [hh] at *
  have tr : ∀ t : Int, (¬ tkM n i p t m) → Has n nl x.frames (tkM n i p t) ∨ Has n nl O (ptM n i p t) → Has n nl y.frames (tkM n i p t) ∨ Has n nl O' (ptM n i p t) := by
   intro t hq h4
   rcases h4 with h4 | h4
   ·rcases hfm _ h4 with h5 | ⟨m', h5, h6⟩
    ·left; rw [hf]; exact h5.mono fun c hc => Ow s fs hc
    ·rw [hm] at h5; cases h5; exact absurd h6 hq
   ·rcases hO _ h4 with h5 | ⟨m', h5, h6⟩
    ·exact .inr h5
    ·rw [hm] at h5; cases h5; unfold ptM at h6; omega
  rw [hc] at *
  by_cases hpi : p = p0 ∧ i = i0
  ·obtain ⟨e1, e2⟩ := hpi
   subst e1 e2
   rw [if_pos ⟨rfl, rfl⟩] at *
   cases hd with
   | no hl h4 h5 h7 h7' hs h11 =>
    subst hl
    exact tr _ (fun hq => h11 hq.1 ⟨a, hq.2.2.2.2⟩) (hk i p hi hp a c)
   | inv hkk h0 hnn hmm hl hl' hw hse hs =>
    rw [hse] at c ⊢; exact tr _ (fun hq => by unfold tkM at hq; omega) (hk i p hi hp (by omega) c)
   | fet hkk h0 ho hmm hl hl' hw hse hs =>
    rw [hse] at c ⊢; exact tr _ (fun hq => by unfold tkM at hq; omega) (hk i p hi hp (by omega) c)
   | grant hkk h0 ho hmm hl hw0 hla hms hl' hw hse hs => omega
   | tak hkk hw0 hmm hl' hw hse hs => omega
  ·rw [if_neg hpi] at *
   exact tr _ (fun hq => by unfold tkM at hq; exact hpi ⟨by omega, by omega⟩) (hk i p hi hp a c)
end
end Go.Proofs.Ytkgijpngobgfjaa
