/- This file proves parts of what its law needs: each part is told ahead of it. No conditions. -/
import Derived.Test.YtofgpimoekhfaaaCkM2
import Derived.Test.YtofgpimoekhfaaaCkM3
/- This file proves what the looks at a chip compute: values of lines, copies, and what the home knows. No conditions. -/
set_option linter.unusedVariables false
set_option linter.unusedSimpArgs false
set_option maxHeartbeats 1000000
set_option maxRecDepth 8000
namespace Go.Proofs.Ytofgpimoekhfaaa
open Go
theorem Ky {L : List Chunk} {R : List Fact} {w : World} {cv hv fv : Value} {x : Chip} {i : Nat} (hs : St (L) R w) (hcv : sl cv x.cores ∈ R) (hhv : sl hv x.home ∈ R) (hx : CX x) (honef : fv.oneCell' = true) (hi : i < x.home.length) : Calls Try.prog 56 [.agg #[cv, hv, fv], vi (i : Int)].toArray w (Cg (fun _ : Unit => vi (C3 x i)) (fun _ => L) (fun _ => R)) := by
  have honec : cv.oneCell' = true := isSlice.one (hs.fact hcv)
  have honeh : hv.oneCell' = true := isSlice.one (hs.fact hhv)
  have hn4 := hx.n4
  have hh4 := hx.h4
  refine Ah Try.func56 rfl Try.ntmps56 rfl hs ?_
  clear hs
  refine Gm ?_
  refine bx ?_; intro b2
  refine Ga1 ?_
  refine Jw i (v := hv) mm hi (fun hwe ue honeu => ?_)
  have hla := hx.la i hi
  refine Aa ?_
  refine Gb5 ?_
  refine Ga4 ?_
  refine Bg (γ := Nat) (fun p => p ≤ x.cores.length ∧ Js x i p = none) (fun _ => blk b2 46 [cv, hv, fv] :: L) (fun _ => cF hv 10 i (Entry.cells ue (ent x i)) :: sl ue (ent x i).last :: R) (fun p => [(1, vi (i : Int)), (2, bp b2 0), (5, ep hv 10 i 0), (15, cv), (16, vi (x.cores.length : Int)), (17, vi (p : Int))]) (fun p => x.cores.length - p) 0 ⟨Nat.zero_le _, rfl⟩ alT (fun w hs => Aj hs) ?_
  rintro p ⟨hp, hvn⟩
  refine Gm ?_
  refine Ga1 ?_
  refine cdx (p := ?p1) (hd := ?d1) ?e1 ?_ ?_; case e1 => exact rfl
  ·
   intro ht18
   refine Gl ?_
   refine F9 p (v := cv) mm (by omega) (fun hwp up honep => ?_)
   have hln := hx.ln p (by omega)
   refine Aa ?_
   refine rn3 ?_
   refine al_ (cs := [.slice none 0 0, vi 0, vi 0, vi 0]) Try.zeroValue69 ?_; intro b7
   refine rn1 ?_
   refine s_B (cs := Core.cells up (cor x p)) Try.sizeOf69 ?_
   refine Gm ?_
   refine Ga5 ?_
   refine Ia (x := x) (p := p) i (u := up) mm (by omega) (fun hwl => ?_)
   refine Un (x := x) (i := i) p (u := ue) mm (by omega) (fun hwla => ?_)
   rcases (show ((lin x i p).state = 2) ∨ ((lin x i p).state ≠ 2 ∧ (lin x i p).state = 3 ∧ (ent x i).last.getD p 0 < (lin x i p).serial) ∨ ((lin x i p).state ≠ 2 ∧ (lin x i p).state = 3 ∧ ¬ (ent x i).last.getD p 0 < (lin x i p).serial) ∨ ((lin x i p).state ≠ 2 ∧ (lin x i p).state ≠ 3) from by omega) with hc | hc | hc | hc
   ·
    have ho : Nr x i p = true := by unfold Nr stN; simp [-List.getD_eq_getElem?_getD]; omega
    refine Gi ?_
    refine dn4 ?_
    refine djc (fun _ _ => Ae rfl rfl (Av (by omega))) ?_
    refine djc (fun _ _ => Dh) ?_
    refine dn19 ?_
    refine djc (fun _ _ => H8) ?_
    refine dnl ?_; intro ρ
    refine Glc ?_
    refine kp [1, 2, 4, 5, 6, 7, 8, 15, 16, 17, 18, 19, 20, 21, 22, 23, 24, 25, 26, 27, 28, 29, 30, 31, 32, 33, 34, 35, 36, 37, 38, 39, 40, 41, 42, 43, 44, 45, 46, 47, 48, 49, 50, 51, 52, 53, 54, 55] ?_
    refine Aa ?_
    refine Ga5 ?_
    have er : C3 x i = (lin x i p).value := Mx hvn ho (by omega)
    rw [er]
    exact Bm ()
   ·
    have ho : Nr x i p = true := by unfold Nr stN; simp [-List.getD_eq_getElem?_getD]; omega
    refine Gi ?_
    refine dn4 ?_
    refine djc (fun _ _ => Ae rfl rfl (Ak (by omega))) ?_
    refine djc (fun _ _ => Dh) ?_
    refine dn4 ?_
    refine dj (dgy ?_)
    refine dc (fun _ _ => Ae rfl rfl (Av (by omega))) ?_
    refine dj (dgy ?_)
    refine dc (fun _ _ => Dh) ?_
    refine dn11 ?_
    refine dj (dgy ?_)
    refine dc (fun _ _ => Ae rfl rfl (C5 (by omega))) ?_
    refine dj (dgy ?_)
    refine dc (fun _ _ => H8) ?_
    refine djc (fun _ _ => E3) ?_
    refine dnl ?_; intro ρ
    refine Glc ?_
    refine kp [1, 2, 4, 5, 6, 7, 8, 15, 16, 17, 18, 19, 20, 21, 22, 23, 24, 25, 26, 27, 28, 29, 30, 31, 32, 33, 34, 35, 36, 37, 38, 39, 40, 41, 42, 43, 44, 45, 46, 47, 48, 49, 50, 51, 52, 53, 54, 55] ?_
    refine Aa ?_
    refine Ga5 ?_
    have er : C3 x i = (lin x i p).value := Mx hvn ho (by omega)
    rw [er]
    exact Bm ()
   ·
    have ho : Nr x i p = false := by unfold Nr stN; simp [-List.getD_eq_getElem?_getD]; omega
    refine Gi ?_
    refine dn4 ?_
    refine djc (fun _ _ => Ae rfl rfl (Ak (by omega))) ?_
    refine djc (fun _ _ => Dh) ?_
    refine dn4 ?_
    refine dj (dgy ?_)
    refine dc (fun _ _ => Ae rfl rfl (Av (by omega))) ?_
    refine dj (dgy ?_)
    refine dc (fun _ _ => Dh) ?_
    refine dn11 ?_
    refine dj (dgy ?_)
    refine dc (fun _ _ => Ae rfl rfl (Bu (by omega))) ?_
    refine dj (dgy ?_)
    refine dc (fun _ _ => H8) ?_
    refine djc (fun _ _ => E3) ?_
    refine dnl ?_; intro ρ
    refine Glc ?_
    refine kp [1, 2, 4, 5, 6, 7, 8, 15, 16, 17, 18, 19, 20, 21, 22, 23, 24, 25, 26, 27, 28, 29, 30, 31, 32, 33, 34, 35, 36, 37, 38, 39, 40, 41, 42, 43, 44, 45, 46, 47, 48, 49, 50, 51, 52, 53, 54, 55, 56] ?_
    refine Aa ?_
    refine Ga2 ?_
    refine A1 (p + 1) ⟨by omega, M0 hvn ho⟩ (by omega) alT (fun w hs => Aj hs)
   ·
    have ho : Nr x i p = false := by unfold Nr stN; simp [-List.getD_eq_getElem?_getD]; omega
    refine Gi ?_
    refine dn4 ?_
    refine djc (fun _ _ => Ae rfl rfl (Ak (by omega))) ?_
    refine djc (fun _ _ => Dh) ?_
    refine dn4 ?_
    refine dj (dgy ?_)
    refine dc (fun _ _ => Ae rfl rfl (Ak (by omega))) ?_
    refine dj (dgy ?_)
    refine dc (fun _ _ => Dh) ?_
    refine dn12 ?_
    refine dj (dgy ?_)
    refine dc (fun _ _ => E3) ?_
    refine djc (fun _ _ => E3) ?_
    refine dnl ?_; intro ρ
    refine Glc ?_
    refine kp [1, 2, 4, 5, 6, 7, 8, 15, 16, 17, 18, 19, 20, 21, 22, 23, 24, 25, 26, 27, 28, 29, 30, 31, 32, 33, 34, 35, 36, 37, 38, 39, 40, 41, 42, 43, 44, 45, 46, 47, 48, 49, 50, 51, 52, 53, 54, 55, 56] ?_
    refine Aa ?_
    refine Ga2 ?_
    refine A1 (p + 1) ⟨by omega, M0 hvn ho⟩ (by omega) alT (fun w hs => Aj hs)
  ·
   intro ht18
   refine Gm ?_
   refine Ga5 ?_
   refine cdx (p := ?p2) (hd := ?d2) ?e2 ?_ ?_; case e2 => exact rfl
   ·
    intro ht61
    refine Gl ?_
    have how := hx.ow i hi ht61
    refine F9 (ent x i).owner.toNat (v := cv) mm (by omega) (fun hwo uo honeo => ?_)
    have hlo := hx.ln (ent x i).owner.toNat (by omega)
    refine Ia (x := x) (p := (ent x i).owner.toNat) i (u := uo) mm (by omega) (fun hwlo => ?_)
    refine Gi ?_
    refine dn12 ?_
    refine dnl ?_; intro ρ
    refine Gl ?_
    refine Gi ?_
    refine dn9 ?_
    refine dnl ?_; intro ρ
    refine Gl ?_
    refine cdx (p := ?p3) (hd := ?d3) ?e3 ?_ ?_; case e3 => exact rfl
    ·
     intro ht81
     refine Gl ?_
     refine kp [4, 5, 9, 82, 83, 84, 85] ?_
     refine Aa ?_
     refine Ga5 ?_
     have hve : Js x i x.cores.length = none := by rw [show x.cores.length = p by omega]; exact hvn
     have er : C3 x i = (lin x i (ent x i).owner.toNat).given := by rw [H1 hve]; unfold Vp; rw [if_pos ⟨ht61, ht81⟩]
     rw [er]
     exact Bm ()
    ·
     intro ht81
     refine Gl ?_
     refine kp [4, 5, 86, 87, 88, 89] ?_
     refine Aa ?_
     refine Ga5 ?_
     have hve : Js x i x.cores.length = none := by rw [show x.cores.length = p by omega]; exact hvn
     have er : C3 x i = (ent x i).value := by rw [H1 hve]; unfold Vp; rw [if_neg (fun h => ht81 h.2)]
     rw [er]
     exact Bm ()
   ·
    intro ht61
    refine Gm ?_
    refine Ga5 ?_
    have hve : Js x i x.cores.length = none := by rw [show x.cores.length = p by omega]; exact hvn
    have er : C3 x i = (ent x i).value := by rw [H1 hve]; unfold Vp; rw [if_neg (fun h => ht61 h.1)]
    rw [er]
    exact Bm ()
theorem Vb {L : List Chunk} {R : List Fact} {w : World} {up : Value} {x : Chip} {i p : Nat} {v : Int} {b3 b4 : Nat} (hs : St (blk b4 3 [vi v] :: blk b3 3 [vi (i : Int)] :: L) R w) (hu : sl up (cor x p).lines ∈ R) (hil : i < (cor x p).lines.length) (honeu : up.oneCell' = true) : Calls Try.prog 89 [.agg (Core.cells up (cor x p)).toArray, bp b3 0, bp b4 0].toArray w (Cg (fun _ : Unit => .bool (stN x i p == 1 && (lin x i p).value != v)) (fun _ => blk b4 3 [vi v] :: blk b3 3 [vi (i : Int)] :: L) (fun _ => R)) := by
  refine Ah Try.func89 rfl Try.ntmps89 rfl hs ?_
  clear hs
  refine Gm ?_
  refine bx ?_; intro b3
  refine Ga1 ?_
  refine Ia (x := x) (p := p) i (u := up) hu hil (fun hwl => ?_)
  rcases (show ((lin x i p).state ≠ 1) ∨ ((lin x i p).state = 1 ∧ (lin x i p).value = v) ∨ ((lin x i p).state = 1 ∧ ¬ (lin x i p).value = v) from by omega) with hc | hc | hc
  ·
   have hst : (stN x i p == 1 && (lin x i p).value != v) = false := by unfold stN; simp; omega
   refine Gi ?_
   refine dn6 ?_
   refine djc (fun _ _ => Ae rfl rfl (Ak (by omega))) ?_
   refine djc (fun _ _ => Dh) ?_
   refine dn8 ?_
   refine djc (fun _ _ => E3) ?_
   refine djc (fun _ _ => Eb) ?_
   refine dnl ?_; intro ρ
   refine Gl ?_
   rw [hst]
   exact Bm ()
  ·
   have hst : (stN x i p == 1 && (lin x i p).value != v) = false := by unfold stN; simp; omega
   refine Gi ?_
   refine dn6 ?_
   refine djc (fun _ _ => Ae rfl rfl (Av (by omega))) ?_
   refine djc (fun _ _ => Dh) ?_
   refine dn7 ?_
   refine dj (dgy ?_)
   refine dc (fun _ _ => Ae rfl rfl (Cb (by omega))) ?_
   refine djc (fun _ _ => H8) ?_
   refine djc (fun _ _ => Eb) ?_
   refine dnl ?_; intro ρ
   refine Gl ?_
   rw [hst]
   exact Bm ()
  ·
   have hst : (stN x i p == 1 && (lin x i p).value != v) = true := by unfold stN; simp; omega
   refine Gi ?_
   refine dn6 ?_
   refine djc (fun _ _ => Ae rfl rfl (Av (by omega))) ?_
   refine djc (fun _ _ => Dh) ?_
   refine dn7 ?_
   refine dj (dgy ?_)
   refine dc (fun _ _ => Ae rfl rfl (Cn (by omega))) ?_
   refine djc (fun _ _ => H8) ?_
   refine djc (fun _ _ => Eb) ?_
   refine dnl ?_; intro ρ
   refine Gl ?_
   rw [hst]
   exact Bm ()
theorem Ip {L : List Chunk} {R : List Fact} {w : World} {cv hv fv : Value} {x : Chip} (hs : St (L) R w) (hcv : sl cv x.cores ∈ R) (hhv : sl hv x.home ∈ R) (hx : CX x) (honef : fv.oneCell' = true) : Calls Try.prog 52 [.agg #[cv, hv, fv]].toArray w (Cg (fun _ : Unit => .bool (Ee x)) (fun _ => L) (fun _ => R)) := by
  have honec : cv.oneCell' = true := isSlice.one (hs.fact hcv)
  have honeh : hv.oneCell' = true := isSlice.one (hs.fact hhv)
  have hn4 := hx.n4
  have hh4 := hx.h4
  refine Ah Try.func52 rfl Try.ntmps52 rfl hs ?_
  clear hs
  refine Gm ?_
  refine bx ?_; intro b1
  refine Gb1 ?_
  refine Ga4 ?_
  refine Bg (γ := Nat) (fun i => i ≤ x.home.length ∧ Hi (sameAt x) i = true) (fun _ => blk b1 46 [cv, hv, fv] :: L) (fun _ => R) (fun i => [(1, bp b1 0), (6, hv), (7, vi (x.home.length : Int)), (8, vi (i : Int))]) (fun i => x.home.length - i) 0 ⟨Nat.zero_le _, rfl⟩ alT (fun w hs => Aj hs) ?_
  rintro i ⟨hi, hal⟩
  refine Gm ?_
  refine Ga1 ?_
  refine cdx (p := ?p1) (hd := ?d1) ?e1 ?_ ?_; case e1 => exact rfl
  ·
   intro ht9
   refine Gm ?_
   refine rn1 ?_
   refine al_ Try.zeroValue3 ?_; intro b3
   refine sc ?_
   refine Gm ?_
   refine rn2 ?_
   refine Ar Try.call56 rfl (fun w hs => Ky (x := x) (i := i) hs hcv hhv hx honef (by omega)) ?_; intro _
   refine al_ Try.zeroValue3 ?_; intro b4
   refine sc ?_
   refine Gm ?_
   refine rn2 ?_
   refine Ck (vs := [bp b3 0, bp b4 0]) rfl ?_
   refine Ar Try.call88 rfl (fun w hs => Tc (x := x) (ff := 89) (caps := [bp b3 0, bp b4 0]) (p := V6 x i) (Aj (L' := blk b4 3 [vi (C3 x i)] :: blk b3 3 [vi (i : Int)] :: blk b1 46 [cv, hv, fv] :: L) hs) hcv Try.call89 (fun k hk hwk uk honek R1 w1 hu1 hs1 => Vb hs1 hu1 (by have := hx.ln k hk; omega) honek)) ?_; intro _
   refine Gl ?_
   refine Bh (b := ?b2) ?e2 ?_ ?_; case e2 => exact rfl
   ·
    intro ht17
    refine Gm ?_
    refine Ga1 ?_
    have er : Ee x = false := Fg (show i < x.home.length by omega) (by simpa [sameAt] using ht17)
    rw [er]
    exact Bm ()
   ·
    intro ht17
    refine Gm ?_
    refine Ga2 ?_
    refine A1 (i + 1) ⟨by omega, Eg hal (by simpa [sameAt] using ht17)⟩ (by omega) alT (fun w hs => Aj hs)
  ·
   intro ht9
   refine Gm ?_
   refine Ga1 ?_
   have er : Ee x = true := by unfold Ee; rw [show x.home.length = i by omega]; exact hal
   rw [er]
   exact Bm ()
theorem G6 {L : List Chunk} {R : List Fact} {w : World} {cv hv fv : Value} {x : Chip} (hs : St (L) R w) (hcv : sl cv x.cores ∈ R) (hhv : sl hv x.home ∈ R) (hx : CX x) (honef : fv.oneCell' = true) : Calls Try.prog 53 [.agg #[cv, hv, fv]].toArray w (Cg (fun _ : Unit => .bool (Db x)) (fun _ => L) (fun _ => R)) := by
  have honec : cv.oneCell' = true := isSlice.one (hs.fact hcv)
  have honeh : hv.oneCell' = true := isSlice.one (hs.fact hhv)
  have hn4 := hx.n4
  have hh4 := hx.h4
  refine Ah Try.func53 rfl Try.ntmps53 rfl hs ?_
  clear hs
  refine Gm ?_
  refine bx ?_; intro b1
  refine Gb1 ?_
  refine Ga4 ?_
  refine Bg (γ := Nat) (fun i => i ≤ x.home.length ∧ Hi (Sp x) i = true) (fun _ => blk b1 46 [cv, hv, fv] :: L) (fun _ => R) (fun i => [(1, bp b1 0), (10, hv), (11, vi (x.home.length : Int)), (12, vi (i : Int))]) (fun i => x.home.length - i) 0 ⟨Nat.zero_le _, rfl⟩ alT (fun w hs => Aj hs) ?_
  rintro i ⟨hi, hal⟩
  refine Gm ?_
  refine Ga1 ?_
  refine cdx (p := ?p1) (hd := ?d1) ?e1 ?_ ?_; case e1 => exact rfl
  ·
   intro ht13
   refine Gl ?_
   refine Jw i (v := hv) mm (by omega) (fun hwe ue honeu => ?_)
   have hsh := hx.sh i (by omega)
   refine Aa ?_
   refine rn3 ?_
   refine al_ (cs := [vi 0, vi 0, vi 0, vi 0, vi 0, vi 0, .bool false, vi 0, vi 0, .slice none 0 0]) Try.zeroValue58 ?_; intro b4
   refine rn1 ?_
   refine s_B (cs := Entry.cells ue (ent x i)) Try.sizeOf58 ?_
   refine Gm ?_
   refine Ga4 ?_
   refine Bg (γ := Nat) (fun p => p ≤ x.cores.length ∧ Hi (Ga x i) p = true) (fun _ => blk b4 58 (Entry.cells ue (ent x i)) :: blk b1 46 [cv, hv, fv] :: L) (fun _ => R) (fun p => [(1, bp b1 0), (3, vi (i : Int)), (4, bp b4 0), (10, hv), (11, vi (x.home.length : Int)), (12, vi (i : Int)), (18, cv), (19, vi (x.cores.length : Int)), (20, vi (p : Int))]) (fun p => x.cores.length - p) 0 ⟨Nat.zero_le _, rfl⟩ alT (fun w hs => Aj hs) ?_
   rintro p ⟨hp, hkp⟩
   refine Gm ?_
   refine Ga1 ?_
   refine cdx (p := ?p2) (hd := ?d2) ?e2 ?_ ?_; case e2 => exact rfl
   ·
    intro ht21
    refine Gl ?_
    refine F9 p (v := cv) mm (by omega) (fun hwp up honep => ?_)
    have hln := hx.ln p (by omega)
    refine Aa ?_
    refine rn3 ?_
    refine al_ (cs := [.slice none 0 0, vi 0, vi 0, vi 0]) Try.zeroValue69 ?_; intro b6
    refine rn1 ?_
    refine s_B (cs := Core.cells up (cor x p)) Try.sizeOf69 ?_
    refine Gm ?_
    refine Ga5 ?_
    refine Ia (x := x) (p := p) i (u := up) mm (by omega) (fun hwl => ?_)
    have hgd : Gk x i p = true ↔ ((ent x i).phase = 3 ∧ (ent x i).who = (p : Int)) ∧ (lin x i p).seen = (ent x i).turn := by simp [Gk]
    refine kp [1, 2, 3, 4, 5, 6, 7, 8, 10, 11, 12, 13, 14, 15, 16, 17, 18, 19, 20, 21, 22, 23, 24, 25, 26, 27, 28, 29, 30, 31, 32, 33, 34, 35, 36, 37, 38, 39, 40, 41, 42, 43, 44, 45, 46] ?_
    refine Da 8 (.bool (decide (Gk x i p = true))) ?_ ?_
    ·
     rcases (show ((ent x i).phase ≠ 3) ∨ ((ent x i).phase = 3 ∧ (ent x i).who ≠ (p : Int)) ∨ ((ent x i).phase = 3 ∧ (ent x i).who = (p : Int) ∧ (lin x i p).seen ≠ (ent x i).turn) ∨ ((ent x i).phase = 3 ∧ (ent x i).who = (p : Int) ∧ (lin x i p).seen = (ent x i).turn) from by omega) with hm | hm | hm | hm
     ·
      refine Gi ?_
      refine dn2 ?_
      refine djc (fun _ _ => Ae rfl rfl (Ak (by omega))) ?_
      refine djc (fun _ _ => Dh) ?_
      refine dn4 ?_
      refine djc (fun _ _ => E3) ?_
      refine djc (fun _ _ => Dh) ?_
      refine dn7 ?_
      refine djc (fun _ _ => E3) ?_
      refine djc (fun _ _ => Eb) ?_
      refine dnl ?_; intro ρ
      refine Ap ?_ (fun w hs => hs)
      refine ⟨by first | exact congrArg (fun b => some (Value.bool b)) (decide_eq_false (by rw [hgd]; omega)).symm | exact congrArg (fun b => some (Value.bool b)) (by simp; omega), alT⟩
     ·
      refine Gi ?_
      refine dn2 ?_
      refine djc (fun _ _ => Ae rfl rfl (Av (by omega))) ?_
      refine djc (fun _ _ => Dh) ?_
      refine dn3 ?_
      refine dj (dgy ?_)
      refine dc (fun _ _ => Ae rfl rfl (Ak (by omega))) ?_
      refine djc (fun _ _ => H8) ?_
      refine djc (fun _ _ => Dh) ?_
      refine dn7 ?_
      refine djc (fun _ _ => E3) ?_
      refine djc (fun _ _ => Eb) ?_
      refine dnl ?_; intro ρ
      refine Ap ?_ (fun w hs => hs)
      refine ⟨by first | exact congrArg (fun b => some (Value.bool b)) (decide_eq_false (by rw [hgd]; omega)).symm | exact congrArg (fun b => some (Value.bool b)) (by simp; omega), alT⟩
     ·
      refine kp [1, 2, 3, 4, 5, 6, 7, 8, 10, 11, 12, 13, 14, 15, 16, 17, 18, 19, 20, 21, 22, 23, 24, 25, 26, 27, 28, 29, 30, 31, 32, 33, 34, 35, 36, 37, 38, 39, 40, 41, 42, 43, 44, 45, 46] ?_
      refine Gi ?_
      refine dn2 ?_
      refine djc (fun _ _ => Ae rfl rfl (Av (by omega))) ?_
      refine djc (fun _ _ => Dh) ?_
      refine dn3 ?_
      refine dj (dgy ?_)
      refine dc (fun _ _ => Ae rfl rfl (Av (by omega))) ?_
      refine djc (fun _ _ => H8) ?_
      refine djc (fun _ _ => Dh) ?_
      refine dn6 ?_
      refine dj (dgy ?_)
      refine dc (fun _ _ => Ae rfl rfl (Ak (by omega))) ?_
      refine djc (fun _ _ => H8) ?_
      refine djc (fun _ _ => Eb) ?_
      refine dnl ?_; intro ρ
      refine Ap ?_ (fun w hs => hs)
      refine ⟨by first | exact congrArg (fun b => some (Value.bool b)) (decide_eq_false (by rw [hgd]; omega)).symm | exact congrArg (fun b => some (Value.bool b)) (by simp; omega), alT⟩
     ·
      refine Gi ?_
      refine dn2 ?_
      refine djc (fun _ _ => Ae rfl rfl (Av (by omega))) ?_
      refine djc (fun _ _ => Dh) ?_
      refine dn3 ?_
      refine dj (dgy ?_)
      refine dc (fun _ _ => Ae rfl rfl (Av (by omega))) ?_
      refine djc (fun _ _ => H8) ?_
      refine djc (fun _ _ => Dh) ?_
      refine dn6 ?_
      refine dj (dgy ?_)
      refine dc (fun _ _ => Ae rfl rfl (Av (by omega))) ?_
      refine djc (fun _ _ => H8) ?_
      refine djc (fun _ _ => Eb) ?_
      refine dnl ?_; intro ρ
      refine Ap ?_ (fun w hs => hs)
      refine ⟨by first | exact congrArg (fun b => some (Value.bool b)) (decide_eq_true (by rw [hgd]; omega)).symm | exact congrArg (fun b => some (Value.bool b)) (by simp; omega), alT⟩
    ·
     refine As ?_
     refine Gl ?_
     refine kp [1, 2, 3, 4, 5, 6, 7, 8, 10, 11, 12, 13, 14, 15, 16, 17, 18, 19, 20, 21, 22, 23, 24, 25, 26, 27, 28, 29, 30, 31, 32, 33, 34, 35, 36, 37, 38, 39, 40, 41, 42, 43, 44, 45, 46, 47, 48, 49, 50, 51, 52, 53, 54, 55, 56, 57, 58, 59, 60, 61, 62] ?_
     refine Da 47 (.bool (decide ((lin x i p).state = 2 ∧ ¬ (ent x i).owner = (p : Int) ∧ ¬ Gk x i p = true))) ?_ ?_
     ·
      rcases (show ((lin x i p).state ≠ 2) ∨ ((lin x i p).state = 2 ∧ (ent x i).owner = (p : Int)) ∨ ((lin x i p).state = 2 ∧ ¬ (ent x i).owner = (p : Int) ∧ Gk x i p = true) ∨ ((lin x i p).state = 2 ∧ ¬ (ent x i).owner = (p : Int) ∧ ¬ Gk x i p = true) from by grind) with hm | hm | hm | hm
      ·
       refine Aa ?_
       refine rn4 ?_
       refine ob (Ae rfl rfl (Ak (by omega))) ?_
       refine Ga11 ?_
       refine Ap ?_ (fun w hs => hs)
       refine ⟨by first | exact congrArg (fun b => some (Value.bool b)) (decide_eq_false (by grind)).symm | exact congrArg (fun b => some (Value.bool b)) (by simp; omega), alT⟩
      ·
       refine Aa ?_
       refine rn4 ?_
       refine ob (Ae rfl rfl (Av (by omega))) ?_
       refine rn4 ?_
       refine gy ?_
       refine ob (Ae rfl rfl (Cb (by omega))) ?_
       refine Ga6 ?_
       refine Ap ?_ (fun w hs => hs)
       refine ⟨by first | exact congrArg (fun b => some (Value.bool b)) (decide_eq_false (by grind)).symm | exact congrArg (fun b => some (Value.bool b)) (by simp; omega), alT⟩
      ·
       refine kp [1, 2, 3, 4, 5, 6, 7, 8, 10, 11, 12, 13, 14, 15, 16, 17, 18, 19, 20, 21, 22, 23, 24, 25, 26, 27, 28, 29, 30, 31, 32, 33, 34, 35, 36, 37, 38, 39, 40, 41, 42, 43, 44, 45, 46, 47, 48, 49, 50, 51, 52, 53, 54, 55, 56, 57, 58, 59, 60, 61, 62] ?_
       refine Aa ?_
       refine rn4 ?_
       refine ob (Ae rfl rfl (Av (by omega))) ?_
       refine rn4 ?_
       refine gy ?_
       refine ob (Ae rfl rfl (Cn (by omega))) ?_
       refine rn3 ?_
       refine gy ?_
       refine ob (Dg rfl (decide_eq_true hm.2.2)) ?_
       refine Ga2 ?_
       refine Ap ?_ (fun w hs => hs)
       refine ⟨by first | exact congrArg (fun b => some (Value.bool b)) (decide_eq_false (by grind)).symm | exact congrArg (fun b => some (Value.bool b)) (by simp; omega), alT⟩
      ·
       refine Aa ?_
       refine rn4 ?_
       refine ob (Ae rfl rfl (Av (by omega))) ?_
       refine rn4 ?_
       refine gy ?_
       refine ob (Ae rfl rfl (Cn (by omega))) ?_
       refine rn3 ?_
       refine gy ?_
       refine ob (Ka rfl (decide_eq_false hm.2.2)) ?_
       refine Ga2 ?_
       refine Ap ?_ (fun w hs => hs)
       refine ⟨by first | exact congrArg (fun b => some (Value.bool b)) (decide_eq_true (by grind)).symm | exact congrArg (fun b => some (Value.bool b)) (by simp; omega), alT⟩
     ·
      refine As ?_
      first | (refine cdx (p := ?p3) (hd := ?d3) ?e3 ?_ ?_; case e3 => exact rfl) | (refine Bh (b := ?b3) ?e3 ?_ ?_; case e3 => exact rfl)
      ·
       intro ht47
       refine Gl ?_
       refine kp [1, 2, 3, 4, 5, 6, 7, 8, 10, 11, 12, 13, 14, 15, 16, 17, 18, 19, 20, 21, 22, 23, 24, 25, 26, 27, 28, 29, 30, 31, 32, 33, 34, 35, 36, 37, 38, 39, 40, 41, 42, 43, 44, 45, 46, 47, 48, 49, 50, 51, 52, 53, 54, 55, 56, 57, 58, 59, 60, 61, 62] ?_
       refine Aa ?_
       refine Ga1 ?_
       have hka : Ga x i p = false := by
        unfold Ga stN
        cases hg : Gk x i p <;> cases hb : K6 (ent x i).sharers p <;> simp [hg, hb] at ht47 ⊢ <;> omega
       have er : Db x = false := Fg (show i < x.home.length by omega) (Fg (show p < x.cores.length by omega) hka)
       rw [er]
       exact Bm ()
      ·
       intro ht47
       refine Gl ?_
       refine kp [1, 2, 3, 4, 5, 6, 7, 8, 10, 11, 12, 13, 14, 15, 16, 17, 18, 19, 20, 21, 22, 23, 24, 25, 26, 27, 28, 29, 30, 31, 32, 33, 34, 35, 36, 37, 38, 39, 40, 41, 42, 43, 44, 45, 46, 47, 48, 49, 50, 51, 52, 53, 54, 55, 56, 57, 58, 59, 60, 61, 62, 63, 64, 65, 66, 67, 68, 69, 70, 71, 72, 73, 74, 75, 76, 77, 78, 79, 80, 81, 82, 83, 84, 85, 86] ?_
       refine Da 63 (.bool (decide ((lin x i p).state = 1 ∧ ¬ K6 (ent x i).sharers p = true ∧ ¬ (ent x i).owner = (p : Int) ∧ ¬ Gk x i p = true))) ?_ ?_
       ·
        rcases (show ((lin x i p).state ≠ 1) ∨ ((lin x i p).state = 1 ∧ K6 (ent x i).sharers p = true) ∨ ((lin x i p).state = 1 ∧ ¬ K6 (ent x i).sharers p = true ∧ (ent x i).owner = (p : Int)) ∨ ((lin x i p).state = 1 ∧ ¬ K6 (ent x i).sharers p = true ∧ ¬ (ent x i).owner = (p : Int) ∧ Gk x i p = true) ∨ ((lin x i p).state = 1 ∧ ¬ K6 (ent x i).sharers p = true ∧ ¬ (ent x i).owner = (p : Int) ∧ ¬ Gk x i p = true) from by grind) with hm | hm | hm | hm | hm
        ·
         refine Aa ?_
         refine rn4 ?_
         refine ob (Ae rfl rfl (Ak (by omega))) ?_
         refine Ga19 ?_
         refine Ap ?_ (fun w hs => hs)
         refine ⟨by first | exact congrArg (fun b => some (Value.bool b)) (decide_eq_false (by grind)).symm | exact congrArg (fun b => some (Value.bool b)) (by simp; omega), alT⟩
        ·
         refine Aa ?_
         refine rn4 ?_
         refine ob (Ae rfl rfl (Av (by omega))) ?_
         refine rn4 ?_
         refine gy ?_
         refine ob (Fi (a := (ent x i).sharers) (b := (p : Int)) (Qf hsh.1 hsh.2 (by omega) (by omega))) ?_
         refine gy ?_
         refine ob (Fi (a := (((ent x i).sharers.toNat / 2 ^ (p : Int).toNat : Nat) : Int)) (b := 1) (Ms hsh.1 hsh.2 (by omega) (by omega))) ?_
         refine gy ?_
         refine ob (Ae rfl rfl (Ak (by rw [if_pos hm.2]; decide))) ?_
         refine Ga12 ?_
         refine Ap ?_ (fun w hs => hs)
         refine ⟨by first | exact congrArg (fun b => some (Value.bool b)) (decide_eq_false (by grind)).symm | exact congrArg (fun b => some (Value.bool b)) (by simp; omega), alT⟩
        ·
         refine kp [1, 2, 3, 4, 5, 6, 7, 8, 10, 11, 12, 13, 14, 15, 16, 17, 18, 19, 20, 21, 22, 23, 24, 25, 26, 27, 28, 29, 30, 31, 32, 33, 34, 35, 36, 37, 38, 39, 40, 41, 42, 43, 44, 45, 46, 47, 48, 49, 50, 51, 52, 53, 54, 55, 56, 57, 58, 59, 60, 61, 62, 63, 64, 65, 66, 67, 68, 69, 70, 71, 72, 73, 74, 75, 76, 77, 78, 79, 80, 81, 82, 83, 84, 85, 86] ?_
         refine Aa ?_
         refine rn4 ?_
         refine ob (Ae rfl rfl (Av (by omega))) ?_
         refine rn4 ?_
         refine gy ?_
         refine ob (Fi (a := (ent x i).sharers) (b := (p : Int)) (Qf hsh.1 hsh.2 (by omega) (by omega))) ?_
         refine gy ?_
         refine ob (Fi (a := (((ent x i).sharers.toNat / 2 ^ (p : Int).toNat : Nat) : Int)) (b := 1) (Ms hsh.1 hsh.2 (by omega) (by omega))) ?_
         refine gy ?_
         refine ob (Ae rfl rfl (Av (by rw [if_neg hm.2.1]))) ?_
         refine rn5 ?_
         refine gy ?_
         refine ob (Ae rfl rfl (Cb (by omega))) ?_
         refine Ga6 ?_
         refine Ap ?_ (fun w hs => hs)
         refine ⟨by first | exact congrArg (fun b => some (Value.bool b)) (decide_eq_false (by grind)).symm | exact congrArg (fun b => some (Value.bool b)) (by simp; omega), alT⟩
        ·
         refine Aa ?_
         refine rn4 ?_
         refine ob (Ae rfl rfl (Av (by omega))) ?_
         refine rn4 ?_
         refine gy ?_
         refine ob (Fi (a := (ent x i).sharers) (b := (p : Int)) (Qf hsh.1 hsh.2 (by omega) (by omega))) ?_
         refine gy ?_
         refine ob (Fi (a := (((ent x i).sharers.toNat / 2 ^ (p : Int).toNat : Nat) : Int)) (b := 1) (Ms hsh.1 hsh.2 (by omega) (by omega))) ?_
         refine gy ?_
         refine ob (Ae rfl rfl (Av (by rw [if_neg hm.2.1]))) ?_
         refine rn5 ?_
         refine gy ?_
         refine ob (Ae rfl rfl (Cn (by omega))) ?_
         refine rn3 ?_
         refine gy ?_
         refine ob (Dg rfl (decide_eq_true hm.2.2.2)) ?_
         refine Ga2 ?_
         refine Ap ?_ (fun w hs => hs)
         refine ⟨by first | exact congrArg (fun b => some (Value.bool b)) (decide_eq_false (by grind)).symm | exact congrArg (fun b => some (Value.bool b)) (by simp; omega), alT⟩
        ·
         refine kp [1, 2, 3, 4, 5, 6, 7, 8, 10, 11, 12, 13, 14, 15, 16, 17, 18, 19, 20, 21, 22, 23, 24, 25, 26, 27, 28, 29, 30, 31, 32, 33, 34, 35, 36, 37, 38, 39, 40, 41, 42, 43, 44, 45, 46, 47, 48, 49, 50, 51, 52, 53, 54, 55, 56, 57, 58, 59, 60, 61, 62, 63, 64, 65, 66, 67, 68, 69, 70, 71, 72, 73, 74, 75, 76, 77, 78, 79, 80, 81, 82, 83, 84, 85, 86] ?_
         refine Aa ?_
         refine rn4 ?_
         refine ob (Ae rfl rfl (Av (by omega))) ?_
         refine rn4 ?_
         refine gy ?_
         refine ob (Fi (a := (ent x i).sharers) (b := (p : Int)) (Qf hsh.1 hsh.2 (by omega) (by omega))) ?_
         refine gy ?_
         refine ob (Fi (a := (((ent x i).sharers.toNat / 2 ^ (p : Int).toNat : Nat) : Int)) (b := 1) (Ms hsh.1 hsh.2 (by omega) (by omega))) ?_
         refine gy ?_
         refine ob (Ae rfl rfl (Av (by rw [if_neg hm.2.1]))) ?_
         refine rn5 ?_
         refine gy ?_
         refine ob (Ae rfl rfl (Cn (by omega))) ?_
         refine rn3 ?_
         refine gy ?_
         refine ob (Ka rfl (decide_eq_false hm.2.2.2)) ?_
         refine Ga2 ?_
         refine Ap ?_ (fun w hs => hs)
         refine ⟨by first | exact congrArg (fun b => some (Value.bool b)) (decide_eq_true (by grind)).symm | exact congrArg (fun b => some (Value.bool b)) (by simp; omega), alT⟩
       ·
        refine As ?_
        first | (refine cdx (p := ?p4) (hd := ?d4) ?e4 ?_ ?_; case e4 => exact rfl) | (refine Bh (b := ?b4) ?e4 ?_ ?_; case e4 => exact rfl)
        ·
         intro ht63
         refine Gm ?_
         refine Ga1 ?_
         have hka : Ga x i p = false := by
          unfold Ga stN
          cases hg : Gk x i p <;> cases hb : K6 (ent x i).sharers p <;> simp [hg, hb] at ht63 ⊢ <;> omega
         have er : Db x = false := Fg (show i < x.home.length by omega) (Fg (show p < x.cores.length by omega) hka)
         rw [er]
         exact Bm ()
        ·
         intro ht63
         refine Gm ?_
         refine Ga2 ?_
         have hka : Ga x i p = true := by
          unfold Ga stN
          cases hg : Gk x i p <;> cases hb : K6 (ent x i).sharers p <;> simp [hg, hb] at ht47 ht63 ⊢ <;> omega
         refine A1 (p + 1) ⟨by omega, Eg hkp hka⟩ (by omega) alT (fun w hs => Aj hs)
   ·
    intro ht21
    refine Gm ?_
    refine Ga2 ?_
    refine A1 (i + 1) ⟨by omega, Eg hal (by unfold Sp; rw [show x.cores.length = p by omega]; exact hkp)⟩ (by omega) alT (fun w hs => Aj hs)
  ·
   intro ht13
   refine Gm ?_
   refine Ga1 ?_
   have er : Db x = true := by unfold Db; rw [show x.home.length = i by omega]; exact hal
   rw [er]
   exact Bm ()
end Go.Proofs.Ytofgpimoekhfaaa

/- This file proves what the program tells of frames: what is wrong with a message, its bytes, and the message of bytes. No conditions. -/
set_option linter.unusedVariables false
set_option linter.unusedSimpArgs false
set_option maxHeartbeats 1000000
set_option maxRecDepth 8000
namespace Go.Proofs.Ytofgpimoekhfaaa
open Go
theorem Pick.perm {L L' : List Chunk} {c : Chunk} (h : Pick L c L') : L.Perm (c :: L') := by
 induction h with
 | hd => exact .refl _
 | tl _ ih => exact (ih.cons _).trans (.swap ..)
theorem b_subE {P : Program} {T : TypeId} {a b r : Int} (h : a - b = r) (h1 : -9223372036854775808 ≤ r) (h2 : r ≤ 9223372036854775807) (w : World) : (binOp .sub T (vi a) (vi b)).run P w = .ok (vi r) w := by subst h; exact Th h1 h2 w
theorem C0 {L : List Chunk} {R : List Fact} {w : World} {L1 : List Chunk} {n : Int} {c : Config} {b2 : Nat} (hs : St (L) R w) (hp : Pick L (blk b2 39 c.cells) L1) : Calls Try.prog 108 [vi n, bp b2 0].toArray w (Cg (fun _ : Unit => .bool (decide (0 ≤ n ∧ n ≤ c.cores))) (fun _ => L) (fun _ => R)) := by
  refine Ah Try.func108 rfl Try.ntmps108 rfl hs ?_
  clear hs
  refine Gm ?_
  refine Ga1 ?_
  refine JC.pick hp ?_
  rcases (show (n < 0) ∨ (0 ≤ n ∧ n ≤ c.cores) ∨ (0 ≤ n ∧ c.cores < n) from by omega) with hc | hc | hc
  ·
   refine Aa ?_
   refine rn1 ?_
   refine ob (Ae rfl rfl (Bc (by omega))) ?_
   refine Ga7 ?_
   refine Bm () (hs := fun w hs => hs.perm (Pick.perm hp).symm) (hv := ?_)
   first | rw [decide_eq_true (by omega)] | rw [decide_eq_false (by omega)]
  ·
   refine Aa ?_
   refine rn1 ?_
   refine ob (Ae rfl rfl (D7 (by omega))) ?_
   refine rn4 ?_
   refine gy ?_
   refine ob (Ae rfl rfl (K4 (by omega))) ?_
   refine Ga2 ?_
   refine Bm () (hs := fun w hs => hs.perm (Pick.perm hp).symm) (hv := ?_)
   first | rw [decide_eq_true (by omega)] | rw [decide_eq_false (by omega)]
  ·
   refine Aa ?_
   refine rn1 ?_
   refine ob (Ae rfl rfl (D7 (by omega))) ?_
   refine rn4 ?_
   refine gy ?_
   refine ob (Ae rfl rfl (Fe (by omega))) ?_
   refine Ga2 ?_
   refine Bm () (hs := fun w hs => hs.perm (Pick.perm hp).symm) (hv := ?_)
   first | rw [decide_eq_true (by omega)] | rw [decide_eq_false (by omega)]
theorem U2 {L : List Chunk} {R : List Fact} {w : World} {c : Config} {m : Msg} (hs : St (L) R w) : Calls Try.prog 104 [.agg c.cells.toArray, .agg m.cells.toArray].toArray w (Cg (fun _ : Unit => vi (A5 c m)) (fun _ => L) (fun _ => R)) := by
  refine Ah Try.func104 rfl Try.ntmps104 rfl hs ?_
  clear hs
  refine Gm ?_
  refine bx ?_; intro b2
  refine bx ?_; intro b3
  refine Gb1 ?_
  refine Ck (vs := [bp b2 0]) rfl ?_
  refine Ga1 ?_
  refine kp [2, 3, 4, 5, 7, 8, 9, 10, 11, 12, 13, 14, 15] ?_
  refine Da 7 (.bool (decide ((m.kind < 1) ∨ (11 < m.kind)))) ?_ ?_
  ·
   rcases (show ((m.kind < 1)) ∨ (¬ (m.kind < 1) ∧ (11 < m.kind)) ∨ (¬ (m.kind < 1) ∧ ¬ (11 < m.kind)) from by omega) with hm | hm | hm
   ·
    refine Aa ?_
    refine rn2 ?_
    refine ob (Ae rfl rfl (Co (by omega))) ?_
    refine Ga6 ?_
    refine Ap ?_ (fun w hs => hs)
    refine ⟨by first | exact congrArg (fun b => some (Value.bool b)) (decide_eq_true (by omega)).symm | exact congrArg (fun b => some (Value.bool b)) (by simp; omega), alT⟩
   ·
    refine Aa ?_
    refine rn2 ?_
    refine ob (Ae rfl rfl (Al (by omega))) ?_
    refine rn3 ?_
    refine gy ?_
    refine ob (Ae rfl rfl (C5 (by omega))) ?_
    refine Ga2 ?_
    refine Ap ?_ (fun w hs => hs)
    refine ⟨by first | exact congrArg (fun b => some (Value.bool b)) (decide_eq_true (by omega)).symm | exact congrArg (fun b => some (Value.bool b)) (by simp; omega), alT⟩
   ·
    refine Aa ?_
    refine rn2 ?_
    refine ob (Ae rfl rfl (Al (by omega))) ?_
    refine rn3 ?_
    refine gy ?_
    refine ob (Ae rfl rfl (Bu (by omega))) ?_
    refine Ga2 ?_
    refine Ap ?_ (fun w hs => hs)
    refine ⟨by first | exact congrArg (fun b => some (Value.bool b)) (decide_eq_false (by omega)).symm | exact congrArg (fun b => some (Value.bool b)) (by simp; omega), alT⟩
  ·
   refine As ?_
   first | (refine cdx (p := ?p1) (hd := ?d1) ?e1 ?_ ?_; case e1 => exact rfl) | (refine Bh (b := ?b1) ?e1 ?_ ?_; case e1 => exact rfl)
   ·
    intro ht7
    refine Gm ?_
    refine Ga1 ?_
    have er : A5 c m = 1 := by unfold A5; rw [if_pos (by omega)]
    rw [er]
    exact Bm ()
   ·
    intro ht7
    refine Gl ?_
    refine kp [2, 3, 4, 5, 16, 17, 18, 19, 20, 21, 22, 23, 24, 25, 26, 27, 28, 29, 30, 31, 32, 33, 34, 35, 36, 37, 38, 39, 40, 41, 42, 43, 44, 45, 46, 47, 48, 49, 50, 51, 52, 53, 54, 55, 56, 57, 58, 59, 60, 61, 62, 63, 64, 65, 66, 67, 68, 69, 70] ?_
    refine Da 16 (.bool (decide (m.src < 0 ∨ c.cores < m.src ∨ m.dst < 0 ∨ c.cores < m.dst ∨ m.line < 0 ∨ c.lines ≤ m.line ∨ m.serial < 0 ∨ 65535 < m.serial ∨ m.turn < 0 ∨ 65535 < m.turn ∨ m.value < 0 ∨ 255 < m.value))) ?_ ?_
    ·
     rcases (show ((¬ (0 ≤ m.src ∧ m.src ≤ c.cores))) ∨ ((0 ≤ m.src ∧ m.src ≤ c.cores) ∧ (¬ (0 ≤ m.dst ∧ m.dst ≤ c.cores))) ∨ ((0 ≤ m.src ∧ m.src ≤ c.cores) ∧ (0 ≤ m.dst ∧ m.dst ≤ c.cores) ∧ (m.line < 0)) ∨ ((0 ≤ m.src ∧ m.src ≤ c.cores) ∧ (0 ≤ m.dst ∧ m.dst ≤ c.cores) ∧ ¬ (m.line < 0) ∧ (c.lines ≤ m.line)) ∨ ((0 ≤ m.src ∧ m.src ≤ c.cores) ∧ (0 ≤ m.dst ∧ m.dst ≤ c.cores) ∧ ¬ (m.line < 0) ∧ ¬ (c.lines ≤ m.line) ∧ (m.serial < 0)) ∨ ((0 ≤ m.src ∧ m.src ≤ c.cores) ∧ (0 ≤ m.dst ∧ m.dst ≤ c.cores) ∧ ¬ (m.line < 0) ∧ ¬ (c.lines ≤ m.line) ∧ ¬ (m.serial < 0) ∧ (65535 < m.serial)) ∨ ((0 ≤ m.src ∧ m.src ≤ c.cores) ∧ (0 ≤ m.dst ∧ m.dst ≤ c.cores) ∧ ¬ (m.line < 0) ∧ ¬ (c.lines ≤ m.line) ∧ ¬ (m.serial < 0) ∧ ¬ (65535 < m.serial) ∧ (m.turn < 0)) ∨ ((0 ≤ m.src ∧ m.src ≤ c.cores) ∧ (0 ≤ m.dst ∧ m.dst ≤ c.cores) ∧ ¬ (m.line < 0) ∧ ¬ (c.lines ≤ m.line) ∧ ¬ (m.serial < 0) ∧ ¬ (65535 < m.serial) ∧ ¬ (m.turn < 0) ∧ (65535 < m.turn)) ∨ ((0 ≤ m.src ∧ m.src ≤ c.cores) ∧ (0 ≤ m.dst ∧ m.dst ≤ c.cores) ∧ ¬ (m.line < 0) ∧ ¬ (c.lines ≤ m.line) ∧ ¬ (m.serial < 0) ∧ ¬ (65535 < m.serial) ∧ ¬ (m.turn < 0) ∧ ¬ (65535 < m.turn) ∧ (m.value < 0)) ∨ ((0 ≤ m.src ∧ m.src ≤ c.cores) ∧ (0 ≤ m.dst ∧ m.dst ≤ c.cores) ∧ ¬ (m.line < 0) ∧ ¬ (c.lines ≤ m.line) ∧ ¬ (m.serial < 0) ∧ ¬ (65535 < m.serial) ∧ ¬ (m.turn < 0) ∧ ¬ (65535 < m.turn) ∧ ¬ (m.value < 0) ∧ (255 < m.value)) ∨ ((0 ≤ m.src ∧ m.src ≤ c.cores) ∧ (0 ≤ m.dst ∧ m.dst ≤ c.cores) ∧ ¬ (m.line < 0) ∧ ¬ (c.lines ≤ m.line) ∧ ¬ (m.serial < 0) ∧ ¬ (65535 < m.serial) ∧ ¬ (m.turn < 0) ∧ ¬ (65535 < m.turn) ∧ ¬ (m.value < 0) ∧ ¬ (255 < m.value)) from by grind) with hm | hm | hm | hm | hm | hm | hm | hm | hm | hm | hm
     ·
      refine Aa ?_
      refine rn3 ?_
      refine Bk (γ := Unit) (val := fun _ => .bool (decide (0 ≤ m.src ∧ m.src ≤ c.cores))) (caps := [bp b2 0]) (vs := [vi m.src]) rfl Try.call108 rfl (fun w hs => C0 hs pkk) ?_; intro _
      refine ob (Ka rfl (decide_eq_false (by omega))) ?_
      refine rn32 ?_
      refine Ga18 ?_
      refine Ap ?_ (fun w hs => hs)
      refine ⟨by first | exact congrArg (fun b => some (Value.bool b)) (decide_eq_true (by omega)).symm | exact congrArg (fun b => some (Value.bool b)) (by simp; omega), alT⟩
     ·
      refine kp [2, 3, 4, 5, 16, 17, 18, 19, 20, 21, 22, 23, 24, 25, 26, 27, 28, 29, 30, 31, 32, 33, 34, 35, 36, 37, 38, 39, 40, 41, 42, 43, 44, 45, 46, 47, 48, 49, 50, 51, 52, 53, 54, 55, 56, 57, 58, 59, 60, 61, 62, 63, 64, 65, 66, 67, 68, 69, 70] ?_
      refine Aa ?_
      refine rn3 ?_
      refine Bk (γ := Unit) (val := fun _ => .bool (decide (0 ≤ m.src ∧ m.src ≤ c.cores))) (caps := [bp b2 0]) (vs := [vi m.src]) rfl Try.call108 rfl (fun w hs => C0 hs pkk) ?_; intro _
      refine ob (Dg rfl (decide_eq_true (by omega))) ?_
      refine rn4 ?_
      refine gy ?_
      refine Bk (γ := Unit) (val := fun _ => .bool (decide (0 ≤ m.dst ∧ m.dst ≤ c.cores))) (caps := [bp b2 0]) (vs := [vi m.dst]) rfl Try.call108 rfl (fun w hs => C0 hs pkk) ?_; intro _
      refine gy ?_
      refine ob (Ka rfl (decide_eq_false (by omega))) ?_
      refine rn32 ?_
      refine Ga12 ?_
      refine Ap ?_ (fun w hs => hs)
      refine ⟨by first | exact congrArg (fun b => some (Value.bool b)) (decide_eq_true (by omega)).symm | exact congrArg (fun b => some (Value.bool b)) (by simp; omega), alT⟩
     ·
      refine kp [2, 3, 4, 5, 16, 17, 18, 19, 20, 21, 22, 23, 24, 25, 26, 27, 28, 29, 30, 31, 32, 33, 34, 35, 36, 37, 38, 39, 40, 41, 42, 43, 44, 45, 46, 47, 48, 49, 50, 51, 52, 53, 54, 55, 56, 57, 58, 59, 60, 61, 62, 63, 64, 65, 66, 67, 68, 69, 70] ?_
      refine Aa ?_
      refine rn3 ?_
      refine Bk (γ := Unit) (val := fun _ => .bool (decide (0 ≤ m.src ∧ m.src ≤ c.cores))) (caps := [bp b2 0]) (vs := [vi m.src]) rfl Try.call108 rfl (fun w hs => C0 hs pkk) ?_; intro _
      refine ob (Dg rfl (decide_eq_true (by omega))) ?_
      refine rn4 ?_
      refine gy ?_
      refine Bk (γ := Unit) (val := fun _ => .bool (decide (0 ≤ m.dst ∧ m.dst ≤ c.cores))) (caps := [bp b2 0]) (vs := [vi m.dst]) rfl Try.call108 rfl (fun w hs => C0 hs pkk) ?_; intro _
      refine gy ?_
      refine ob (Dg rfl (decide_eq_true (by omega))) ?_
      refine rn4 ?_
      refine gy ?_
      refine ob (Ae rfl rfl (Co (by omega))) ?_
      refine rn32 ?_
      refine Ga7 ?_
      refine Ap ?_ (fun w hs => hs)
      refine ⟨by first | exact congrArg (fun b => some (Value.bool b)) (decide_eq_true (by omega)).symm | exact congrArg (fun b => some (Value.bool b)) (by simp; omega), alT⟩
     ·
      refine kp [2, 3, 4, 5, 16, 17, 18, 19, 20, 21, 22, 23, 24, 25, 26, 27, 28, 29, 30, 31, 32, 33, 34, 35, 36, 37, 38, 39, 40, 41, 42, 43, 44, 45, 46, 47, 48, 49, 50, 51, 52, 53, 54, 55, 56, 57, 58, 59, 60, 61, 62, 63, 64, 65, 66, 67, 68, 69, 70] ?_
      refine Aa ?_
      refine rn3 ?_
      refine Bk (γ := Unit) (val := fun _ => .bool (decide (0 ≤ m.src ∧ m.src ≤ c.cores))) (caps := [bp b2 0]) (vs := [vi m.src]) rfl Try.call108 rfl (fun w hs => C0 hs pkk) ?_; intro _
      refine ob (Dg rfl (decide_eq_true (by omega))) ?_
      refine rn4 ?_
      refine gy ?_
      refine Bk (γ := Unit) (val := fun _ => .bool (decide (0 ≤ m.dst ∧ m.dst ≤ c.cores))) (caps := [bp b2 0]) (vs := [vi m.dst]) rfl Try.call108 rfl (fun w hs => C0 hs pkk) ?_; intro _
      refine gy ?_
      refine ob (Dg rfl (decide_eq_true (by omega))) ?_
      refine rn4 ?_
      refine gy ?_
      refine ob (Ae rfl rfl (Al (by omega))) ?_
      refine rn6 ?_
      refine gy ?_
      refine ob (Ae rfl rfl (D7 (by omega))) ?_
      refine Ga32 ?_
      refine Ap ?_ (fun w hs => hs)
      refine ⟨by first | exact congrArg (fun b => some (Value.bool b)) (decide_eq_true (by omega)).symm | exact congrArg (fun b => some (Value.bool b)) (by simp; omega), alT⟩
     ·
      refine kp [2, 3, 4, 5, 16, 17, 18, 19, 20, 21, 22, 23, 24, 25, 26, 27, 28, 29, 30, 31, 32, 33, 34, 35, 36, 37, 38, 39, 40, 41, 42, 43, 44, 45, 46, 47, 48, 49, 50, 51, 52, 53, 54, 55, 56, 57, 58, 59, 60, 61, 62, 63, 64, 65, 66, 67, 68, 69, 70] ?_
      refine Aa ?_
      refine rn3 ?_
      refine Bk (γ := Unit) (val := fun _ => .bool (decide (0 ≤ m.src ∧ m.src ≤ c.cores))) (caps := [bp b2 0]) (vs := [vi m.src]) rfl Try.call108 rfl (fun w hs => C0 hs pkk) ?_; intro _
      refine ob (Dg rfl (decide_eq_true (by omega))) ?_
      refine rn4 ?_
      refine gy ?_
      refine Bk (γ := Unit) (val := fun _ => .bool (decide (0 ≤ m.dst ∧ m.dst ≤ c.cores))) (caps := [bp b2 0]) (vs := [vi m.dst]) rfl Try.call108 rfl (fun w hs => C0 hs pkk) ?_; intro _
      refine gy ?_
      refine ob (Dg rfl (decide_eq_true (by omega))) ?_
      refine rn4 ?_
      refine gy ?_
      refine ob (Ae rfl rfl (Al (by omega))) ?_
      refine rn6 ?_
      refine gy ?_
      refine ob (Ae rfl rfl (Bc (by omega))) ?_
      refine rn4 ?_
      refine gy ?_
      refine ob (Ae rfl rfl (Co (by omega))) ?_
      refine Ga27 ?_
      refine Ap ?_ (fun w hs => hs)
      refine ⟨by first | exact congrArg (fun b => some (Value.bool b)) (decide_eq_true (by omega)).symm | exact congrArg (fun b => some (Value.bool b)) (by simp; omega), alT⟩
     ·
      refine kp [2, 3, 4, 5, 16, 17, 18, 19, 20, 21, 22, 23, 24, 25, 26, 27, 28, 29, 30, 31, 32, 33, 34, 35, 36, 37, 38, 39, 40, 41, 42, 43, 44, 45, 46, 47, 48, 49, 50, 51, 52, 53, 54, 55, 56, 57, 58, 59, 60, 61, 62, 63, 64, 65, 66, 67, 68, 69, 70] ?_
      refine Aa ?_
      refine rn3 ?_
      refine Bk (γ := Unit) (val := fun _ => .bool (decide (0 ≤ m.src ∧ m.src ≤ c.cores))) (caps := [bp b2 0]) (vs := [vi m.src]) rfl Try.call108 rfl (fun w hs => C0 hs pkk) ?_; intro _
      refine ob (Dg rfl (decide_eq_true (by omega))) ?_
      refine rn4 ?_
      refine gy ?_
      refine Bk (γ := Unit) (val := fun _ => .bool (decide (0 ≤ m.dst ∧ m.dst ≤ c.cores))) (caps := [bp b2 0]) (vs := [vi m.dst]) rfl Try.call108 rfl (fun w hs => C0 hs pkk) ?_; intro _
      refine gy ?_
      refine ob (Dg rfl (decide_eq_true (by omega))) ?_
      refine rn4 ?_
      refine gy ?_
      refine ob (Ae rfl rfl (Al (by omega))) ?_
      refine rn6 ?_
      refine gy ?_
      refine ob (Ae rfl rfl (Bc (by omega))) ?_
      refine rn4 ?_
      refine gy ?_
      refine ob (Ae rfl rfl (Al (by omega))) ?_
      refine rn4 ?_
      refine gy ?_
      refine ob (Ae rfl rfl (C5 (by omega))) ?_
      refine Ga22 ?_
      refine Ap ?_ (fun w hs => hs)
      refine ⟨by first | exact congrArg (fun b => some (Value.bool b)) (decide_eq_true (by omega)).symm | exact congrArg (fun b => some (Value.bool b)) (by simp; omega), alT⟩
     ·
      refine kp [2, 3, 4, 5, 16, 17, 18, 19, 20, 21, 22, 23, 24, 25, 26, 27, 28, 29, 30, 31, 32, 33, 34, 35, 36, 37, 38, 39, 40, 41, 42, 43, 44, 45, 46, 47, 48, 49, 50, 51, 52, 53, 54, 55, 56, 57, 58, 59, 60, 61, 62, 63, 64, 65, 66, 67, 68, 69, 70] ?_
      refine Aa ?_
      refine rn3 ?_
      refine Bk (γ := Unit) (val := fun _ => .bool (decide (0 ≤ m.src ∧ m.src ≤ c.cores))) (caps := [bp b2 0]) (vs := [vi m.src]) rfl Try.call108 rfl (fun w hs => C0 hs pkk) ?_; intro _
      refine ob (Dg rfl (decide_eq_true (by omega))) ?_
      refine rn4 ?_
      refine gy ?_
      refine Bk (γ := Unit) (val := fun _ => .bool (decide (0 ≤ m.dst ∧ m.dst ≤ c.cores))) (caps := [bp b2 0]) (vs := [vi m.dst]) rfl Try.call108 rfl (fun w hs => C0 hs pkk) ?_; intro _
      refine gy ?_
      refine ob (Dg rfl (decide_eq_true (by omega))) ?_
      refine rn4 ?_
      refine gy ?_
      refine ob (Ae rfl rfl (Al (by omega))) ?_
      refine rn6 ?_
      refine gy ?_
      refine ob (Ae rfl rfl (Bc (by omega))) ?_
      refine rn4 ?_
      refine gy ?_
      refine ob (Ae rfl rfl (Al (by omega))) ?_
      refine rn4 ?_
      refine gy ?_
      refine ob (Ae rfl rfl (Bu (by omega))) ?_
      refine rn4 ?_
      refine gy ?_
      refine ob (Ae rfl rfl (Co (by omega))) ?_
      refine Ga17 ?_
      refine Ap ?_ (fun w hs => hs)
      refine ⟨by first | exact congrArg (fun b => some (Value.bool b)) (decide_eq_true (by omega)).symm | exact congrArg (fun b => some (Value.bool b)) (by simp; omega), alT⟩
     ·
      refine kp [2, 3, 4, 5, 16, 17, 18, 19, 20, 21, 22, 23, 24, 25, 26, 27, 28, 29, 30, 31, 32, 33, 34, 35, 36, 37, 38, 39, 40, 41, 42, 43, 44, 45, 46, 47, 48, 49, 50, 51, 52, 53, 54, 55, 56, 57, 58, 59, 60, 61, 62, 63, 64, 65, 66, 67, 68, 69, 70] ?_
      refine Aa ?_
      refine rn3 ?_
      refine Bk (γ := Unit) (val := fun _ => .bool (decide (0 ≤ m.src ∧ m.src ≤ c.cores))) (caps := [bp b2 0]) (vs := [vi m.src]) rfl Try.call108 rfl (fun w hs => C0 hs pkk) ?_; intro _
      refine ob (Dg rfl (decide_eq_true (by omega))) ?_
      refine rn4 ?_
      refine gy ?_
      refine Bk (γ := Unit) (val := fun _ => .bool (decide (0 ≤ m.dst ∧ m.dst ≤ c.cores))) (caps := [bp b2 0]) (vs := [vi m.dst]) rfl Try.call108 rfl (fun w hs => C0 hs pkk) ?_; intro _
      refine gy ?_
      refine ob (Dg rfl (decide_eq_true (by omega))) ?_
      refine rn4 ?_
      refine gy ?_
      refine ob (Ae rfl rfl (Al (by omega))) ?_
      refine rn6 ?_
      refine gy ?_
      refine ob (Ae rfl rfl (Bc (by omega))) ?_
      refine rn4 ?_
      refine gy ?_
      refine ob (Ae rfl rfl (Al (by omega))) ?_
      refine rn4 ?_
      refine gy ?_
      refine ob (Ae rfl rfl (Bu (by omega))) ?_
      refine rn4 ?_
      refine gy ?_
      refine ob (Ae rfl rfl (Al (by omega))) ?_
      refine rn4 ?_
      refine gy ?_
      refine ob (Ae rfl rfl (C5 (by omega))) ?_
      refine Ga12 ?_
      refine Ap ?_ (fun w hs => hs)
      refine ⟨by first | exact congrArg (fun b => some (Value.bool b)) (decide_eq_true (by omega)).symm | exact congrArg (fun b => some (Value.bool b)) (by simp; omega), alT⟩
     ·
      refine kp [2, 3, 4, 5, 16, 17, 18, 19, 20, 21, 22, 23, 24, 25, 26, 27, 28, 29, 30, 31, 32, 33, 34, 35, 36, 37, 38, 39, 40, 41, 42, 43, 44, 45, 46, 47, 48, 49, 50, 51, 52, 53, 54, 55, 56, 57, 58, 59, 60, 61, 62, 63, 64, 65, 66, 67, 68, 69, 70] ?_
      refine Aa ?_
      refine rn3 ?_
      refine Bk (γ := Unit) (val := fun _ => .bool (decide (0 ≤ m.src ∧ m.src ≤ c.cores))) (caps := [bp b2 0]) (vs := [vi m.src]) rfl Try.call108 rfl (fun w hs => C0 hs pkk) ?_; intro _
      refine ob (Dg rfl (decide_eq_true (by omega))) ?_
      refine rn4 ?_
      refine gy ?_
      refine Bk (γ := Unit) (val := fun _ => .bool (decide (0 ≤ m.dst ∧ m.dst ≤ c.cores))) (caps := [bp b2 0]) (vs := [vi m.dst]) rfl Try.call108 rfl (fun w hs => C0 hs pkk) ?_; intro _
      refine gy ?_
      refine ob (Dg rfl (decide_eq_true (by omega))) ?_
      refine rn4 ?_
      refine gy ?_
      refine ob (Ae rfl rfl (Al (by omega))) ?_
      refine rn6 ?_
      refine gy ?_
      refine ob (Ae rfl rfl (Bc (by omega))) ?_
      refine rn4 ?_
      refine gy ?_
      refine ob (Ae rfl rfl (Al (by omega))) ?_
      refine rn4 ?_
      refine gy ?_
      refine ob (Ae rfl rfl (Bu (by omega))) ?_
      refine rn4 ?_
      refine gy ?_
      refine ob (Ae rfl rfl (Al (by omega))) ?_
      refine rn4 ?_
      refine gy ?_
      refine ob (Ae rfl rfl (Bu (by omega))) ?_
      refine rn4 ?_
      refine gy ?_
      refine ob (Ae rfl rfl (Co (by omega))) ?_
      refine Ga7 ?_
      refine Ap ?_ (fun w hs => hs)
      refine ⟨by first | exact congrArg (fun b => some (Value.bool b)) (decide_eq_true (by omega)).symm | exact congrArg (fun b => some (Value.bool b)) (by simp; omega), alT⟩
     ·
      refine kp [2, 3, 4, 5, 16, 17, 18, 19, 20, 21, 22, 23, 24, 25, 26, 27, 28, 29, 30, 31, 32, 33, 34, 35, 36, 37, 38, 39, 40, 41, 42, 43, 44, 45, 46, 47, 48, 49, 50, 51, 52, 53, 54, 55, 56, 57, 58, 59, 60, 61, 62, 63, 64, 65, 66, 67, 68, 69, 70] ?_
      refine Aa ?_
      refine rn3 ?_
      refine Bk (γ := Unit) (val := fun _ => .bool (decide (0 ≤ m.src ∧ m.src ≤ c.cores))) (caps := [bp b2 0]) (vs := [vi m.src]) rfl Try.call108 rfl (fun w hs => C0 hs pkk) ?_; intro _
      refine ob (Dg rfl (decide_eq_true (by omega))) ?_
      refine rn4 ?_
      refine gy ?_
      refine Bk (γ := Unit) (val := fun _ => .bool (decide (0 ≤ m.dst ∧ m.dst ≤ c.cores))) (caps := [bp b2 0]) (vs := [vi m.dst]) rfl Try.call108 rfl (fun w hs => C0 hs pkk) ?_; intro _
      refine gy ?_
      refine ob (Dg rfl (decide_eq_true (by omega))) ?_
      refine rn4 ?_
      refine gy ?_
      refine ob (Ae rfl rfl (Al (by omega))) ?_
      refine rn6 ?_
      refine gy ?_
      refine ob (Ae rfl rfl (Bc (by omega))) ?_
      refine rn4 ?_
      refine gy ?_
      refine ob (Ae rfl rfl (Al (by omega))) ?_
      refine rn4 ?_
      refine gy ?_
      refine ob (Ae rfl rfl (Bu (by omega))) ?_
      refine rn4 ?_
      refine gy ?_
      refine ob (Ae rfl rfl (Al (by omega))) ?_
      refine rn4 ?_
      refine gy ?_
      refine ob (Ae rfl rfl (Bu (by omega))) ?_
      refine rn4 ?_
      refine gy ?_
      refine ob (Ae rfl rfl (Al (by omega))) ?_
      refine rn4 ?_
      refine gy ?_
      refine ob (Ae rfl rfl (C5 (by omega))) ?_
      refine Ga2 ?_
      refine Ap ?_ (fun w hs => hs)
      refine ⟨by first | exact congrArg (fun b => some (Value.bool b)) (decide_eq_true (by omega)).symm | exact congrArg (fun b => some (Value.bool b)) (by simp; omega), alT⟩
     ·
      refine kp [2, 3, 4, 5, 16, 17, 18, 19, 20, 21, 22, 23, 24, 25, 26, 27, 28, 29, 30, 31, 32, 33, 34, 35, 36, 37, 38, 39, 40, 41, 42, 43, 44, 45, 46, 47, 48, 49, 50, 51, 52, 53, 54, 55, 56, 57, 58, 59, 60, 61, 62, 63, 64, 65, 66, 67, 68, 69, 70] ?_
      refine Aa ?_
      refine rn3 ?_
      refine Bk (γ := Unit) (val := fun _ => .bool (decide (0 ≤ m.src ∧ m.src ≤ c.cores))) (caps := [bp b2 0]) (vs := [vi m.src]) rfl Try.call108 rfl (fun w hs => C0 hs pkk) ?_; intro _
      refine ob (Dg rfl (decide_eq_true (by omega))) ?_
      refine rn4 ?_
      refine gy ?_
      refine Bk (γ := Unit) (val := fun _ => .bool (decide (0 ≤ m.dst ∧ m.dst ≤ c.cores))) (caps := [bp b2 0]) (vs := [vi m.dst]) rfl Try.call108 rfl (fun w hs => C0 hs pkk) ?_; intro _
      refine gy ?_
      refine ob (Dg rfl (decide_eq_true (by omega))) ?_
      refine rn4 ?_
      refine gy ?_
      refine ob (Ae rfl rfl (Al (by omega))) ?_
      refine rn6 ?_
      refine gy ?_
      refine ob (Ae rfl rfl (Bc (by omega))) ?_
      refine rn4 ?_
      refine gy ?_
      refine ob (Ae rfl rfl (Al (by omega))) ?_
      refine rn4 ?_
      refine gy ?_
      refine ob (Ae rfl rfl (Bu (by omega))) ?_
      refine rn4 ?_
      refine gy ?_
      refine ob (Ae rfl rfl (Al (by omega))) ?_
      refine rn4 ?_
      refine gy ?_
      refine ob (Ae rfl rfl (Bu (by omega))) ?_
      refine rn4 ?_
      refine gy ?_
      refine ob (Ae rfl rfl (Al (by omega))) ?_
      refine rn4 ?_
      refine gy ?_
      refine ob (Ae rfl rfl (Bu (by omega))) ?_
      refine Ga2 ?_
      refine Ap ?_ (fun w hs => hs)
      refine ⟨by first | exact congrArg (fun b => some (Value.bool b)) (decide_eq_false (by omega)).symm | exact congrArg (fun b => some (Value.bool b)) (by simp; omega), alT⟩
    ·
     refine As ?_
     first | (refine cdx (p := ?p2) (hd := ?d2) ?e2 ?_ ?_; case e2 => exact rfl) | (refine Bh (b := ?b2) ?e2 ?_ ?_; case e2 => exact rfl)
     ·
      intro ht16
      refine Gl ?_
      refine kp [2, 3, 4] ?_
      refine Aa ?_
      refine Ga1 ?_
      have er : A5 c m = 3 := by unfold A5; rw [if_neg (by omega), if_pos ht16]
      rw [er]
      exact Bm ()
     ·
      intro ht16
      refine Gl ?_
      refine kp [2, 3, 4, 71, 72, 73, 74, 75, 76, 77, 78, 79, 80, 81, 82] ?_
      refine Aa ?_
      refine rn10 ?_
      refine ob (Sj rfl rfl (Mr Try.underlying4)) ?_
      refine Ga1 ?_
      refine Bh (b := ?b3) ?e3 ?_ ?_; case e3 => exact rfl
      ·
       intro ht71
       refine Gm ?_
       refine Ga1 ?_
       have er : A5 c m = 6 := by unfold A5; rw [if_neg (by omega), if_neg ht16, if_pos (decide_eq_decide.1 (beq_iff_eq.1 ht71))]
       rw [er]
       exact Bm ()
      ·
       intro ht71
       refine Gm ?_
       refine Ga1 ?_
       have er : A5 c m = 0 := by unfold A5; rw [if_neg (by omega), if_neg ht16, if_neg (fun h => by rw [beq_iff_eq.2 (decide_eq_decide.2 h)] at ht71; cases ht71)]
       rw [er]
       exact Bm ()
theorem U3 {L : List Chunk} {R : List Fact} {w : World} {v1 : Value} {b : List UInt8} {c : Config} (hs : St (L) R w) (h1 : sl v1 b ∈ R) : Calls Try.prog 93 [.agg c.cells.toArray, v1].toArray w (Cg (fun _ : Unit => .tuple #[.agg (Af c b).1.cells.toArray, vi (Af c b).2]) (fun _ => L) (fun _ => R)) := by
  have hlen := Bv h1 hs
  have B : ∀ i, (b.getD i 0).toNat < 256 := fun i => (b.getD i 0).toNat_lt
  refine Ah Try.func93 rfl Try.ntmps93 rfl hs ?_
  clear hs
  refine Gm ?_
  refine bx ?_; intro b2
  refine al_ (cs := zMsg.cells) Try.zeroValue42 ?_; intro b4
  refine Gb1 ?_
  refine Ga3 ?_
  refine cdx (p := ?p1) (hd := ?d1) ?e1 ?_ ?_; case e1 => exact rfl
  ·
   intro ht11
   refine Gm ?_
   refine ob (Gp (cs := zMsg.cells) F4) ?_
   refine s_B Try.sizeOf42 ?_
   refine Ga1 ?_
   have er : Af c b = (zMsg, 2) := by
    unfold Af
    rw [if_pos (by omega)]
   rw [er]
   exact Fv () Try.isAgg42 Try.sizeOf42
  ·
   intro ht11
   refine Gl ?_
   have B0 := B 0; have B1 := B 1; have B2 := B 2; have B3 := B 3; have B4 := B 4; have B5 := B 5; have B6 := B 6; have B7 := B 7; have B8 := B 8; have B9 := B 9; have B10 := B 10; have B11 := B 11
   refine Aa ?_
   refine rn2 ?_
   refine ob (Ae rfl rfl (b_subE (r := ((10 : Nat) : Int)) (by omega) (by omega) (by omega))) ?_
   refine Ga1 ?_
   refine E4 (v := v1) (b := b) 10 mm (by omega) ?_
   refine E4 (v := v1) (b := b) 11 mm (by omega) ?_
   refine Gi ?_
   refine dn2 ?_
   refine dj ?_
   refine P8 (α := UInt8) (xs := b) (lo := 0) (hi := 10) By (fun _ => rfl) mm (fun _ => rfl) (fun _ => rfl) (by omega) (by omega) (fun _ _ _ _ => rfl) ?_
   refine dj ?_
   refine Kv (γ := Unit) (val := fun _ => vi (Hd (b.take 10))) (F := fun _ => []) (C := fun _ => []) Try.call103 (fun _ => rfl) (fun _ _ _ _ => rfl) (fun ρ L R w hd hs => Lb hs (hd.dep (it := ⟨2, _, _, _, _⟩) (by repeat (first | exact List.Mem.head _ | refine List.Mem.tail _ ?_)) ⟨9, rfl⟩ (List.Mem.head _))) ?_
   refine dn2 ?_
   refine djc (fun _ _ => D4 (i := 10) By) ?_
   refine dj ?_
   first | refine dc (fun _ _ => C6 Try.isAgg5) ?_ | refine dp (fun _ _ => C6 Try.isAgg5) ?_
   refine dj ?_
   first | refine dc (fun _ _ => Aq Try.underlying5 Try.underlying3 rfl (Au _)) ?_ | refine dp (fun _ _ => Aq Try.underlying5 Try.underlying3 rfl (Au _)) ?_
   refine djc (fun _ _ => Ae rfl rfl (Mq (by omega) (by omega))) ?_
   refine dn2 ?_
   refine dj ?_
   refine dc (fun _ _ => Ae rfl rfl (v := vi ((11 : Nat) : Int)) (V3 (a := 10) (b := 1) (by omega))) ?_
   refine djc (fun _ _ => D4 (i := 11) By) ?_
   refine dj ?_
   first | refine dc (fun _ _ => C6 Try.isAgg5) ?_ | refine dp (fun _ _ => C6 Try.isAgg5) ?_
   refine dj ?_
   first | refine dc (fun _ _ => Aq Try.underlying5 Try.underlying3 rfl (Au _)) ?_ | refine dp (fun _ _ => Aq Try.underlying5 Try.underlying3 rfl (Au _)) ?_
   refine djc (fun _ _ => Ae rfl rfl (Pk (by omega) (by omega) (by omega) (by omega))) ?_
   refine dj ?_
   first | refine dc (fun _ _ => Fi Oh) ?_ | refine dp (fun _ _ => Fi Oh) ?_
   refine dnl ?_; intro ρ
   refine Gl ?_
   refine cdx (p := ?p2) (hd := ?d2) ?e2 ?_ ?_; case e2 => exact rfl
   ·
    intro ht33
    refine Gm ?_
    refine ob (Gp (cs := zMsg.cells) F4) ?_
    refine s_B Try.sizeOf42 ?_
    refine Ga1 ?_
    have er : Af c b = (zMsg, 7) := by
     unfold Af
     rw [if_neg (by omega), if_pos (by show Hd (b.take 10) ≠ _; unfold at8; omega)]
    rw [er]
    exact Fv () Try.isAgg42 Try.sizeOf42
   ·
    intro ht33
    refine Gl ?_
    refine E4 (v := v1) (b := b) 8 mm (by omega) ?_
    refine E4 (v := v1) (b := b) 9 mm (by omega) ?_
    refine Aa ?_
    refine rn1 ?_
    refine ob (D4 (i := 8) By) ?_
    refine rn3 ?_
    refine jgx (t := 39) (p := ?p3) (hd := ?d3) ?e3 ?_ ?_; case e3 => exact rfl
    ·
     intro ht39
     refine Gc5 ?_
     refine kp [1, 2, 4, 5, 45] ?_
     refine Aa ?_
     refine ob (Gp (cs := zMsg.cells) F4) ?_
     refine s_B Try.sizeOf42 ?_
     refine Ga1 ?_
     have er : Af c b = (zMsg, 2) := by
      unfold Af
      rw [if_neg (by omega), if_neg (by show ¬ Hd (b.take 10) ≠ _; unfold at8; omega), if_pos (by unfold at8; omega)]
     rw [er]
     exact Fv () Try.isAgg42 Try.sizeOf42
    ·
     intro ht39
     refine rn1 ?_
     refine gy ?_
     refine ob (D4 (i := 9) By) ?_
     refine Ga3 ?_
     refine cdx (p := ?p4) (hd := ?d4) ?e4 ?_ ?_; case e4 => exact rfl
     ·
      intro ht44
      refine Gl ?_
      refine kp [1, 2, 4, 5, 45] ?_
      refine Aa ?_
      refine ob (Gp (cs := zMsg.cells) F4) ?_
      refine s_B Try.sizeOf42 ?_
      refine Ga1 ?_
      have er : Af c b = (zMsg, 2) := by
       unfold Af
       rw [if_neg (by omega), if_neg (by show ¬ Hd (b.take 10) ≠ _; unfold at8; omega), if_pos (by unfold at8; omega)]
      rw [er]
      exact Fv () Try.isAgg42 Try.sizeOf42
     ·
      intro ht44
      refine Gl ?_
      refine E4 (v := v1) (b := b) 0 mm (by omega) ?_
      refine E4 (v := v1) (b := b) 1 mm (by omega) ?_
      refine E4 (v := v1) (b := b) 2 mm (by omega) ?_
      refine E4 (v := v1) (b := b) 3 mm (by omega) ?_
      refine E4 (v := v1) (b := b) 4 mm (by omega) ?_
      refine E4 (v := v1) (b := b) 5 mm (by omega) ?_
      refine E4 (v := v1) (b := b) 6 mm (by omega) ?_
      refine E4 (v := v1) (b := b) 7 mm (by omega) ?_
      refine kp [1, 2, 4, 5, 7, 46, 47, 48, 49, 50, 51, 52, 53, 54, 55, 56, 57, 58, 59, 60, 61, 62, 63, 64, 65, 66, 67, 68, 69, 70, 71, 72, 73, 74, 75, 76, 77, 78, 79, 80, 81, 82, 83, 84, 85, 86, 87, 88, 89, 90, 91, 92] ?_
      refine cq_ (blk b4 42 zMsg.cells :: blk b2 39 c.cells :: L) ?_
      refine jd_ (fun ρ S => blk b4 42 zMsg.cells :: blk b2 39 c.cells :: ((bif S 47 then [blk (Gh.dec (γ := Nat) (ρ 47)) 42 (bif S 48 then (Fj b).cells else zMsg.cells)] else []) ++ (L))) ?_
      refine dn1 ?_
      first | refine epc (fun _ _ => D4 (i := 0) By) ?_ | refine epp (fun _ _ => D4 (i := 0) By) ?_
      first | refine epc (fun _ _ => C6 Try.isAgg5) ?_ | refine epp (fun _ _ => C6 Try.isAgg5) ?_
      first | refine epc (fun _ _ => Aq Try.underlying5 Try.underlying3 rfl (Au _)) ?_ | refine epp (fun _ _ => Aq Try.underlying5 Try.underlying3 rfl (Au _)) ?_
      refine dn1 ?_
      first | refine epc (fun _ _ => D4 (i := 1) By) ?_ | refine epp (fun _ _ => D4 (i := 1) By) ?_
      first | refine epc (fun _ _ => C6 Try.isAgg5) ?_ | refine epp (fun _ _ => C6 Try.isAgg5) ?_
      refine epc (fun _ _ => Ae rfl rfl Yv) ?_
      refine epc (fun _ _ => Aq Try.underlying5 Try.underlying3 rfl (Rl _)) ?_
      refine dn1 ?_
      first | refine epc (fun _ _ => D4 (i := 1) By) ?_ | refine epp (fun _ _ => D4 (i := 1) By) ?_
      first | refine epc (fun _ _ => C6 Try.isAgg5) ?_ | refine epp (fun _ _ => C6 Try.isAgg5) ?_
      refine epc (fun _ _ => Ae rfl rfl Vm) ?_
      refine epc (fun _ _ => Aq Try.underlying5 Try.underlying3 rfl (Rk _)) ?_
      refine dn1 ?_
      first | refine epc (fun _ _ => D4 (i := 2) By) ?_ | refine epp (fun _ _ => D4 (i := 2) By) ?_
      first | refine epc (fun _ _ => C6 Try.isAgg5) ?_ | refine epp (fun _ _ => C6 Try.isAgg5) ?_
      first | refine epc (fun _ _ => Aq Try.underlying5 Try.underlying3 rfl (Au _)) ?_ | refine epp (fun _ _ => Aq Try.underlying5 Try.underlying3 rfl (Au _)) ?_
      refine dn1 ?_
      first | refine epc (fun _ _ => D4 (i := 3) By) ?_ | refine epp (fun _ _ => D4 (i := 3) By) ?_
      first | refine epc (fun _ _ => C6 Try.isAgg5) ?_ | refine epp (fun _ _ => C6 Try.isAgg5) ?_
      first | refine epc (fun _ _ => Aq Try.underlying5 Try.underlying3 rfl (Au _)) ?_ | refine epp (fun _ _ => Aq Try.underlying5 Try.underlying3 rfl (Au _)) ?_
      refine epc (fun _ _ => Ae rfl rfl (Mq (by omega) (by omega))) ?_
      refine dn1 ?_
      first | refine epc (fun _ _ => D4 (i := 4) By) ?_ | refine epp (fun _ _ => D4 (i := 4) By) ?_
      first | refine epc (fun _ _ => C6 Try.isAgg5) ?_ | refine epp (fun _ _ => C6 Try.isAgg5) ?_
      first | refine epc (fun _ _ => Aq Try.underlying5 Try.underlying3 rfl (Au _)) ?_ | refine epp (fun _ _ => Aq Try.underlying5 Try.underlying3 rfl (Au _)) ?_
      refine epc (fun _ _ => Ae rfl rfl (Pk (by omega) (by omega) (by omega) (by omega))) ?_
      refine dn1 ?_
      first | refine epc (fun _ _ => D4 (i := 5) By) ?_ | refine epp (fun _ _ => D4 (i := 5) By) ?_
      first | refine epc (fun _ _ => C6 Try.isAgg5) ?_ | refine epp (fun _ _ => C6 Try.isAgg5) ?_
      first | refine epc (fun _ _ => Aq Try.underlying5 Try.underlying3 rfl (Au _)) ?_ | refine epp (fun _ _ => Aq Try.underlying5 Try.underlying3 rfl (Au _)) ?_
      refine epc (fun _ _ => Ae rfl rfl (Mq (by omega) (by omega))) ?_
      refine dn1 ?_
      first | refine epc (fun _ _ => D4 (i := 6) By) ?_ | refine epp (fun _ _ => D4 (i := 6) By) ?_
      first | refine epc (fun _ _ => C6 Try.isAgg5) ?_ | refine epp (fun _ _ => C6 Try.isAgg5) ?_
      first | refine epc (fun _ _ => Aq Try.underlying5 Try.underlying3 rfl (Au _)) ?_ | refine epp (fun _ _ => Aq Try.underlying5 Try.underlying3 rfl (Au _)) ?_
      refine epc (fun _ _ => Ae rfl rfl (Pk (by omega) (by omega) (by omega) (by omega))) ?_
      refine dn1 ?_
      first | refine epc (fun _ _ => D4 (i := 7) By) ?_ | refine epp (fun _ _ => D4 (i := 7) By) ?_
      first | refine epc (fun _ _ => C6 Try.isAgg5) ?_ | refine epp (fun _ _ => C6 Try.isAgg5) ?_
      first | refine epc (fun _ _ => Aq Try.underlying5 Try.underlying3 rfl (Au _)) ?_ | refine epp (fun _ _ => Aq Try.underlying5 Try.underlying3 rfl (Au _)) ?_
      refine dn1 ?_
      first | refine epc (fun _ _ => D4 (i := 8) By) ?_ | refine epp (fun _ _ => D4 (i := 8) By) ?_
      first | refine epc (fun _ _ => C6 Try.isAgg5) ?_ | refine epp (fun _ _ => C6 Try.isAgg5) ?_
      first | refine epc (fun _ _ => Fi Ok) ?_ | refine epp (fun _ _ => Fi Ok) ?_
      first | refine epc (fun _ _ => Gp F4) ?_ | refine epc (fun _ _ => Jm F4) ?_ | refine epp (fun _ _ => Gp F4) ?_ | refine epp (fun _ _ => Jm F4) ?_
      refine Kt (cs := zMsg.cells) Try.zeroValue42 rfl (fun ρ b S hS hA => ?_) ?_
      ·
       have ui : upS S 47 47 = true := rfl; have u48 : upS S 47 48 = S 48 := rfl; have h48 : S 48 = false := hA 48 ⟨0, rfl⟩; have rs : (Gh.dec (γ := Nat) (Rho.set ρ 47 (Gh.enc b) 47)) = b := rfl
       simp only [ui, hS, u48, h48, rs, cond_true, cond_false, List.nil_append]
       exact Ins.perm (by repeat (first | exact .hd | exact .hc | refine .tl ?_ | refine .ap ?_))
      refine es_ 42 0 [47] [] (fun ρ => (Gh.dec (γ := Nat) (ρ 47))) (fun ρ => zMsg.cells) (fun ρ => (Fj b).cells) Try.sizeOf42 ?_
      refine dnl ?_; intro ρ
      refine xq_ (blk b4 42 zMsg.cells :: blk b2 39 c.cells :: (blk (Gh.dec (γ := Nat) (ρ 47)) 42 (Fj b).cells :: L)) ?_
      generalize (Gh.dec (γ := Nat) (ρ 47)) = b7
      refine Gl ?_
      refine kp [2, 4, 5, 7, 8, 93, 94, 95] ?_
      refine Aa ?_
      refine rn2 ?_
      refine Ar Try.call104 rfl (fun w hs => U2 (c := c) (m := Fj b) hs) ?_; intro _
      refine Gb1 ?_
      refine Ga2 ?_
      refine cdx (p := ?p5) (hd := ?d5) ?e5 ?_ ?_; case e5 => exact rfl
      ·
       intro ht97
       refine Gm ?_
       refine ob (Gp (cs := zMsg.cells) F4) ?_
       refine rn1 ?_
       refine s_B Try.sizeOf42 ?_
       refine Ga1 ?_
       have er : Af c b = (zMsg, A5 c (Fj b)) := by
        unfold Af
        rw [if_neg (by omega), if_neg (by show ¬ Hd (b.take 10) ≠ _; unfold at8; omega), if_neg (by unfold at8; omega), if_pos (by omega)]
       rw [er]
       exact Fv () Try.isAgg42 Try.sizeOf42
      ·
       intro ht97
       refine Gm ?_
       refine rn1 ?_
       refine s_B Try.sizeOf42 ?_
       refine Ga1 ?_
       have er : Af c b = (Fj b, 0) := by
        unfold Af
        rw [if_neg (by omega), if_neg (by show ¬ Hd (b.take 10) ≠ _; unfold at8; omega), if_neg (by unfold at8; omega), if_neg (by omega)]
       rw [er]
       exact Fv () Try.isAgg42 Try.sizeOf42
end Go.Proofs.Ytofgpimoekhfaaa

/- This file proves what a keeper of the program's core says. No conditions. -/
set_option linter.unusedVariables false
set_option linter.unusedSimpArgs false
set_option maxHeartbeats 1000000
set_option maxRecDepth 8000
namespace Go.Proofs.Ytofgpimoekhfaaa
open Go
section
variable {P : Program} {n : Nat} {Q : Exit → Act → World → Prop} {Sh : Rho → (Nat → Bool) → List Chunk} {R0 : List Fact} {al0 : List (Nat × Value)}
variable {ops : Array Oper} {i : Nat} {rest : List Oper} {its : List Item} {d : Nat} {x y : Operand} {T ty : TypeId} {pos : String} {aft : Array Edge}
theorem S2 {γ : Type} [Gh γ] {val : γ → Value} {F : γ → List Fact} {C : γ → List Chunk} {f : FuncId} {args : List Operand} {ts : Array TypeId} {vs : Rho → List Value} (hf : ∀ args w, (callFunc f args).run P w = .ok (.enter f args) w)
  (ha : ∀ ρ, evL n (Dy its al0 ρ) args = some (vs ρ)) (hc : ∀ ρ L' R' w, Deps ops R0 its i ρ R' → St L' R' w → Calls P f (vs ρ).toArray w (Cg val (fun g => C g ++ L') (fun g => F g ++ R'))) (hSh : It ops Sh i)
  (k : DJ P n ops Q Sh R0 al0 (i + 1) rest (⟨i, some d, fun ρ => val (Gh.dec (ρ i)), fun ρ => F (Gh.dec (ρ i)), fun ρ => C (Gh.dec (ρ i))⟩ :: its)) :
  DJ P n ops Q Sh R0 al0 i (⟨some d, .call { callee := .value (.func f), args := args.toArray, argTypes := ts }, ty, pos, aft, none⟩ :: rest) its :=
 U7 (C := C) rfl rfl hSh (fun ρ S a L' R' w K h hK => by
  unfold Oper.wp
  rw [Ii hf rfl, Oper.upon_enter, List.map_toArray, Fh h.agree (fun x hx => by simp [Op.operands, Call.operands, hx]) (ha ρ)]
  refine (hc ρ _ _ w ⟨h.base, h.deps⟩ h.st).mono ?_
  rintro e w' ⟨g, rfl, hs'⟩
  exact hK g w' hs') k
end
theorem Yj {L : List Chunk} {R : List Fact} {w : World} {u : Value} {c : Core} (hs : St (L) R w) (hu : sl u c.lines ∈ R) : Calls Try.prog 43 [.agg (c.cells u).toArray].toArray w (Cg (fun v : Value => .agg (Core.cells v c).toArray) (fun v => row 82 v c.lines :: L) (fun v => R)) := by
 have hone0 : u.oneCell' = true := isSlice.one (hs.fact hu)
 refine Ah Try.func43 rfl Try.ntmps43 rfl hs ?_
 clear hs
 refine Gm ?_
 refine bx ?_; intro b1
 refine al_ (cs := [.slice none 0 0, vi 0, vi 0, vi 0]) Try.zeroValue69 ?_; intro b2
 refine Gl ?_
 refine cq_ (blk b2 69 [.slice none 0 0, vi 0, vi 0, vi 0] :: blk b1 69 (c.cells u) :: L) ?_
 refine jd_ (fun ρ S => blk b2 69 (bif S 6 then [(Gh.dec (γ := Value) (ρ 2)), vi c.wait.kind, vi c.wait.line, vi c.wait.value] else [.slice none 0 0, vi 0, vi 0, vi 0]) :: blk b1 69 (c.cells u) :: L) ?_
 refine dn2 ?_
 refine S2 (γ := Value) (val := fun v => v) (F := fun v => [pr (v.oneCell' = true)]) (C := fun v => [row 82 v c.lines]) Try.call80 (fun _ => rfl) (fun ρ L R w hd hs => I8 (Rm (xs := c.lines) hs (hd.base mm)) (fun v w hs => ⟨v, rfl, St.pr (Hv .hd hs) hs⟩)) (fun ρ g S hS hA => by have u6 : upS S 2 6 = S 6 := rfl; have h6 : S 6 = false := hA 6 ⟨0, rfl⟩; simp only [u6, h6, cond_false]) ?_
 refine dn2 ?_
 refine e_pd (v := fun ρ => .agg ([(Gh.dec (γ := Value) (ρ 2)), vi c.wait.kind, vi c.wait.line, vi c.wait.value]).toArray) (fun ρ S R' L' w hd hs => by have h1 : ((Gh.dec (γ := Value) (ρ 2))).oneCell' = true := hs.fact (hd.dep (it := ⟨2, _, _, _, _⟩) (by repeat (first | exact List.Mem.head _ | refine List.Mem.tail _ ?_)) ⟨9, rfl⟩ (List.Mem.head _)); exact Jm J2) (Ind.gh (h := fun g => Value.agg ([(Gh.dec (γ := Value) g), vi c.wait.kind, vi c.wait.line, vi c.wait.value]).toArray) 2 3 rfl) (fun _ _ _ _ _ => rfl) ?_
 refine es_ 69 0 [] [] (fun ρ => b2) (fun ρ => [.slice none 0 0, vi 0, vi 0, vi 0]) (fun ρ => [(Gh.dec (γ := Value) (ρ 2)), vi c.wait.kind, vi c.wait.line, vi c.wait.value]) Try.sizeOf69 (h1 := (fun ρ R w L' hd hs => Be (hs.fact (hd.dep (it := ⟨2, _, _, _, _⟩) (by repeat (first | exact List.Mem.head _ | refine List.Mem.tail _ ?_)) ⟨9, rfl⟩ (List.Mem.head _)) : ((Gh.dec (γ := Value) (ρ 2))).oneCell' = true) (by repeat (first | exact Di | refine Be rfl ?_)))) ?_
 refine dnl ?_; intro ρ
 refine JX.conseq (L' := row 82 (Gh.dec (γ := Value) (ρ 2)) c.lines :: blk b2 69 [(Gh.dec (γ := Value) (ρ 2)), vi c.wait.kind, vi c.wait.line, vi c.wait.value] :: blk b1 69 (c.cells u) :: L) (fun w hs => Aj hs) ?_
 generalize (Gh.dec (γ := Value) (ρ 2)) = v5
 refine Gl ?_
 exact Na v5 Try.isAgg69 Try.sizeOf69
end Go.Proofs.Ytofgpimoekhfaaa

/- This file proves what the looks at a chip compute: calm, wrong, spoilt; and what a chip of its own is. No conditions. -/
set_option linter.unusedVariables false
set_option linter.unusedSimpArgs false
set_option maxHeartbeats 1000000
set_option maxRecDepth 8000
namespace Go.Proofs.Ytofgpimoekhfaaa
open Go
theorem Vc {L : List Chunk} {R : List Fact} {w : World} {up : Value} {x : Chip} {p : Nat} (hs : St (L) R w) (honeu : up.oneCell' = true) : Calls Try.prog 94 [.agg (Core.cells up (cor x p)).toArray].toArray w (Cg (fun _ : Unit => .bool (!G2 x p)) (fun _ => L) (fun _ => R)) := by
 refine Ah Try.func94 rfl Try.ntmps94 rfl hs ?_
 clear hs
 refine Gm ?_
 refine bx ?_; intro b1
 refine Gb1 ?_
 refine Ga5 ?_
 have er : (!G2 x p) = decide ((cor x p).wait.kind ≠ 0) := by unfold G2; by_cases h : (cor x p).wait.kind = 0 <;> simp [h]
 rw [er]
 exact Bm ()
theorem Mo {L : List Chunk} {R : List Fact} {w : World} {cv hv fv : Value} {x : Chip} (hs : St (L) R w) (hcv : sl cv x.cores ∈ R) (hhv : sl hv x.home ∈ R) (hx : CX x) (hfv : sl fv x.frames ∈ R) (honef : fv.oneCell' = true) : Calls Try.prog 59 [.agg #[cv, hv, fv]].toArray w (Cg (fun _ : Unit => .bool (Ef x)) (fun _ => L) (fun _ => R)) := by
  have honec : cv.oneCell' = true := isSlice.one (hs.fact hcv)
  have honeh : hv.oneCell' = true := isSlice.one (hs.fact hhv)
  have hn4 := hx.n4
  have hh4 := hx.h4
  refine Ah Try.func59 rfl Try.ntmps59 rfl hs ?_
  clear hs
  refine Gm ?_
  refine bx ?_; intro b1
  refine Gb1 ?_
  refine Ga4 ?_
  refine Bg (γ := Nat) (fun i => i ≤ x.home.length ∧ Hi (Ig x) i = true) (fun _ => blk b1 46 [cv, hv, fv] :: L) (fun _ => R) (fun i => [(1, bp b1 0), (6, hv), (7, vi (x.home.length : Int)), (8, vi (i : Int))]) (fun i => x.home.length - i) 0 ⟨Nat.zero_le _, rfl⟩ alT (fun w hs => Aj hs) ?_
  rintro i ⟨hi, hal⟩
  refine Gm ?_
  refine Ga1 ?_
  refine cdx (p := ?p1) (hd := ?d1) ?e1 ?_ ?_; case e1 => exact rfl
  ·
   intro ht9
   refine Gl ?_
   refine Jw i (v := hv) mm (by omega) (fun hwe ue honeu => ?_)
   refine Aa ?_
   refine rn2 ?_
   refine al_ (cs := [vi 0, vi 0, vi 0, vi 0, vi 0, vi 0, .bool false, vi 0, vi 0, .slice none 0 0]) Try.zeroValue58 ?_; intro b4
   refine s_B (cs := Entry.cells ue (ent x i)) Try.sizeOf58 ?_
   refine Gm ?_
   refine Ga3 ?_
   refine cdx (p := ?p2) (hd := ?d2) ?e2 ?_ ?_; case e2 => exact rfl
   ·
    intro ht14
    refine Gm ?_
    refine Ga1 ?_
    have er : Ef x = false := by unfold Ef; rw [Fg (show i < x.home.length by omega) (by unfold Ig; simpa using ht14)]; rfl
    rw [er]
    exact Bm ()
   ·
    intro ht14
    refine Gm ?_
    refine Ga2 ?_
    refine A1 (i + 1) ⟨by omega, Eg hal (by unfold Ig; simpa using ht14)⟩ (by omega) alT (fun w hs => Aj hs)
  ·
   intro ht9
   refine Gl ?_
   rcases (show ((x.frames.length : Int) ≠ 0) ∨ ((x.frames.length : Int) = 0) from by omega) with hc | hc
   ·
    refine Aa ?_
    refine rn3 ?_
    refine ob (Ae rfl rfl (Ak (by omega))) ?_
    refine Ga7 ?_
    have er : Ef x = false := by unfold Ef; rw [decide_eq_false (show ¬ x.frames.length = 0 by omega)]; simp
    rw [er]
    exact Bm ()
   ·
    refine Aa ?_
    refine rn3 ?_
    refine ob (Ae rfl rfl (Av (by omega))) ?_
    refine rn3 ?_
    refine gy ?_
    refine Ar Try.call88 rfl (fun w hs => Tc (x := x) (ff := 94) (caps := []) (p := fun p => !G2 x p) hs hcv Try.call94 (fun k hk hwk uk honek R1 w1 hu1 hs1 => Vc hs1 honek)) ?_; intro _
    refine Ga3 ?_
    have er : Ef x = Hi (G2 x) x.cores.length := by unfold Ef; rw [decide_eq_true (show x.frames.length = 0 by omega), show x.home.length = i by omega, hal]; simp
    rw [er]
    refine Bm () (hv := ?_)
    simp
theorem Kx {L : List Chunk} {R : List Fact} {w : World} {cv hv fv : Value} {x : Chip} (hs : St (L) R w) (hcv : sl cv x.cores ∈ R) (hhv : sl hv x.home ∈ R) (hx : CX x) (hfv : sl fv x.frames ∈ R) (honef : fv.oneCell' = true) : Calls Try.prog 54 [.agg #[cv, hv, fv]].toArray w (Cg (fun _ : Unit => vi (Cv x)) (fun _ => L) (fun _ => R)) := by
  have honec : cv.oneCell' = true := isSlice.one (hs.fact hcv)
  have honeh : hv.oneCell' = true := isSlice.one (hs.fact hhv)
  have hn4 := hx.n4
  have hh4 := hx.h4
  refine Ah Try.func54 rfl Try.ntmps54 rfl hs ?_
  clear hs
  refine Gm ?_
  refine bx ?_; intro b1
  refine Gb1 ?_
  refine Ga5 ?_
  refine cdx (p := ?p1) (hd := ?d1) ?e1 ?_ ?_; case e1 => exact rfl
  ·
   intro ht5
   refine Gm ?_
   refine Ga1 ?_
   have er : Cv x = 4 := by unfold Cv; rw [if_pos (by omega)]
   rw [er]
   exact Bm ()
  ·
   intro ht5
   refine Gl ?_
   refine kp [1, 2, 10, 11, 12, 13] ?_
   refine Da 10 (.bool (decide (Dd x = false))) ?_ ?_
   ·
    rcases (show (Dd x = false) ∨ (Dd x = true) from by cases Dd x <;> simp) with hm | hm
    ·
     refine Aa ?_
     refine rn1 ?_
     refine Ar Try.call51 rfl (fun w hs => G7 (x := x) hs hcv hhv hx honef) ?_; intro _
     refine ob (Ka rfl hm) ?_
     refine Ga1 ?_
     refine Ap ?_ (fun w hs => hs)
     refine ⟨by first | exact congrArg (fun b => some (Value.bool b)) (decide_eq_true (by simp [hm])).symm | exact congrArg (fun b => some (Value.bool b)) (by simp; omega), alT⟩
    ·
     refine Aa ?_
     refine rn1 ?_
     refine Ar Try.call51 rfl (fun w hs => G7 (x := x) hs hcv hhv hx honef) ?_; intro _
     refine ob (Dg rfl hm) ?_
     refine Ga1 ?_
     refine Ap ?_ (fun w hs => hs)
     refine ⟨by first | exact congrArg (fun b => some (Value.bool b)) (decide_eq_false (by simp [hm])).symm | exact congrArg (fun b => some (Value.bool b)) (by simp; omega), alT⟩
   ·
    refine As ?_
    first | (refine cdx (p := ?p2) (hd := ?d2) ?e2 ?_ ?_; case e2 => exact rfl) | (refine Bh (b := ?b2) ?e2 ?_ ?_; case e2 => exact rfl)
    ·
     intro ht10
     refine Gm ?_
     refine Ga1 ?_
     have er : Cv x = 6 := by unfold Cv; rw [if_neg (by omega), if_pos (by simpa using ht10)]
     rw [er]
     exact Bm ()
    ·
     intro ht10
     refine Gl ?_
     refine kp [1, 2, 14, 15, 16, 17, 18, 19, 20, 21, 22] ?_
     refine Da 14 (.bool (decide (Ee x = false ∨ Db x = false))) ?_ ?_
     ·
      rcases (show (Ee x = false) ∨ (Ee x = true ∧ Db x = false) ∨ (Ee x = true ∧ Db x = true) from by cases Ee x <;> cases Db x <;> simp) with hm | hm | hm
      ·
       refine Aa ?_
       refine rn1 ?_
       refine Ar Try.call52 rfl (fun w hs => Ip (x := x) hs hcv hhv hx honef) ?_; intro _
       refine ob (Ka rfl hm) ?_
       refine Ga6 ?_
       refine Ap ?_ (fun w hs => hs)
       refine ⟨by first | exact congrArg (fun b => some (Value.bool b)) (decide_eq_true (by simp [hm])).symm | exact congrArg (fun b => some (Value.bool b)) (by simp; omega), alT⟩
      ·
       refine Aa ?_
       refine rn1 ?_
       refine Ar Try.call52 rfl (fun w hs => Ip (x := x) hs hcv hhv hx honef) ?_; intro _
       refine ob (Dg rfl hm.1) ?_
       refine rn2 ?_
       refine gy ?_
       refine Ar Try.call53 rfl (fun w hs => G6 (x := x) hs hcv hhv hx honef) ?_; intro _
       refine gy ?_
       refine ob (Ka rfl hm.2) ?_
       refine Ga2 ?_
       refine Ap ?_ (fun w hs => hs)
       refine ⟨by first | exact congrArg (fun b => some (Value.bool b)) (decide_eq_true (by simp [hm])).symm | exact congrArg (fun b => some (Value.bool b)) (by simp; omega), alT⟩
      ·
       refine Aa ?_
       refine rn1 ?_
       refine Ar Try.call52 rfl (fun w hs => Ip (x := x) hs hcv hhv hx honef) ?_; intro _
       refine ob (Dg rfl hm.1) ?_
       refine rn2 ?_
       refine gy ?_
       refine Ar Try.call53 rfl (fun w hs => G6 (x := x) hs hcv hhv hx honef) ?_; intro _
       refine gy ?_
       refine ob (Dg rfl hm.2) ?_
       refine Ga2 ?_
       refine Ap ?_ (fun w hs => hs)
       refine ⟨by first | exact congrArg (fun b => some (Value.bool b)) (decide_eq_false (by simp [hm])).symm | exact congrArg (fun b => some (Value.bool b)) (by simp; omega), alT⟩
     ·
      refine As ?_
      first | (refine cdx (p := ?p3) (hd := ?d3) ?e3 ?_ ?_; case e3 => exact rfl) | (refine Bh (b := ?b3) ?e3 ?_ ?_; case e3 => exact rfl)
      ·
       intro ht14
       refine Gm ?_
       refine Ga1 ?_
       have er : Cv x = 2 := by unfold Cv; rw [if_neg (by omega), if_neg (by simpa using ht10), if_pos (by simpa using ht14)]
       rw [er]
       exact Bm ()
      ·
       intro ht14
       refine Gm ?_
       refine Ga4 ?_
       refine Bg (γ := Nat) (fun i => i ≤ x.frames.length ∧ Hi (I3 x) i = true) (fun _ => blk b1 46 [cv, hv, fv] :: L) (fun _ => R) (fun i => [(24, fv), (25, vi (x.frames.length : Int)), (26, vi (i : Int))]) (fun i => x.frames.length - i) 0 ⟨Nat.zero_le _, rfl⟩ alT (fun w hs => Aj hs) ?_
       rintro i ⟨hi, hal⟩
       refine Gl ?_
       refine kp [2, 24, 25, 26, 27] ?_
       refine Aa ?_
       refine Ga1 ?_
       refine cdx (p := ?p4) (hd := ?d4) ?e4 ?_ ?_; case e4 => exact rfl
       ·
        intro ht27
        refine Gl ?_
        refine JC.open1 (xs := x.frames) (v := fv) i mm (by omega) (fun _ fu => ?_)
        refine Aa ?_
        refine Gb3 ?_
        refine Ga3 ?_
        refine cdx (p := ?p5) (hd := ?d5) ?e5 ?_ ?_; case e5 => exact rfl
        ·
         intro ht32
         have g32 : ((x.frames.getD i []).length : Int) ≠ 12 := ht32
         refine Gm ?_
         refine Ga1 ?_
         have er : Cv x = 3 := by unfold Cv; rw [if_neg (by omega), if_neg (by simpa using ht10), if_neg (by simpa using ht14), if_pos (Fg (show i < x.frames.length by omega) (by unfold I3; simp only [beq_eq_false_iff_ne]; omega))]
         rw [er]
         exact Bm ()
        ·
         intro ht32
         have g32 : ¬ ((x.frames.getD i []).length : Int) ≠ 12 := ht32
         refine Gm ?_
         refine Ga2 ?_
         refine A1 (i + 1) ⟨by omega, Eg hal (by unfold I3; simp only [beq_iff_eq]; omega)⟩ (by omega) alT (fun w hs => Aj hs)
       ·
        intro ht27
        refine Gm ?_
        refine Ga1 ?_
        have er : Cv x = 0 := by unfold Cv; rw [if_neg (by omega), if_neg (by simpa using ht10), if_neg (by simpa using ht14), if_neg (by rw [show x.frames.length = i by omega, hal]; decide)]
        rw [er]
        exact Bm ()
theorem I7 {L : List Chunk} {R : List Fact} {w : World} {cv hv fv : Value} {x : Chip} (hs : St (L) R w) (hcv : sl cv x.cores ∈ R) (hhv : sl hv x.home ∈ R) (hfv : sl fv x.frames ∈ R) (honef : fv.oneCell' = true) : Calls Try.prog 58 [.agg #[cv, hv, fv]].toArray w (Cg (fun _ : Unit => vi (E1 ⟨(x.cores.length : Int), (x.home.length : Int)⟩ x : Int)) (fun _ => L) (fun _ => R)) := by
  have honec : cv.oneCell' = true := isSlice.one (hs.fact hcv)
  have honeh : hv.oneCell' = true := isSlice.one (hs.fact hhv)
  have hfl := Bv hfv hs
  refine Ah Try.func58 rfl Try.ntmps58 rfl hs ?_
  clear hs
  refine Gm ?_
  refine bx ?_; intro b1
  refine Gb1 ?_
  refine Gb1 ?_
  refine Ga4 ?_
  refine Bg (γ := Nat) (fun i => i ≤ x.frames.length) (fun _ => blk b1 46 [cv, hv, fv] :: L) (fun _ => R) (fun i => [(1, bp b1 0), (3, vi (E0 (C8 ⟨(x.cores.length : Int), (x.home.length : Int)⟩ x) i : Int)), (9, fv), (10, vi (x.frames.length : Int)), (11, vi (i : Int))]) (fun i => x.frames.length - i) 0 (Nat.zero_le _) alT (fun w hs => Aj hs) ?_
  intro i hi
  have hcn := Kw (f := C8 ⟨(x.cores.length : Int), (x.home.length : Int)⟩ x) (k := i)
  refine Gm ?_
  refine Ga1 ?_
  refine cdx (p := ?p1) (hd := ?d1) ?e1 ?_ ?_; case e1 => exact rfl
  ·
   intro ht12
   refine Gl ?_
   refine JC.open1 (xs := x.frames) (v := fv) i mm (by omega) (fun _ fu => ?_)
   refine Aa ?_
   refine Gb3 ?_
   refine rn8 ?_
   refine Ar Try.call93 rfl (fun w hs => U3 (c := ⟨(x.cores.length : Int), (x.home.length : Int)⟩) (b := (x.frames.getD i [])) hs mm) ?_; intro _
   refine rn3 ?_
   refine al_ (cs := zMsg.cells) Try.zeroValue42 ?_; intro b6
   refine s_B (cs := (Af ⟨(x.cores.length : Int), (x.home.length : Int)⟩ (x.frames.getD i [])).1.cells) Try.sizeOf42 ?_
   refine Gb1 ?_
   refine Ga2 ?_
   refine cdx (p := ?p2) (hd := ?d2) ?e2 ?_ ?_; case e2 => exact rfl
   ·
    intro ht28
    refine Aa ?_
    refine Ga3 ?_
    refine kp [1, 2, 3, 5, 6, 7, 9, 10, 11, 12, 13, 14, 15, 16, 17, 18, 19, 20, 21, 22, 23, 24, 25, 26, 27, 28, 29, 30, 31] ?_
    refine Aa ?_
    refine Ga2 ?_
    refine A1 (i + 1) (by omega) (by omega) ⟨rfl, congrArg (fun z : Nat => some (vi (z : Int))) (show _ = E0 (C8 ⟨(x.cores.length : Int), (x.home.length : Int)⟩ x) (i + 1) from (N8 (by unfold C8; simpa using ht28)).symm), alT⟩ (fun w hs => Aj hs)
   ·
    intro ht28
    refine Gm ?_
    refine Ga2 ?_
    refine A1 (i + 1) (by omega) (by omega) ⟨rfl, congrArg (fun z : Nat => some (vi (z : Int))) (show _ = E0 (C8 ⟨(x.cores.length : Int), (x.home.length : Int)⟩ x) (i + 1) from (Jg (by unfold C8; simpa using ht28)).symm), alT⟩ (fun w hs => Aj hs)
  ·
   intro ht12
   refine Gm ?_
   refine Ga2 ?_
   have er : E1 ⟨(x.cores.length : Int), (x.home.length : Int)⟩ x = E0 (C8 ⟨(x.cores.length : Int), (x.home.length : Int)⟩ x) i := by unfold E1; rw [show x.frames.length = i by omega]
   rw [er]
   exact Bm ()
theorem Wd {L : List Chunk} {R : List Fact} {w : World} {cv hv fv : Value} {x : Chip} (hs : St (L) R w) (hcv : sl cv x.cores ∈ R) (hhv : sl hv x.home ∈ R) (hn4 : x.cores.length ≤ 4) (hh4 : x.home.length ≤ 4) (honef : fv.oneCell' = true) : Calls Try.prog 60 [.agg #[cv, hv, fv]].toArray w (Cg (fun _ : Unit => .bool (K2 x)) (fun _ => L) (fun _ => R)) := by
  have honec : cv.oneCell' = true := isSlice.one (hs.fact hcv)
  have honeh : hv.oneCell' = true := isSlice.one (hs.fact hhv)
  refine Ah Try.func60 rfl Try.ntmps60 rfl hs ?_
  clear hs
  refine Gm ?_
  refine bx ?_; intro b1
  refine Gb1 ?_
  refine Ga4 ?_
  refine Bg (γ := Nat) (fun i => i ≤ x.home.length ∧ Hi (Ig x) i = true) (fun _ => blk b1 46 [cv, hv, fv] :: L) (fun _ => R) (fun i => [(1, bp b1 0), (8, hv), (9, vi (x.home.length : Int)), (10, vi (i : Int))]) (fun i => x.home.length - i) 0 ⟨Nat.zero_le _, rfl⟩ alT (fun w hs => Aj hs) ?_
  rintro i ⟨hi, hal⟩
  refine Gm ?_
  refine Ga1 ?_
  refine cdx (p := ?p1) (hd := ?d1) ?e1 ?_ ?_; case e1 => exact rfl
  ·
   intro ht11
   refine Gl ?_
   refine Jw i (v := hv) mm (by omega) (fun hwe ue honeu => ?_)
   refine Aa ?_
   refine rn2 ?_
   refine al_ (cs := [vi 0, vi 0, vi 0, vi 0, vi 0, vi 0, .bool false, vi 0, vi 0, .slice none 0 0]) Try.zeroValue58 ?_; intro b4
   refine s_B (cs := Entry.cells ue (ent x i)) Try.sizeOf58 ?_
   refine Gm ?_
   refine Ga3 ?_
   refine cdx (p := ?p2) (hd := ?d2) ?e2 ?_ ?_; case e2 => exact rfl
   ·
    intro ht16
    refine Gm ?_
    refine Ga1 ?_
    have er : K2 x = false := by unfold K2; rw [Fg (show i < x.home.length by omega) (by unfold Ig; simpa using ht16)]; rfl
    rw [er]
    exact Bm ()
   ·
    intro ht16
    refine Gm ?_
    refine Ga2 ?_
    refine A1 (i + 1) ⟨by omega, Eg hal (by unfold Ig; simpa using ht16)⟩ (by omega) alT (fun w hs => Aj hs)
  ·
   intro ht11
   refine Gm ?_
   refine Ga4 ?_
   refine Bg (γ := Nat) (fun p => p ≤ x.cores.length ∧ Hi (G2 x) p = true) (fun _ => blk b1 46 [cv, hv, fv] :: L) (fun _ => R) (fun p => [(19, cv), (20, vi (x.cores.length : Int)), (21, vi (p : Int))]) (fun p => x.cores.length - p) 0 ⟨Nat.zero_le _, rfl⟩ alT (fun w hs => Aj hs) ?_
   rintro p ⟨hp, hfr⟩
   refine Gm ?_
   refine Ga1 ?_
   refine cdx (p := ?p3) (hd := ?d3) ?e3 ?_ ?_; case e3 => exact rfl
   ·
    intro ht22
    refine Gl ?_
    refine F9 p (v := cv) mm (by omega) (fun hwp up honep => ?_)
    refine Aa ?_
    refine rn2 ?_
    refine al_ (cs := [.slice none 0 0, vi 0, vi 0, vi 0]) Try.zeroValue69 ?_; intro b6
    refine s_B (cs := Core.cells up (cor x p)) Try.sizeOf69 ?_
    refine Gm ?_
    refine Ga4 ?_
    refine cdx (p := ?p4) (hd := ?d4) ?e4 ?_ ?_; case e4 => exact rfl
    ·
     intro ht28
     refine Gm ?_
     refine Ga1 ?_
     have er : K2 x = false := by unfold K2; rw [Fg (f := G2 x) (show p < x.cores.length by omega) (by unfold G2; simpa using ht28)]; simp
     rw [er]
     exact Bm ()
    ·
     intro ht28
     refine Gm ?_
     refine Ga2 ?_
     refine A1 (p + 1) ⟨by omega, Eg hfr (by unfold G2; simpa using ht28)⟩ (by omega) alT (fun w hs => Aj hs)
   ·
    intro ht22
    refine Gm ?_
    refine Ga1 ?_
    have er : K2 x = true := by unfold K2; rw [show x.home.length = i by omega, show x.cores.length = p by omega, hal, hfr]; rfl
    rw [er]
    exact Bm ()
end Go.Proofs.Ytofgpimoekhfaaa

/- This file proves how copies of chips lie in memory, and what chip.Own computes. No conditions. -/
set_option linter.unusedVariables false
set_option linter.unusedSimpArgs false
set_option maxHeartbeats 1000000
set_option maxRecDepth 8000
namespace Go.Proofs.Ytofgpimoekhfaaa
open Go
section
variable {P : Program} {n : Nat} {Q : Exit → Act → World → Prop} {Sh : Rho → (Nat → Bool) → List Chunk} {R0 : List Fact} {al0 : List (Nat × Value)}
variable {ops : Array Oper} {i : Nat} {rest : List Oper} {its : List Item} {d : Nat} {x y : Operand} {T ty : TypeId} {pos : String} {aft : Array Edge}
theorem S3 {α : Type} [Enc α] {t e : TypeId} {d sz bytes : Nat} {z : Value} {xs : List α} {ys : Rho → List α} {v : Value} {u : Rho → Value} (he : ElemOf P t e sz z bytes) (hx : ∀ ρ, ev n (Dy its al0 ρ) x = some v) (hy : ∀ ρ, ev n (Dy its al0 ρ) y = some (u ρ)) (hsz : Enc.sz α = sz) (hpos : 0 < sz)
  (hm : ∀ ρ R', Deps ops R0 its i ρ R' → sl (u ρ) (ys ρ) ∈ R') (hb : ∀ ρ, xs.length + (ys ρ).length ≤ maxN)
  (hSh : ∀ ρ (g : Value) S, S i = false → (∀ j, Bef ops j i → S j = true) → (∀ j, Bef ops i j → S j = false) → ∃ L1, (Sh ρ S).Perm (row e v xs :: L1) ∧ (Sh (Rho.set ρ i (Gh.enc g)) (upS S i)).Perm (row e g (xs ++ ys ρ) :: L1))
  (k : DJ P n ops Q Sh R0 al0 (i + 1) rest (⟨i, some d, fun ρ => (Gh.dec (ρ i) : Value), fun _ => [], fun _ => []⟩ :: its)) :
  DJ P n ops Q Sh R0 al0 i (⟨some d, .call { callee := .builtin .append, args := #[x, y], argTypes := #[t, t] }, ty, pos, aft, none⟩ :: rest) its := by
 refine dj ⟨⟨i, some d, fun ρ => (Gh.dec (ρ i) : Value), fun _ => [], fun _ => []⟩, rfl, rfl, Ind.self (h := fun g => (Gh.dec g : Value)), Ind.const _, Ind.const _, ?_, k⟩
 intro ρ S a L' R' w K hS hbef haft hag hdep hbase hst hK
 rw [if_pos (by simp [Region.wanted])]
 left
 unfold Oper.wp
 obtain ⟨L1, p1, _⟩ := hSh ρ undef S hS hbef haft
 have hs' : St (row e v xs :: (L1 ++ L')) R' w := hst.perm (p1.append_right L')
 obtain ⟨v', w', h1, h2⟩ := Lu (ty := ty) he hsz hpos hs' (hm ρ R' ⟨hbase, hdep⟩) (hb ρ)
 have hx' := Cf hag (by simp [Op.operands, Call.operands]) (hx ρ)
 have hy' := Cf hag (by simp [Op.operands, Call.operands]) (hy ρ)
 rw [Kq (w' := w') (v := v') (by rw [hx', hy']; exact h1), Oper.upon_value]
 obtain ⟨L2, q1, q2⟩ := hSh ρ v' S hS hbef haft
 have e2 : (Rho.set ρ i (Gh.enc v')) i = Gh.enc v' := by simp [Rho.set]
 have h3 := h2
 have hL : L1.Perm L2 := (List.perm_cons _).1 (p1.symm.trans q1)
 have := hK (Gh.enc v') w' ((h3.perm ((hL.append_right L').cons _)).perm (by
  refine List.Perm.trans ?_ (q2.symm.append_right L')
  exact List.Perm.refl _))
 simp only [e2, Gh.ok] at this
 exact this
theorem e_litR {α : Type} [Enc α] {t el : TypeId} {sz bytes len : Nat} {z : Value} {parts : List (Nat × Operand)} {vs : Rho → List Value} (xs : Rho → List α) (he : ElemOf P t el sz z bytes) (hsz : Enc.sz α = sz)
    (ha : ∀ ρ, evL n (Dy its al0 ρ) (parts.map (·.2)) = some (vs ρ)) (hidx : parts.map (·.1) = List.range' 0 len) (hlv : ∀ ρ, (vs ρ).length = len) (hsmall : Nat.ble (len * sz) 1000 = true) (hsm2 : Nat.ble len 1000 = true)
    (hrd : ∀ ρ R', Deps ops R0 its i ρ R' → ∀ j, (∀ q ∈ R', q.p j) → RdV (xs ρ) (vs ρ) j) (hxi : Ind ops i xs) (hxs : ∀ ρ g, xs (Rho.set ρ i g) = xs ρ) (hSh : It ops Sh i)
    (k : DJ P n ops Q Sh R0 al0 (i + 1) rest (⟨i, some d, fun ρ => (Gh.dec (ρ i) : Value), fun ρ => [sl (Gh.dec (ρ i) : Value) (xs ρ)], fun _ => []⟩ :: its)) :
    DJ P n ops Q Sh R0 al0 i (⟨some d, .buildSlice t len parts.toArray, ty, pos, aft, none⟩ :: rest) its := by
  refine dj ⟨⟨i, some d, fun ρ => (Gh.dec (ρ i) : Value), fun ρ => [sl (Gh.dec (ρ i) : Value) (xs ρ)], fun _ => []⟩, rfl, rfl, Ind.self (h := fun g => (Gh.dec g : Value)), (fun q g ρ hq hn => ?_), Ind.const _, ?_, k⟩
  · show [sl (Gh.dec ((Rho.set ρ q g) i) : Value) (xs (Rho.set ρ q g))] = [sl (Gh.dec (ρ i) : Value) (xs ρ)]
    rw [hxi q g ρ hq hn]; simp [Rho.set, Ne.symm hq]
  intro ρ S ac L' R' w K hS hbef haft hag hdep hbase hst hK
  rw [if_pos (by simp [Region.wanted])]
  left
  obtain ⟨j, hj, hrj⟩ := hst.ex
  have hrd' := hrd ρ R' ⟨hbase, hdep⟩
  obtain ⟨h1, h2, h3⟩ := (hrd' j hrj).list
  have hlen := hlv ρ
  have hb := Nat.le_of_ble_eq_true hsmall
  have hb2 := Nat.le_of_ble_eq_true hsm2
  have hrun := Fn (vs := vs ρ) he (fun v hv => by rw [h2 v hv, hsz]) (by rw [hlen]; exact hb) w
  have e : (execOp ac.eval ⟨some d, .buildSlice t len parts.toArray, ty, pos, aft, none⟩).run P w = .ok (.value (.slice (some ⟨w.heap.size, 0, none⟩) len len)) (w.alloc (.cells ((vs ρ).flatMap fun v => v.cells.toList).toArray el)) := by
    show (Instr.buildSlice t len (parts.toArray.map fun (i, x) => (i, ac.eval x)) >>= fun v => Pure.pure (Next.value v)).run P w = _
    have hp : (parts.toArray.map fun (i, x) => (i, ac.eval x)) = ((parts.map (·.1)).zip (vs ρ)).toArray := by
      rw [← Fh hag (fun x hx => by simpa [Op.operands] using hx) (ha ρ)]
      simp only [List.map_toArray, List.map_map, List.zip_map', Function.comp_def]
    rw [hp, hidx, Sem.run_bind, ← hlen, hrun]; rfl
  unfold Oper.wp
  rw [e, Oper.upon_value]
  obtain ⟨m, j', hd, hmw, hjw, hst', hr⟩ := hst
  have hnew : St (row el (.slice (some ⟨w.heap.size, 0, none⟩) len len) (xs ρ) :: (Sh ρ S ++ L')) R' (w.alloc (.cells ((vs ρ).flatMap fun v => v.cells.toList).toArray el)) := by
    obtain ⟨g1, g2, g3⟩ := (hrd' j' hr).list
    have hcl : ((vs ρ).flatMap fun v => v.cells.toList).length = len * sz := by rw [g3.len, g1, hlen, hsz]
    exact St.newC hd hmw hjw hst' hr rfl rfl rfl ⟨by rw [g1, hlen]; have : maxN = 16777216 := rfl; omega, .inr ⟨w.heap.size, len, _, _, by rw [g1, hlen], Et _ _, by rw [g1, hlen]; exact Nat.le_refl _, by unfold maxLen; omega, by rw [hsz]; simpa using hcl, rfl, by
      rw [g1, hlen, hsz, ← hcl, List.toList_toArray, List.take_length]; exact g3⟩⟩
  have e2 : (Rho.set ρ i (Gh.enc (Value.slice (some ⟨w.heap.size, 0, none⟩) len len))) i = Gh.enc (Value.slice (some ⟨w.heap.size, 0, none⟩) len len) := by simp [Rho.set]
  have := hK (Gh.enc (Value.slice (some ⟨w.heap.size, 0, none⟩) len len)) (w.alloc (.cells ((vs ρ).flatMap fun v => v.cells.toList).toArray el))
  simp only [e2, Gh.ok, hxs, hSh ρ _ S hS haft] at this
  exact this hnew.shut
end
structure KV where
 c : Core
 u : Value
instance instEncKV : Enc KV where
 sz := 4
 rd x cs _ := cs = x.c.cells x.u ∧ x.c.wait.wf ∧ x.u.oneCell' = true
 mono _ _ _ _ _ h := h
 len x cs _ h := by rw [h.1]; rfl
 one x cs _ h := by have := h.2.2; rw [h.1]; simp [Core.cells] at this ⊢; refine ⟨this, ?_⟩; simp [Value.oneCell']
def Wt (x : KV) : Chunk := row 82 x.u x.c.lines
theorem Yo {L : List Chunk} {R : List Fact} {w : World} {cv hv fv : Value} {x : Chip} (hs : St (L) R w) (hcv : sl cv x.cores ∈ R) (hhv : sl hv x.home ∈ R) (hfv : sl fv x.frames ∈ R) (hn4 : x.cores.length ≤ 1000) : Calls Try.prog 87 [.agg #[cv, hv, fv]].toArray w (Cg (fun g : Value × Value × Value × List KV => .agg #[g.1, g.2.1, g.2.2.1]) (fun g => row 69 g.1 g.2.2.2 :: (g.2.2.2.map Wt ++ L)) (fun g => pr (g.2.2.2.map KV.c = x.cores) :: sl g.2.2.1 x.frames :: sl g.2.1 x.home :: R)) := by
  have honec : cv.oneCell' = true := isSlice.one (hs.fact hcv)
  have honeh : hv.oneCell' = true := isSlice.one (hs.fact hhv)
  have honef : fv.oneCell' = true := isSlice.one (hs.fact hfv)
  refine Ah Try.func87 rfl Try.ntmps87 rfl hs ?_
  clear hs
  refine Gm ?_
  refine bx ?_; intro b1
  refine al_ (cs := [.slice none 0 0, .slice none 0 0, .slice none 0 0]) Try.zeroValue46 ?_; intro b2
  refine Gl ?_
  refine cq_ (blk b2 46 [.slice none 0 0, .slice none 0 0, .slice none 0 0] :: blk b1 46 [cv, hv, fv] :: L) ?_
  refine jd_ (fun ρ S => blk b2 46 [.slice none 0 0, .slice none 0 0, .slice none 0 0] :: blk b1 46 [cv, hv, fv] :: ((bif S 7 then [blk (Gh.dec (γ := Nat) (ρ 7)) 46 (bif S 8 then [.slice none 0 0, (Gh.dec (γ := Value) (ρ 2)), (Gh.dec (γ := Value) (ρ 5))] else [.slice none 0 0, .slice none 0 0, .slice none 0 0])] else []) ++ (L))) ?_
  refine dn2 ?_
  refine Bp (γ := Value) (val := fun v => v) (F := fun v => [sl v x.home]) Try.call33 (fun _ => rfl) (fun ρ L R w hd hs => Uz (l := x.home) hs (hd.base mm)) (fun ρ g S hS hA => by have u7 : upS S 2 7 = S 7 := rfl; have u8 : upS S 2 8 = S 8 := rfl; have r5 : Rho.set ρ 2 g 5 = ρ 5 := rfl; have r7 : Rho.set ρ 2 g 7 = ρ 7 := rfl; have h8 : S 8 = false := hA 8 ⟨0, rfl⟩; simp only [u7, u8, r5, r7, h8, cond_false]) ?_
  refine dn2 ?_
  refine Bp (γ := Value) (val := fun v => v) (F := fun v => [sl v x.frames]) Try.call19 (fun _ => rfl) (fun ρ L R w hd hs => frz (netOwn (l := x.frames) hs (hd.base mm))) (fun ρ g S hS hA => by have u7 : upS S 5 7 = S 7 := rfl; have u8 : upS S 5 8 = S 8 := rfl; have r2 : Rho.set ρ 5 g 2 = ρ 2 := rfl; have r7 : Rho.set ρ 5 g 7 = ρ 7 := rfl; have h8 : S 8 = false := hA 8 ⟨0, rfl⟩; simp only [u7, u8, r2, r7, h8, cond_false]) ?_
  refine e_pd (v := fun ρ => .agg ([.slice none 0 0, (Gh.dec (γ := Value) (ρ 2)), (Gh.dec (γ := Value) (ρ 5))]).toArray) (fun ρ S R' L' w hd hs => by have h1 : ((Gh.dec (γ := Value) (ρ 2))).oneCell' = true := isSlice.one (hs.fact (hd.dep (it := ⟨2, _, _, _, _⟩) (by repeat (first | exact List.Mem.head _ | refine List.Mem.tail _ ?_)) ⟨9, rfl⟩ (List.Mem.head _))); have h2 : ((Gh.dec (γ := Value) (ρ 5))).oneCell' = true := isSlice.one (hs.fact (hd.dep (it := ⟨5, _, _, _, _⟩) (by repeat (first | exact List.Mem.head _ | refine List.Mem.tail _ ?_)) ⟨9, rfl⟩ (List.Mem.head _))); exact Jm Ou) (Ind.gh2 (h := fun g g' => Value.agg ([.slice none 0 0, (Gh.dec (γ := Value) g), (Gh.dec (γ := Value) g')]).toArray) 2 5 3 rfl rfl) (fun _ _ _ _ _ => rfl) ?_
  refine Kt (cs := [.slice none 0 0, .slice none 0 0, .slice none 0 0]) Try.zeroValue46 rfl (fun ρ b S hS hA => ?_) ?_
  ·
   have ui : upS S 7 7 = true := rfl; have u8 : upS S 7 8 = S 8 := rfl; have r2 : Rho.set ρ 7 (Gh.enc b) 2 = ρ 2 := rfl; have r5 : Rho.set ρ 7 (Gh.enc b) 5 = ρ 5 := rfl; have h8 : S 8 = false := hA 8 ⟨0, rfl⟩; have rs : (Gh.dec (γ := Nat) (Rho.set ρ 7 (Gh.enc b) 7)) = b := rfl
   simp only [ui, hS, u8, r2, r5, h8, rs, cond_true, cond_false, List.nil_append]
   exact Ins.perm (by repeat (first | exact .hd | exact .hc | refine .tl ?_ | refine .ap ?_))
  refine es_ 46 0 [7] [] (fun ρ => (Gh.dec (γ := Nat) (ρ 7))) (fun ρ => [.slice none 0 0, .slice none 0 0, .slice none 0 0]) (fun ρ => [.slice none 0 0, (Gh.dec (γ := Value) (ρ 2)), (Gh.dec (γ := Value) (ρ 5))]) Try.sizeOf46 (h1 := (fun ρ R w L' hd hs => Be rfl (Be (isSlice.one (hs.fact (hd.dep (it := ⟨2, _, _, _, _⟩) (by repeat (first | exact List.Mem.head _ | refine List.Mem.tail _ ?_)) ⟨9, rfl⟩ (List.Mem.head _)))) (Be (isSlice.one (hs.fact (hd.dep (it := ⟨5, _, _, _, _⟩) (by repeat (first | exact List.Mem.head _ | refine List.Mem.tail _ ?_)) ⟨9, rfl⟩ (List.Mem.head _)))) Di)))) ?_
  refine dnl ?_; intro ρ
  refine xq_ (blk b2 46 [.slice none 0 0, .slice none 0 0, .slice none 0 0] :: blk b1 46 [cv, hv, fv] :: (blk (Gh.dec (γ := Nat) (ρ 7)) 46 [.slice none 0 0, (Gh.dec (γ := Value) (ρ 2)), (Gh.dec (γ := Value) (ρ 5))] :: L)) ?_
  generalize (Gh.dec (γ := Value) (ρ 2)) = v8
  generalize (Gh.dec (γ := Value) (ρ 5)) = v11
  generalize (Gh.dec (γ := Nat) (ρ 7)) = b3
  refine Gm ?_
  refine Ga4 ?_
  refine JC.rowNil 69 KV ?_
  refine Bg (γ := Nat × Value × List KV) (fun g => g.1 ≤ x.cores.length ∧ g.2.2.map KV.c = x.cores.take g.1) (fun g => row 69 g.2.1 g.2.2 :: blk b3 46 [g.2.1, v8, v11] :: blk b2 46 [.slice none 0 0, .slice none 0 0, .slice none 0 0] :: blk b1 46 [cv, hv, fv] :: (g.2.2.map Wt ++ L)) (fun _ => sl v11 x.frames :: sl v8 x.home :: R) (fun g => [(2, bp b2 0), (3, bp b3 0), (14, cv), (15, vi (x.cores.length : Int)), (16, vi (g.1 : Int))]) (fun g => x.cores.length - g.1) (0, .slice none 0 0, []) ⟨Nat.zero_le _, by simp⟩ alT (fun w hs => Aj hs) ?_
  rintro ⟨k, vs, xs⟩ ⟨hk, hxc⟩
  try simp only at hk hxc ⊢
  have hxl : xs.length = k := by
   have := congrArg List.length hxc
   simp at this; omega
  refine Gm ?_
  refine Ga1 ?_
  refine cdx (p := ?p1) (hd := ?d1) ?e1 ?_ ?_; case e1 => exact rfl
  ·
   intro ht17
   refine Gl ?_
   refine F9 k (v := cv) mm (by omega) (fun hwp up honep => ?_)
   refine Aa ?_
   refine rn2 ?_
   refine al_ (cs := [.slice none 0 0, vi 0, vi 0, vi 0]) Try.zeroValue69 ?_; intro b5
   refine s_B (cs := Core.cells up (cor x k)) Try.sizeOf69 ?_
   refine Gl ?_
   refine cq_ (blk b3 46 [vs, v8, v11] :: row 69 vs xs :: blk b5 69 (Core.cells up (cor x k)) :: blk b2 46 [.slice none 0 0, .slice none 0 0, .slice none 0 0] :: blk b1 46 [cv, hv, fv] :: (xs.map Wt ++ L)) ?_
   refine jd_ (fun ρ S => blk b3 46 (bif S 7 then [(Gh.dec (γ := Value) (ρ 5)), v8, v11] else [vs, v8, v11]) :: (bif S 5 then row 69 (Gh.dec (γ := Value) (ρ 5)) (xs ++ [(⟨cor x k, (Gh.dec (γ := Value) (ρ 3))⟩ : KV)]) else row 69 vs xs) :: blk b5 69 (Core.cells up (cor x k)) :: blk b2 46 [.slice none 0 0, .slice none 0 0, .slice none 0 0] :: blk b1 46 [cv, hv, fv] :: ((xs.map Wt ++ L))) ?_
   refine dn1 ?_
   refine Vz (v := vs) (fun ρ S hS hB hA => by have h7 : S 7 = false := hA 7 ⟨0, rfl⟩; simp only [h7, cond_false]; exact C6 (hc := A9 pkk (by repeat (first | exact rfl | refine Jj rfl ?_))) Try.isAgg43) (fun _ _ _ _ _ => rfl) ?_
   refine dn1 ?_
   refine S2 (γ := Value) (val := fun v => .agg (Core.cells v (cor x k)).toArray) (F := fun v => [pr (v.oneCell' = true)]) (C := fun v => [row 82 v (cor x k).lines]) Try.call43 (fun _ => rfl) (fun ρ L R w hd hs => I8 (Yj (u := up) (c := cor x k) hs (hd.base mm)) (fun v w hs => ⟨v, rfl, St.pr (Hv .hd hs) hs⟩)) (fun ρ g S hS hA => by have u5 : upS S 3 5 = S 5 := rfl; have u7 : upS S 3 7 = S 7 := rfl; have r5 : Rho.set ρ 3 g 5 = ρ 5 := rfl; have h5 : S 5 = false := hA 5 ⟨0, rfl⟩; simp only [u5, u7, r5, h5, cond_false]) ?_
   refine e_litR (fun ρ => [(⟨cor x k, (Gh.dec (γ := Value) (ρ 3))⟩ : KV)]) Rd rfl (fun _ => rfl) rfl (fun _ => rfl) rfl rfl (fun ρ R hd j hj => ⟨⟨_, rfl, rfl, hwp, hj (pr (((Gh.dec (γ := Value) (ρ 3))).oneCell' = true)) (hd.dep (it := ⟨3, _, _, _, _⟩) (by repeat (first | exact List.Mem.head _ | refine List.Mem.tail _ ?_)) ⟨9, rfl⟩ (List.Mem.head _))⟩, trivial⟩) (Ind.gh (h := fun g => [(⟨cor x k, Gh.dec (γ := Value) g⟩ : KV)]) 3 0 rfl) (fun _ _ => rfl) (fun _ _ _ _ _ => rfl) ?_
   refine S3 (e := 69) (xs := xs) (ys := fun ρ => [(⟨cor x k, (Gh.dec (γ := Value) (ρ 3))⟩ : KV)]) (v := vs) Rd (fun _ => rfl) (fun _ => rfl) rfl (by decide) (fun ρ R hd => (hd.dep (it := ⟨4, _, _, _, _⟩) (by repeat (first | exact List.Mem.head _ | refine List.Mem.tail _ ?_)) ⟨9, rfl⟩ (List.Mem.head _))) (fun _ => by have : maxN = 16777216 := rfl; simp only [List.length_cons, List.length_nil]; omega) (fun ρ g S hS hB hA => ?_) ?_
   ·
    have ui : upS S 5 5 = true := rfl; have u7 : upS S 5 7 = S 7 := rfl; have r3 : Rho.set ρ 5 (Gh.enc g) 3 = ρ 3 := rfl; have h7 : S 7 = false := hA 7 ⟨0, rfl⟩; have rs : (Gh.dec (γ := Value) (Rho.set ρ 5 (Gh.enc g) 5)) = g := rfl
    simp only [ui, hS, u7, r3, h7, rs, cond_true, cond_false]
    exact Pos.ex (by repeat (first | exact .hd | exact .hc | apply Pos.tl | apply Pos.ap))
   refine dn1 ?_
   refine Mi (T0 := 46) (f := 0) (vs := fun ρ => [vs, v8, v11]) (v := fun ρ => (Gh.dec (γ := Value) (ρ 5))) (fun ρ => b3) Try.sizeOf43 (fun _ => rfl) (fun _ => rfl) (fun ρ S R w L9 hB hd hs => by have h5 : S 5 = true := hB 5 ⟨9, rfl⟩; simp only [h5, cond_true] at hs; exact Hv pkk hs) (fun _ => rfl) (fun ρ g S hS hB hA => ?_) ?_
   ·
    have ui : upS S 7 7 = true := rfl; have u5 : upS S 7 5 = S 5 := rfl; have r3 : Rho.set ρ 7 g 3 = ρ 3 := rfl; have r5 : Rho.set ρ 7 g 5 = ρ 5 := rfl
    simp only [ui, hS, u5, r3, r5, cond_true, cond_false]
    exact Pos.ex (by repeat (first | exact .hd | exact .hc | apply Pos.tl | apply Pos.ap))
   refine dnl ?_; intro ρ
   refine JX.conseq (L' := row 82 (Gh.dec (γ := Value) (ρ 3)) (cor x k).lines :: blk b3 46 [(Gh.dec (γ := Value) (ρ 5)), v8, v11] :: row 69 (Gh.dec (γ := Value) (ρ 5)) (xs ++ [(⟨cor x k, (Gh.dec (γ := Value) (ρ 3))⟩ : KV)]) :: blk b5 69 (Core.cells up (cor x k)) :: blk b2 46 [.slice none 0 0, .slice none 0 0, .slice none 0 0] :: blk b1 46 [cv, hv, fv] :: ((xs.map Wt ++ L))) (fun w hs => Aj hs) ?_
   generalize (Gh.dec (γ := Value) (ρ 3)) = v23
   generalize (Gh.dec (γ := Value) (ρ 4)) = v24
   generalize (Gh.dec (γ := Value) (ρ 5)) = v25
   refine Gm ?_
   refine Ga2 ?_
   refine A1 (k + 1, v25, xs ++ [⟨cor x k, v23⟩]) ⟨by show k + 1 ≤ x.cores.length; omega, by rw [List.map_append, hxc, Hu Hj (by omega)]; rfl⟩ (by show x.cores.length - (k + 1) < x.cores.length - k; omega) alT (fun w hs => ?_)
   try simp only
   have h9 : St (row 69 v25 (xs ++ [⟨cor x k, v23⟩]) :: blk b3 46 [v25, v8, v11] :: blk b2 46 [.slice none 0 0, .slice none 0 0, .slice none 0 0] :: blk b1 46 [cv, hv, fv] :: row 82 v23 (cor x k).lines :: (xs.map Wt ++ L)) (sl v11 x.frames :: sl v8 x.home :: R) w := Aj hs
   refine h9.perm (.cons _ (.cons _ (.cons _ (.cons _ ?_))))
   rw [List.map_append, List.append_assoc]
   exact List.perm_middle.symm
  ·
   intro ht17
   refine Gl ?_
   refine JC.know (p := vs.oneCell' = true) (fun w hs => Hv .hd hs) (fun hone5 => ?_)
   refine JC.know (p := v8.oneCell' = true ∧ v11.oneCell' = true) (fun w hs => ⟨isSlice.one (hs.fact (.tail _ (.head _))), isSlice.one (hs.fact (.head _))⟩) (fun h12 => ?_)
   obtain ⟨hone1, hone2⟩ := h12
   refine Aa ?_
   refine rn1 ?_
   refine s_B (cs := [vs, v8, v11]) Try.sizeOf46 ?_
   refine Gl ?_
   have hkl : k = x.cores.length := by omega
   rw [hkl, List.take_length] at hxc
   exact Na (vs, v8, v11, xs) Try.isAgg46 Try.sizeOf46 (hs := fun w hs => St.pr hxc (Aj hs))
end Go.Proofs.Ytofgpimoekhfaaa

/- This file proves what a keeper of the program's core asks, and how it finishes an operation. No conditions. -/
set_option linter.unusedVariables false
set_option linter.unusedSimpArgs false
set_option maxHeartbeats 1000000
set_option maxRecDepth 8000
namespace Go.Proofs.Ytofgpimoekhfaaa
open Go
theorem Nv {L : List Chunk} {R : List Fact} {w : World} {v : Value} {ls : List Line} {i : Nat} (e : Line) (he : e.wf) (hs : St (foc 82 v ls i e.cells :: L) R w) : St (row 82 v (ls.set i e) :: L) R w := hs.unfocus (fun j _ => ⟨rfl, he⟩)
end Go.Proofs.Ytofgpimoekhfaaa

/- This file proves what a new chip is, by the document's answer. No conditions. -/
set_option linter.unusedVariables false
set_option linter.unusedSimpArgs false
set_option maxHeartbeats 1000000
set_option maxRecDepth 8000
namespace Go.Proofs.Ytofgpimoekhfaaa
open Go
def Hn (c : Config) : Entry := { A8 with last := List.replicate c.cores.toNat 0 }
def Je (c : Config) : Core := ⟨List.replicate c.lines.toNat zLine, zOp⟩
theorem Ps {α : Type} (k : Nat) (a : α) : List.replicate (k + 1) a = List.replicate k a ++ [a] := List.replicate_succ' ..
theorem Sm (c : Config) : (Hn c).wf := by unfold Hn A8 Entry.wf An; simp only; omega
theorem Gf {c : Config} (h : c.cores < 1 ∨ 4 < c.cores ∨ c.lines < 1 ∨ 4 < c.lines) : Bt c = (zChip, 3) := by unfold Bt Iq; rw [if_pos h, if_pos (by decide)]
theorem Od {c : Config} (h : ¬ (c.cores < 1 ∨ 4 < c.cores ∨ c.lines < 1 ∨ 4 < c.lines)) : Bt c = (⟨List.replicate c.cores.toNat (Je c), List.replicate c.lines.toNat (Hn c), []⟩, 0) := by unfold Bt Iq; rw [if_neg h, if_neg (by decide)]; rfl
theorem Vt {L : List Chunk} {R : List Fact} {w : World} {c : Config} (hs : St (L) R w) (hc : c.wf) : Calls Try.prog 35 [.agg c.cells.toArray].toArray w (Cg (fun v : Value × Value => .tuple #[.agg #[v.1, v.2, .slice none 0 0], vi (Bt c).2]) (fun v => L) (fun v => sl v.1 (Bt c).1.cores :: sl v.2 (Bt c).1.home :: sl (.slice none 0 0) (Bt c).1.frames :: R)) := by
  refine Ah Try.func35 rfl Try.ntmps35 rfl hs ?_
  clear hs
  refine Gm ?_
  refine bx ?_; intro b1
  refine al_ (cs := [.slice none 0 0, .slice none 0 0, .slice none 0 0]) Try.zeroValue46 ?_; intro b2
  refine Ga1 ?_
  rcases (show (c.cores < 1) ∨ (¬ c.cores < 1 ∧ 4 < c.cores) ∨ (¬ c.cores < 1 ∧ ¬ 4 < c.cores ∧ c.lines < 1) ∨ (¬ c.cores < 1 ∧ ¬ 4 < c.cores ∧ ¬ c.lines < 1 ∧ 4 < c.lines) ∨ (1 ≤ c.cores ∧ c.cores ≤ 4 ∧ 1 ≤ c.lines ∧ c.lines ≤ 4) from by omega) with hc | hc | hc | hc | hc
  ·
   refine Aa ?_
   refine rn2 ?_
   refine ob (Ae rfl rfl (Co (by omega))) ?_
   refine Gc15 ?_
   refine JC.slNil Core ?_
   refine JC.slNil Entry ?_
   refine JC.slNil (List UInt8) ?_
   refine Aa ?_
   refine ob (Gp (cs := [.slice none 0 0, .slice none 0 0, .slice none 0 0]) Ou) ?_
   refine s_B Try.sizeOf46 ?_
   refine Ga1 ?_
   have er : Bt c = (zChip, 3) := Gf (by omega)
   rw [er]
   exact Fv (.slice none 0 0, .slice none 0 0) Try.isAgg46 Try.sizeOf46
  ·
   refine Aa ?_
   refine rn2 ?_
   refine ob (Ae rfl rfl (Al (by omega))) ?_
   refine rn3 ?_
   refine gy ?_
   refine ob (Ae rfl rfl (C5 (by omega))) ?_
   refine Gc11 ?_
   refine JC.slNil Core ?_
   refine JC.slNil Entry ?_
   refine JC.slNil (List UInt8) ?_
   refine Aa ?_
   refine ob (Gp (cs := [.slice none 0 0, .slice none 0 0, .slice none 0 0]) Ou) ?_
   refine s_B Try.sizeOf46 ?_
   refine Ga1 ?_
   have er : Bt c = (zChip, 3) := Gf (by omega)
   rw [er]
   exact Fv (.slice none 0 0, .slice none 0 0) Try.isAgg46 Try.sizeOf46
  ·
   refine Aa ?_
   refine rn2 ?_
   refine ob (Ae rfl rfl (Al (by omega))) ?_
   refine rn3 ?_
   refine gy ?_
   refine ob (Ae rfl rfl (Bu (by omega))) ?_
   refine rn4 ?_
   refine gy ?_
   refine ob (Ae rfl rfl (Co (by omega))) ?_
   refine Gc6 ?_
   refine JC.slNil Core ?_
   refine JC.slNil Entry ?_
   refine JC.slNil (List UInt8) ?_
   refine Aa ?_
   refine ob (Gp (cs := [.slice none 0 0, .slice none 0 0, .slice none 0 0]) Ou) ?_
   refine s_B Try.sizeOf46 ?_
   refine Ga1 ?_
   have er : Bt c = (zChip, 3) := Gf (by omega)
   rw [er]
   exact Fv (.slice none 0 0, .slice none 0 0) Try.isAgg46 Try.sizeOf46
  ·
   refine Aa ?_
   refine rn2 ?_
   refine ob (Ae rfl rfl (Al (by omega))) ?_
   refine rn3 ?_
   refine gy ?_
   refine ob (Ae rfl rfl (Bu (by omega))) ?_
   refine rn4 ?_
   refine gy ?_
   refine ob (Ae rfl rfl (Al (by omega))) ?_
   refine rn4 ?_
   refine gy ?_
   refine ob (Ae rfl rfl (C5 (by omega))) ?_
   refine Gc1 ?_
   refine JC.slNil Core ?_
   refine JC.slNil Entry ?_
   refine JC.slNil (List UInt8) ?_
   refine Aa ?_
   refine ob (Gp (cs := [.slice none 0 0, .slice none 0 0, .slice none 0 0]) Ou) ?_
   refine s_B Try.sizeOf46 ?_
   refine Ga1 ?_
   have er : Bt c = (zChip, 3) := Gf (by omega)
   rw [er]
   exact Fv (.slice none 0 0, .slice none 0 0) Try.isAgg46 Try.sizeOf46
  ·
   refine Aa ?_
   refine rn2 ?_
   refine ob (Ae rfl rfl (Al (by omega))) ?_
   refine rn3 ?_
   refine gy ?_
   refine ob (Ae rfl rfl (Bu (by omega))) ?_
   refine rn4 ?_
   refine gy ?_
   refine ob (Ae rfl rfl (Al (by omega))) ?_
   refine rn4 ?_
   refine gy ?_
   refine ob (Ae rfl rfl (Bu (by omega))) ?_
   refine Gd1 ?_
   refine al_ (cs := [.slice none 0 0, .slice none 0 0, .slice none 0 0]) Try.zeroValue46 ?_; intro b4
   refine Gm ?_
   refine Ga3 ?_
   refine JC.rowNil 58 Entry ?_
   refine Bg (γ := Nat × Value) (fun g => (g.1 : Int) ≤ c.lines) (fun g => row 58 g.2 (List.replicate g.1 (Hn c)) :: blk b4 46 [.slice none 0 0, g.2, .slice none 0 0] :: blk b1 39 c.cells :: blk b2 46 [.slice none 0 0, .slice none 0 0, .slice none 0 0] :: L) (fun _ => R) (fun g => [(1, bp b1 0), (2, bp b2 0), (4, bp b4 0), (25, vi c.lines), (26, vi (g.1 : Int))]) (fun g => c.lines.toNat - g.1) (0, .slice none 0 0) (by show (0 : Int) ≤ c.lines; omega) alT (fun w hs => Aj hs) ?_
   rintro ⟨k, vh⟩ hk
   try simp only at hk ⊢
   refine Gm ?_
   refine Ga1 ?_
   refine cdx (p := ?p1) (hd := ?d1) ?e1 ?_ ?_; case e1 => exact rfl
   ·
    intro ht27
    refine Gl ?_
    refine cq_ (row 58 vh (List.replicate k (Hn c)) :: blk b4 46 [.slice none 0 0, vh, .slice none 0 0] :: blk b1 39 c.cells :: blk b2 46 [.slice none 0 0, .slice none 0 0, .slice none 0 0] :: L) ?_
    refine jd_ (fun ρ S => row 58 vh (List.replicate k (Hn c)) :: blk b4 46 [.slice none 0 0, vh, .slice none 0 0] :: blk b1 39 c.cells :: blk b2 46 [.slice none 0 0, .slice none 0 0, .slice none 0 0] :: L) ?_
    refine dn4 ?_
    refine Vy (a := c.cores) (x0 := (0 : Int)) (zc := [vi 0]) D3 rfl (by decide) (fun _ => rfl) (fun _ => rfl) rfl (fun j => ⟨rfl, by unfold An; omega⟩) (by omega) (by omega) (fun _ _ _ _ => rfl) ?_
    refine e_pd (v := fun ρ => .agg ([vi 0, vi (-1), vi 0, vi 0, vi 0, vi 0, .bool false, vi 0, vi 0, (Gh.dec (γ := Value) (ρ 4))]).toArray) (fun ρ S R' L' w hd hs => by have h1 : (Gh.dec (γ := Value) (ρ 4)).oneCell' = true := isSlice.one (hs.fact (hd.dep (it := ⟨4, _, _, _, _⟩) (by repeat (first | exact List.Mem.head _ | refine List.Mem.tail _ ?_)) ⟨9, rfl⟩ (List.Mem.head _))); exact Jm st_58) (Ind.gh (h := fun g => Value.agg ([vi 0, vi (-1), vi 0, vi 0, vi 0, vi 0, .bool false, vi 0, vi 0, (Gh.dec (γ := Value) g)]).toArray) 4 3 rfl) (fun _ _ _ _ _ => rfl) ?_
    refine Gn ([Hn c] : List Entry) Rb rfl (fun _ => rfl) rfl (fun _ => rfl) rfl rfl (fun ρ R hd j hj => ⟨⟨_, rfl, ⟨_, rfl, hj _ (hd.dep (it := ⟨4, _, _, _, _⟩) (by repeat (first | exact List.Mem.head _ | refine List.Mem.tail _ ?_)) ⟨9, rfl⟩ (List.Mem.head _)), Sm c⟩⟩, trivial⟩) (fun _ _ _ _ _ => rfl) ?_
    refine dtl ?_; intro ρ
    refine J.conseq (L' := row 58 vh (List.replicate k (Hn c)) :: blk b4 46 [.slice none 0 0, vh, .slice none 0 0] :: blk b1 39 c.cells :: blk b2 46 [.slice none 0 0, .slice none 0 0, .slice none 0 0] :: L) (fun w hs => hs) ?_
    generalize (Gh.dec (γ := Value) (ρ 4)) = v32
    generalize (Gh.dec (γ := Value) (ρ 6)) = v34
    refine ap Rb (hb := fun w hs => by have : maxN = 16777216 := rfl; simp only [List.length_cons, List.length_nil, List.length_replicate]; omega) (k := ?_); intro v35
    refine rn1 ?_
    refine J.know (p := v35.oneCell' = true) (fun w hs => Hv (v := v35) pkk hs) (fun honev35 => ?_)
    refine sc ?_
    refine Gl ?_
    refine kp [1, 2, 3, 4, 25, 26, 27, 28, 29, 30, 31, 32, 33, 34, 35, 36, 37] ?_
    refine Aa ?_
    refine Ga2 ?_
    refine A1 (k + 1, v35) (by show ((k + 1 : Nat) : Int) ≤ c.lines; omega) (by show c.lines.toNat - (k + 1) < c.lines.toNat - k; omega) alT (fun w hs => ?_)
    try simp only
    rw [Ps]; exact Aj hs
   ·
    intro ht27
    refine Gm ?_
    refine Ga3 ?_
    refine JC.shut (v := vh) pkk ?_
    refine JC.know (p := vh.oneCell' = true) (fun w hs => isSlice.one (hs.fact (List.Mem.head _))) (fun honeh => ?_)
    refine JC.rowNil 69 Core ?_
    refine Bg (γ := Nat × Value) (fun g => (g.1 : Int) ≤ c.cores) (fun g => row 69 g.2 (List.replicate g.1 (Je c)) :: blk b4 46 [g.2, vh, .slice none 0 0] :: blk b1 39 c.cells :: blk b2 46 [.slice none 0 0, .slice none 0 0, .slice none 0 0] :: L) (fun _ => sl vh (List.replicate k (Hn c)) :: R) (fun g => [(1, bp b1 0), (2, bp b2 0), (4, bp b4 0), (39, vi c.cores), (40, vi (g.1 : Int))]) (fun g => c.cores.toNat - g.1) (0, .slice none 0 0) (by show (0 : Int) ≤ c.cores; omega) alT (fun w hs => Aj hs) ?_
    rintro ⟨k2, vc⟩ hk2
    try simp only at hk2 ⊢
    refine Gm ?_
    refine Ga1 ?_
    refine cdx (p := ?p2) (hd := ?d2) ?e2 ?_ ?_; case e2 => exact rfl
    ·
     intro ht41
     refine Gl ?_
     refine cq_ (row 69 vc (List.replicate k2 (Je c)) :: blk b4 46 [vc, vh, .slice none 0 0] :: blk b1 39 c.cells :: blk b2 46 [.slice none 0 0, .slice none 0 0, .slice none 0 0] :: L) ?_
     refine jd_ (fun ρ S => row 69 vc (List.replicate k2 (Je c)) :: blk b4 46 [vc, vh, .slice none 0 0] :: blk b1 39 c.cells :: blk b2 46 [.slice none 0 0, .slice none 0 0, .slice none 0 0] :: L) ?_
     refine dn4 ?_
     refine Vy (a := c.lines) (x0 := zLine) (zc := zLine.cells) S1 rfl (by decide) (fun _ => rfl) (fun _ => rfl) rfl (fun j => ⟨rfl, by unfold Line.wf An zLine; simp only; omega⟩) (by omega) (by omega) (fun _ _ _ _ => rfl) ?_
     refine e_pd (v := fun ρ => .agg ([(Gh.dec (γ := Value) (ρ 4)), vi 0, vi 0, vi 0]).toArray) (fun ρ S R' L' w hd hs => by have h1 : (Gh.dec (γ := Value) (ρ 4)).oneCell' = true := isSlice.one (hs.fact (hd.dep (it := ⟨4, _, _, _, _⟩) (by repeat (first | exact List.Mem.head _ | refine List.Mem.tail _ ?_)) ⟨9, rfl⟩ (List.Mem.head _))); exact Jm J2) (Ind.gh (h := fun g => Value.agg ([(Gh.dec (γ := Value) g), vi 0, vi 0, vi 0]).toArray) 4 3 rfl) (fun _ _ _ _ _ => rfl) ?_
     refine Gn ([Je c] : List Core) Rd rfl (fun _ => rfl) rfl (fun _ => rfl) rfl rfl (fun ρ R hd j hj => ⟨⟨_, rfl, ⟨_, rfl, hj _ (hd.dep (it := ⟨4, _, _, _, _⟩) (by repeat (first | exact List.Mem.head _ | refine List.Mem.tail _ ?_)) ⟨9, rfl⟩ (List.Mem.head _)), by unfold Je zOp Op.wf An; simp only; omega⟩⟩, trivial⟩) (fun _ _ _ _ _ => rfl) ?_
     refine dtl ?_; intro ρ
     refine J.conseq (L' := row 69 vc (List.replicate k2 (Je c)) :: blk b4 46 [vc, vh, .slice none 0 0] :: blk b1 39 c.cells :: blk b2 46 [.slice none 0 0, .slice none 0 0, .slice none 0 0] :: L) (fun w hs => hs) ?_
     generalize (Gh.dec (γ := Value) (ρ 4)) = v46
     generalize (Gh.dec (γ := Value) (ρ 6)) = v48
     refine ap Rd (hb := fun w hs => by have : maxN = 16777216 := rfl; simp only [List.length_cons, List.length_nil, List.length_replicate]; omega) (k := ?_); intro v49
     refine rn1 ?_
     refine J.know (p := v49.oneCell' = true) (fun w hs => Hv (v := v49) pkk hs) (fun honev49 => ?_)
     refine sc ?_
     refine Gl ?_
     refine kp [1, 2, 3, 4, 39, 40, 41, 42, 43, 44, 45, 46, 47, 48, 49, 50, 51] ?_
     refine Aa ?_
     refine Ga2 ?_
     refine A1 (k2 + 1, v49) (by show ((k2 + 1 : Nat) : Int) ≤ c.cores; omega) (by show c.cores.toNat - (k2 + 1) < c.cores.toNat - k2; omega) alT (fun w hs => ?_)
     try simp only
     rw [Ps]; exact Aj hs
    ·
     intro ht41
     refine Gl ?_
     refine JC.shut (v := vc) pkk ?_
     refine JC.know (p := vc.oneCell' = true) (fun w hs => isSlice.one (hs.fact (List.Mem.head _))) (fun honec => ?_)
     refine JC.slNil (List UInt8) ?_
     refine Aa ?_
     refine rn1 ?_
     refine s_B Try.sizeOf46 ?_
     refine Ga1 ?_
     have er : Bt c = (⟨List.replicate k2 (Je c), List.replicate k (Hn c), []⟩, 0) := by rw [Od (by omega), show c.lines.toNat = k by omega, show c.cores.toNat = k2 by omega]
     rw [er]
     exact Fv (vc, vh) Try.isAgg46 Try.sizeOf46
end Go.Proofs.Ytofgpimoekhfaaa

/- This file proves what the home hears, by the document's answer: some kinds of messages. No conditions. -/
set_option linter.unusedVariables false
set_option linter.unusedSimpArgs false
set_option maxHeartbeats 1000000
set_option maxRecDepth 8000
namespace Go.Proofs.Ytofgpimoekhfaaa
open Go
theorem Nj {L : List Chunk} {R : List Fact} {w : World} {v0 : Value} {l : List Entry} {id : Int} {m : Msg} (hs : St (L) R w) (h0 : sl v0 l ∈ R) (hb : ∀ i, i < l.length → EB (l.getD i A8)) (hla : ∀ i, i < l.length → (l.getD i A8).last.length ≤ 4) (hm : m.wf) (hid : An id) (hk : ¬ (0 ≤ m.line ∧ m.line < (l.length : Int) ∧ 0 ≤ m.src ∧ m.src < ((Ad l m.line).last.length : Int))) : Calls Try.prog 30 [v0, vi id, .agg m.cells.toArray].toArray w (Cg (fun v : Value × Value => .tuple #[v.1, v.2]) (fun v => L) (fun v => sl v.1 (Am l id m).1 :: sl v.2 (Am l id m).2 :: R)) := by
  have hlen := Bv h0 hs
  have hm0 := hm
  unfold Msg.wf An at hm0
  have hid0 := hid
  unfold An at hid0
  refine Ah Try.func30 rfl Try.ntmps30 rfl hs ?_
  clear hs
  refine Gm ?_
  refine bx ?_; intro b5
  refine Ga2 ?_
  rcases (show (m.line < 0) ∨ (¬ m.line < 0 ∧ (l.length : Int) ≤ m.line) ∨ (¬ m.line < 0 ∧ m.line < (l.length : Int) ∧ m.src < 0) ∨ (¬ m.line < 0 ∧ m.line < (l.length : Int) ∧ 0 ≤ m.src ∧ ((Ad l m.line).last.length : Int) ≤ m.src) from by omega) with hc | hc | hc | hc
  ·
   refine Gi ?_
   refine dn2 ?_
   refine djc (fun _ _ => Ae rfl rfl (Co (by omega))) ?_
   refine djc (fun _ _ => Dh) ?_
   refine dn5 ?_
   refine djc (fun _ _ => H8) ?_
   refine djc (fun _ _ => Dh) ?_
   refine dn3 ?_
   refine djc (fun _ _ => H8) ?_
   refine djc (fun _ _ => Dh) ?_
   refine dn10 ?_
   refine djc (fun _ _ => H8) ?_
   refine dnl ?_; intro ρ
   refine Gmc ?_
   refine Ga3 ?_
   have er : Am l id m = (l, []) := by unfold Am; rw [if_pos (by omega)]
   rw [er]
   exact C9 (v0, .slice none 0 0) (hs := fun w hs => Aj (St.shut (hs.rowNil 42 Msg)))
  ·
   refine Gi ?_
   refine dn2 ?_
   refine djc (fun _ _ => Ae rfl rfl (Al (by omega))) ?_
   refine djc (fun _ _ => Dh) ?_
   refine dn4 ?_
   refine dj (dgy ?_)
   refine dc (fun _ _ => Ae rfl rfl (D7 (by omega))) ?_
   refine djc (fun _ _ => E3) ?_
   refine djc (fun _ _ => Dh) ?_
   refine dn3 ?_
   refine djc (fun _ _ => H8) ?_
   refine djc (fun _ _ => Dh) ?_
   refine dn10 ?_
   refine djc (fun _ _ => H8) ?_
   refine dnl ?_; intro ρ
   refine Gmc ?_
   refine Ga3 ?_
   have er : Am l id m = (l, []) := by unfold Am; rw [if_pos (by omega)]
   rw [er]
   exact C9 (v0, .slice none 0 0) (hs := fun w hs => Aj (St.shut (hs.rowNil 42 Msg)))
  ·
   refine Gi ?_
   refine dn2 ?_
   refine djc (fun _ _ => Ae rfl rfl (Al (by omega))) ?_
   refine djc (fun _ _ => Dh) ?_
   refine dn4 ?_
   refine dj (dgy ?_)
   refine dc (fun _ _ => Ae rfl rfl (Bc (by omega))) ?_
   refine djc (fun _ _ => E3) ?_
   refine djc (fun _ _ => Dh) ?_
   refine dn2 ?_
   refine dj (dgy ?_)
   refine dc (fun _ _ => Ae rfl rfl (Co (by omega))) ?_
   refine djc (fun _ _ => E3) ?_
   refine djc (fun _ _ => Dh) ?_
   refine dn10 ?_
   refine djc (fun _ _ => H8) ?_
   refine dnl ?_; intro ρ
   refine Gmc ?_
   refine Ga3 ?_
   have er : Am l id m = (l, []) := by unfold Am; rw [if_pos (by omega)]
   rw [er]
   exact C9 (v0, .slice none 0 0) (hs := fun w hs => Aj (St.shut (hs.rowNil 42 Msg)))
  ·
   refine Gx (v := v0) m.line mm (by omega) (by omega) (fun hEw u => ?_)
   have hE : EB (Ad l m.line) := hb m.line.toNat (by omega)
   have hE0 := hE
   unfold EB Entry.wf An at hE0
   have hL : (Ad l m.line).last.length ≤ 4 := hla m.line.toNat (by omega)
   refine JC.know (p := u.oneCell' = true) (fun w hs => isSlice.one (hs.fact (.tail _ (.head _)))) (fun hone => ?_)
   refine JC.know (p := ∀ x ∈ (Ad l m.line).last, An x) (fun w hs => G1 (.tail _ (.head _)) hs) (fun hlin => ?_)
   refine Gi ?_
   refine dn2 ?_
   refine djc (fun _ _ => Ae rfl rfl (Al (by omega))) ?_
   refine djc (fun _ _ => Dh) ?_
   refine dn4 ?_
   refine dj (dgy ?_)
   refine dc (fun _ _ => Ae rfl rfl (Bc (by omega))) ?_
   refine djc (fun _ _ => E3) ?_
   refine djc (fun _ _ => Dh) ?_
   refine dn2 ?_
   refine dj (dgy ?_)
   refine dc (fun _ _ => Ae rfl rfl (Al (by omega))) ?_
   refine djc (fun _ _ => E3) ?_
   refine djc (fun _ _ => Dh) ?_
   refine dn9 ?_
   refine dj (dgy ?_)
   refine dc (fun _ _ => Ae rfl rfl (D7 (show ((Ad l m.line).last.length : Int) ≤ m.src by omega))) ?_
   refine djc (fun _ _ => E3) ?_
   refine dnl ?_; intro ρ
   refine Gmc ?_
   refine Ga3 ?_
   have er : Am l id m = (l, []) := by unfold Am; rw [if_pos (by omega)]
   rw [er]
   exact C9 (v0, .slice none 0 0) (hs := fun w hs => Aj (St.shut (hs.rowNil 42 Msg)))
theorem Ng {L : List Chunk} {R : List Fact} {w : World} {v0 : Value} {l : List Entry} {id : Int} {m : Msg} (hs : St (L) R w) (h0 : sl v0 l ∈ R) (hb : ∀ i, i < l.length → EB (l.getD i A8)) (hla : ∀ i, i < l.length → (l.getD i A8).last.length ≤ 4) (hm : m.wf) (hid : An id) (hk : 0 ≤ m.line ∧ m.line < (l.length : Int) ∧ 0 ≤ m.src ∧ m.src < ((Ad l m.line).last.length : Int) ∧ m.kind = 3) : Calls Try.prog 30 [v0, vi id, .agg m.cells.toArray].toArray w (Cg (fun v : Value × Value => .tuple #[v.1, v.2]) (fun v => L) (fun v => sl v.1 (Am l id m).1 :: sl v.2 (Am l id m).2 :: R)) := by
  have hlen := Bv h0 hs
  have hm0 := hm
  unfold Msg.wf An at hm0
  have hid0 := hid
  unfold An at hid0
  refine Ah Try.func30 rfl Try.ntmps30 rfl hs ?_
  clear hs
  refine Gm ?_
  refine bx ?_; intro b5
  refine Ga2 ?_
  refine Gx (v := v0) m.line mm (by omega) (by omega) (fun hEw u => ?_)
  have hE : EB (Ad l m.line) := hb m.line.toNat (by omega)
  have hE0 := hE
  unfold EB Entry.wf An at hE0
  have hL : (Ad l m.line).last.length ≤ 4 := hla m.line.toNat (by omega)
  refine JC.know (p := u.oneCell' = true) (fun w hs => isSlice.one (hs.fact (.tail _ (.head _)))) (fun hone => ?_)
  refine JC.know (p := ∀ x ∈ (Ad l m.line).last, An x) (fun w hs => G1 (.tail _ (.head _)) hs) (fun hlin => ?_)
  refine Gi ?_
  refine dn2 ?_
  refine djc (fun _ _ => Ae rfl rfl (Al (by omega))) ?_
  refine djc (fun _ _ => Dh) ?_
  refine dn4 ?_
  refine dj (dgy ?_)
  refine dc (fun _ _ => Ae rfl rfl (Bc (by omega))) ?_
  refine djc (fun _ _ => E3) ?_
  refine djc (fun _ _ => Dh) ?_
  refine dn2 ?_
  refine dj (dgy ?_)
  refine dc (fun _ _ => Ae rfl rfl (Al (by omega))) ?_
  refine djc (fun _ _ => E3) ?_
  refine djc (fun _ _ => Dh) ?_
  refine dn9 ?_
  refine dj (dgy ?_)
  refine dc (fun _ _ => Ae rfl rfl (Bc (show ¬ ((Ad l m.line).last.length : Int) ≤ m.src by omega))) ?_
  refine djc (fun _ _ => E3) ?_
  refine dnl ?_; intro ρ
  refine Gmc ?_
  refine rn5 ?_
  refine al_ (cs := zEC) Try.zeroValue58 ?_; intro b8
  refine s_B (cs := Entry.cells u (Ad l m.line)) Try.sizeOf58 ?_
  refine Gl ?_
  refine kp [0, 1, 5, 6, 7, 8, 9, 43, 44, 45, 46] ?_
  refine Aa ?_
  refine liO ([] : List Int) D3 rfl (fun j h => Fa) ?_; intro v43
  refine rn2 ?_
  refine ap D3 (hb := fun w hs => by have : maxN = 16777216 := rfl; simp only [List.length_nil]; omega) (k := ?_); intro v46
  refine Gb1 ?_
  refine Gb2 ?_
  refine ob (Ae rfl rfl (Ak (by omega))) ?_
  refine Gd1 ?_
  refine ob (Ae rfl rfl (Ak (by omega))) ?_
  refine Gd1 ?_
  refine ob (Ae rfl rfl (Av (by omega))) ?_
  refine Gd1 ?_
  refine Ga3 ?_
  refine cdx (p := ?p1) (hd := ?d1) ?e1 ?_ ?_; case e1 => exact rfl
  ·
   intro ht100
   refine Gm ?_
   refine Ga3 ?_
   have er : Am l id m = (l, []) := Ci (by omega) (by unfold Bl; rw [if_neg (by omega), if_pos (by omega), if_pos ht100])
   rw [er]
   exact C9 (v0, .slice none 0 0) (hs := fun w hs => Aj (St.shut (hs.rowNil 42 Msg)))
  ·
   intro ht100
   refine Gl ?_
   refine Gi ?_
   refine dn6 ?_
   refine djc (fun _ _ => C6 (hc := Ep (xs := (Ad l m.line).last) pkk (by omega)) Try.isAgg3) ?_
   refine djc (fun _ _ => Fi Pl) ?_
   refine dnl ?_; intro ρ
   refine Gl ?_
   refine cdx (p := ?p2) (hd := ?d2) ?e2 ?_ ?_; case e2 => exact rfl
   ·
    intro ht109
    refine Gm ?_
    refine rn6 ?_
    refine He (xs := (Ad l m.line).last) Try.sizeOf3 rfl rfl pkk (getD_some 0 (by omega)) hm.2.2.2.2.1 ?_
    refine Gl ?_
    refine JC.shut (v := v46) pkk ?_
    refine JC.know (p := v46.oneCell' = true) (fun w hs => isSlice.one (hs.fact (List.Mem.head _))) (fun hone9 => ?_)
    refine kp [0, 1, 5, 6, 7, 8, 9, 48, 116, 117] ?_
    refine Aa ?_
    refine rn2 ?_
    refine sc ?_
    refine Gm ?_
    refine Ga5 ?_
    refine cdx (p := ?p3) (hd := ?d3) ?e3 ?_ ?_; case e3 => exact rfl
    ·
     intro ht122
     refine Aa ?_
     refine rn3 ?_
     refine sc ?_
     refine rn1 ?_
     refine sc ?_
     refine Gl ?_
     have er : Am l id m = (l.set m.line.toNat ({ (Ad l m.line) with last := ((Ad l m.line).last.set m.src.toNat m.serial), value := m.value, owner := -1 }), [⟨11, id, m.src, m.line, m.serial, 0, 0, false⟩]) := Dz (by omega) (by unfold Bl; rw [if_neg (by omega), if_pos (by omega), if_neg ht100]; unfold Ks; rw [if_pos (by unfold Ej; omega), if_pos ht122])
     refine cq_ (blk b8 58 (Entry.cells v46 ({ (Ad l m.line) with last := ((Ad l m.line).last.set m.src.toNat m.serial), value := m.value, owner := -1 })) :: blk b5 42 m.cells :: L) ?_
     refine jd_ (fun ρ S => blk b8 58 (Entry.cells v46 ({ (Ad l m.line) with last := ((Ad l m.line).last.set m.src.toNat m.serial), value := m.value, owner := -1 })) :: blk b5 42 m.cells :: L) ?_
     refine dn4 ?_
     refine Bp (γ := Value) (val := fun v => v) (F := fun v => [sl v (l.set m.line.toNat ({ (Ad l m.line) with last := ((Ad l m.line).last.set m.src.toNat m.serial), value := m.value, owner := -1 }))]) Try.call69 (fun _ => rfl) (fun ρ L R w hd hs => Bo (e := { (Ad l m.line) with last := ((Ad l m.line).last.set m.src.toNat m.serial), value := m.value, owner := -1 }) (u := v46) hs (hd.base mm) (hd.base mm) (by first | exact hE.1 | (unfold Entry.wf An; simp only; omega)) (by omega)) (fun _ _ _ _ _ => rfl) ?_
     refine dn8 ?_
     refine Gn ([⟨11, id, m.src, m.line, m.serial, 0, 0, false⟩] : List Msg) G3 rfl (fun _ => rfl) rfl (fun _ => rfl) rfl rfl (fun ρ R hd => Jl (by unfold Msg.wf An; simp only; omega)) (fun _ _ _ _ _ => rfl) ?_
     refine e_p (v := fun ρ => (Gh.dec (γ := Value) (ρ 4))) (fun _ _ => Eb) (Ind.gh (h := fun g => ((Gh.dec (γ := Value) g) : Value)) 4 0 rfl) (fun _ _ _ _ _ => rfl) ?_
     refine e_p (v := fun ρ => (Gh.dec (γ := Value) (ρ 13))) (fun _ _ => Eb) (Ind.gh (h := fun g => ((Gh.dec (γ := Value) g) : Value)) 13 0 rfl) (fun _ _ _ _ _ => rfl) ?_
     refine dnl ?_; intro ρ
     refine xq_ (blk b8 58 (Entry.cells v46 ({ (Ad l m.line) with last := ((Ad l m.line).last.set m.src.toNat m.serial), value := m.value, owner := -1 })) :: blk b5 42 m.cells :: L) ?_
     generalize (Gh.dec (γ := Value) (ρ 4)) = v131
     generalize (Gh.dec (γ := Value) (ρ 13)) = v140
     refine Gl ?_
     rw [er]
     exact C9 (v131, v140)
    ·
     intro ht122
     refine Gl ?_
     have er : Am l id m = (l.set m.line.toNat ({ (Ad l m.line) with last := ((Ad l m.line).last.set m.src.toNat m.serial) }), [⟨11, id, m.src, m.line, m.serial, 0, 0, false⟩]) := Dz (by omega) (by unfold Bl; rw [if_neg (by omega), if_pos (by omega), if_neg ht100]; unfold Ks; rw [if_pos (by unfold Ej; omega), if_neg ht122])
     refine cq_ (blk b8 58 (Entry.cells v46 ({ (Ad l m.line) with last := ((Ad l m.line).last.set m.src.toNat m.serial) })) :: blk b5 42 m.cells :: L) ?_
     refine jd_ (fun ρ S => blk b8 58 (Entry.cells v46 ({ (Ad l m.line) with last := ((Ad l m.line).last.set m.src.toNat m.serial) })) :: blk b5 42 m.cells :: L) ?_
     refine dn4 ?_
     refine Bp (γ := Value) (val := fun v => v) (F := fun v => [sl v (l.set m.line.toNat ({ (Ad l m.line) with last := ((Ad l m.line).last.set m.src.toNat m.serial) }))]) Try.call69 (fun _ => rfl) (fun ρ L R w hd hs => Bo (e := { (Ad l m.line) with last := ((Ad l m.line).last.set m.src.toNat m.serial) }) (u := v46) hs (hd.base mm) (hd.base mm) (by first | exact hE.1 | (unfold Entry.wf An; simp only; omega)) (by omega)) (fun _ _ _ _ _ => rfl) ?_
     refine dn8 ?_
     refine Gn ([⟨11, id, m.src, m.line, m.serial, 0, 0, false⟩] : List Msg) G3 rfl (fun _ => rfl) rfl (fun _ => rfl) rfl rfl (fun ρ R hd => Jl (by unfold Msg.wf An; simp only; omega)) (fun _ _ _ _ _ => rfl) ?_
     refine e_p (v := fun ρ => (Gh.dec (γ := Value) (ρ 4))) (fun _ _ => Eb) (Ind.gh (h := fun g => ((Gh.dec (γ := Value) g) : Value)) 4 0 rfl) (fun _ _ _ _ _ => rfl) ?_
     refine e_p (v := fun ρ => (Gh.dec (γ := Value) (ρ 13))) (fun _ _ => Eb) (Ind.gh (h := fun g => ((Gh.dec (γ := Value) g) : Value)) 13 0 rfl) (fun _ _ _ _ _ => rfl) ?_
     refine dnl ?_; intro ρ
     refine xq_ (blk b8 58 (Entry.cells v46 ({ (Ad l m.line) with last := ((Ad l m.line).last.set m.src.toNat m.serial) })) :: blk b5 42 m.cells :: L) ?_
     generalize (Gh.dec (γ := Value) (ρ 4)) = v131
     generalize (Gh.dec (γ := Value) (ρ 13)) = v140
     refine Gl ?_
     rw [er]
     exact C9 (v131, v140)
   ·
    intro ht109
    refine Gl ?_
    have er : Am l id m = (l.set m.line.toNat ((Ad l m.line)), [⟨11, id, m.src, m.line, m.serial, 0, 0, false⟩]) := Dz (by omega) (by unfold Bl; rw [if_neg (by omega), if_pos (by omega), if_neg ht100]; unfold Ks; rw [if_neg (by unfold Ej; omega)])
    refine cq_ (blk b8 58 (Entry.cells u ((Ad l m.line))) :: blk b5 42 m.cells :: L) ?_
    refine jd_ (fun ρ S => blk b8 58 (Entry.cells u ((Ad l m.line))) :: blk b5 42 m.cells :: L) ?_
    refine dn4 ?_
    refine Bp (γ := Value) (val := fun v => v) (F := fun v => [sl v (l.set m.line.toNat ((Ad l m.line)))]) Try.call69 (fun _ => rfl) (fun ρ L R w hd hs => Bo (e := (Ad l m.line)) (u := u) hs (hd.base mm) (hd.base mm) (by first | exact hE.1 | (unfold Entry.wf An; simp only; omega)) (by omega)) (fun _ _ _ _ _ => rfl) ?_
    refine dn8 ?_
    refine Gn ([⟨11, id, m.src, m.line, m.serial, 0, 0, false⟩] : List Msg) G3 rfl (fun _ => rfl) rfl (fun _ => rfl) rfl rfl (fun ρ R hd => Jl (by unfold Msg.wf An; simp only; omega)) (fun _ _ _ _ _ => rfl) ?_
    refine e_p (v := fun ρ => (Gh.dec (γ := Value) (ρ 4))) (fun _ _ => Eb) (Ind.gh (h := fun g => ((Gh.dec (γ := Value) g) : Value)) 4 0 rfl) (fun _ _ _ _ _ => rfl) ?_
    refine e_p (v := fun ρ => (Gh.dec (γ := Value) (ρ 13))) (fun _ _ => Eb) (Ind.gh (h := fun g => ((Gh.dec (γ := Value) g) : Value)) 13 0 rfl) (fun _ _ _ _ _ => rfl) ?_
    refine dnl ?_; intro ρ
    refine xq_ (blk b8 58 (Entry.cells u ((Ad l m.line))) :: blk b5 42 m.cells :: L) ?_
    generalize (Gh.dec (γ := Value) (ρ 4)) = v131
    generalize (Gh.dec (γ := Value) (ρ 13)) = v140
    refine Gl ?_
    rw [er]
    exact C9 (v131, v140)
theorem Nc {L : List Chunk} {R : List Fact} {w : World} {v0 : Value} {l : List Entry} {id : Int} {m : Msg} (hs : St (L) R w) (h0 : sl v0 l ∈ R) (hb : ∀ i, i < l.length → EB (l.getD i A8)) (hla : ∀ i, i < l.length → (l.getD i A8).last.length ≤ 4) (hm : m.wf) (hid : An id) (hk : 0 ≤ m.line ∧ m.line < (l.length : Int) ∧ 0 ≤ m.src ∧ m.src < ((Ad l m.line).last.length : Int) ∧ m.kind ≠ 1 ∧ m.kind ≠ 2 ∧ m.kind ≠ 3 ∧ m.kind ≠ 9 ∧ m.kind ≠ 8 ∧ m.kind ≠ 10) : Calls Try.prog 30 [v0, vi id, .agg m.cells.toArray].toArray w (Cg (fun v : Value × Value => .tuple #[v.1, v.2]) (fun v => L) (fun v => sl v.1 (Am l id m).1 :: sl v.2 (Am l id m).2 :: R)) := by
 have hlen := Bv h0 hs
 have hm0 := hm
 unfold Msg.wf An at hm0
 have hid0 := hid
 unfold An at hid0
 refine Ah Try.func30 rfl Try.ntmps30 rfl hs ?_
 clear hs
 refine Gm ?_
 refine bx ?_; intro b5
 refine Ga2 ?_
 refine Gx (v := v0) m.line mm (by omega) (by omega) (fun hEw u => ?_)
 have hE : EB (Ad l m.line) := hb m.line.toNat (by omega)
 have hE0 := hE
 unfold EB Entry.wf An at hE0
 have hL : (Ad l m.line).last.length ≤ 4 := hla m.line.toNat (by omega)
 refine JC.know (p := u.oneCell' = true) (fun w hs => isSlice.one (hs.fact (.tail _ (.head _)))) (fun hone => ?_)
 refine JC.know (p := ∀ x ∈ (Ad l m.line).last, An x) (fun w hs => G1 (.tail _ (.head _)) hs) (fun hlin => ?_)
 refine Gi ?_
 refine dn2 ?_
 refine djc (fun _ _ => Ae rfl rfl (Al (by omega))) ?_
 refine djc (fun _ _ => Dh) ?_
 refine dn4 ?_
 refine dj (dgy ?_)
 refine dc (fun _ _ => Ae rfl rfl (Bc (by omega))) ?_
 refine djc (fun _ _ => E3) ?_
 refine djc (fun _ _ => Dh) ?_
 refine dn2 ?_
 refine dj (dgy ?_)
 refine dc (fun _ _ => Ae rfl rfl (Al (by omega))) ?_
 refine djc (fun _ _ => E3) ?_
 refine djc (fun _ _ => Dh) ?_
 refine dn9 ?_
 refine dj (dgy ?_)
 refine dc (fun _ _ => Ae rfl rfl (Bc (show ¬ ((Ad l m.line).last.length : Int) ≤ m.src by omega))) ?_
 refine djc (fun _ _ => E3) ?_
 refine dnl ?_; intro ρ
 refine Gmc ?_
 refine rn5 ?_
 refine al_ (cs := zEC) Try.zeroValue58 ?_; intro b8
 refine s_B (cs := Entry.cells u (Ad l m.line)) Try.sizeOf58 ?_
 refine Gl ?_
 refine kp [0, 1, 5, 6, 7, 8, 9, 43, 44, 45, 46] ?_
 refine Aa ?_
 refine liO ([] : List Int) D3 rfl (fun j h => Fa) ?_; intro v43
 refine rn2 ?_
 refine ap D3 (hb := fun w hs => by have : maxN = 16777216 := rfl; simp only [List.length_nil]; omega) (k := ?_); intro v46
 refine Gb1 ?_
 refine Gb2 ?_
 refine ob (Ae rfl rfl (Ak (by omega))) ?_
 refine Gd1 ?_
 refine ob (Ae rfl rfl (Ak (by omega))) ?_
 refine Gd1 ?_
 refine ob (Ae rfl rfl (Ak (by omega))) ?_
 refine Gd1 ?_
 refine ob (Ae rfl rfl (Ak (by omega))) ?_
 refine Gd1 ?_
 refine ob (Ae rfl rfl (Ak (by omega))) ?_
 refine Gd1 ?_
 refine ob (Ae rfl rfl (Ak (by omega))) ?_
 refine Gd1 ?_
 refine Ga3 ?_
 have er : Am l id m = (l, []) := Ci (by omega) (by unfold Bl; rw [if_neg (by omega), if_neg (by omega), if_neg (by omega), if_neg (by omega), if_neg (by omega)])
 rw [er]
 exact C9 (v0, .slice none 0 0) (hs := fun w hs => Aj (St.shut (hs.rowNil 42 Msg)))
end Go.Proofs.Ytofgpimoekhfaaa

/- This file proves what the home hears, by the document's answer: some kinds of messages. No conditions. -/
set_option linter.unusedVariables false
set_option linter.unusedSimpArgs false
set_option maxHeartbeats 1000000
set_option maxRecDepth 8000
namespace Go.Proofs.Ytofgpimoekhfaaa
open Go
theorem Ni {L : List Chunk} {R : List Fact} {w : World} {v0 : Value} {l : List Entry} {id : Int} {m : Msg} (hs : St (L) R w) (h0 : sl v0 l ∈ R) (hb : ∀ i, i < l.length → EB (l.getD i A8)) (hla : ∀ i, i < l.length → (l.getD i A8).last.length ≤ 4) (hm : m.wf) (hid : An id) (hk : 0 ≤ m.line ∧ m.line < (l.length : Int) ∧ 0 ≤ m.src ∧ m.src < ((Ad l m.line).last.length : Int) ∧ m.kind = 1) : Calls Try.prog 30 [v0, vi id, .agg m.cells.toArray].toArray w (Cg (fun v : Value × Value => .tuple #[v.1, v.2]) (fun v => L) (fun v => sl v.1 (Am l id m).1 :: sl v.2 (Am l id m).2 :: R)) := by
  have hlen := Bv h0 hs
  have hm0 := hm
  unfold Msg.wf An at hm0
  have hid0 := hid
  unfold An at hid0
  refine Ah Try.func30 rfl Try.ntmps30 rfl hs ?_
  clear hs
  refine Gm ?_
  refine bx ?_; intro b5
  refine Ga2 ?_
  refine Gx (v := v0) m.line mm (by omega) (by omega) (fun hEw u => ?_)
  have hE : EB (Ad l m.line) := hb m.line.toNat (by omega)
  have hE0 := hE
  unfold EB Entry.wf An at hE0
  have hL : (Ad l m.line).last.length ≤ 4 := hla m.line.toNat (by omega)
  refine JC.know (p := u.oneCell' = true) (fun w hs => isSlice.one (hs.fact (.tail _ (.head _)))) (fun hone => ?_)
  refine JC.know (p := ∀ x ∈ (Ad l m.line).last, An x) (fun w hs => G1 (.tail _ (.head _)) hs) (fun hlin => ?_)
  refine Gi ?_
  refine dn2 ?_
  refine djc (fun _ _ => Ae rfl rfl (Al (by omega))) ?_
  refine djc (fun _ _ => Dh) ?_
  refine dn4 ?_
  refine dj (dgy ?_)
  refine dc (fun _ _ => Ae rfl rfl (Bc (by omega))) ?_
  refine djc (fun _ _ => E3) ?_
  refine djc (fun _ _ => Dh) ?_
  refine dn2 ?_
  refine dj (dgy ?_)
  refine dc (fun _ _ => Ae rfl rfl (Al (by omega))) ?_
  refine djc (fun _ _ => E3) ?_
  refine djc (fun _ _ => Dh) ?_
  refine dn9 ?_
  refine dj (dgy ?_)
  refine dc (fun _ _ => Ae rfl rfl (Bc (show ¬ ((Ad l m.line).last.length : Int) ≤ m.src by omega))) ?_
  refine djc (fun _ _ => E3) ?_
  refine dnl ?_; intro ρ
  refine Gmc ?_
  refine rn5 ?_
  refine al_ (cs := zEC) Try.zeroValue58 ?_; intro b8
  refine s_B (cs := Entry.cells u (Ad l m.line)) Try.sizeOf58 ?_
  refine Gl ?_
  refine kp [0, 1, 5, 6, 7, 8, 9, 43, 44, 45, 46] ?_
  refine Aa ?_
  refine liO ([] : List Int) D3 rfl (fun j h => Fa) ?_; intro v43
  refine rn2 ?_
  refine ap D3 (hb := fun w hs => by have : maxN = 16777216 := rfl; simp only [List.length_nil]; omega) (k := ?_); intro v46
  refine Gb1 ?_
  refine Gb2 ?_
  refine ob (Ae rfl rfl (Av (by omega))) ?_
  refine Gc1 ?_
  rcases (show ((Ad l m.line).phase ≠ 0) ∨ ((Ad l m.line).phase = 0 ∧ m.serial ≤ (Ad l m.line).last.getD m.src.toNat 0) ∨ ((Ad l m.line).phase = 0 ∧ (Ad l m.line).last.getD m.src.toNat 0 < m.serial ∧ 65535 ≤ (Ad l m.line).turn) ∨ ((Ad l m.line).phase = 0 ∧ (Ad l m.line).last.getD m.src.toNat 0 < m.serial ∧ (Ad l m.line).turn < 65535) from by omega) with hc | hc | hc | hc
  ·
   refine Gi ?_
   refine dn2 ?_
   refine djc (fun _ _ => Ae rfl rfl (Cn (by omega))) ?_
   refine djc (fun _ _ => Dh) ?_
   refine dn8 ?_
   refine djc (fun _ _ => H8) ?_
   refine djc (fun _ _ => Dh) ?_
   refine dn3 ?_
   refine djc (fun _ _ => H8) ?_
   refine dnl ?_; intro ρ
   refine Gmc ?_
   refine Ga3 ?_
   have er : Am l id m = (l, []) := Ci (by omega) (by unfold Bl; rw [if_pos (by omega), if_pos (by unfold Ej; omega)])
   rw [er]
   exact C9 (v0, .slice none 0 0) (hs := fun w hs => Aj (St.shut (hs.rowNil 42 Msg)))
  ·
   refine Gi ?_
   refine dn2 ?_
   refine djc (fun _ _ => Ae rfl rfl (Cb (by omega))) ?_
   refine djc (fun _ _ => Dh) ?_
   refine dn6 ?_
   refine dj (dgy ?_)
   refine dc (fun _ _ => C6 (hc := Ep (xs := (Ad l m.line).last) pkk (by omega)) Try.isAgg3) ?_
   refine dj (dgy ?_)
   refine dc (fun _ _ => Ae rfl rfl (K4 (by omega))) ?_
   refine djc (fun _ _ => E3) ?_
   refine djc (fun _ _ => Dh) ?_
   refine dn3 ?_
   refine djc (fun _ _ => H8) ?_
   refine dnl ?_; intro ρ
   refine Gmc ?_
   refine Ga3 ?_
   have er : Am l id m = (l, []) := Ci (by omega) (by unfold Bl; rw [if_pos (by omega), if_pos (by unfold Ej; omega)])
   rw [er]
   exact C9 (v0, .slice none 0 0) (hs := fun w hs => Aj (St.shut (hs.rowNil 42 Msg)))
  ·
   refine Gi ?_
   refine dn2 ?_
   refine djc (fun _ _ => Ae rfl rfl (Cb (by omega))) ?_
   refine djc (fun _ _ => Dh) ?_
   refine dn6 ?_
   refine dj (dgy ?_)
   refine dc (fun _ _ => C6 (hc := Ep (xs := (Ad l m.line).last) pkk (by omega)) Try.isAgg3) ?_
   refine dj (dgy ?_)
   refine dc (fun _ _ => Ae rfl rfl (Fe (by omega))) ?_
   refine djc (fun _ _ => E3) ?_
   refine djc (fun _ _ => Dh) ?_
   refine dn2 ?_
   refine dj (dgy ?_)
   refine dc (fun _ _ => Ae rfl rfl (D7 (by omega))) ?_
   refine djc (fun _ _ => E3) ?_
   refine dnl ?_; intro ρ
   refine Gmc ?_
   refine Ga3 ?_
   have er : Am l id m = (l, []) := Ci (by omega) (by unfold Bl; rw [if_pos (by omega), if_pos (by unfold Ej; omega)])
   rw [er]
   exact C9 (v0, .slice none 0 0) (hs := fun w hs => Aj (St.shut (hs.rowNil 42 Msg)))
  ·
   refine Gi ?_
   refine dn2 ?_
   refine djc (fun _ _ => Ae rfl rfl (Cb (by omega))) ?_
   refine djc (fun _ _ => Dh) ?_
   refine dn6 ?_
   refine dj (dgy ?_)
   refine dc (fun _ _ => C6 (hc := Ep (xs := (Ad l m.line).last) pkk (by omega)) Try.isAgg3) ?_
   refine dj (dgy ?_)
   refine dc (fun _ _ => Ae rfl rfl (Fe (by omega))) ?_
   refine djc (fun _ _ => E3) ?_
   refine djc (fun _ _ => Dh) ?_
   refine dn2 ?_
   refine dj (dgy ?_)
   refine dc (fun _ _ => Ae rfl rfl (Bc (by omega))) ?_
   refine djc (fun _ _ => E3) ?_
   refine dnl ?_; intro ρ
   refine Gmc ?_
   refine rn6 ?_
   refine He (xs := (Ad l m.line).last) Try.sizeOf3 rfl rfl pkk (getD_some 0 (by omega)) hm.2.2.2.2.1 ?_
   refine Gl ?_
   refine JC.shut (v := v46) pkk ?_
   refine JC.know (p := v46.oneCell' = true) (fun w hs => isSlice.one (hs.fact (List.Mem.head _))) (fun hone9 => ?_)
   refine kp [0, 1, 5, 6, 7, 8, 9, 48, 78, 79, 80, 81, 82, 83, 84, 85, 86, 87, 88, 89, 90, 91, 92, 93] ?_
   refine cq_ (blk b8 58 [vi (Ad l m.line).value, vi (Ad l m.line).owner, vi (Ad l m.line).sharers, vi (Ad l m.line).phase, vi (Ad l m.line).who, vi (Ad l m.line).serial, .bool (Ad l m.line).alone, vi (Ad l m.line).turn, vi (Ad l m.line).need, u] :: blk b5 42 m.cells :: L) ?_
   refine jd_ (fun ρ S => blk b8 58 (bif S 20 then [vi (Ad l m.line).value, vi (Ad l m.line).owner, vi (Ad l m.line).sharers, vi (Ad l m.line).phase, vi m.src, vi m.serial, .bool (decide (m.kind = 2)), vi ((Ad l m.line).turn + 1), vi (Ad l m.line).need, v46] else (bif S 18 then [vi (Ad l m.line).value, vi (Ad l m.line).owner, vi (Ad l m.line).sharers, vi (Ad l m.line).phase, vi m.src, vi m.serial, .bool (decide (m.kind = 2)), vi (Ad l m.line).turn, vi (Ad l m.line).need, v46] else (bif S 16 then [vi (Ad l m.line).value, vi (Ad l m.line).owner, vi (Ad l m.line).sharers, vi (Ad l m.line).phase, vi m.src, vi m.serial, .bool (Ad l m.line).alone, vi (Ad l m.line).turn, vi (Ad l m.line).need, v46] else (bif S 14 then [vi (Ad l m.line).value, vi (Ad l m.line).owner, vi (Ad l m.line).sharers, vi (Ad l m.line).phase, vi m.src, vi (Ad l m.line).serial, .bool (Ad l m.line).alone, vi (Ad l m.line).turn, vi (Ad l m.line).need, v46] else (bif S 12 then [vi (Ad l m.line).value, vi (Ad l m.line).owner, vi (Ad l m.line).sharers, vi (Ad l m.line).phase, vi (Ad l m.line).who, vi (Ad l m.line).serial, .bool (Ad l m.line).alone, vi (Ad l m.line).turn, vi (Ad l m.line).need, v46] else [vi (Ad l m.line).value, vi (Ad l m.line).owner, vi (Ad l m.line).sharers, vi (Ad l m.line).phase, vi (Ad l m.line).who, vi (Ad l m.line).serial, .bool (Ad l m.line).alone, vi (Ad l m.line).turn, vi (Ad l m.line).need, u]))))) :: blk b5 42 m.cells :: L) ?_
   refine dn9 ?_
   refine Vz (v := vi (Ad l m.line).turn) (fun ρ S hS hB hA => by have h20 : S 20 = false := hA 20 ⟨0, rfl⟩; simp only [h20, cond_false]; exact C6 (hc := A9 pkk (by repeat (first | exact rfl | refine Jj rfl ?_))) Try.isAgg3) (fun _ _ _ _ _ => rfl) ?_
   first | refine epc (fun _ _ => D9) ?_ | refine epc (fun _ _ => Fb) ?_ | refine epp (fun _ _ => D9) ?_ | refine epp (fun _ _ => Fb) ?_
   refine dn1 ?_
   refine es_ 58 9 [] [14, 16, 18, 20] (fun ρ => b8) (fun ρ => [vi (Ad l m.line).value, vi (Ad l m.line).owner, vi (Ad l m.line).sharers, vi (Ad l m.line).phase, vi (Ad l m.line).who, vi (Ad l m.line).serial, .bool (Ad l m.line).alone, vi (Ad l m.line).turn, vi (Ad l m.line).need, u]) (fun ρ => [v46]) Try.sizeOf56 (h1 := (fun ρ R w L' hd hs u hu => by cases List.mem_singleton.1 hu; exact hone9)) (hv := (fun _ => G8 hone9)) ?_
   refine dn1 ?_
   refine es_ 58 4 [12] [16, 18, 20] (fun ρ => b8) (fun ρ => [vi (Ad l m.line).value, vi (Ad l m.line).owner, vi (Ad l m.line).sharers, vi (Ad l m.line).phase, vi (Ad l m.line).who, vi (Ad l m.line).serial, .bool (Ad l m.line).alone, vi (Ad l m.line).turn, vi (Ad l m.line).need, v46]) (fun ρ => [vi m.src]) Try.sizeOf3 ?_
   refine dn1 ?_
   refine es_ 58 5 [12, 14] [18, 20] (fun ρ => b8) (fun ρ => [vi (Ad l m.line).value, vi (Ad l m.line).owner, vi (Ad l m.line).sharers, vi (Ad l m.line).phase, vi m.src, vi (Ad l m.line).serial, .bool (Ad l m.line).alone, vi (Ad l m.line).turn, vi (Ad l m.line).need, v46]) (fun ρ => [vi m.serial]) Try.sizeOf3 ?_
   refine dn1 ?_
   refine es_ 58 6 [12, 14, 16] [20] (fun ρ => b8) (fun ρ => [vi (Ad l m.line).value, vi (Ad l m.line).owner, vi (Ad l m.line).sharers, vi (Ad l m.line).phase, vi m.src, vi m.serial, .bool (Ad l m.line).alone, vi (Ad l m.line).turn, vi (Ad l m.line).need, v46]) (fun ρ => [.bool (decide (m.kind = 2))]) Try.sizeOf4 ?_
   refine dn1 ?_
   refine es_ 58 7 [12, 14, 16, 18] [] (fun ρ => b8) (fun ρ => [vi (Ad l m.line).value, vi (Ad l m.line).owner, vi (Ad l m.line).sharers, vi (Ad l m.line).phase, vi m.src, vi m.serial, .bool (decide (m.kind = 2)), vi (Ad l m.line).turn, vi (Ad l m.line).need, v46]) (fun ρ => [vi ((Ad l m.line).turn + 1)]) Try.sizeOf3 ?_
   refine dnl ?_; intro ρ
   refine xq_ (blk b8 58 [vi (Ad l m.line).value, vi (Ad l m.line).owner, vi (Ad l m.line).sharers, vi (Ad l m.line).phase, vi m.src, vi m.serial, .bool (decide (m.kind = 2)), vi ((Ad l m.line).turn + 1), vi (Ad l m.line).need, v46] :: blk b5 42 m.cells :: L) ?_
   refine Gm ?_
   refine rn1 ?_
   have hX : EB ({ (Ad l m.line) with last := ((Ad l m.line).last.set m.src.toNat m.serial), who := m.src, serial := m.serial, alone := m.kind == 2, turn := (Ad l m.line).turn + 1 }) := by unfold EB Entry.wf An; simp only; omega
   refine Ar Try.call68 rfl (fun w hs => Hw (e := { (Ad l m.line) with last := ((Ad l m.line).last.set m.src.toNat m.serial), who := m.src, serial := m.serial, alone := m.kind == 2, turn := (Ad l m.line).turn + 1 }) (u := v46) hs hX (by assumption)) ?_; intro _
   refine s_B (cs := (A6 ({ (Ad l m.line) with last := ((Ad l m.line).last.set m.src.toNat m.serial), who := m.src, serial := m.serial, alone := m.kind == 2, turn := (Ad l m.line).turn + 1 })).cells v46) Try.sizeOf58 ?_
   refine Gl ?_
   have er : Am l id m = (l.set m.line.toNat (A6 ({ (Ad l m.line) with last := ((Ad l m.line).last.set m.src.toNat m.serial), who := m.src, serial := m.serial, alone := m.kind == 2, turn := (Ad l m.line).turn + 1 })), says (A6 ({ (Ad l m.line) with last := ((Ad l m.line).last.set m.src.toNat m.serial), who := m.src, serial := m.serial, alone := m.kind == 2, turn := (Ad l m.line).turn + 1 })) m.line id) := Dz (by omega) (by unfold Bl; rw [if_pos (by omega), if_neg (by unfold Ej; omega)]; rfl)
   refine cq_ (blk b8 58 ((A6 ({ (Ad l m.line) with last := ((Ad l m.line).last.set m.src.toNat m.serial), who := m.src, serial := m.serial, alone := m.kind == 2, turn := (Ad l m.line).turn + 1 })).cells v46) :: blk b5 42 m.cells :: L) ?_
   refine jd_ (fun ρ S => blk b8 58 ((A6 ({ (Ad l m.line) with last := ((Ad l m.line).last.set m.src.toNat m.serial), who := m.src, serial := m.serial, alone := m.kind == 2, turn := (Ad l m.line).turn + 1 })).cells v46) :: blk b5 42 m.cells :: L) ?_
   refine dn4 ?_
   refine Bp (γ := Value) (val := fun v => v) (F := fun v => [sl v (l.set m.line.toNat (A6 ({ (Ad l m.line) with last := ((Ad l m.line).last.set m.src.toNat m.serial), who := m.src, serial := m.serial, alone := m.kind == 2, turn := (Ad l m.line).turn + 1 })))]) Try.call69 (fun _ => rfl) (fun ρ L R w hd hs => Bo (e := A6 ({ (Ad l m.line) with last := ((Ad l m.line).last.set m.src.toNat m.serial), who := m.src, serial := m.serial, alone := m.kind == 2, turn := (Ad l m.line).turn + 1 })) (u := v46) hs (hd.base mm) (by rw [Ek]; exact hd.base mm) (Du hX).1 (by omega)) (fun _ _ _ _ _ => rfl) ?_
   refine dn4 ?_
   refine Bp (γ := Value) (val := fun v => v) (F := fun v => [sl v (says (A6 ({ (Ad l m.line) with last := ((Ad l m.line).last.set m.src.toNat m.serial), who := m.src, serial := m.serial, alone := m.kind == 2, turn := (Ad l m.line).turn + 1 })) m.line id)]) Try.call34 (fun _ => rfl) (fun ρ L R w hd hs => Gt (e := A6 ({ (Ad l m.line) with last := ((Ad l m.line).last.set m.src.toNat m.serial), who := m.src, serial := m.serial, alone := m.kind == 2, turn := (Ad l m.line).turn + 1 })) (u := v46) hs (Du hX) (by assumption) hm.2.2.2.1 hid) (fun _ _ _ _ _ => rfl) ?_
   refine e_p (v := fun ρ => (Gh.dec (γ := Value) (ρ 4))) (fun _ _ => Eb) (Ind.gh (h := fun g => ((Gh.dec (γ := Value) g) : Value)) 4 0 rfl) (fun _ _ _ _ _ => rfl) ?_
   refine e_p (v := fun ρ => (Gh.dec (γ := Value) (ρ 9))) (fun _ _ => Eb) (Ind.gh (h := fun g => ((Gh.dec (γ := Value) g) : Value)) 9 0 rfl) (fun _ _ _ _ _ => rfl) ?_
   refine dnl ?_; intro ρ
   refine xq_ (blk b8 58 ((A6 ({ (Ad l m.line) with last := ((Ad l m.line).last.set m.src.toNat m.serial), who := m.src, serial := m.serial, alone := m.kind == 2, turn := (Ad l m.line).turn + 1 })).cells v46) :: blk b5 42 m.cells :: L) ?_
   generalize (Gh.dec (γ := Value) (ρ 4)) = v287
   generalize (Gh.dec (γ := Value) (ρ 9)) = v292
   refine Gl ?_
   rw [er]
   exact C9 (v287, v292)
end Go.Proofs.Ytofgpimoekhfaaa

/- This file proves what the home hears, by the document's answer: some kinds of messages. No conditions. -/
set_option linter.unusedVariables false
set_option linter.unusedSimpArgs false
set_option maxHeartbeats 1000000
set_option maxRecDepth 8000
namespace Go.Proofs.Ytofgpimoekhfaaa
open Go
theorem Nh {L : List Chunk} {R : List Fact} {w : World} {v0 : Value} {l : List Entry} {id : Int} {m : Msg} (hs : St (L) R w) (h0 : sl v0 l ∈ R) (hb : ∀ i, i < l.length → EB (l.getD i A8)) (hla : ∀ i, i < l.length → (l.getD i A8).last.length ≤ 4) (hm : m.wf) (hid : An id) (hk : 0 ≤ m.line ∧ m.line < (l.length : Int) ∧ 0 ≤ m.src ∧ m.src < ((Ad l m.line).last.length : Int) ∧ m.kind = 2) : Calls Try.prog 30 [v0, vi id, .agg m.cells.toArray].toArray w (Cg (fun v : Value × Value => .tuple #[v.1, v.2]) (fun v => L) (fun v => sl v.1 (Am l id m).1 :: sl v.2 (Am l id m).2 :: R)) := by
  have hlen := Bv h0 hs
  have hm0 := hm
  unfold Msg.wf An at hm0
  have hid0 := hid
  unfold An at hid0
  refine Ah Try.func30 rfl Try.ntmps30 rfl hs ?_
  clear hs
  refine Gm ?_
  refine bx ?_; intro b5
  refine Ga2 ?_
  refine Gx (v := v0) m.line mm (by omega) (by omega) (fun hEw u => ?_)
  have hE : EB (Ad l m.line) := hb m.line.toNat (by omega)
  have hE0 := hE
  unfold EB Entry.wf An at hE0
  have hL : (Ad l m.line).last.length ≤ 4 := hla m.line.toNat (by omega)
  refine JC.know (p := u.oneCell' = true) (fun w hs => isSlice.one (hs.fact (.tail _ (.head _)))) (fun hone => ?_)
  refine JC.know (p := ∀ x ∈ (Ad l m.line).last, An x) (fun w hs => G1 (.tail _ (.head _)) hs) (fun hlin => ?_)
  refine Gi ?_
  refine dn2 ?_
  refine djc (fun _ _ => Ae rfl rfl (Al (by omega))) ?_
  refine djc (fun _ _ => Dh) ?_
  refine dn4 ?_
  refine dj (dgy ?_)
  refine dc (fun _ _ => Ae rfl rfl (Bc (by omega))) ?_
  refine djc (fun _ _ => E3) ?_
  refine djc (fun _ _ => Dh) ?_
  refine dn2 ?_
  refine dj (dgy ?_)
  refine dc (fun _ _ => Ae rfl rfl (Al (by omega))) ?_
  refine djc (fun _ _ => E3) ?_
  refine djc (fun _ _ => Dh) ?_
  refine dn9 ?_
  refine dj (dgy ?_)
  refine dc (fun _ _ => Ae rfl rfl (Bc (show ¬ ((Ad l m.line).last.length : Int) ≤ m.src by omega))) ?_
  refine djc (fun _ _ => E3) ?_
  refine dnl ?_; intro ρ
  refine Gmc ?_
  refine rn5 ?_
  refine al_ (cs := zEC) Try.zeroValue58 ?_; intro b8
  refine s_B (cs := Entry.cells u (Ad l m.line)) Try.sizeOf58 ?_
  refine Gl ?_
  refine kp [0, 1, 5, 6, 7, 8, 9, 43, 44, 45, 46] ?_
  refine Aa ?_
  refine liO ([] : List Int) D3 rfl (fun j h => Fa) ?_; intro v43
  refine rn2 ?_
  refine ap D3 (hb := fun w hs => by have : maxN = 16777216 := rfl; simp only [List.length_nil]; omega) (k := ?_); intro v46
  refine Gb1 ?_
  refine Gb2 ?_
  refine ob (Ae rfl rfl (Ak (by omega))) ?_
  refine Gd1 ?_
  refine ob (Ae rfl rfl (Av (by omega))) ?_
  refine Gc1 ?_
  rcases (show ((Ad l m.line).phase ≠ 0) ∨ ((Ad l m.line).phase = 0 ∧ m.serial ≤ (Ad l m.line).last.getD m.src.toNat 0) ∨ ((Ad l m.line).phase = 0 ∧ (Ad l m.line).last.getD m.src.toNat 0 < m.serial ∧ 65535 ≤ (Ad l m.line).turn) ∨ ((Ad l m.line).phase = 0 ∧ (Ad l m.line).last.getD m.src.toNat 0 < m.serial ∧ (Ad l m.line).turn < 65535) from by omega) with hc | hc | hc | hc
  ·
   refine Gi ?_
   refine dn2 ?_
   refine djc (fun _ _ => Ae rfl rfl (Cn (by omega))) ?_
   refine djc (fun _ _ => Dh) ?_
   refine dn8 ?_
   refine djc (fun _ _ => H8) ?_
   refine djc (fun _ _ => Dh) ?_
   refine dn3 ?_
   refine djc (fun _ _ => H8) ?_
   refine dnl ?_; intro ρ
   refine Gmc ?_
   refine Ga3 ?_
   have er : Am l id m = (l, []) := Ci (by omega) (by unfold Bl; rw [if_pos (by omega), if_pos (by unfold Ej; omega)])
   rw [er]
   exact C9 (v0, .slice none 0 0) (hs := fun w hs => Aj (St.shut (hs.rowNil 42 Msg)))
  ·
   refine Gi ?_
   refine dn2 ?_
   refine djc (fun _ _ => Ae rfl rfl (Cb (by omega))) ?_
   refine djc (fun _ _ => Dh) ?_
   refine dn6 ?_
   refine dj (dgy ?_)
   refine dc (fun _ _ => C6 (hc := Ep (xs := (Ad l m.line).last) pkk (by omega)) Try.isAgg3) ?_
   refine dj (dgy ?_)
   refine dc (fun _ _ => Ae rfl rfl (K4 (by omega))) ?_
   refine djc (fun _ _ => E3) ?_
   refine djc (fun _ _ => Dh) ?_
   refine dn3 ?_
   refine djc (fun _ _ => H8) ?_
   refine dnl ?_; intro ρ
   refine Gmc ?_
   refine Ga3 ?_
   have er : Am l id m = (l, []) := Ci (by omega) (by unfold Bl; rw [if_pos (by omega), if_pos (by unfold Ej; omega)])
   rw [er]
   exact C9 (v0, .slice none 0 0) (hs := fun w hs => Aj (St.shut (hs.rowNil 42 Msg)))
  ·
   refine Gi ?_
   refine dn2 ?_
   refine djc (fun _ _ => Ae rfl rfl (Cb (by omega))) ?_
   refine djc (fun _ _ => Dh) ?_
   refine dn6 ?_
   refine dj (dgy ?_)
   refine dc (fun _ _ => C6 (hc := Ep (xs := (Ad l m.line).last) pkk (by omega)) Try.isAgg3) ?_
   refine dj (dgy ?_)
   refine dc (fun _ _ => Ae rfl rfl (Fe (by omega))) ?_
   refine djc (fun _ _ => E3) ?_
   refine djc (fun _ _ => Dh) ?_
   refine dn2 ?_
   refine dj (dgy ?_)
   refine dc (fun _ _ => Ae rfl rfl (D7 (by omega))) ?_
   refine djc (fun _ _ => E3) ?_
   refine dnl ?_; intro ρ
   refine Gmc ?_
   refine Ga3 ?_
   have er : Am l id m = (l, []) := Ci (by omega) (by unfold Bl; rw [if_pos (by omega), if_pos (by unfold Ej; omega)])
   rw [er]
   exact C9 (v0, .slice none 0 0) (hs := fun w hs => Aj (St.shut (hs.rowNil 42 Msg)))
  ·
   refine Gi ?_
   refine dn2 ?_
   refine djc (fun _ _ => Ae rfl rfl (Cb (by omega))) ?_
   refine djc (fun _ _ => Dh) ?_
   refine dn6 ?_
   refine dj (dgy ?_)
   refine dc (fun _ _ => C6 (hc := Ep (xs := (Ad l m.line).last) pkk (by omega)) Try.isAgg3) ?_
   refine dj (dgy ?_)
   refine dc (fun _ _ => Ae rfl rfl (Fe (by omega))) ?_
   refine djc (fun _ _ => E3) ?_
   refine djc (fun _ _ => Dh) ?_
   refine dn2 ?_
   refine dj (dgy ?_)
   refine dc (fun _ _ => Ae rfl rfl (Bc (by omega))) ?_
   refine djc (fun _ _ => E3) ?_
   refine dnl ?_; intro ρ
   refine Gmc ?_
   refine rn6 ?_
   refine He (xs := (Ad l m.line).last) Try.sizeOf3 rfl rfl pkk (getD_some 0 (by omega)) hm.2.2.2.2.1 ?_
   refine Gl ?_
   refine JC.shut (v := v46) pkk ?_
   refine JC.know (p := v46.oneCell' = true) (fun w hs => isSlice.one (hs.fact (List.Mem.head _))) (fun hone9 => ?_)
   refine kp [0, 1, 5, 6, 7, 8, 9, 48, 78, 79, 80, 81, 82, 83, 84, 85, 86, 87, 88, 89, 90, 91, 92, 93] ?_
   refine cq_ (blk b8 58 [vi (Ad l m.line).value, vi (Ad l m.line).owner, vi (Ad l m.line).sharers, vi (Ad l m.line).phase, vi (Ad l m.line).who, vi (Ad l m.line).serial, .bool (Ad l m.line).alone, vi (Ad l m.line).turn, vi (Ad l m.line).need, u] :: blk b5 42 m.cells :: L) ?_
   refine jd_ (fun ρ S => blk b8 58 (bif S 20 then [vi (Ad l m.line).value, vi (Ad l m.line).owner, vi (Ad l m.line).sharers, vi (Ad l m.line).phase, vi m.src, vi m.serial, .bool (decide (m.kind = 2)), vi ((Ad l m.line).turn + 1), vi (Ad l m.line).need, v46] else (bif S 18 then [vi (Ad l m.line).value, vi (Ad l m.line).owner, vi (Ad l m.line).sharers, vi (Ad l m.line).phase, vi m.src, vi m.serial, .bool (decide (m.kind = 2)), vi (Ad l m.line).turn, vi (Ad l m.line).need, v46] else (bif S 16 then [vi (Ad l m.line).value, vi (Ad l m.line).owner, vi (Ad l m.line).sharers, vi (Ad l m.line).phase, vi m.src, vi m.serial, .bool (Ad l m.line).alone, vi (Ad l m.line).turn, vi (Ad l m.line).need, v46] else (bif S 14 then [vi (Ad l m.line).value, vi (Ad l m.line).owner, vi (Ad l m.line).sharers, vi (Ad l m.line).phase, vi m.src, vi (Ad l m.line).serial, .bool (Ad l m.line).alone, vi (Ad l m.line).turn, vi (Ad l m.line).need, v46] else (bif S 12 then [vi (Ad l m.line).value, vi (Ad l m.line).owner, vi (Ad l m.line).sharers, vi (Ad l m.line).phase, vi (Ad l m.line).who, vi (Ad l m.line).serial, .bool (Ad l m.line).alone, vi (Ad l m.line).turn, vi (Ad l m.line).need, v46] else [vi (Ad l m.line).value, vi (Ad l m.line).owner, vi (Ad l m.line).sharers, vi (Ad l m.line).phase, vi (Ad l m.line).who, vi (Ad l m.line).serial, .bool (Ad l m.line).alone, vi (Ad l m.line).turn, vi (Ad l m.line).need, u]))))) :: blk b5 42 m.cells :: L) ?_
   refine dn9 ?_
   refine Vz (v := vi (Ad l m.line).turn) (fun ρ S hS hB hA => by have h20 : S 20 = false := hA 20 ⟨0, rfl⟩; simp only [h20, cond_false]; exact C6 (hc := A9 pkk (by repeat (first | exact rfl | refine Jj rfl ?_))) Try.isAgg3) (fun _ _ _ _ _ => rfl) ?_
   first | refine epc (fun _ _ => D9) ?_ | refine epc (fun _ _ => Fb) ?_ | refine epp (fun _ _ => D9) ?_ | refine epp (fun _ _ => Fb) ?_
   refine dn1 ?_
   refine es_ 58 9 [] [14, 16, 18, 20] (fun ρ => b8) (fun ρ => [vi (Ad l m.line).value, vi (Ad l m.line).owner, vi (Ad l m.line).sharers, vi (Ad l m.line).phase, vi (Ad l m.line).who, vi (Ad l m.line).serial, .bool (Ad l m.line).alone, vi (Ad l m.line).turn, vi (Ad l m.line).need, u]) (fun ρ => [v46]) Try.sizeOf56 (h1 := (fun ρ R w L' hd hs u hu => by cases List.mem_singleton.1 hu; exact hone9)) (hv := (fun _ => G8 hone9)) ?_
   refine dn1 ?_
   refine es_ 58 4 [12] [16, 18, 20] (fun ρ => b8) (fun ρ => [vi (Ad l m.line).value, vi (Ad l m.line).owner, vi (Ad l m.line).sharers, vi (Ad l m.line).phase, vi (Ad l m.line).who, vi (Ad l m.line).serial, .bool (Ad l m.line).alone, vi (Ad l m.line).turn, vi (Ad l m.line).need, v46]) (fun ρ => [vi m.src]) Try.sizeOf3 ?_
   refine dn1 ?_
   refine es_ 58 5 [12, 14] [18, 20] (fun ρ => b8) (fun ρ => [vi (Ad l m.line).value, vi (Ad l m.line).owner, vi (Ad l m.line).sharers, vi (Ad l m.line).phase, vi m.src, vi (Ad l m.line).serial, .bool (Ad l m.line).alone, vi (Ad l m.line).turn, vi (Ad l m.line).need, v46]) (fun ρ => [vi m.serial]) Try.sizeOf3 ?_
   refine dn1 ?_
   refine es_ 58 6 [12, 14, 16] [20] (fun ρ => b8) (fun ρ => [vi (Ad l m.line).value, vi (Ad l m.line).owner, vi (Ad l m.line).sharers, vi (Ad l m.line).phase, vi m.src, vi m.serial, .bool (Ad l m.line).alone, vi (Ad l m.line).turn, vi (Ad l m.line).need, v46]) (fun ρ => [.bool (decide (m.kind = 2))]) Try.sizeOf4 ?_
   refine dn1 ?_
   refine es_ 58 7 [12, 14, 16, 18] [] (fun ρ => b8) (fun ρ => [vi (Ad l m.line).value, vi (Ad l m.line).owner, vi (Ad l m.line).sharers, vi (Ad l m.line).phase, vi m.src, vi m.serial, .bool (decide (m.kind = 2)), vi (Ad l m.line).turn, vi (Ad l m.line).need, v46]) (fun ρ => [vi ((Ad l m.line).turn + 1)]) Try.sizeOf3 ?_
   refine dnl ?_; intro ρ
   refine xq_ (blk b8 58 [vi (Ad l m.line).value, vi (Ad l m.line).owner, vi (Ad l m.line).sharers, vi (Ad l m.line).phase, vi m.src, vi m.serial, .bool (decide (m.kind = 2)), vi ((Ad l m.line).turn + 1), vi (Ad l m.line).need, v46] :: blk b5 42 m.cells :: L) ?_
   refine Gm ?_
   refine rn1 ?_
   have hX : EB ({ (Ad l m.line) with last := ((Ad l m.line).last.set m.src.toNat m.serial), who := m.src, serial := m.serial, alone := m.kind == 2, turn := (Ad l m.line).turn + 1 }) := by unfold EB Entry.wf An; simp only; omega
   refine Ar Try.call68 rfl (fun w hs => Hw (e := { (Ad l m.line) with last := ((Ad l m.line).last.set m.src.toNat m.serial), who := m.src, serial := m.serial, alone := m.kind == 2, turn := (Ad l m.line).turn + 1 }) (u := v46) hs hX (by assumption)) ?_; intro _
   refine s_B (cs := (A6 ({ (Ad l m.line) with last := ((Ad l m.line).last.set m.src.toNat m.serial), who := m.src, serial := m.serial, alone := m.kind == 2, turn := (Ad l m.line).turn + 1 })).cells v46) Try.sizeOf58 ?_
   refine Gl ?_
   have er : Am l id m = (l.set m.line.toNat (A6 ({ (Ad l m.line) with last := ((Ad l m.line).last.set m.src.toNat m.serial), who := m.src, serial := m.serial, alone := m.kind == 2, turn := (Ad l m.line).turn + 1 })), says (A6 ({ (Ad l m.line) with last := ((Ad l m.line).last.set m.src.toNat m.serial), who := m.src, serial := m.serial, alone := m.kind == 2, turn := (Ad l m.line).turn + 1 })) m.line id) := Dz (by omega) (by unfold Bl; rw [if_pos (by omega), if_neg (by unfold Ej; omega)]; rfl)
   refine cq_ (blk b8 58 ((A6 ({ (Ad l m.line) with last := ((Ad l m.line).last.set m.src.toNat m.serial), who := m.src, serial := m.serial, alone := m.kind == 2, turn := (Ad l m.line).turn + 1 })).cells v46) :: blk b5 42 m.cells :: L) ?_
   refine jd_ (fun ρ S => blk b8 58 ((A6 ({ (Ad l m.line) with last := ((Ad l m.line).last.set m.src.toNat m.serial), who := m.src, serial := m.serial, alone := m.kind == 2, turn := (Ad l m.line).turn + 1 })).cells v46) :: blk b5 42 m.cells :: L) ?_
   refine dn4 ?_
   refine Bp (γ := Value) (val := fun v => v) (F := fun v => [sl v (l.set m.line.toNat (A6 ({ (Ad l m.line) with last := ((Ad l m.line).last.set m.src.toNat m.serial), who := m.src, serial := m.serial, alone := m.kind == 2, turn := (Ad l m.line).turn + 1 })))]) Try.call69 (fun _ => rfl) (fun ρ L R w hd hs => Bo (e := A6 ({ (Ad l m.line) with last := ((Ad l m.line).last.set m.src.toNat m.serial), who := m.src, serial := m.serial, alone := m.kind == 2, turn := (Ad l m.line).turn + 1 })) (u := v46) hs (hd.base mm) (by rw [Ek]; exact hd.base mm) (Du hX).1 (by omega)) (fun _ _ _ _ _ => rfl) ?_
   refine dn4 ?_
   refine Bp (γ := Value) (val := fun v => v) (F := fun v => [sl v (says (A6 ({ (Ad l m.line) with last := ((Ad l m.line).last.set m.src.toNat m.serial), who := m.src, serial := m.serial, alone := m.kind == 2, turn := (Ad l m.line).turn + 1 })) m.line id)]) Try.call34 (fun _ => rfl) (fun ρ L R w hd hs => Gt (e := A6 ({ (Ad l m.line) with last := ((Ad l m.line).last.set m.src.toNat m.serial), who := m.src, serial := m.serial, alone := m.kind == 2, turn := (Ad l m.line).turn + 1 })) (u := v46) hs (Du hX) (by assumption) hm.2.2.2.1 hid) (fun _ _ _ _ _ => rfl) ?_
   refine e_p (v := fun ρ => (Gh.dec (γ := Value) (ρ 4))) (fun _ _ => Eb) (Ind.gh (h := fun g => ((Gh.dec (γ := Value) g) : Value)) 4 0 rfl) (fun _ _ _ _ _ => rfl) ?_
   refine e_p (v := fun ρ => (Gh.dec (γ := Value) (ρ 9))) (fun _ _ => Eb) (Ind.gh (h := fun g => ((Gh.dec (γ := Value) g) : Value)) 9 0 rfl) (fun _ _ _ _ _ => rfl) ?_
   refine dnl ?_; intro ρ
   refine xq_ (blk b8 58 ((A6 ({ (Ad l m.line) with last := ((Ad l m.line).last.set m.src.toNat m.serial), who := m.src, serial := m.serial, alone := m.kind == 2, turn := (Ad l m.line).turn + 1 })).cells v46) :: blk b5 42 m.cells :: L) ?_
   generalize (Gh.dec (γ := Value) (ρ 4)) = v287
   generalize (Gh.dec (γ := Value) (ρ 9)) = v292
   refine Gl ?_
   rw [er]
   exact C9 (v287, v292)
end Go.Proofs.Ytofgpimoekhfaaa

/- This file proves what the home hears, by the document's answer: some kinds of messages. No conditions. -/
set_option linter.unusedVariables false
set_option linter.unusedSimpArgs false
set_option maxHeartbeats 1000000
set_option maxRecDepth 8000
namespace Go.Proofs.Ytofgpimoekhfaaa
open Go
theorem Nd {L : List Chunk} {R : List Fact} {w : World} {v0 : Value} {l : List Entry} {id : Int} {m : Msg} (hs : St (L) R w) (h0 : sl v0 l ∈ R) (hb : ∀ i, i < l.length → EB (l.getD i A8)) (hla : ∀ i, i < l.length → (l.getD i A8).last.length ≤ 4) (hm : m.wf) (hid : An id) (hk : 0 ≤ m.line ∧ m.line < (l.length : Int) ∧ 0 ≤ m.src ∧ m.src < ((Ad l m.line).last.length : Int) ∧ m.kind = 9) : Calls Try.prog 30 [v0, vi id, .agg m.cells.toArray].toArray w (Cg (fun v : Value × Value => .tuple #[v.1, v.2]) (fun v => L) (fun v => sl v.1 (Am l id m).1 :: sl v.2 (Am l id m).2 :: R)) := by
  have hlen := Bv h0 hs
  have hm0 := hm
  unfold Msg.wf An at hm0
  have hid0 := hid
  unfold An at hid0
  refine Ah Try.func30 rfl Try.ntmps30 rfl hs ?_
  clear hs
  refine Gm ?_
  refine bx ?_; intro b5
  refine Ga2 ?_
  refine Gx (v := v0) m.line mm (by omega) (by omega) (fun hEw u => ?_)
  have hE : EB (Ad l m.line) := hb m.line.toNat (by omega)
  have hE0 := hE
  unfold EB Entry.wf An at hE0
  have hL : (Ad l m.line).last.length ≤ 4 := hla m.line.toNat (by omega)
  refine JC.know (p := u.oneCell' = true) (fun w hs => isSlice.one (hs.fact (.tail _ (.head _)))) (fun hone => ?_)
  refine JC.know (p := ∀ x ∈ (Ad l m.line).last, An x) (fun w hs => G1 (.tail _ (.head _)) hs) (fun hlin => ?_)
  refine Gi ?_
  refine dn2 ?_
  refine djc (fun _ _ => Ae rfl rfl (Al (by omega))) ?_
  refine djc (fun _ _ => Dh) ?_
  refine dn4 ?_
  refine dj (dgy ?_)
  refine dc (fun _ _ => Ae rfl rfl (Bc (by omega))) ?_
  refine djc (fun _ _ => E3) ?_
  refine djc (fun _ _ => Dh) ?_
  refine dn2 ?_
  refine dj (dgy ?_)
  refine dc (fun _ _ => Ae rfl rfl (Al (by omega))) ?_
  refine djc (fun _ _ => E3) ?_
  refine djc (fun _ _ => Dh) ?_
  refine dn9 ?_
  refine dj (dgy ?_)
  refine dc (fun _ _ => Ae rfl rfl (Bc (show ¬ ((Ad l m.line).last.length : Int) ≤ m.src by omega))) ?_
  refine djc (fun _ _ => E3) ?_
  refine dnl ?_; intro ρ
  refine Gmc ?_
  refine rn5 ?_
  refine al_ (cs := zEC) Try.zeroValue58 ?_; intro b8
  refine s_B (cs := Entry.cells u (Ad l m.line)) Try.sizeOf58 ?_
  refine Gl ?_
  refine kp [0, 1, 5, 6, 7, 8, 9, 43, 44, 45, 46] ?_
  refine Aa ?_
  refine liO ([] : List Int) D3 rfl (fun j h => Fa) ?_; intro v43
  refine rn2 ?_
  refine ap D3 (hb := fun w hs => by have : maxN = 16777216 := rfl; simp only [List.length_nil]; omega) (k := ?_); intro v46
  refine Gb1 ?_
  refine Gb2 ?_
  refine ob (Ae rfl rfl (Ak (by omega))) ?_
  refine Gd1 ?_
  refine ob (Ae rfl rfl (Ak (by omega))) ?_
  refine Gd1 ?_
  refine ob (Ae rfl rfl (Ak (by omega))) ?_
  refine Gd1 ?_
  refine ob (Ae rfl rfl (Av (by omega))) ?_
  refine Gd1 ?_
  refine rn4 ?_
  refine jgx (t := 146) (p := ?p1) (hd := ?d1) ?e1 ?_ ?_; case e1 => exact rfl
  ·
   intro ht146
   refine Gc13 ?_
   refine kp [0, 1, 5, 6, 7, 8, 48, 160] ?_
   refine Aa ?_
   refine Ga3 ?_
   have er : Am l id m = (l, []) := Ci (by omega) (by unfold Bl; rw [if_neg (by omega), if_neg (by omega), if_neg (by omega), if_neg (by omega), if_neg (by omega)])
   rw [er]
   exact C9 (v0, .slice none 0 0) (hs := fun w hs => Aj (St.shut (hs.rowNil 42 Msg)))
  ·
   intro ht146
   refine rn7 ?_
   refine jgx (t := 153) (p := ?p2) (hd := ?d2) ?e2 ?_ ?_; case e2 => exact rfl
   ·
    intro ht153
    refine Gc6 ?_
    refine kp [0, 1, 5, 6, 7, 8, 48, 160] ?_
    refine Aa ?_
    refine Ga3 ?_
    have er : Am l id m = (l, []) := Ci (by omega) (by unfold Bl; rw [if_neg (by omega), if_neg (by omega), if_neg (by omega), if_neg (by omega), if_neg (by omega)])
    rw [er]
    exact C9 (v0, .slice none 0 0) (hs := fun w hs => Aj (St.shut (hs.rowNil 42 Msg)))
   ·
    intro ht153
    refine Ga6 ?_
    refine cdx (p := ?p3) (hd := ?d3) ?e3 ?_ ?_; case e3 => exact rfl
    ·
     intro ht159
     refine Gl ?_
     refine kp [0, 1, 5, 6, 7, 8, 48, 160] ?_
     refine Aa ?_
     refine Ga3 ?_
     have er : Am l id m = (l, []) := Ci (by omega) (by unfold Bl; rw [if_neg (by omega), if_neg (by omega), if_neg (by omega), if_neg (by omega), if_neg (by omega)])
     rw [er]
     exact C9 (v0, .slice none 0 0) (hs := fun w hs => Aj (St.shut (hs.rowNil 42 Msg)))
    ·
     intro ht159
     refine Gl ?_
     refine kp [0, 1, 5, 6, 7, 8, 48, 161, 162, 163, 164, 165, 166, 167, 168, 169, 170, 171] ?_
     refine Aa ?_
     refine rn4 ?_
     refine Md (t := 164) (b := ?b4) ?e4 ?_ ?_; case e4 => exact rfl
     ·
      intro ht164
      refine rn4 ?_
      refine gy ?_
      generalize hhas : (Ad l m.line).sharers.toNat.testBit (Ad l m.line).owner.toNat = bh
      refine Ar (val := fun _ => .bool bh) Try.call70 rfl (fun w hs => by have h := Ll (z := (Ad l m.line).sharers.toNat) (k := (Ad l m.line).owner.toNat) hs (by omega) (by omega); rw [Int.toNat_of_nonneg (by omega), Int.toNat_of_nonneg (by omega), hhas] at h; exact h) ?_; intro _
      refine Ga2 ?_
      refine Bh (b := ?b5) ?e5 ?_ ?_; case e5 => exact rfl
      ·
       intro ht171
       have hp2 : ((2 ^ (Ad l m.line).owner.toNat : Nat) : Int) ≤ 8 := Int.ofNat_le.2 (Nat.pow_le_pow_right (n := 2) (by decide) (show (Ad l m.line).owner.toNat ≤ 3 by omega))
       have hp0 : (0 : Int) ≤ ((2 ^ (Ad l m.line).owner.toNat : Nat) : Int) := Int.natCast_nonneg _
       refine cq_ (blk b8 58 [vi (Ad l m.line).value, vi (Ad l m.line).owner, vi (Ad l m.line).sharers, vi (Ad l m.line).phase, vi (Ad l m.line).who, vi (Ad l m.line).serial, .bool (Ad l m.line).alone, vi (Ad l m.line).turn, vi (Ad l m.line).need, u] :: blk b5 42 m.cells :: L) ?_
       refine jd_ (fun ρ S => blk b8 58 [vi (Ad l m.line).value, vi (Ad l m.line).owner, vi (Ad l m.line).sharers, vi (Ad l m.line).phase, vi (Ad l m.line).who, vi (Ad l m.line).serial, .bool (Ad l m.line).alone, vi (Ad l m.line).turn, vi (Ad l m.line).need, u] :: blk b5 42 m.cells :: L) ?_
       refine dn4 ?_
       refine Bp (γ := Unit) (val := fun _ => vi ((2 ^ (Ad l m.line).owner.toNat : Nat) : Int)) (F := fun _ => []) Try.call71 (fun _ => rfl) (fun ρ L R w hd hs => by have h := J9 (k := (Ad l m.line).owner.toNat) hs (by omega); rw [Int.toNat_of_nonneg (by omega)] at h; exact h) (fun _ _ _ _ _ => rfl) ?_
       first | refine epc (fun _ _ => D9) ?_ | refine epc (fun _ _ => Fb) ?_ | refine epp (fun _ _ => D9) ?_ | refine epp (fun _ _ => Fb) ?_
       refine dtl ?_; intro ρ
       refine J.conseq (L' := blk b8 58 [vi (Ad l m.line).value, vi (Ad l m.line).owner, vi (Ad l m.line).sharers, vi (Ad l m.line).phase, vi (Ad l m.line).who, vi (Ad l m.line).serial, .bool (Ad l m.line).alone, vi (Ad l m.line).turn, vi (Ad l m.line).need, u] :: blk b5 42 m.cells :: L) (fun w hs => hs) ?_
       refine rn1 ?_
       refine sc ?_
       refine Gm ?_
       refine rn3 ?_
       refine sc ?_
       refine rn1 ?_
       refine sc ?_
       refine Gm ?_
       refine rn1 ?_
       have hp3 := Vj hE0.2.1.1 hE0.2.1.2 (show 0 ≤ (Ad l m.line).owner by omega) hE0.2.2.2.2.1.2 (by rw [hhas]; simpa using ht171)
       have hX : EB ({ (Ad l m.line) with value := m.value, sharers := ((Ad l m.line).sharers + ((2 ^ (Ad l m.line).owner.toNat : Nat) : Int)), owner := -1 }) := by unfold EB Entry.wf An; simp only; omega
       refine Ar Try.call68 rfl (fun w hs => Hw (e := { (Ad l m.line) with value := m.value, sharers := ((Ad l m.line).sharers + ((2 ^ (Ad l m.line).owner.toNat : Nat) : Int)), owner := -1 }) (u := u) hs hX (by assumption)) ?_; intro _
       refine s_B (cs := (A6 ({ (Ad l m.line) with value := m.value, sharers := ((Ad l m.line).sharers + ((2 ^ (Ad l m.line).owner.toNat : Nat) : Int)), owner := -1 })).cells u) Try.sizeOf58 ?_
       refine Gl ?_
       have ed : (if (Ad l m.line).alone then (Ad l m.line).sharers else H3 (Ad l m.line).sharers (Ad l m.line).owner) = ((Ad l m.line).sharers + ((2 ^ (Ad l m.line).owner.toNat : Nat) : Int)) := by
        obtain ⟨b1, b2, _⟩ := Cp hE0.2.1.1 hE0.2.1.2 (show 0 ≤ (Ad l m.line).owner by omega) hE0.2.2.2.2.1.2
        rw [if_neg (by simpa using ht164), (b2 (by simpa [hhas] using ht171)).1]
       have er : Am l id m = (l.set m.line.toNat (A6 ({ (Ad l m.line) with value := m.value, sharers := ((Ad l m.line).sharers + ((2 ^ (Ad l m.line).owner.toNat : Nat) : Int)), owner := -1 })), says (A6 ({ (Ad l m.line) with value := m.value, sharers := ((Ad l m.line).sharers + ((2 ^ (Ad l m.line).owner.toNat : Nat) : Int)), owner := -1 })) m.line id) := Dz (by omega) (by unfold Bl; rw [if_neg (by omega), if_neg (by omega), if_pos (by omega)]; unfold G4; rw [ed])
       refine cq_ (blk b8 58 ((A6 ({ (Ad l m.line) with value := m.value, sharers := ((Ad l m.line).sharers + ((2 ^ (Ad l m.line).owner.toNat : Nat) : Int)), owner := -1 })).cells u) :: blk b5 42 m.cells :: L) ?_
       refine jd_ (fun ρ S => blk b8 58 ((A6 ({ (Ad l m.line) with value := m.value, sharers := ((Ad l m.line).sharers + ((2 ^ (Ad l m.line).owner.toNat : Nat) : Int)), owner := -1 })).cells u) :: blk b5 42 m.cells :: L) ?_
       refine dn4 ?_
       refine Bp (γ := Value) (val := fun v => v) (F := fun v => [sl v (l.set m.line.toNat (A6 ({ (Ad l m.line) with value := m.value, sharers := ((Ad l m.line).sharers + ((2 ^ (Ad l m.line).owner.toNat : Nat) : Int)), owner := -1 })))]) Try.call69 (fun _ => rfl) (fun ρ L R w hd hs => Bo (e := A6 ({ (Ad l m.line) with value := m.value, sharers := ((Ad l m.line).sharers + ((2 ^ (Ad l m.line).owner.toNat : Nat) : Int)), owner := -1 })) (u := u) hs (hd.base mm) (by rw [Ek]; exact hd.base mm) (Du hX).1 (by omega)) (fun _ _ _ _ _ => rfl) ?_
       refine dn4 ?_
       refine Bp (γ := Value) (val := fun v => v) (F := fun v => [sl v (says (A6 ({ (Ad l m.line) with value := m.value, sharers := ((Ad l m.line).sharers + ((2 ^ (Ad l m.line).owner.toNat : Nat) : Int)), owner := -1 })) m.line id)]) Try.call34 (fun _ => rfl) (fun ρ L R w hd hs => Gt (e := A6 ({ (Ad l m.line) with value := m.value, sharers := ((Ad l m.line).sharers + ((2 ^ (Ad l m.line).owner.toNat : Nat) : Int)), owner := -1 })) (u := u) hs (Du hX) (by assumption) hm.2.2.2.1 hid) (fun _ _ _ _ _ => rfl) ?_
       refine e_p (v := fun ρ => (Gh.dec (γ := Value) (ρ 4))) (fun _ _ => Eb) (Ind.gh (h := fun g => ((Gh.dec (γ := Value) g) : Value)) 4 0 rfl) (fun _ _ _ _ _ => rfl) ?_
       refine e_p (v := fun ρ => (Gh.dec (γ := Value) (ρ 9))) (fun _ _ => Eb) (Ind.gh (h := fun g => ((Gh.dec (γ := Value) g) : Value)) 9 0 rfl) (fun _ _ _ _ _ => rfl) ?_
       refine dnl ?_; intro ρ
       refine xq_ (blk b8 58 ((A6 ({ (Ad l m.line) with value := m.value, sharers := ((Ad l m.line).sharers + ((2 ^ (Ad l m.line).owner.toNat : Nat) : Int)), owner := -1 })).cells u) :: blk b5 42 m.cells :: L) ?_
       generalize (Gh.dec (γ := Value) (ρ 4)) = v287
       generalize (Gh.dec (γ := Value) (ρ 9)) = v292
       refine Gl ?_
       rw [er]
       exact C9 (v287, v292)
      ·
       intro ht171
       refine Gm ?_
       refine rn3 ?_
       refine sc ?_
       refine rn1 ?_
       refine sc ?_
       refine Gm ?_
       refine rn1 ?_
       skip
       have hX : EB ({ (Ad l m.line) with value := m.value, sharers := (Ad l m.line).sharers, owner := -1 }) := by unfold EB Entry.wf An; simp only; omega
       refine Ar Try.call68 rfl (fun w hs => Hw (e := { (Ad l m.line) with value := m.value, sharers := (Ad l m.line).sharers, owner := -1 }) (u := u) hs hX (by assumption)) ?_; intro _
       refine s_B (cs := (A6 ({ (Ad l m.line) with value := m.value, sharers := (Ad l m.line).sharers, owner := -1 })).cells u) Try.sizeOf58 ?_
       refine Gl ?_
       have ed : (if (Ad l m.line).alone then (Ad l m.line).sharers else H3 (Ad l m.line).sharers (Ad l m.line).owner) = (Ad l m.line).sharers := by
        obtain ⟨b1, b2, _⟩ := Cp hE0.2.1.1 hE0.2.1.2 (show 0 ≤ (Ad l m.line).owner by omega) hE0.2.2.2.2.1.2
        rw [if_neg (by simpa using ht164), (b1 (by simpa [hhas] using ht171)).1]
       have er : Am l id m = (l.set m.line.toNat (A6 ({ (Ad l m.line) with value := m.value, sharers := (Ad l m.line).sharers, owner := -1 })), says (A6 ({ (Ad l m.line) with value := m.value, sharers := (Ad l m.line).sharers, owner := -1 })) m.line id) := Dz (by omega) (by unfold Bl; rw [if_neg (by omega), if_neg (by omega), if_pos (by omega)]; unfold G4; rw [ed])
       refine cq_ (blk b8 58 ((A6 ({ (Ad l m.line) with value := m.value, sharers := (Ad l m.line).sharers, owner := -1 })).cells u) :: blk b5 42 m.cells :: L) ?_
       refine jd_ (fun ρ S => blk b8 58 ((A6 ({ (Ad l m.line) with value := m.value, sharers := (Ad l m.line).sharers, owner := -1 })).cells u) :: blk b5 42 m.cells :: L) ?_
       refine dn4 ?_
       refine Bp (γ := Value) (val := fun v => v) (F := fun v => [sl v (l.set m.line.toNat (A6 ({ (Ad l m.line) with value := m.value, sharers := (Ad l m.line).sharers, owner := -1 })))]) Try.call69 (fun _ => rfl) (fun ρ L R w hd hs => Bo (e := A6 ({ (Ad l m.line) with value := m.value, sharers := (Ad l m.line).sharers, owner := -1 })) (u := u) hs (hd.base mm) (by rw [Ek]; exact hd.base mm) (Du hX).1 (by omega)) (fun _ _ _ _ _ => rfl) ?_
       refine dn4 ?_
       refine Bp (γ := Value) (val := fun v => v) (F := fun v => [sl v (says (A6 ({ (Ad l m.line) with value := m.value, sharers := (Ad l m.line).sharers, owner := -1 })) m.line id)]) Try.call34 (fun _ => rfl) (fun ρ L R w hd hs => Gt (e := A6 ({ (Ad l m.line) with value := m.value, sharers := (Ad l m.line).sharers, owner := -1 })) (u := u) hs (Du hX) (by assumption) hm.2.2.2.1 hid) (fun _ _ _ _ _ => rfl) ?_
       refine e_p (v := fun ρ => (Gh.dec (γ := Value) (ρ 4))) (fun _ _ => Eb) (Ind.gh (h := fun g => ((Gh.dec (γ := Value) g) : Value)) 4 0 rfl) (fun _ _ _ _ _ => rfl) ?_
       refine e_p (v := fun ρ => (Gh.dec (γ := Value) (ρ 9))) (fun _ _ => Eb) (Ind.gh (h := fun g => ((Gh.dec (γ := Value) g) : Value)) 9 0 rfl) (fun _ _ _ _ _ => rfl) ?_
       refine dnl ?_; intro ρ
       refine xq_ (blk b8 58 ((A6 ({ (Ad l m.line) with value := m.value, sharers := (Ad l m.line).sharers, owner := -1 })).cells u) :: blk b5 42 m.cells :: L) ?_
       generalize (Gh.dec (γ := Value) (ρ 4)) = v287
       generalize (Gh.dec (γ := Value) (ρ 9)) = v292
       refine Gl ?_
       rw [er]
       exact C9 (v287, v292)
     ·
      intro ht164
      refine Gd7 ?_
      refine rn3 ?_
      refine sc ?_
      refine rn1 ?_
      refine sc ?_
      refine Gm ?_
      refine rn1 ?_
      skip
      have hX : EB ({ (Ad l m.line) with value := m.value, sharers := (Ad l m.line).sharers, owner := -1 }) := by unfold EB Entry.wf An; simp only; omega
      refine Ar Try.call68 rfl (fun w hs => Hw (e := { (Ad l m.line) with value := m.value, sharers := (Ad l m.line).sharers, owner := -1 }) (u := u) hs hX (by assumption)) ?_; intro _
      refine s_B (cs := (A6 ({ (Ad l m.line) with value := m.value, sharers := (Ad l m.line).sharers, owner := -1 })).cells u) Try.sizeOf58 ?_
      refine Gl ?_
      have ed : (if (Ad l m.line).alone then (Ad l m.line).sharers else H3 (Ad l m.line).sharers (Ad l m.line).owner) = (Ad l m.line).sharers := by
       obtain ⟨b1, b2, _⟩ := Cp hE0.2.1.1 hE0.2.1.2 (show 0 ≤ (Ad l m.line).owner by omega) hE0.2.2.2.2.1.2
       rw [if_pos (by simpa using ht164)]
      have er : Am l id m = (l.set m.line.toNat (A6 ({ (Ad l m.line) with value := m.value, sharers := (Ad l m.line).sharers, owner := -1 })), says (A6 ({ (Ad l m.line) with value := m.value, sharers := (Ad l m.line).sharers, owner := -1 })) m.line id) := Dz (by omega) (by unfold Bl; rw [if_neg (by omega), if_neg (by omega), if_pos (by omega)]; unfold G4; rw [ed])
      refine cq_ (blk b8 58 ((A6 ({ (Ad l m.line) with value := m.value, sharers := (Ad l m.line).sharers, owner := -1 })).cells u) :: blk b5 42 m.cells :: L) ?_
      refine jd_ (fun ρ S => blk b8 58 ((A6 ({ (Ad l m.line) with value := m.value, sharers := (Ad l m.line).sharers, owner := -1 })).cells u) :: blk b5 42 m.cells :: L) ?_
      refine dn4 ?_
      refine Bp (γ := Value) (val := fun v => v) (F := fun v => [sl v (l.set m.line.toNat (A6 ({ (Ad l m.line) with value := m.value, sharers := (Ad l m.line).sharers, owner := -1 })))]) Try.call69 (fun _ => rfl) (fun ρ L R w hd hs => Bo (e := A6 ({ (Ad l m.line) with value := m.value, sharers := (Ad l m.line).sharers, owner := -1 })) (u := u) hs (hd.base mm) (by rw [Ek]; exact hd.base mm) (Du hX).1 (by omega)) (fun _ _ _ _ _ => rfl) ?_
      refine dn4 ?_
      refine Bp (γ := Value) (val := fun v => v) (F := fun v => [sl v (says (A6 ({ (Ad l m.line) with value := m.value, sharers := (Ad l m.line).sharers, owner := -1 })) m.line id)]) Try.call34 (fun _ => rfl) (fun ρ L R w hd hs => Gt (e := A6 ({ (Ad l m.line) with value := m.value, sharers := (Ad l m.line).sharers, owner := -1 })) (u := u) hs (Du hX) (by assumption) hm.2.2.2.1 hid) (fun _ _ _ _ _ => rfl) ?_
      refine e_p (v := fun ρ => (Gh.dec (γ := Value) (ρ 4))) (fun _ _ => Eb) (Ind.gh (h := fun g => ((Gh.dec (γ := Value) g) : Value)) 4 0 rfl) (fun _ _ _ _ _ => rfl) ?_
      refine e_p (v := fun ρ => (Gh.dec (γ := Value) (ρ 9))) (fun _ _ => Eb) (Ind.gh (h := fun g => ((Gh.dec (γ := Value) g) : Value)) 9 0 rfl) (fun _ _ _ _ _ => rfl) ?_
      refine dnl ?_; intro ρ
      refine xq_ (blk b8 58 ((A6 ({ (Ad l m.line) with value := m.value, sharers := (Ad l m.line).sharers, owner := -1 })).cells u) :: blk b5 42 m.cells :: L) ?_
      generalize (Gh.dec (γ := Value) (ρ 4)) = v287
      generalize (Gh.dec (γ := Value) (ρ 9)) = v292
      refine Gl ?_
      rw [er]
      exact C9 (v287, v292)
end Go.Proofs.Ytofgpimoekhfaaa

/- This file proves what the home hears, by the document's answer: some kinds of messages. No conditions. -/
set_option linter.unusedVariables false
set_option linter.unusedSimpArgs false
set_option maxHeartbeats 1000000
set_option maxRecDepth 8000
namespace Go.Proofs.Ytofgpimoekhfaaa
open Go
theorem Nf {L : List Chunk} {R : List Fact} {w : World} {v0 : Value} {l : List Entry} {id : Int} {m : Msg} (hs : St (L) R w) (h0 : sl v0 l ∈ R) (hb : ∀ i, i < l.length → EB (l.getD i A8)) (hla : ∀ i, i < l.length → (l.getD i A8).last.length ≤ 4) (hm : m.wf) (hid : An id) (hk : 0 ≤ m.line ∧ m.line < (l.length : Int) ∧ 0 ≤ m.src ∧ m.src < ((Ad l m.line).last.length : Int) ∧ m.kind = 8) : Calls Try.prog 30 [v0, vi id, .agg m.cells.toArray].toArray w (Cg (fun v : Value × Value => .tuple #[v.1, v.2]) (fun v => L) (fun v => sl v.1 (Am l id m).1 :: sl v.2 (Am l id m).2 :: R)) := by
  have hlen := Bv h0 hs
  have hm0 := hm
  unfold Msg.wf An at hm0
  have hid0 := hid
  unfold An at hid0
  refine Ah Try.func30 rfl Try.ntmps30 rfl hs ?_
  clear hs
  refine Gm ?_
  refine bx ?_; intro b5
  refine Ga2 ?_
  refine Gx (v := v0) m.line mm (by omega) (by omega) (fun hEw u => ?_)
  have hE : EB (Ad l m.line) := hb m.line.toNat (by omega)
  have hE0 := hE
  unfold EB Entry.wf An at hE0
  have hL : (Ad l m.line).last.length ≤ 4 := hla m.line.toNat (by omega)
  refine JC.know (p := u.oneCell' = true) (fun w hs => isSlice.one (hs.fact (.tail _ (.head _)))) (fun hone => ?_)
  refine JC.know (p := ∀ x ∈ (Ad l m.line).last, An x) (fun w hs => G1 (.tail _ (.head _)) hs) (fun hlin => ?_)
  refine Gi ?_
  refine dn2 ?_
  refine djc (fun _ _ => Ae rfl rfl (Al (by omega))) ?_
  refine djc (fun _ _ => Dh) ?_
  refine dn4 ?_
  refine dj (dgy ?_)
  refine dc (fun _ _ => Ae rfl rfl (Bc (by omega))) ?_
  refine djc (fun _ _ => E3) ?_
  refine djc (fun _ _ => Dh) ?_
  refine dn2 ?_
  refine dj (dgy ?_)
  refine dc (fun _ _ => Ae rfl rfl (Al (by omega))) ?_
  refine djc (fun _ _ => E3) ?_
  refine djc (fun _ _ => Dh) ?_
  refine dn9 ?_
  refine dj (dgy ?_)
  refine dc (fun _ _ => Ae rfl rfl (Bc (show ¬ ((Ad l m.line).last.length : Int) ≤ m.src by omega))) ?_
  refine djc (fun _ _ => E3) ?_
  refine dnl ?_; intro ρ
  refine Gmc ?_
  refine rn5 ?_
  refine al_ (cs := zEC) Try.zeroValue58 ?_; intro b8
  refine s_B (cs := Entry.cells u (Ad l m.line)) Try.sizeOf58 ?_
  refine Gl ?_
  refine kp [0, 1, 5, 6, 7, 8, 9, 43, 44, 45, 46] ?_
  refine Aa ?_
  refine liO ([] : List Int) D3 rfl (fun j h => Fa) ?_; intro v43
  refine rn2 ?_
  refine ap D3 (hb := fun w hs => by have : maxN = 16777216 := rfl; simp only [List.length_nil]; omega) (k := ?_); intro v46
  refine Gb1 ?_
  refine Gb2 ?_
  refine ob (Ae rfl rfl (Ak (by omega))) ?_
  refine Gd1 ?_
  refine ob (Ae rfl rfl (Ak (by omega))) ?_
  refine Gd1 ?_
  refine ob (Ae rfl rfl (Ak (by omega))) ?_
  refine Gd1 ?_
  refine ob (Ae rfl rfl (Ak (by omega))) ?_
  refine Gd1 ?_
  refine ob (Ae rfl rfl (Av (by omega))) ?_
  refine Gd1 ?_
  refine rn4 ?_
  refine jgx (t := 190) (p := ?p1) (hd := ?d1) ?e1 ?_ ?_; case e1 => exact rfl
  ·
   intro ht190
   refine Gc14 ?_
   refine kp [0, 1, 5, 6, 7, 8, 48, 205] ?_
   refine Aa ?_
   refine Ga3 ?_
   have er : Am l id m = (l, []) := Ci (by omega) (by unfold Bl; rw [if_neg (by omega), if_neg (by omega), if_neg (by omega), if_neg (by first | omega | (intro h; have h4 := h.2.2.2; unfold K6 at h4; rw [hhas] at h4; rw [h4] at ht204; exact absurd ht204 (by decide))), if_neg (by omega)])
   rw [er]
   exact C9 (v0, .slice none 0 0) (hs := fun w hs => Aj (St.shut (hs.rowNil 42 Msg)))
  ·
   intro ht190
   refine rn7 ?_
   refine jgx (t := 197) (p := ?p2) (hd := ?d2) ?e2 ?_ ?_; case e2 => exact rfl
   ·
    intro ht197
    refine Gc7 ?_
    refine kp [0, 1, 5, 6, 7, 8, 48, 205] ?_
    refine Aa ?_
    refine Ga3 ?_
    have er : Am l id m = (l, []) := Ci (by omega) (by unfold Bl; rw [if_neg (by omega), if_neg (by omega), if_neg (by omega), if_neg (by first | omega | (intro h; have h4 := h.2.2.2; unfold K6 at h4; rw [hhas] at h4; rw [h4] at ht204; exact absurd ht204 (by decide))), if_neg (by omega)])
    rw [er]
    exact C9 (v0, .slice none 0 0) (hs := fun w hs => Aj (St.shut (hs.rowNil 42 Msg)))
   ·
    intro ht197
    refine rn4 ?_
    refine gy ?_
    generalize hhas : (Ad l m.line).need.toNat.testBit m.src.toNat = bh
    refine Ar (val := fun _ => .bool bh) Try.call70 rfl (fun w hs => by have h := Ll (z := (Ad l m.line).need.toNat) (k := m.src.toNat) hs (by omega) (by omega); rw [Int.toNat_of_nonneg (by omega), Int.toNat_of_nonneg (by omega), hhas] at h; exact h) ?_; intro _
    refine Ga2 ?_
    refine Bh (b := ?b3) ?e3 ?_ ?_; case e3 => exact rfl
    ·
     intro ht204
     refine Gl ?_
     refine kp [0, 1, 5, 6, 7, 8, 48, 205] ?_
     refine Aa ?_
     refine Ga3 ?_
     have er : Am l id m = (l, []) := Ci (by omega) (by unfold Bl; rw [if_neg (by omega), if_neg (by omega), if_neg (by omega), if_neg (by first | omega | (intro h; have h4 := h.2.2.2; unfold K6 at h4; rw [hhas] at h4; rw [h4] at ht204; exact absurd ht204 (by decide))), if_neg (by omega)])
     rw [er]
     exact C9 (v0, .slice none 0 0) (hs := fun w hs => Aj (St.shut (hs.rowNil 42 Msg)))
    ·
     intro ht204
     refine Gl ?_
     have hp2 : ((2 ^ m.src.toNat : Nat) : Int) ≤ 8 := Int.ofNat_le.2 (Nat.pow_le_pow_right (n := 2) (by decide) (show m.src.toNat ≤ 3 by omega))
     have hp0 : (0 : Int) ≤ ((2 ^ m.src.toNat : Nat) : Int) := Int.natCast_nonneg _
     refine kp [0, 1, 5, 6, 7, 8, 48, 206, 207, 208, 209, 210, 211, 212] ?_
     refine cq_ (blk b8 58 [vi (Ad l m.line).value, vi (Ad l m.line).owner, vi (Ad l m.line).sharers, vi (Ad l m.line).phase, vi (Ad l m.line).who, vi (Ad l m.line).serial, .bool (Ad l m.line).alone, vi (Ad l m.line).turn, vi (Ad l m.line).need, u] :: blk b5 42 m.cells :: L) ?_
     refine jd_ (fun ρ S => blk b8 58 [vi (Ad l m.line).value, vi (Ad l m.line).owner, vi (Ad l m.line).sharers, vi (Ad l m.line).phase, vi (Ad l m.line).who, vi (Ad l m.line).serial, .bool (Ad l m.line).alone, vi (Ad l m.line).turn, vi (Ad l m.line).need, u] :: blk b5 42 m.cells :: L) ?_
     refine dn4 ?_
     refine Bp (γ := Unit) (val := fun _ => vi ((2 ^ m.src.toNat : Nat) : Int)) (F := fun _ => []) Try.call71 (fun _ => rfl) (fun ρ L R w hd hs => by have h := J9 (k := m.src.toNat) hs (by omega); rw [Int.toNat_of_nonneg (by omega)] at h; exact h) (fun _ _ _ _ _ => rfl) ?_
     first | refine epc (fun _ _ => Nm) ?_ | refine epp (fun _ _ => Nm) ?_
     refine dtl ?_; intro ρ
     refine J.conseq (L' := blk b8 58 [vi (Ad l m.line).value, vi (Ad l m.line).owner, vi (Ad l m.line).sharers, vi (Ad l m.line).phase, vi (Ad l m.line).who, vi (Ad l m.line).serial, .bool (Ad l m.line).alone, vi (Ad l m.line).turn, vi (Ad l m.line).need, u] :: blk b5 42 m.cells :: L) (fun w hs => hs) ?_
     refine rn1 ?_
     refine sc ?_
     refine Gm ?_
     refine rn4 ?_
     generalize hhasS : (Ad l m.line).sharers.toNat.testBit m.src.toNat = bhS
     refine Ar (val := fun _ => .bool bhS) Try.call70 rfl (fun w hs => by have h := Ll (z := (Ad l m.line).sharers.toNat) (k := m.src.toNat) hs (by omega) (by omega); rw [Int.toNat_of_nonneg (by omega), Int.toNat_of_nonneg (by omega), hhasS] at h; exact h) ?_; intro _
     refine Gl ?_
     refine Bh (b := ?b4) ?e4 ?_ ?_; case e4 => exact rfl
     ·
      intro ht217
      refine cq_ (blk b8 58 [vi (Ad l m.line).value, vi (Ad l m.line).owner, vi (Ad l m.line).sharers, vi (Ad l m.line).phase, vi (Ad l m.line).who, vi (Ad l m.line).serial, .bool (Ad l m.line).alone, vi (Ad l m.line).turn, vi ((Ad l m.line).need - ((2 ^ m.src.toNat : Nat) : Int)), u] :: blk b5 42 m.cells :: L) ?_
      refine jd_ (fun ρ S => blk b8 58 [vi (Ad l m.line).value, vi (Ad l m.line).owner, vi (Ad l m.line).sharers, vi (Ad l m.line).phase, vi (Ad l m.line).who, vi (Ad l m.line).serial, .bool (Ad l m.line).alone, vi (Ad l m.line).turn, vi ((Ad l m.line).need - ((2 ^ m.src.toNat : Nat) : Int)), u] :: blk b5 42 m.cells :: L) ?_
      refine dn4 ?_
      refine Bp (γ := Unit) (val := fun _ => vi ((2 ^ m.src.toNat : Nat) : Int)) (F := fun _ => []) Try.call71 (fun _ => rfl) (fun ρ L R w hd hs => by have h := J9 (k := m.src.toNat) hs (by omega); rw [Int.toNat_of_nonneg (by omega)] at h; exact h) (fun _ _ _ _ _ => rfl) ?_
      first | refine epc (fun _ _ => Nm) ?_ | refine epp (fun _ _ => Nm) ?_
      refine dtl ?_; intro ρ
      refine J.conseq (L' := blk b8 58 [vi (Ad l m.line).value, vi (Ad l m.line).owner, vi (Ad l m.line).sharers, vi (Ad l m.line).phase, vi (Ad l m.line).who, vi (Ad l m.line).serial, .bool (Ad l m.line).alone, vi (Ad l m.line).turn, vi ((Ad l m.line).need - ((2 ^ m.src.toNat : Nat) : Int)), u] :: blk b5 42 m.cells :: L) (fun w hs => hs) ?_
      refine rn1 ?_
      refine sc ?_
      refine Gm ?_
      refine Ga3 ?_
      refine cdx (p := ?p5) (hd := ?d5) ?e5 ?_ ?_; case e5 => exact rfl
      ·
       intro ht227
       refine Gl ?_
       have hh : (Ad l m.line).need.toNat.testBit m.src.toNat = true := by rw [hhas]; simpa using ht204
       have hhS : (Ad l m.line).sharers.toNat.testBit m.src.toNat = true := by rw [hhasS]; exact ht217
       have eg : C4 (Ad l m.line) m = { (Ad l m.line) with need := ((Ad l m.line).need - ((2 ^ m.src.toNat : Nat) : Int)), sharers := ((Ad l m.line).sharers - ((2 ^ m.src.toNat : Nat) : Int)) } := by
        obtain ⟨b1, b2, _⟩ := Cp hE0.2.1.1 hE0.2.1.2 (show 0 ≤ m.src by omega) (show m.src < 4 by omega)
        obtain ⟨c1, _⟩ := Cp hE0.2.2.1.1 hE0.2.2.1.2 (show 0 ≤ m.src by omega) (show m.src < 4 by omega)
        unfold C4
        rw [(c1 hh).2, (b1 hhS).2]
       refine JC.slNil Msg ?_
       have er : Am l id m = (l.set m.line.toNat ({ (Ad l m.line) with need := ((Ad l m.line).need - ((2 ^ m.src.toNat : Nat) : Int)), sharers := ((Ad l m.line).sharers - ((2 ^ m.src.toNat : Nat) : Int)) }), []) := Dz (by omega) (by unfold Bl; rw [if_neg (by omega), if_neg (by omega), if_neg (by omega), if_pos ⟨by omega, by omega, by omega, hh⟩, eg, if_neg (by simp only; omega)])
       refine Aa ?_
       refine rn4 ?_
       refine Ar Try.call69 rfl (fun w hs => Bo (e := { (Ad l m.line) with need := ((Ad l m.line).need - ((2 ^ m.src.toNat : Nat) : Int)), sharers := ((Ad l m.line).sharers - ((2 ^ m.src.toNat : Nat) : Int)) }) (u := u) hs mm mm (by unfold Entry.wf An; simp only; omega) (by omega)) ?_; intro v232
       refine Ga2 ?_
       rw [er]
       exact C9 (v232, .slice none 0 0)
      ·
       intro ht227
       refine Gm ?_
       refine rn1 ?_
       have hp3 := Mp hE0.2.2.1.1 hE0.2.2.1.2 (show 0 ≤ m.src by omega) (show m.src < 4 by omega) (by rw [hhas]; simpa using ht204)
       have hp4 := Mp hE0.2.1.1 hE0.2.1.2 (show 0 ≤ m.src by omega) (show m.src < 4 by omega) (by rw [hhasS]; exact ht217)
       have hX : EB ({ (Ad l m.line) with need := ((Ad l m.line).need - ((2 ^ m.src.toNat : Nat) : Int)), sharers := ((Ad l m.line).sharers - ((2 ^ m.src.toNat : Nat) : Int)) }) := by unfold EB Entry.wf An; simp only; omega
       refine Ar Try.call68 rfl (fun w hs => Hw (e := { (Ad l m.line) with need := ((Ad l m.line).need - ((2 ^ m.src.toNat : Nat) : Int)), sharers := ((Ad l m.line).sharers - ((2 ^ m.src.toNat : Nat) : Int)) }) (u := u) hs hX (by assumption)) ?_; intro _
       refine s_B (cs := (A6 ({ (Ad l m.line) with need := ((Ad l m.line).need - ((2 ^ m.src.toNat : Nat) : Int)), sharers := ((Ad l m.line).sharers - ((2 ^ m.src.toNat : Nat) : Int)) })).cells u) Try.sizeOf58 ?_
       refine Gl ?_
       have hh : (Ad l m.line).need.toNat.testBit m.src.toNat = true := by rw [hhas]; simpa using ht204
       have hhS : (Ad l m.line).sharers.toNat.testBit m.src.toNat = true := by rw [hhasS]; exact ht217
       have eg : C4 (Ad l m.line) m = { (Ad l m.line) with need := ((Ad l m.line).need - ((2 ^ m.src.toNat : Nat) : Int)), sharers := ((Ad l m.line).sharers - ((2 ^ m.src.toNat : Nat) : Int)) } := by
        obtain ⟨b1, b2, _⟩ := Cp hE0.2.1.1 hE0.2.1.2 (show 0 ≤ m.src by omega) (show m.src < 4 by omega)
        obtain ⟨c1, _⟩ := Cp hE0.2.2.1.1 hE0.2.2.1.2 (show 0 ≤ m.src by omega) (show m.src < 4 by omega)
        unfold C4
        rw [(c1 hh).2, (b1 hhS).2]
       have er : Am l id m = (l.set m.line.toNat (A6 ({ (Ad l m.line) with need := ((Ad l m.line).need - ((2 ^ m.src.toNat : Nat) : Int)), sharers := ((Ad l m.line).sharers - ((2 ^ m.src.toNat : Nat) : Int)) })), says (A6 ({ (Ad l m.line) with need := ((Ad l m.line).need - ((2 ^ m.src.toNat : Nat) : Int)), sharers := ((Ad l m.line).sharers - ((2 ^ m.src.toNat : Nat) : Int)) })) m.line id) := Dz (by omega) (by unfold Bl; rw [if_neg (by omega), if_neg (by omega), if_neg (by omega), if_pos ⟨by omega, by omega, by omega, hh⟩, eg, if_pos (by simp only; omega)])
       refine cq_ (blk b8 58 ((A6 ({ (Ad l m.line) with need := ((Ad l m.line).need - ((2 ^ m.src.toNat : Nat) : Int)), sharers := ((Ad l m.line).sharers - ((2 ^ m.src.toNat : Nat) : Int)) })).cells u) :: blk b5 42 m.cells :: L) ?_
       refine jd_ (fun ρ S => blk b8 58 ((A6 ({ (Ad l m.line) with need := ((Ad l m.line).need - ((2 ^ m.src.toNat : Nat) : Int)), sharers := ((Ad l m.line).sharers - ((2 ^ m.src.toNat : Nat) : Int)) })).cells u) :: blk b5 42 m.cells :: L) ?_
       refine dn4 ?_
       refine Bp (γ := Value) (val := fun v => v) (F := fun v => [sl v (l.set m.line.toNat (A6 ({ (Ad l m.line) with need := ((Ad l m.line).need - ((2 ^ m.src.toNat : Nat) : Int)), sharers := ((Ad l m.line).sharers - ((2 ^ m.src.toNat : Nat) : Int)) })))]) Try.call69 (fun _ => rfl) (fun ρ L R w hd hs => Bo (e := A6 ({ (Ad l m.line) with need := ((Ad l m.line).need - ((2 ^ m.src.toNat : Nat) : Int)), sharers := ((Ad l m.line).sharers - ((2 ^ m.src.toNat : Nat) : Int)) })) (u := u) hs (hd.base mm) (by rw [Ek]; exact hd.base mm) (Du hX).1 (by omega)) (fun _ _ _ _ _ => rfl) ?_
       refine dn4 ?_
       refine Bp (γ := Value) (val := fun v => v) (F := fun v => [sl v (says (A6 ({ (Ad l m.line) with need := ((Ad l m.line).need - ((2 ^ m.src.toNat : Nat) : Int)), sharers := ((Ad l m.line).sharers - ((2 ^ m.src.toNat : Nat) : Int)) })) m.line id)]) Try.call34 (fun _ => rfl) (fun ρ L R w hd hs => Gt (e := A6 ({ (Ad l m.line) with need := ((Ad l m.line).need - ((2 ^ m.src.toNat : Nat) : Int)), sharers := ((Ad l m.line).sharers - ((2 ^ m.src.toNat : Nat) : Int)) })) (u := u) hs (Du hX) (by assumption) hm.2.2.2.1 hid) (fun _ _ _ _ _ => rfl) ?_
       refine e_p (v := fun ρ => (Gh.dec (γ := Value) (ρ 4))) (fun _ _ => Eb) (Ind.gh (h := fun g => ((Gh.dec (γ := Value) g) : Value)) 4 0 rfl) (fun _ _ _ _ _ => rfl) ?_
       refine e_p (v := fun ρ => (Gh.dec (γ := Value) (ρ 9))) (fun _ _ => Eb) (Ind.gh (h := fun g => ((Gh.dec (γ := Value) g) : Value)) 9 0 rfl) (fun _ _ _ _ _ => rfl) ?_
       refine dnl ?_; intro ρ
       refine xq_ (blk b8 58 ((A6 ({ (Ad l m.line) with need := ((Ad l m.line).need - ((2 ^ m.src.toNat : Nat) : Int)), sharers := ((Ad l m.line).sharers - ((2 ^ m.src.toNat : Nat) : Int)) })).cells u) :: blk b5 42 m.cells :: L) ?_
       generalize (Gh.dec (γ := Value) (ρ 4)) = v287
       generalize (Gh.dec (γ := Value) (ρ 9)) = v292
       refine Gl ?_
       rw [er]
       exact C9 (v287, v292)
     ·
      intro ht217
      refine Gm ?_
      refine Ga3 ?_
      refine cdx (p := ?p6) (hd := ?d6) ?e6 ?_ ?_; case e6 => exact rfl
      ·
       intro ht227
       refine Gl ?_
       have hh : (Ad l m.line).need.toNat.testBit m.src.toNat = true := by rw [hhas]; simpa using ht204
       have hhS : (Ad l m.line).sharers.toNat.testBit m.src.toNat = false := by rw [hhasS]; simpa using ht217
       have eg : C4 (Ad l m.line) m = { (Ad l m.line) with need := ((Ad l m.line).need - ((2 ^ m.src.toNat : Nat) : Int)), sharers := (Ad l m.line).sharers } := by
        obtain ⟨b1, b2, _⟩ := Cp hE0.2.1.1 hE0.2.1.2 (show 0 ≤ m.src by omega) (show m.src < 4 by omega)
        obtain ⟨c1, _⟩ := Cp hE0.2.2.1.1 hE0.2.2.1.2 (show 0 ≤ m.src by omega) (show m.src < 4 by omega)
        unfold C4
        rw [(c1 hh).2, (b2 hhS).2]
       refine JC.slNil Msg ?_
       have er : Am l id m = (l.set m.line.toNat ({ (Ad l m.line) with need := ((Ad l m.line).need - ((2 ^ m.src.toNat : Nat) : Int)), sharers := (Ad l m.line).sharers }), []) := Dz (by omega) (by unfold Bl; rw [if_neg (by omega), if_neg (by omega), if_neg (by omega), if_pos ⟨by omega, by omega, by omega, hh⟩, eg, if_neg (by simp only; omega)])
       refine Aa ?_
       refine rn4 ?_
       refine Ar Try.call69 rfl (fun w hs => Bo (e := { (Ad l m.line) with need := ((Ad l m.line).need - ((2 ^ m.src.toNat : Nat) : Int)), sharers := (Ad l m.line).sharers }) (u := u) hs mm mm (by unfold Entry.wf An; simp only; omega) (by omega)) ?_; intro v232
       refine Ga2 ?_
       rw [er]
       exact C9 (v232, .slice none 0 0)
      ·
       intro ht227
       refine Gm ?_
       refine rn1 ?_
       have hp3 := Mp hE0.2.2.1.1 hE0.2.2.1.2 (show 0 ≤ m.src by omega) (show m.src < 4 by omega) (by rw [hhas]; simpa using ht204)
       have hX : EB ({ (Ad l m.line) with need := ((Ad l m.line).need - ((2 ^ m.src.toNat : Nat) : Int)), sharers := (Ad l m.line).sharers }) := by unfold EB Entry.wf An; simp only; omega
       refine Ar Try.call68 rfl (fun w hs => Hw (e := { (Ad l m.line) with need := ((Ad l m.line).need - ((2 ^ m.src.toNat : Nat) : Int)), sharers := (Ad l m.line).sharers }) (u := u) hs hX (by assumption)) ?_; intro _
       refine s_B (cs := (A6 ({ (Ad l m.line) with need := ((Ad l m.line).need - ((2 ^ m.src.toNat : Nat) : Int)), sharers := (Ad l m.line).sharers })).cells u) Try.sizeOf58 ?_
       refine Gl ?_
       have hh : (Ad l m.line).need.toNat.testBit m.src.toNat = true := by rw [hhas]; simpa using ht204
       have hhS : (Ad l m.line).sharers.toNat.testBit m.src.toNat = false := by rw [hhasS]; simpa using ht217
       have eg : C4 (Ad l m.line) m = { (Ad l m.line) with need := ((Ad l m.line).need - ((2 ^ m.src.toNat : Nat) : Int)), sharers := (Ad l m.line).sharers } := by
        obtain ⟨b1, b2, _⟩ := Cp hE0.2.1.1 hE0.2.1.2 (show 0 ≤ m.src by omega) (show m.src < 4 by omega)
        obtain ⟨c1, _⟩ := Cp hE0.2.2.1.1 hE0.2.2.1.2 (show 0 ≤ m.src by omega) (show m.src < 4 by omega)
        unfold C4
        rw [(c1 hh).2, (b2 hhS).2]
       have er : Am l id m = (l.set m.line.toNat (A6 ({ (Ad l m.line) with need := ((Ad l m.line).need - ((2 ^ m.src.toNat : Nat) : Int)), sharers := (Ad l m.line).sharers })), says (A6 ({ (Ad l m.line) with need := ((Ad l m.line).need - ((2 ^ m.src.toNat : Nat) : Int)), sharers := (Ad l m.line).sharers })) m.line id) := Dz (by omega) (by unfold Bl; rw [if_neg (by omega), if_neg (by omega), if_neg (by omega), if_pos ⟨by omega, by omega, by omega, hh⟩, eg, if_pos (by simp only; omega)])
       refine cq_ (blk b8 58 ((A6 ({ (Ad l m.line) with need := ((Ad l m.line).need - ((2 ^ m.src.toNat : Nat) : Int)), sharers := (Ad l m.line).sharers })).cells u) :: blk b5 42 m.cells :: L) ?_
       refine jd_ (fun ρ S => blk b8 58 ((A6 ({ (Ad l m.line) with need := ((Ad l m.line).need - ((2 ^ m.src.toNat : Nat) : Int)), sharers := (Ad l m.line).sharers })).cells u) :: blk b5 42 m.cells :: L) ?_
       refine dn4 ?_
       refine Bp (γ := Value) (val := fun v => v) (F := fun v => [sl v (l.set m.line.toNat (A6 ({ (Ad l m.line) with need := ((Ad l m.line).need - ((2 ^ m.src.toNat : Nat) : Int)), sharers := (Ad l m.line).sharers })))]) Try.call69 (fun _ => rfl) (fun ρ L R w hd hs => Bo (e := A6 ({ (Ad l m.line) with need := ((Ad l m.line).need - ((2 ^ m.src.toNat : Nat) : Int)), sharers := (Ad l m.line).sharers })) (u := u) hs (hd.base mm) (by rw [Ek]; exact hd.base mm) (Du hX).1 (by omega)) (fun _ _ _ _ _ => rfl) ?_
       refine dn4 ?_
       refine Bp (γ := Value) (val := fun v => v) (F := fun v => [sl v (says (A6 ({ (Ad l m.line) with need := ((Ad l m.line).need - ((2 ^ m.src.toNat : Nat) : Int)), sharers := (Ad l m.line).sharers })) m.line id)]) Try.call34 (fun _ => rfl) (fun ρ L R w hd hs => Gt (e := A6 ({ (Ad l m.line) with need := ((Ad l m.line).need - ((2 ^ m.src.toNat : Nat) : Int)), sharers := (Ad l m.line).sharers })) (u := u) hs (Du hX) (by assumption) hm.2.2.2.1 hid) (fun _ _ _ _ _ => rfl) ?_
       refine e_p (v := fun ρ => (Gh.dec (γ := Value) (ρ 4))) (fun _ _ => Eb) (Ind.gh (h := fun g => ((Gh.dec (γ := Value) g) : Value)) 4 0 rfl) (fun _ _ _ _ _ => rfl) ?_
       refine e_p (v := fun ρ => (Gh.dec (γ := Value) (ρ 9))) (fun _ _ => Eb) (Ind.gh (h := fun g => ((Gh.dec (γ := Value) g) : Value)) 9 0 rfl) (fun _ _ _ _ _ => rfl) ?_
       refine dnl ?_; intro ρ
       refine xq_ (blk b8 58 ((A6 ({ (Ad l m.line) with need := ((Ad l m.line).need - ((2 ^ m.src.toNat : Nat) : Int)), sharers := (Ad l m.line).sharers })).cells u) :: blk b5 42 m.cells :: L) ?_
       generalize (Gh.dec (γ := Value) (ρ 4)) = v287
       generalize (Gh.dec (γ := Value) (ρ 9)) = v292
       refine Gl ?_
       rw [er]
       exact C9 (v287, v292)
end Go.Proofs.Ytofgpimoekhfaaa

/- This file proves what the home hears, by the document's answer: some kinds of messages. No conditions. -/
set_option linter.unusedVariables false
set_option linter.unusedSimpArgs false
set_option maxHeartbeats 1000000
set_option maxRecDepth 8000
namespace Go.Proofs.Ytofgpimoekhfaaa
open Go
theorem L4 {L : List Chunk} {R : List Fact} {w : World} {v0 : Value} {l : List Entry} {id : Int} {m : Msg} (hs : St (L) R w) (h0 : sl v0 l ∈ R) (hb : ∀ i, i < l.length → EB (l.getD i A8)) (hla : ∀ i, i < l.length → (l.getD i A8).last.length ≤ 4) (hm : m.wf) (hid : An id) (hk : 0 ≤ m.line ∧ m.line < (l.length : Int) ∧ 0 ≤ m.src ∧ m.src < ((Ad l m.line).last.length : Int) ∧ m.kind = 10) : Calls Try.prog 30 [v0, vi id, .agg m.cells.toArray].toArray w (Cg (fun v : Value × Value => .tuple #[v.1, v.2]) (fun v => L) (fun v => sl v.1 (Am l id m).1 :: sl v.2 (Am l id m).2 :: R)) := by
  have hlen := Bv h0 hs
  have hm0 := hm
  unfold Msg.wf An at hm0
  have hid0 := hid
  unfold An at hid0
  refine Ah Try.func30 rfl Try.ntmps30 rfl hs ?_
  clear hs
  refine Gm ?_
  refine bx ?_; intro b5
  refine Ga2 ?_
  refine Gx (v := v0) m.line mm (by omega) (by omega) (fun hEw u => ?_)
  have hE : EB (Ad l m.line) := hb m.line.toNat (by omega)
  have hE0 := hE
  unfold EB Entry.wf An at hE0
  have hL : (Ad l m.line).last.length ≤ 4 := hla m.line.toNat (by omega)
  refine JC.know (p := u.oneCell' = true) (fun w hs => isSlice.one (hs.fact (.tail _ (.head _)))) (fun hone => ?_)
  refine JC.know (p := ∀ x ∈ (Ad l m.line).last, An x) (fun w hs => G1 (.tail _ (.head _)) hs) (fun hlin => ?_)
  refine Gi ?_
  refine dn2 ?_
  refine djc (fun _ _ => Ae rfl rfl (Al (by omega))) ?_
  refine djc (fun _ _ => Dh) ?_
  refine dn4 ?_
  refine dj (dgy ?_)
  refine dc (fun _ _ => Ae rfl rfl (Bc (by omega))) ?_
  refine djc (fun _ _ => E3) ?_
  refine djc (fun _ _ => Dh) ?_
  refine dn2 ?_
  refine dj (dgy ?_)
  refine dc (fun _ _ => Ae rfl rfl (Al (by omega))) ?_
  refine djc (fun _ _ => E3) ?_
  refine djc (fun _ _ => Dh) ?_
  refine dn9 ?_
  refine dj (dgy ?_)
  refine dc (fun _ _ => Ae rfl rfl (Bc (show ¬ ((Ad l m.line).last.length : Int) ≤ m.src by omega))) ?_
  refine djc (fun _ _ => E3) ?_
  refine dnl ?_; intro ρ
  refine Gmc ?_
  refine rn5 ?_
  refine al_ (cs := zEC) Try.zeroValue58 ?_; intro b8
  refine s_B (cs := Entry.cells u (Ad l m.line)) Try.sizeOf58 ?_
  refine Gl ?_
  refine kp [0, 1, 5, 6, 7, 8, 9, 43, 44, 45, 46] ?_
  refine Aa ?_
  refine liO ([] : List Int) D3 rfl (fun j h => Fa) ?_; intro v43
  refine rn2 ?_
  refine ap D3 (hb := fun w hs => by have : maxN = 16777216 := rfl; simp only [List.length_nil]; omega) (k := ?_); intro v46
  refine Gb1 ?_
  refine Gb2 ?_
  refine ob (Ae rfl rfl (Ak (by omega))) ?_
  refine Gd1 ?_
  refine ob (Ae rfl rfl (Ak (by omega))) ?_
  refine Gd1 ?_
  refine ob (Ae rfl rfl (Ak (by omega))) ?_
  refine Gd1 ?_
  refine ob (Ae rfl rfl (Ak (by omega))) ?_
  refine Gd1 ?_
  refine ob (Ae rfl rfl (Ak (by omega))) ?_
  refine Gd1 ?_
  refine ob (Ae rfl rfl (Av (by omega))) ?_
  refine Gd1 ?_
  refine rn4 ?_
  refine jgx (t := 240) (p := ?p1) (hd := ?d1) ?e1 ?_ ?_; case e1 => exact rfl
  ·
   intro ht240
   refine Gc13 ?_
   refine kp [0, 1, 5, 6, 7, 8, 254] ?_
   refine Aa ?_
   refine Ga3 ?_
   have er : Am l id m = (l, []) := Ci (by omega) (by unfold Bl; rw [if_neg (by omega), if_neg (by omega), if_neg (by omega), if_neg (by omega), if_neg (by omega)])
   rw [er]
   exact C9 (v0, .slice none 0 0) (hs := fun w hs => Aj (St.shut (hs.rowNil 42 Msg)))
  ·
   intro ht240
   refine rn7 ?_
   refine jgx (t := 247) (p := ?p2) (hd := ?d2) ?e2 ?_ ?_; case e2 => exact rfl
   ·
    intro ht247
    refine Gc6 ?_
    refine kp [0, 1, 5, 6, 7, 8, 254] ?_
    refine Aa ?_
    refine Ga3 ?_
    have er : Am l id m = (l, []) := Ci (by omega) (by unfold Bl; rw [if_neg (by omega), if_neg (by omega), if_neg (by omega), if_neg (by omega), if_neg (by omega)])
    rw [er]
    exact C9 (v0, .slice none 0 0) (hs := fun w hs => Aj (St.shut (hs.rowNil 42 Msg)))
   ·
    intro ht247
    refine Ga6 ?_
    refine cdx (p := ?p3) (hd := ?d3) ?e3 ?_ ?_; case e3 => exact rfl
    ·
     intro ht253
     refine Gl ?_
     refine kp [0, 1, 5, 6, 7, 8, 254] ?_
     refine Aa ?_
     refine Ga3 ?_
     have er : Am l id m = (l, []) := Ci (by omega) (by unfold Bl; rw [if_neg (by omega), if_neg (by omega), if_neg (by omega), if_neg (by omega), if_neg (by omega)])
     rw [er]
     exact C9 (v0, .slice none 0 0) (hs := fun w hs => Aj (St.shut (hs.rowNil 42 Msg)))
    ·
     intro ht253
     refine Gl ?_
     refine kp [0, 1, 5, 6, 7, 8, 255, 256] ?_
     refine Aa ?_
     refine Ga2 ?_
     refine Bh (b := ?b4) ?e4 ?_ ?_; case e4 => exact rfl
     ·
      intro ht256
      refine Aa ?_
      refine rn3 ?_
      refine sc ?_
      refine rn1 ?_
      refine sc ?_
      refine Gm ?_
      refine rn1 ?_
      refine sc ?_
      refine rn1 ?_
      refine sc ?_
      refine rn1 ?_
      refine sc ?_
      refine rn1 ?_
      refine sc ?_
      refine Gl ?_
      have et : Ed (Ad l m.line) = { (Ad l m.line) with owner := (Ad l m.line).who, sharers := 0, phase := 0, who := 0, serial := 0, alone := false } := by unfold Ed; rw [if_pos ht256]
      refine JC.slNil Msg ?_
      have er : Am l id m = (l.set m.line.toNat ({ (Ad l m.line) with owner := (Ad l m.line).who, sharers := 0, phase := 0, who := 0, serial := 0, alone := false }), []) := Dz (by omega) (by unfold Bl; rw [if_neg (by omega), if_neg (by omega), if_neg (by omega), if_neg (by omega), if_pos (by omega), et])
      refine Aa ?_
      refine rn4 ?_
      refine Ar Try.call69 rfl (fun w hs => Bo (e := { (Ad l m.line) with owner := (Ad l m.line).who, sharers := 0, phase := 0, who := 0, serial := 0, alone := false }) (u := u) hs mm mm (by unfold Entry.wf An; simp only; omega) (by omega)) ?_; intro v282
      refine Ga2 ?_
      rw [er]
      exact C9 (v282, .slice none 0 0)
     ·
      intro ht256
      refine Gm ?_
      refine rn4 ?_
      generalize hhasT : (Ad l m.line).sharers.toNat.testBit (Ad l m.line).who.toNat = bhT
      refine Ar (val := fun _ => .bool bhT) Try.call70 rfl (fun w hs => by have h := Ll (z := (Ad l m.line).sharers.toNat) (k := (Ad l m.line).who.toNat) hs (by omega) (by omega); rw [Int.toNat_of_nonneg (by omega), Int.toNat_of_nonneg (by omega), hhasT] at h; exact h) ?_; intro _
      refine Ga1 ?_
      refine Bh (b := ?b5) ?e5 ?_ ?_; case e5 => exact rfl
      ·
       intro ht266
       have hp2 : ((2 ^ (Ad l m.line).who.toNat : Nat) : Int) ≤ 8 := Int.ofNat_le.2 (Nat.pow_le_pow_right (n := 2) (by decide) (show (Ad l m.line).who.toNat ≤ 3 by omega))
       have hp0 : (0 : Int) ≤ ((2 ^ (Ad l m.line).who.toNat : Nat) : Int) := Int.natCast_nonneg _
       refine cq_ (blk b8 58 [vi (Ad l m.line).value, vi (Ad l m.line).owner, vi (Ad l m.line).sharers, vi (Ad l m.line).phase, vi (Ad l m.line).who, vi (Ad l m.line).serial, .bool (Ad l m.line).alone, vi (Ad l m.line).turn, vi (Ad l m.line).need, u] :: blk b5 42 m.cells :: L) ?_
       refine jd_ (fun ρ S => blk b8 58 [vi (Ad l m.line).value, vi (Ad l m.line).owner, vi (Ad l m.line).sharers, vi (Ad l m.line).phase, vi (Ad l m.line).who, vi (Ad l m.line).serial, .bool (Ad l m.line).alone, vi (Ad l m.line).turn, vi (Ad l m.line).need, u] :: blk b5 42 m.cells :: L) ?_
       refine dn4 ?_
       refine Bp (γ := Unit) (val := fun _ => vi ((2 ^ (Ad l m.line).who.toNat : Nat) : Int)) (F := fun _ => []) Try.call71 (fun _ => rfl) (fun ρ L R w hd hs => by have h := J9 (k := (Ad l m.line).who.toNat) hs (by omega); rw [Int.toNat_of_nonneg (by omega)] at h; exact h) (fun _ _ _ _ _ => rfl) ?_
       first | refine epc (fun _ _ => D9) ?_ | refine epc (fun _ _ => Fb) ?_ | refine epp (fun _ _ => D9) ?_ | refine epp (fun _ _ => Fb) ?_
       refine dtl ?_; intro ρ
       refine J.conseq (L' := blk b8 58 [vi (Ad l m.line).value, vi (Ad l m.line).owner, vi (Ad l m.line).sharers, vi (Ad l m.line).phase, vi (Ad l m.line).who, vi (Ad l m.line).serial, .bool (Ad l m.line).alone, vi (Ad l m.line).turn, vi (Ad l m.line).need, u] :: blk b5 42 m.cells :: L) (fun w hs => hs) ?_
       refine rn1 ?_
       refine sc ?_
       refine Gm ?_
       refine rn1 ?_
       refine sc ?_
       refine rn1 ?_
       refine sc ?_
       refine rn1 ?_
       refine sc ?_
       refine rn1 ?_
       refine sc ?_
       refine Gl ?_
       have et : Ed (Ad l m.line) = { (Ad l m.line) with sharers := ((Ad l m.line).sharers + ((2 ^ (Ad l m.line).who.toNat : Nat) : Int)), phase := 0, who := 0, serial := 0, alone := false } := by
        obtain ⟨b1, b2, _⟩ := Cp hE0.2.1.1 hE0.2.1.2 hE0.2.2.2.1.1 hE0.2.2.2.1.2
        unfold Ed
        rw [if_neg (by rw [ht256]; decide), (b2 (by simpa [hhasT] using ht266)).1]
       refine JC.slNil Msg ?_
       have er : Am l id m = (l.set m.line.toNat ({ (Ad l m.line) with sharers := ((Ad l m.line).sharers + ((2 ^ (Ad l m.line).who.toNat : Nat) : Int)), phase := 0, who := 0, serial := 0, alone := false }), []) := Dz (by omega) (by unfold Bl; rw [if_neg (by omega), if_neg (by omega), if_neg (by omega), if_neg (by omega), if_pos (by omega), et])
       refine Aa ?_
       refine rn4 ?_
       refine Ar Try.call69 rfl (fun w hs => Bo (e := { (Ad l m.line) with sharers := ((Ad l m.line).sharers + ((2 ^ (Ad l m.line).who.toNat : Nat) : Int)), phase := 0, who := 0, serial := 0, alone := false }) (u := u) hs mm mm (by unfold Entry.wf An; simp only; omega) (by omega)) ?_; intro v282
       refine Ga2 ?_
       rw [er]
       exact C9 (v282, .slice none 0 0)
      ·
       intro ht266
       refine Gm ?_
       refine rn1 ?_
       refine sc ?_
       refine rn1 ?_
       refine sc ?_
       refine rn1 ?_
       refine sc ?_
       refine rn1 ?_
       refine sc ?_
       refine Gl ?_
       have et : Ed (Ad l m.line) = { (Ad l m.line) with sharers := (Ad l m.line).sharers, phase := 0, who := 0, serial := 0, alone := false } := by
        obtain ⟨b1, b2, _⟩ := Cp hE0.2.1.1 hE0.2.1.2 hE0.2.2.2.1.1 hE0.2.2.2.1.2
        unfold Ed
        rw [if_neg (by rw [ht256]; decide), (b1 (by simpa [hhasT] using ht266)).1]
       refine JC.slNil Msg ?_
       have er : Am l id m = (l.set m.line.toNat ({ (Ad l m.line) with sharers := (Ad l m.line).sharers, phase := 0, who := 0, serial := 0, alone := false }), []) := Dz (by omega) (by unfold Bl; rw [if_neg (by omega), if_neg (by omega), if_neg (by omega), if_neg (by omega), if_pos (by omega), et])
       refine Aa ?_
       refine rn4 ?_
       refine Ar Try.call69 rfl (fun w hs => Bo (e := { (Ad l m.line) with sharers := (Ad l m.line).sharers, phase := 0, who := 0, serial := 0, alone := false }) (u := u) hs mm mm (by unfold Entry.wf An; simp only; omega) (by omega)) ?_; intro v282
       refine Ga2 ?_
       rw [er]
       exact C9 (v282, .slice none 0 0)
end Go.Proofs.Ytofgpimoekhfaaa

/- This file proves what the home hears, by the document's answer. No conditions. -/
set_option linter.unusedVariables false
set_option linter.unusedSimpArgs false
set_option maxHeartbeats 1000000
set_option maxRecDepth 8000
namespace Go.Proofs.Ytofgpimoekhfaaa
open Go
theorem O0 {L : List Chunk} {R : List Fact} {w : World} {v0 : Value} {l : List Entry} {id : Int} {m : Msg} (hs : St (L) R w) (h0 : sl v0 l ∈ R) (hb : ∀ i, i < l.length → EB (l.getD i A8)) (hla : ∀ i, i < l.length → (l.getD i A8).last.length ≤ 4) (hm : m.wf) (hid : An id) : Calls Try.prog 30 [v0, vi id, .agg m.cells.toArray].toArray w (Cg (fun v : Value × Value => .tuple #[v.1, v.2]) (fun v => L) (fun v => sl v.1 (Am l id m).1 :: sl v.2 (Am l id m).2 :: R)) := by
  by_cases h : 0 ≤ m.line ∧ m.line < (l.length : Int) ∧ 0 ≤ m.src ∧ m.src < ((Ad l m.line).last.length : Int)
  · by_cases h1 : m.kind = 1
    · exact Ni hs h0 hb hla hm hid (by omega)
    by_cases h2 : m.kind = 2
    · exact Nh hs h0 hb hla hm hid (by omega)
    by_cases h3 : m.kind = 3
    · exact Ng hs h0 hb hla hm hid (by omega)
    by_cases h9 : m.kind = 9
    · exact Nd hs h0 hb hla hm hid (by omega)
    by_cases h8 : m.kind = 8
    · exact Nf hs h0 hb hla hm hid (by omega)
    by_cases h10 : m.kind = 10
    · exact L4 hs h0 hb hla hm hid (by omega)
    exact Nc hs h0 hb hla hm hid (by omega)
  · exact Nj hs h0 hb hla hm hid h
end Go.Proofs.Ytofgpimoekhfaaa

/- This file proves what a core hears, by the document's answer: some kinds of messages. No conditions. -/
set_option linter.unusedVariables false
set_option linter.unusedSimpArgs false
set_option maxHeartbeats 1000000
set_option maxRecDepth 8000
namespace Go.Proofs.Ytofgpimoekhfaaa
open Go
theorem T6 {L : List Chunk} {R : List Fact} {w : World} {u : Value} {c : Core} {id home : Int} {m : Msg} (hs : St (L) R w) (hu : sl u c.lines ∈ R) (hk : KB c) (hid : An id) (hhome : An home) (hm : m.wf) (hg : ¬ (0 ≤ m.line ∧ m.line < (c.lines.length : Int))) : Calls Try.prog 47 [.agg (c.cells u).toArray, vi id, vi home, .agg m.cells.toArray].toArray w (Cg (fun v : Value × Value × Value => .tuple #[.agg (Core.cells v.1 (Ag c id home m).1).toArray, v.2.1, v.2.2]) (fun v => L) (fun v => sl v.1 (Ag c id home m).1.lines :: sl v.2.1 (Ag c id home m).2.1 :: sl v.2.2 (Ag c id home m).2.2 :: R)) := by
  have hlen := Bv hu hs
  have hone0 : u.oneCell' = true := isSlice.one (hs.fact hu)
  have hn4 := hk.n
  have hm0 := hm
  unfold Msg.wf An at hm0
  refine Ah Try.func47 rfl Try.ntmps47 rfl hs ?_
  clear hs
  refine Gm ?_
  refine bx ?_; intro b4
  refine bx ?_; intro b5
  refine bx ?_; intro b6
  refine bx ?_; intro b7
  refine al_ (cs := [.slice none 0 0, vi 0, vi 0, vi 0]) Try.zeroValue69 ?_; intro b8
  refine Ga2 ?_
  rcases (show (m.line < 0) ∨ (¬ m.line < 0 ∧ (c.lines.length : Int) ≤ m.line) from by omega) with hc | hc
  ·
   refine Aa ?_
   refine rn2 ?_
   refine ob (Ae rfl rfl (Co (by omega))) ?_
   refine Gc8 ?_
   refine JC.slNil Msg ?_
   refine JC.slNil Done ?_
   refine Aa ?_
   refine rn1 ?_
   refine s_B Try.sizeOf69 ?_
   refine Ga2 ?_
   have er : Ag c id home m = (c, [], []) := P1 (by omega)
   rw [er]
   exact Cu (u, .slice none 0 0, .slice none 0 0) Try.isAgg69 Try.sizeOf69
  ·
   refine Aa ?_
   refine rn2 ?_
   refine ob (Ae rfl rfl (Al (by omega))) ?_
   refine rn6 ?_
   refine gy ?_
   refine ob (Ae rfl rfl (D7 (by omega))) ?_
   refine Gc1 ?_
   refine JC.slNil Msg ?_
   refine JC.slNil Done ?_
   refine Aa ?_
   refine rn1 ?_
   refine s_B Try.sizeOf69 ?_
   refine Ga2 ?_
   have er : Ag c id home m = (c, [], []) := P1 (by omega)
   rw [er]
   exact Cu (u, .slice none 0 0, .slice none 0 0) Try.isAgg69 Try.sizeOf69
theorem T5 {L : List Chunk} {R : List Fact} {w : World} {u : Value} {c : Core} {id home : Int} {m : Msg} (hs : St (L) R w) (hu : sl u c.lines ∈ R) (hk : KB c) (hid : An id) (hhome : An home) (hm : m.wf) (hg : 0 ≤ m.line ∧ m.line < (c.lines.length : Int) ∧ m.kind = 4) : Calls Try.prog 47 [.agg (c.cells u).toArray, vi id, vi home, .agg m.cells.toArray].toArray w (Cg (fun v : Value × Value × Value => .tuple #[.agg (Core.cells v.1 (Ag c id home m).1).toArray, v.2.1, v.2.2]) (fun v => L) (fun v => sl v.1 (Ag c id home m).1.lines :: sl v.2.1 (Ag c id home m).2.1 :: sl v.2.2 (Ag c id home m).2.2 :: R)) := by
  have hlen := Bv hu hs
  have hone0 : u.oneCell' = true := isSlice.one (hs.fact hu)
  have hn4 := hk.n
  have hm0 := hm
  unfold Msg.wf An at hm0
  refine Ah Try.func47 rfl Try.ntmps47 rfl hs ?_
  clear hs
  refine Gm ?_
  refine bx ?_; intro b4
  refine bx ?_; intro b5
  refine bx ?_; intro b6
  refine bx ?_; intro b7
  refine al_ (cs := [.slice none 0 0, vi 0, vi 0, vi 0]) Try.zeroValue69 ?_; intro b8
  refine Gb2 ?_
  refine rn2 ?_
  refine ob (Ae rfl rfl (Al (by omega))) ?_
  refine rn6 ?_
  refine gy ?_
  refine ob (Ae rfl rfl (Bc (by omega))) ?_
  refine Gc1 ?_
  refine F8 (c := c) (v := u) m.line mm (by omega) (by omega) (fun hlw => ?_)
  refine Aa ?_
  refine rn6 ?_
  refine al_ (cs := zLine.cells) Try.zeroValue82 ?_; intro b11
  refine s_B (cs := (Ac c m.line).cells) Try.sizeOf82 ?_
  refine Gm ?_
  refine Ck (vs := [bp b5 0, bp b6 0, bp b7 0]) rfl ?_
  refine Gb1 ?_
  refine Ck (vs := [bp b5 0, bp b4 0]) rfl ?_
  refine Gb1 ?_
  refine Ga2 ?_
  refine kp [4, 5, 7, 8, 9, 10, 11, 12, 13, 43, 44, 45] ?_
  refine Aa ?_
  refine ob (Ae rfl rfl (Av (by omega))) ?_
  refine Gd1 ?_
  refine Ga5 ?_
  refine cdx (p := ?p1) (hd := ?d1) ?e1 ?_ ?_; case e1 => exact rfl
  ·
   intro ht50
   refine Gm ?_
   refine rn3 ?_
   refine sc ?_
   refine Gm ?_
   refine Ga3 ?_
   refine cdx (p := ?p2) (hd := ?d2) ?e2 ?_ ?_; case e2 => exact rfl
   ·
    intro ht56
    refine Aa ?_
    refine rn1 ?_
    refine sc ?_
    refine rn1 ?_
    refine sc ?_
    refine Gl ?_
    refine JC.slNil Done ?_
    have hXw : ({ (Ac c m.line) with seen := m.turn, state := 0, value := 0 } : Line).wf := by first | exact hlw | (unfold Line.wf An at hlw ⊢; simp only; omega)
    refine cq_ (blk b8 69 [.slice none 0 0, vi 0, vi 0, vi 0] :: blk b4 69 (c.cells u) :: blk b11 82 [vi 0, vi 0, vi (Ac c m.line).want, vi (Ac c m.line).serial, vi m.turn, vi (Ac c m.line).gave, vi (Ac c m.line).given] :: blk b5 3 [vi id] :: blk b6 3 [vi home] :: blk b7 42 m.cells :: L) ?_
    refine jd_ (fun ρ S => blk b8 69 (bif S 9 then [Gh.dec (γ := Value) (ρ 4), vi c.wait.kind, vi c.wait.line, vi c.wait.value] else [.slice none 0 0, vi 0, vi 0, vi 0]) :: blk b4 69 (c.cells u) :: blk b11 82 [vi 0, vi 0, vi (Ac c m.line).want, vi (Ac c m.line).serial, vi m.turn, vi (Ac c m.line).gave, vi (Ac c m.line).given] :: blk b5 3 [vi id] :: blk b6 3 [vi home] :: blk b7 42 m.cells :: L) ?_
    refine dn4 ?_
    refine Bp (γ := Value) (val := fun v => .agg (Core.cells v (Ay c m.line ({ (Ac c m.line) with seen := m.turn, state := 0, value := 0 }) c.wait)).toArray) (F := fun v => [sl v (c.lines.set m.line.toNat ({ (Ac c m.line) with seen := m.turn, state := 0, value := 0 }))]) Try.call77 (fun _ => rfl) (fun ρ L R w hd hs => Bd (l := { (Ac c m.line) with seen := m.turn, state := 0, value := 0 }) hs (hd.base mm) hXw (by omega)) (fun ρ g S hS hA => by have u9 : upS S 4 9 = S 9 := rfl; have h9 : S 9 = false := hA 9 ⟨0, rfl⟩; simp only [u9, h9, cond_false]) ?_
    refine dn3 ?_
    refine G5 (γ := Value) (val := fun v => v) (F := fun v => [sl v [Ce 8 id home m.line m.turn 0]]) (caps := [bp b5 0, bp b6 0, bp b7 0]) (vs := [vi 8, vi m.turn, vi 0]) (fun _ => rfl) Try.call85 (fun _ => rfl) (fun ρ S L R w hs hd => N1 hs (A9 pkk rfl) (A9 pkk rfl) (A9 pkk rfl) (by unfold An; omega) hm.2.2.2.2.2.1 (by unfold An; omega) hid hhome hm.2.2.2.1) (fun _ _ _ _ _ => rfl) ?_
    refine es_ 69 0 [] [] (fun ρ => b8) (fun ρ => [.slice none 0 0, vi 0, vi 0, vi 0]) (fun ρ => [Gh.dec (γ := Value) (ρ 4), vi c.wait.kind, vi c.wait.line, vi c.wait.value]) Try.sizeOf69 (h1 := (fun ρ R w L' hd hs => Be (isSlice.one (hs.fact (hd.dep (it := ⟨4, _, _, _, _⟩) (by repeat (first | exact List.Mem.head _ | refine List.Mem.tail _ ?_)) ⟨9, rfl⟩ (List.Mem.head _)))) (by repeat (first | exact Di | refine Be rfl ?_)))) ?_
    refine e_p (v := fun ρ => (Gh.dec (γ := Value) (ρ 8))) (fun _ _ => Eb) (Ind.gh (h := fun g => ((Gh.dec (γ := Value) g) : Value)) 8 0 rfl) (fun _ _ _ _ _ => rfl) ?_
    refine dn1 ?_
    refine dnl ?_; intro ρ
    refine xq_ (blk b8 69 [Gh.dec (γ := Value) (ρ 4), vi c.wait.kind, vi c.wait.line, vi c.wait.value] :: blk b4 69 (c.cells u) :: blk b11 82 [vi 0, vi 0, vi (Ac c m.line).want, vi (Ac c m.line).serial, vi m.turn, vi (Ac c m.line).gave, vi (Ac c m.line).given] :: blk b5 3 [vi id] :: blk b6 3 [vi home] :: blk b7 42 m.cells :: L) ?_
    generalize (Gh.dec (γ := Value) (ρ 4)) = v63
    generalize (Gh.dec (γ := Value) (ρ 8)) = v67
    refine Gl ?_
    have eh : Ec (Ac c m.line) m.turn = { (Ac c m.line) with seen := m.turn, state := 0, value := 0 } := by unfold Ec; rw [if_pos (by omega), if_pos (by omega)]
    have er : Ag c id home m = (Ay c m.line ({ (Ac c m.line) with seen := m.turn, state := 0, value := 0 }) c.wait, [Ce 8 id home m.line m.turn 0], []) := by unfold Ag; rw [if_neg (by omega)]; rw [if_pos (by omega), eh]
    rw [er]
    exact Cu (v63, v67, .slice none 0 0) Try.isAgg69 Try.sizeOf69
   ·
    intro ht56
    refine Gl ?_
    refine JC.slNil Done ?_
    have hXw : ({ (Ac c m.line) with seen := m.turn } : Line).wf := by first | exact hlw | (unfold Line.wf An at hlw ⊢; simp only; omega)
    refine cq_ (blk b8 69 [.slice none 0 0, vi 0, vi 0, vi 0] :: blk b4 69 (c.cells u) :: blk b11 82 [vi (Ac c m.line).state, vi (Ac c m.line).value, vi (Ac c m.line).want, vi (Ac c m.line).serial, vi m.turn, vi (Ac c m.line).gave, vi (Ac c m.line).given] :: blk b5 3 [vi id] :: blk b6 3 [vi home] :: blk b7 42 m.cells :: L) ?_
    refine jd_ (fun ρ S => blk b8 69 (bif S 9 then [Gh.dec (γ := Value) (ρ 4), vi c.wait.kind, vi c.wait.line, vi c.wait.value] else [.slice none 0 0, vi 0, vi 0, vi 0]) :: blk b4 69 (c.cells u) :: blk b11 82 [vi (Ac c m.line).state, vi (Ac c m.line).value, vi (Ac c m.line).want, vi (Ac c m.line).serial, vi m.turn, vi (Ac c m.line).gave, vi (Ac c m.line).given] :: blk b5 3 [vi id] :: blk b6 3 [vi home] :: blk b7 42 m.cells :: L) ?_
    refine dn4 ?_
    refine Bp (γ := Value) (val := fun v => .agg (Core.cells v (Ay c m.line ({ (Ac c m.line) with seen := m.turn }) c.wait)).toArray) (F := fun v => [sl v (c.lines.set m.line.toNat ({ (Ac c m.line) with seen := m.turn }))]) Try.call77 (fun _ => rfl) (fun ρ L R w hd hs => Bd (l := { (Ac c m.line) with seen := m.turn }) hs (hd.base mm) hXw (by omega)) (fun ρ g S hS hA => by have u9 : upS S 4 9 = S 9 := rfl; have h9 : S 9 = false := hA 9 ⟨0, rfl⟩; simp only [u9, h9, cond_false]) ?_
    refine dn3 ?_
    refine G5 (γ := Value) (val := fun v => v) (F := fun v => [sl v [Ce 8 id home m.line m.turn 0]]) (caps := [bp b5 0, bp b6 0, bp b7 0]) (vs := [vi 8, vi m.turn, vi 0]) (fun _ => rfl) Try.call85 (fun _ => rfl) (fun ρ S L R w hs hd => N1 hs (A9 pkk rfl) (A9 pkk rfl) (A9 pkk rfl) (by unfold An; omega) hm.2.2.2.2.2.1 (by unfold An; omega) hid hhome hm.2.2.2.1) (fun _ _ _ _ _ => rfl) ?_
    refine es_ 69 0 [] [] (fun ρ => b8) (fun ρ => [.slice none 0 0, vi 0, vi 0, vi 0]) (fun ρ => [Gh.dec (γ := Value) (ρ 4), vi c.wait.kind, vi c.wait.line, vi c.wait.value]) Try.sizeOf69 (h1 := (fun ρ R w L' hd hs => Be (isSlice.one (hs.fact (hd.dep (it := ⟨4, _, _, _, _⟩) (by repeat (first | exact List.Mem.head _ | refine List.Mem.tail _ ?_)) ⟨9, rfl⟩ (List.Mem.head _)))) (by repeat (first | exact Di | refine Be rfl ?_)))) ?_
    refine e_p (v := fun ρ => (Gh.dec (γ := Value) (ρ 8))) (fun _ _ => Eb) (Ind.gh (h := fun g => ((Gh.dec (γ := Value) g) : Value)) 8 0 rfl) (fun _ _ _ _ _ => rfl) ?_
    refine dn1 ?_
    refine dnl ?_; intro ρ
    refine xq_ (blk b8 69 [Gh.dec (γ := Value) (ρ 4), vi c.wait.kind, vi c.wait.line, vi c.wait.value] :: blk b4 69 (c.cells u) :: blk b11 82 [vi (Ac c m.line).state, vi (Ac c m.line).value, vi (Ac c m.line).want, vi (Ac c m.line).serial, vi m.turn, vi (Ac c m.line).gave, vi (Ac c m.line).given] :: blk b5 3 [vi id] :: blk b6 3 [vi home] :: blk b7 42 m.cells :: L) ?_
    generalize (Gh.dec (γ := Value) (ρ 4)) = v63
    generalize (Gh.dec (γ := Value) (ρ 8)) = v67
    refine Gl ?_
    have eh : Ec (Ac c m.line) m.turn = { (Ac c m.line) with seen := m.turn } := by unfold Ec; rw [if_pos (by omega), if_neg (by omega)]
    have er : Ag c id home m = (Ay c m.line ({ (Ac c m.line) with seen := m.turn }) c.wait, [Ce 8 id home m.line m.turn 0], []) := by unfold Ag; rw [if_neg (by omega)]; rw [if_pos (by omega), eh]
    rw [er]
    exact Cu (v63, v67, .slice none 0 0) Try.isAgg69 Try.sizeOf69
  ·
   intro ht50
   refine Gl ?_
   refine JC.slNil Done ?_
   have hXw : ((Ac c m.line) : Line).wf := by first | exact hlw | (unfold Line.wf An at hlw ⊢; simp only; omega)
   refine cq_ (blk b8 69 [.slice none 0 0, vi 0, vi 0, vi 0] :: blk b4 69 (c.cells u) :: blk b11 82 (Ac c m.line).cells :: blk b5 3 [vi id] :: blk b6 3 [vi home] :: blk b7 42 m.cells :: L) ?_
   refine jd_ (fun ρ S => blk b8 69 (bif S 9 then [Gh.dec (γ := Value) (ρ 4), vi c.wait.kind, vi c.wait.line, vi c.wait.value] else [.slice none 0 0, vi 0, vi 0, vi 0]) :: blk b4 69 (c.cells u) :: blk b11 82 (Ac c m.line).cells :: blk b5 3 [vi id] :: blk b6 3 [vi home] :: blk b7 42 m.cells :: L) ?_
   refine dn4 ?_
   refine Bp (γ := Value) (val := fun v => .agg (Core.cells v (Ay c m.line ((Ac c m.line)) c.wait)).toArray) (F := fun v => [sl v (c.lines.set m.line.toNat ((Ac c m.line)))]) Try.call77 (fun _ => rfl) (fun ρ L R w hd hs => Bd (l := (Ac c m.line)) hs (hd.base mm) hXw (by omega)) (fun ρ g S hS hA => by have u9 : upS S 4 9 = S 9 := rfl; have h9 : S 9 = false := hA 9 ⟨0, rfl⟩; simp only [u9, h9, cond_false]) ?_
   refine dn3 ?_
   refine G5 (γ := Value) (val := fun v => v) (F := fun v => [sl v [Ce 8 id home m.line m.turn 0]]) (caps := [bp b5 0, bp b6 0, bp b7 0]) (vs := [vi 8, vi m.turn, vi 0]) (fun _ => rfl) Try.call85 (fun _ => rfl) (fun ρ S L R w hs hd => N1 hs (A9 pkk rfl) (A9 pkk rfl) (A9 pkk rfl) (by unfold An; omega) hm.2.2.2.2.2.1 (by unfold An; omega) hid hhome hm.2.2.2.1) (fun _ _ _ _ _ => rfl) ?_
   refine es_ 69 0 [] [] (fun ρ => b8) (fun ρ => [.slice none 0 0, vi 0, vi 0, vi 0]) (fun ρ => [Gh.dec (γ := Value) (ρ 4), vi c.wait.kind, vi c.wait.line, vi c.wait.value]) Try.sizeOf69 (h1 := (fun ρ R w L' hd hs => Be (isSlice.one (hs.fact (hd.dep (it := ⟨4, _, _, _, _⟩) (by repeat (first | exact List.Mem.head _ | refine List.Mem.tail _ ?_)) ⟨9, rfl⟩ (List.Mem.head _)))) (by repeat (first | exact Di | refine Be rfl ?_)))) ?_
   refine e_p (v := fun ρ => (Gh.dec (γ := Value) (ρ 8))) (fun _ _ => Eb) (Ind.gh (h := fun g => ((Gh.dec (γ := Value) g) : Value)) 8 0 rfl) (fun _ _ _ _ _ => rfl) ?_
   refine dn1 ?_
   refine dnl ?_; intro ρ
   refine xq_ (blk b8 69 [Gh.dec (γ := Value) (ρ 4), vi c.wait.kind, vi c.wait.line, vi c.wait.value] :: blk b4 69 (c.cells u) :: blk b11 82 (Ac c m.line).cells :: blk b5 3 [vi id] :: blk b6 3 [vi home] :: blk b7 42 m.cells :: L) ?_
   generalize (Gh.dec (γ := Value) (ρ 4)) = v63
   generalize (Gh.dec (γ := Value) (ρ 8)) = v67
   refine Gl ?_
   have eh : Ec (Ac c m.line) m.turn = (Ac c m.line) := by unfold Ec; rw [if_neg (by omega)]
   have er : Ag c id home m = (Ay c m.line ((Ac c m.line)) c.wait, [Ce 8 id home m.line m.turn 0], []) := by unfold Ag; rw [if_neg (by omega)]; rw [if_pos (by omega), eh]
   rw [er]
   exact Cu (v63, v67, .slice none 0 0) Try.isAgg69 Try.sizeOf69
theorem Sd {L : List Chunk} {R : List Fact} {w : World} {u : Value} {c : Core} {id home : Int} {m : Msg} (hs : St (L) R w) (hu : sl u c.lines ∈ R) (hk : KB c) (hid : An id) (hhome : An home) (hm : m.wf) (hg : 0 ≤ m.line ∧ m.line < (c.lines.length : Int) ∧ m.kind = 11) : Calls Try.prog 47 [.agg (c.cells u).toArray, vi id, vi home, .agg m.cells.toArray].toArray w (Cg (fun v : Value × Value × Value => .tuple #[.agg (Core.cells v.1 (Ag c id home m).1).toArray, v.2.1, v.2.2]) (fun v => L) (fun v => sl v.1 (Ag c id home m).1.lines :: sl v.2.1 (Ag c id home m).2.1 :: sl v.2.2 (Ag c id home m).2.2 :: R)) := by
  have hlen := Bv hu hs
  have hone0 : u.oneCell' = true := isSlice.one (hs.fact hu)
  have hn4 := hk.n
  have hm0 := hm
  unfold Msg.wf An at hm0
  refine Ah Try.func47 rfl Try.ntmps47 rfl hs ?_
  clear hs
  refine Gm ?_
  refine bx ?_; intro b4
  refine bx ?_; intro b5
  refine bx ?_; intro b6
  refine bx ?_; intro b7
  refine al_ (cs := [.slice none 0 0, vi 0, vi 0, vi 0]) Try.zeroValue69 ?_; intro b8
  refine Gb2 ?_
  refine rn2 ?_
  refine ob (Ae rfl rfl (Al (by omega))) ?_
  refine rn6 ?_
  refine gy ?_
  refine ob (Ae rfl rfl (Bc (by omega))) ?_
  refine Gc1 ?_
  refine F8 (c := c) (v := u) m.line mm (by omega) (by omega) (fun hlw => ?_)
  refine Aa ?_
  refine rn6 ?_
  refine al_ (cs := zLine.cells) Try.zeroValue82 ?_; intro b11
  refine s_B (cs := (Ac c m.line).cells) Try.sizeOf82 ?_
  refine Gm ?_
  refine Ck (vs := [bp b5 0, bp b6 0, bp b7 0]) rfl ?_
  refine Gb1 ?_
  refine Ck (vs := [bp b5 0, bp b4 0]) rfl ?_
  refine Gb1 ?_
  refine Ga2 ?_
  refine kp [4, 5, 7, 8, 9, 10, 11, 12, 13, 43, 44, 45] ?_
  refine Aa ?_
  refine ob (Ae rfl rfl (Ak (by omega))) ?_
  refine Gd1 ?_
  refine ob (Ae rfl rfl (Ak (by omega))) ?_
  refine Gd1 ?_
  refine ob (Ae rfl rfl (Ak (by omega))) ?_
  refine Gd1 ?_
  refine ob (Ae rfl rfl (Ak (by omega))) ?_
  refine Gd1 ?_
  refine ob (Ae rfl rfl (Av (by omega))) ?_
  refine Gd1 ?_
  refine rn4 ?_
  refine jgx (t := 227) (p := ?p1) (hd := ?d1) ?e1 ?_ ?_; case e1 => exact rfl
  ·
   intro ht227
   refine Ga6 ?_
   refine cdx (p := ?p2) (hd := ?d2) ?e2 ?_ ?_; case e2 => exact rfl
   ·
    intro ht233
    refine Gm ?_
    refine rn1 ?_
    refine sc ?_
    refine rn1 ?_
    refine sc ?_
    refine rn1 ?_
    refine sc ?_
    refine Gm ?_
    refine rn4 ?_
    have hXw : ({ (Ac c m.line) with state := 0, value := 0, want := 0 } : Line).wf := by first | exact hlw | (unfold Line.wf An at hlw ⊢; simp only; omega)
    refine Ar Try.call77 rfl (fun w hs => Bd (l := { (Ac c m.line) with state := 0, value := 0, want := 0 }) hs mm hXw (by omega)) ?_; intro v241
    refine J.know (p := v241.oneCell' = true) (fun w hs => isSlice.one (hs.fact (List.Mem.head _))) (fun hone241 => ?_)
    refine al_ (cs := [.slice none 0 0, vi 0, vi 0, vi 0]) Try.zeroValue69 ?_; intro b21
    refine s_B (cs := [v241, vi c.wait.kind, vi c.wait.line, vi c.wait.value]) Try.sizeOf69 ?_
    refine Gl ?_
    refine kp [4, 8, 9, 10, 13, 21, 242, 243] ?_
    refine Aa ?_
    refine ob (Gp (cs := zOp.cells) R4) ?_
    refine rn1 ?_
    refine s_N [v241, vi 0, vi 0, vi 0] Try.sizeOf66 ?_
    refine Gl ?_
    refine JC.slNil Msg ?_
    refine cq_ (blk b8 69 [.slice none 0 0, vi 0, vi 0, vi 0] :: blk b21 69 [v241, vi 0, vi 0, vi 0] :: blk b4 69 (c.cells u) :: blk b5 3 [vi id] :: L) ?_
    refine jd_ (fun ρ S => blk b8 69 (bif S 3 then [v241, vi 0, vi 0, vi 0] else [.slice none 0 0, vi 0, vi 0, vi 0]) :: blk b21 69 [v241, vi 0, vi 0, vi 0] :: blk b4 69 (c.cells u) :: blk b5 3 [vi id] :: L) ?_
    refine dn2 ?_
    refine G5 (γ := Value) (val := fun v => v) (F := fun v => [sl v [(⟨id, c.wait, 0⟩ : Done)]]) (caps := [bp b5 0, bp b4 0]) (vs := []) (fun _ => rfl) Try.call86 (fun _ => rfl) (fun ρ S L R w hs hd => W3 hs (A9 pkk rfl) (Mu (f := 1) (sz := 3) (vs := c.cells u) pkk) hid hk.wwf) (fun _ _ _ _ _ => rfl) ?_
    refine es_ 69 0 [] [] (fun ρ => b8) (fun ρ => [.slice none 0 0, vi 0, vi 0, vi 0]) (fun ρ => [v241, vi 0, vi 0, vi 0]) Try.sizeOf69 ?_
    refine dn1 ?_
    refine e_p (v := fun ρ => (Gh.dec (γ := Value) (ρ 2))) (fun _ _ => Eb) (Ind.gh (h := fun g => ((Gh.dec (γ := Value) g) : Value)) 2 0 rfl) (fun _ _ _ _ _ => rfl) ?_
    refine dnl ?_; intro ρ
    refine xq_ (blk b8 69 [v241, vi 0, vi 0, vi 0] :: blk b21 69 [v241, vi 0, vi 0, vi 0] :: blk b4 69 (c.cells u) :: blk b5 3 [vi id] :: L) ?_
    generalize (Gh.dec (γ := Value) (ρ 2)) = v246
    refine Gl ?_
    have er : Ag c id home m = (Ay c m.line ({ (Ac c m.line) with state := 0, value := 0, want := 0 }) zOp, [], [⟨id, c.wait, 0⟩]) := by unfold Ag; rw [if_neg (by omega)]; rw [if_neg (by omega), if_neg (by omega), if_neg (by omega)]; rw [if_pos (by omega)]
    rw [er]
    exact Cu (v241, .slice none 0 0, v246) Try.isAgg69 Try.sizeOf69
   ·
    intro ht233
    refine Gl ?_
    refine JC.slNil Msg ?_
    refine JC.slNil Done ?_
    refine Aa ?_
    refine rn1 ?_
    refine s_B Try.sizeOf69 ?_
    refine Ga2 ?_
    have er : Ag c id home m = (c, [], []) := by unfold Ag; rw [if_neg (by omega)]; rw [if_neg (by omega), if_neg (by omega), if_neg (by omega)]; rw [if_neg (by omega)]
    rw [er]
    exact Cu (u, .slice none 0 0, .slice none 0 0) Try.isAgg69 Try.sizeOf69
  ·
   intro ht227
   refine Gc6 ?_
   refine JC.slNil Msg ?_
   refine JC.slNil Done ?_
   refine Aa ?_
   refine rn1 ?_
   refine s_B Try.sizeOf69 ?_
   refine Ga2 ?_
   have er : Ag c id home m = (c, [], []) := by unfold Ag; rw [if_neg (by omega)]; rw [if_neg (by omega), if_neg (by omega), if_neg (by omega)]; rw [if_neg (by omega)]
   rw [er]
   exact Cu (u, .slice none 0 0, .slice none 0 0) Try.isAgg69 Try.sizeOf69
theorem T1 {L : List Chunk} {R : List Fact} {w : World} {u : Value} {c : Core} {id home : Int} {m : Msg} (hs : St (L) R w) (hu : sl u c.lines ∈ R) (hk : KB c) (hid : An id) (hhome : An home) (hm : m.wf) (hg : 0 ≤ m.line ∧ m.line < (c.lines.length : Int) ∧ m.kind ≠ 4 ∧ m.kind ≠ 5 ∧ m.kind ≠ 6 ∧ m.kind ≠ 7 ∧ m.kind ≠ 11) : Calls Try.prog 47 [.agg (c.cells u).toArray, vi id, vi home, .agg m.cells.toArray].toArray w (Cg (fun v : Value × Value × Value => .tuple #[.agg (Core.cells v.1 (Ag c id home m).1).toArray, v.2.1, v.2.2]) (fun v => L) (fun v => sl v.1 (Ag c id home m).1.lines :: sl v.2.1 (Ag c id home m).2.1 :: sl v.2.2 (Ag c id home m).2.2 :: R)) := by
 have hlen := Bv hu hs
 have hone0 : u.oneCell' = true := isSlice.one (hs.fact hu)
 have hn4 := hk.n
 have hm0 := hm
 unfold Msg.wf An at hm0
 refine Ah Try.func47 rfl Try.ntmps47 rfl hs ?_
 clear hs
 refine Gm ?_
 refine bx ?_; intro b4
 refine bx ?_; intro b5
 refine bx ?_; intro b6
 refine bx ?_; intro b7
 refine al_ (cs := [.slice none 0 0, vi 0, vi 0, vi 0]) Try.zeroValue69 ?_; intro b8
 refine Gb2 ?_
 refine rn2 ?_
 refine ob (Ae rfl rfl (Al (by omega))) ?_
 refine rn6 ?_
 refine gy ?_
 refine ob (Ae rfl rfl (Bc (by omega))) ?_
 refine Gc1 ?_
 refine F8 (c := c) (v := u) m.line mm (by omega) (by omega) (fun hlw => ?_)
 refine Aa ?_
 refine rn6 ?_
 refine al_ (cs := zLine.cells) Try.zeroValue82 ?_; intro b11
 refine s_B (cs := (Ac c m.line).cells) Try.sizeOf82 ?_
 refine Gm ?_
 refine Ck (vs := [bp b5 0, bp b6 0, bp b7 0]) rfl ?_
 refine Gb1 ?_
 refine Ck (vs := [bp b5 0, bp b4 0]) rfl ?_
 refine Gb1 ?_
 refine Ga2 ?_
 refine kp [4, 5, 7, 8, 9, 10, 11, 12, 13, 43, 44, 45] ?_
 refine Aa ?_
 refine ob (Ae rfl rfl (Ak (by omega))) ?_
 refine Gd1 ?_
 refine ob (Ae rfl rfl (Ak (by omega))) ?_
 refine Gd1 ?_
 refine ob (Ae rfl rfl (Ak (by omega))) ?_
 refine Gd1 ?_
 refine ob (Ae rfl rfl (Ak (by omega))) ?_
 refine Gd1 ?_
 refine ob (Ae rfl rfl (Ak (by omega))) ?_
 refine Gc1 ?_
 refine JC.slNil Msg ?_
 refine JC.slNil Done ?_
 refine Aa ?_
 refine rn1 ?_
 refine s_B Try.sizeOf69 ?_
 refine Ga2 ?_
 have er : Ag c id home m = (c, [], []) := by unfold Ag; rw [if_neg (by omega)]; rw [if_neg (by omega), if_neg (by omega), if_neg (by omega)]; rw [if_neg (by omega)]
 rw [er]
 exact Cu (u, .slice none 0 0, .slice none 0 0) Try.isAgg69 Try.sizeOf69
end Go.Proofs.Ytofgpimoekhfaaa

/- This file proves what a core hears, by the document's answer: some kinds of messages. No conditions. -/
set_option linter.unusedVariables false
set_option linter.unusedSimpArgs false
set_option maxHeartbeats 1000000
set_option maxRecDepth 8000
namespace Go.Proofs.Ytofgpimoekhfaaa
open Go
theorem T4 {L : List Chunk} {R : List Fact} {w : World} {u : Value} {c : Core} {id home : Int} {m : Msg} (hs : St (L) R w) (hu : sl u c.lines ∈ R) (hk : KB c) (hid : An id) (hhome : An home) (hm : m.wf) (hg : 0 ≤ m.line ∧ m.line < (c.lines.length : Int) ∧ m.kind = 5) : Calls Try.prog 47 [.agg (c.cells u).toArray, vi id, vi home, .agg m.cells.toArray].toArray w (Cg (fun v : Value × Value × Value => .tuple #[.agg (Core.cells v.1 (Ag c id home m).1).toArray, v.2.1, v.2.2]) (fun v => L) (fun v => sl v.1 (Ag c id home m).1.lines :: sl v.2.1 (Ag c id home m).2.1 :: sl v.2.2 (Ag c id home m).2.2 :: R)) := by
  have hlen := Bv hu hs
  have hone0 : u.oneCell' = true := isSlice.one (hs.fact hu)
  have hn4 := hk.n
  have hm0 := hm
  unfold Msg.wf An at hm0
  refine Ah Try.func47 rfl Try.ntmps47 rfl hs ?_
  clear hs
  refine Gm ?_
  refine bx ?_; intro b4
  refine bx ?_; intro b5
  refine bx ?_; intro b6
  refine bx ?_; intro b7
  refine al_ (cs := [.slice none 0 0, vi 0, vi 0, vi 0]) Try.zeroValue69 ?_; intro b8
  refine Gb2 ?_
  refine rn2 ?_
  refine ob (Ae rfl rfl (Al (by omega))) ?_
  refine rn6 ?_
  refine gy ?_
  refine ob (Ae rfl rfl (Bc (by omega))) ?_
  refine Gc1 ?_
  refine F8 (c := c) (v := u) m.line mm (by omega) (by omega) (fun hlw => ?_)
  refine Aa ?_
  refine rn6 ?_
  refine al_ (cs := zLine.cells) Try.zeroValue82 ?_; intro b11
  refine s_B (cs := (Ac c m.line).cells) Try.sizeOf82 ?_
  refine Gm ?_
  refine Ck (vs := [bp b5 0, bp b6 0, bp b7 0]) rfl ?_
  refine Gb1 ?_
  refine Ck (vs := [bp b5 0, bp b4 0]) rfl ?_
  refine Gb1 ?_
  refine Ga2 ?_
  refine kp [4, 5, 7, 8, 9, 10, 11, 12, 13, 43, 44, 45] ?_
  refine Aa ?_
  refine ob (Ae rfl rfl (Ak (by omega))) ?_
  refine Gd1 ?_
  refine ob (Ae rfl rfl (Av (by omega))) ?_
  refine Gc1 ?_
  refine kp [4, 5, 7, 8, 9, 10, 11, 12, 13, 43, 71, 72, 73, 74, 75, 76, 77, 78, 79, 80] ?_
  refine Da 80 (.bool (decide (0 < m.turn ∧ m.turn = (Ac c m.line).gave))) ?_ ?_
  ·
   rcases (show (¬ 0 < m.turn) ∨ (0 < m.turn ∧ ¬ m.turn = (Ac c m.line).gave) ∨ (0 < m.turn ∧ m.turn = (Ac c m.line).gave) from by omega) with hm | hm | hm
   ·
    refine Aa ?_
    refine rn2 ?_
    refine ob (Ae rfl rfl (Bu (by omega))) ?_
    refine Ga7 ?_
    refine Ap ?_ (fun w hs => hs)
    refine ⟨by first | exact congrArg (fun b => some (Value.bool b)) (decide_eq_false (by omega)).symm | exact congrArg (fun b => some (Value.bool b)) (by simp; omega), alT⟩
   ·
    refine Aa ?_
    refine rn2 ?_
    refine ob (Ae rfl rfl (C5 (by omega))) ?_
    refine rn5 ?_
    refine gy ?_
    refine ob (Ae rfl rfl (Ak (by omega))) ?_
    refine Ga1 ?_
    refine Ap ?_ (fun w hs => hs)
    refine ⟨by first | exact congrArg (fun b => some (Value.bool b)) (decide_eq_false (by omega)).symm | exact congrArg (fun b => some (Value.bool b)) (by simp; omega), alT⟩
   ·
    refine Aa ?_
    refine rn2 ?_
    refine ob (Ae rfl rfl (C5 (by omega))) ?_
    refine rn5 ?_
    refine gy ?_
    refine ob (Ae rfl rfl (Av (by omega))) ?_
    refine Ga1 ?_
    refine Ap ?_ (fun w hs => hs)
    refine ⟨by first | exact congrArg (fun b => some (Value.bool b)) (decide_eq_true (by omega)).symm | exact congrArg (fun b => some (Value.bool b)) (by simp; omega), alT⟩
  ·
   refine As ?_
   refine Gl ?_
   first | (refine cdx (p := ?p1) (hd := ?d1) ?e1 ?_ ?_; case e1 => exact rfl) | (refine Bh (b := ?b1) ?e1 ?_ ?_; case e1 => exact rfl)
   ·
    intro ht80
    refine Gl ?_
    refine JC.slNil Done ?_
    refine cq_ (blk b8 69 [.slice none 0 0, vi 0, vi 0, vi 0] :: blk b4 69 (c.cells u) :: blk b11 82 (Ac c m.line).cells :: blk b5 3 [vi id] :: blk b6 3 [vi home] :: blk b7 42 m.cells :: L) ?_
    refine jd_ (fun ρ S => blk b8 69 (bif S 7 then (c.cells u) else [.slice none 0 0, vi 0, vi 0, vi 0]) :: blk b4 69 (c.cells u) :: blk b11 82 (Ac c m.line).cells :: blk b5 3 [vi id] :: blk b6 3 [vi home] :: blk b7 42 m.cells :: L) ?_
    refine dn6 ?_
    refine G5 (γ := Value) (val := fun v => v) (F := fun v => [sl v [Ce 9 id home m.line (Ac c m.line).gave (Ac c m.line).given]]) (caps := [bp b5 0, bp b6 0, bp b7 0]) (vs := [vi 9, vi (Ac c m.line).gave, vi (Ac c m.line).given]) (fun _ => rfl) Try.call85 (fun _ => rfl) (fun ρ S L R w hs hd => N1 hs (A9 pkk rfl) (A9 pkk rfl) (A9 pkk rfl) (by unfold An; omega) hlw.2.2.2.2.2.1 hlw.2.2.2.2.2.2 hid hhome hm.2.2.2.1) (fun _ _ _ _ _ => rfl) ?_
    refine es_ 69 0 [] [] (fun ρ => b8) (fun ρ => [.slice none 0 0, vi 0, vi 0, vi 0]) (fun ρ => (c.cells u)) Try.sizeOf69 ?_
    refine e_p (v := fun ρ => (Gh.dec (γ := Value) (ρ 6))) (fun _ _ => Eb) (Ind.gh (h := fun g => ((Gh.dec (γ := Value) g) : Value)) 6 0 rfl) (fun _ _ _ _ _ => rfl) ?_
    refine dn1 ?_
    refine dnl ?_; intro ρ
    refine xq_ (blk b8 69 (c.cells u) :: blk b4 69 (c.cells u) :: blk b11 82 (Ac c m.line).cells :: blk b5 3 [vi id] :: blk b6 3 [vi home] :: blk b7 42 m.cells :: L) ?_
    generalize (Gh.dec (γ := Value) (ρ 6)) = v87
    refine Gl ?_
    have er : Ag c id home m = (c, [Ce 9 id home m.line (Ac c m.line).gave (Ac c m.line).given], []) := by unfold Ag; rw [if_neg (by omega)]; rw [if_neg (by omega), if_pos (by omega)]; rw [if_neg (by unfold En; omega), if_pos (by omega)]
    rw [er]
    exact Cu (u, v87, .slice none 0 0) Try.isAgg69 Try.sizeOf69
   ·
    intro ht80
    refine Gl ?_
    refine kp [4, 5, 7, 8, 9, 10, 11, 12, 13, 43, 88, 89, 90, 91, 92, 93, 94, 95, 96, 97, 98, 99, 100, 101, 102] ?_
    refine Da 102 (.bool (decide (m.turn ≤ (Ac c m.line).seen ∨ ((Ac c m.line).state ≠ 2 ∧ (Ac c m.line).state ≠ 3)))) ?_ ?_
    ·
     rcases (show (m.turn ≤ (Ac c m.line).seen) ∨ ((Ac c m.line).seen < m.turn ∧ (Ac c m.line).state = 2) ∨ ((Ac c m.line).seen < m.turn ∧ (Ac c m.line).state = 3) ∨ ((Ac c m.line).seen < m.turn ∧ (Ac c m.line).state ≠ 2 ∧ (Ac c m.line).state ≠ 3) from by omega) with hm | hm | hm | hm
     ·
      refine Aa ?_
      refine rn4 ?_
      refine ob (Ae rfl rfl (K4 (by omega))) ?_
      refine Ga10 ?_
      refine Ap ?_ (fun w hs => hs)
      refine ⟨by first | exact congrArg (fun b => some (Value.bool b)) (decide_eq_true (by omega)).symm | exact congrArg (fun b => some (Value.bool b)) (by simp; omega), alT⟩
     ·
      refine Aa ?_
      refine rn4 ?_
      refine ob (Ae rfl rfl (Fe (by omega))) ?_
      refine rn3 ?_
      refine gy ?_
      refine ob (Ae rfl rfl (Cb (by omega))) ?_
      refine Ga6 ?_
      refine Ap ?_ (fun w hs => hs)
      refine ⟨by first | exact congrArg (fun b => some (Value.bool b)) (decide_eq_false (by omega)).symm | exact congrArg (fun b => some (Value.bool b)) (by simp; omega), alT⟩
     ·
      refine Aa ?_
      refine rn4 ?_
      refine ob (Ae rfl rfl (Fe (by omega))) ?_
      refine rn3 ?_
      refine gy ?_
      refine ob (Ae rfl rfl (Cn (by omega))) ?_
      refine rn3 ?_
      refine gy ?_
      refine ob (Ae rfl rfl (Cb (by omega))) ?_
      refine Ga2 ?_
      refine Ap ?_ (fun w hs => hs)
      refine ⟨by first | exact congrArg (fun b => some (Value.bool b)) (decide_eq_false (by omega)).symm | exact congrArg (fun b => some (Value.bool b)) (by simp; omega), alT⟩
     ·
      refine kp [4, 5, 7, 8, 9, 10, 11, 12, 13, 43, 88, 89, 90, 91, 92, 93, 94, 95, 96, 97, 98, 99, 100, 101, 102] ?_
      refine Aa ?_
      refine rn4 ?_
      refine ob (Ae rfl rfl (Fe (by omega))) ?_
      refine rn3 ?_
      refine gy ?_
      refine ob (Ae rfl rfl (Cn (by omega))) ?_
      refine rn3 ?_
      refine gy ?_
      refine ob (Ae rfl rfl (Cn (by omega))) ?_
      refine Ga2 ?_
      refine Ap ?_ (fun w hs => hs)
      refine ⟨by first | exact congrArg (fun b => some (Value.bool b)) (decide_eq_true (by omega)).symm | exact congrArg (fun b => some (Value.bool b)) (by simp; omega), alT⟩
    ·
     refine As ?_
     refine Gl ?_
     first | (refine cdx (p := ?p2) (hd := ?d2) ?e2 ?_ ?_; case e2 => exact rfl) | (refine Bh (b := ?b2) ?e2 ?_ ?_; case e2 => exact rfl)
     ·
      intro ht102
      refine Gl ?_
      refine JC.slNil Msg ?_
      refine JC.slNil Done ?_
      refine Aa ?_
      refine rn1 ?_
      refine s_B Try.sizeOf69 ?_
      refine Ga2 ?_
      have er : Ag c id home m = (c, [], []) := by unfold Ag; rw [if_neg (by omega)]; rw [if_neg (by omega), if_pos (by omega)]; rw [if_neg (by unfold En; omega), if_neg (by omega)]
      rw [er]
      exact Cu (u, .slice none 0 0, .slice none 0 0) Try.isAgg69 Try.sizeOf69
     ·
      intro ht102
      refine Gl ?_
      refine cq_ (blk b11 82 [vi (Ac c m.line).state, vi (Ac c m.line).value, vi (Ac c m.line).want, vi (Ac c m.line).serial, vi (Ac c m.line).seen, vi (Ac c m.line).gave, vi (Ac c m.line).given] :: blk b8 69 [.slice none 0 0, vi 0, vi 0, vi 0] :: blk b4 69 (c.cells u) :: blk b5 3 [vi id] :: blk b6 3 [vi home] :: blk b7 42 m.cells :: L) ?_
      refine jd_ (fun ρ S => blk b11 82 (bif S 11 then [vi (Ac c m.line).state, vi (Ac c m.line).value, vi (Ac c m.line).want, vi (Ac c m.line).serial, vi m.turn, vi m.turn, vi (Ac c m.line).value] else (bif S 9 then [vi (Ac c m.line).state, vi (Ac c m.line).value, vi (Ac c m.line).want, vi (Ac c m.line).serial, vi m.turn, vi m.turn, vi (Ac c m.line).given] else (bif S 7 then [vi (Ac c m.line).state, vi (Ac c m.line).value, vi (Ac c m.line).want, vi (Ac c m.line).serial, vi (Ac c m.line).seen, vi m.turn, vi (Ac c m.line).given] else [vi (Ac c m.line).state, vi (Ac c m.line).value, vi (Ac c m.line).want, vi (Ac c m.line).serial, vi (Ac c m.line).seen, vi (Ac c m.line).gave, vi (Ac c m.line).given]))) :: blk b8 69 [.slice none 0 0, vi 0, vi 0, vi 0] :: blk b4 69 (c.cells u) :: blk b5 3 [vi id] :: blk b6 3 [vi home] :: blk b7 42 m.cells :: L) ?_
      refine dn5 ?_
      refine Vz (v := vi (Ac c m.line).value) (fun ρ S hS hB hA => by have h11 : S 11 = false := hA 11 ⟨0, rfl⟩; simp only [h11, cond_false]; exact C6 (hc := A9 pkk (by repeat (first | exact rfl | refine Jj rfl ?_))) Try.isAgg3) (fun _ _ _ _ _ => rfl) ?_
      refine dn1 ?_
      refine es_ 82 5 [] [9, 11] (fun ρ => b11) (fun ρ => [vi (Ac c m.line).state, vi (Ac c m.line).value, vi (Ac c m.line).want, vi (Ac c m.line).serial, vi (Ac c m.line).seen, vi (Ac c m.line).gave, vi (Ac c m.line).given]) (fun ρ => [vi m.turn]) Try.sizeOf3 ?_
      refine dn1 ?_
      refine es_ 82 4 [7] [11] (fun ρ => b11) (fun ρ => [vi (Ac c m.line).state, vi (Ac c m.line).value, vi (Ac c m.line).want, vi (Ac c m.line).serial, vi (Ac c m.line).seen, vi m.turn, vi (Ac c m.line).given]) (fun ρ => [vi m.turn]) Try.sizeOf3 ?_
      refine dn1 ?_
      refine es_ 82 6 [7, 9] [] (fun ρ => b11) (fun ρ => [vi (Ac c m.line).state, vi (Ac c m.line).value, vi (Ac c m.line).want, vi (Ac c m.line).serial, vi m.turn, vi m.turn, vi (Ac c m.line).given]) (fun ρ => [vi (Ac c m.line).value]) Try.sizeOf3 ?_
      refine dnl ?_; intro ρ
      refine xq_ (blk b11 82 [vi (Ac c m.line).state, vi (Ac c m.line).value, vi (Ac c m.line).want, vi (Ac c m.line).serial, vi m.turn, vi m.turn, vi (Ac c m.line).value] :: blk b8 69 [.slice none 0 0, vi 0, vi 0, vi 0] :: blk b4 69 (c.cells u) :: blk b5 3 [vi id] :: blk b6 3 [vi home] :: blk b7 42 m.cells :: L) ?_
      refine Gm ?_
      refine rn5 ?_
      refine Bk (caps := [bp b5 0, bp b6 0, bp b7 0]) (vs := [vi 9, vi m.turn, vi (Ac c m.line).value]) rfl Try.call85 rfl (fun w hs => N1 hs (A9 pkk rfl) (A9 pkk rfl) (A9 pkk rfl) (by unfold An; omega) hm.2.2.2.2.2.1 hlw.2.1 hid hhome hm.2.2.2.1) ?_; intro v118
      refine Ga1 ?_
      rcases (show ((Ac c m.line).want = 3) ∨ ((Ac c m.line).want ≠ 3) from by omega) with hc | hc
      ·
       refine kp [4, 5, 7, 8, 9, 10, 11, 12, 13, 14, 43, 119, 120, 121, 122, 123, 124, 125, 126] ?_
       refine Aa ?_
       refine rn2 ?_
       refine ob (Ae rfl rfl (Av (by omega))) ?_
       refine Gd5 ?_
       refine rn1 ?_
       refine sc ?_
       refine rn1 ?_
       refine sc ?_
       refine Gm ?_
       refine rn2 ?_
       refine ob (Ae rfl rfl (Av (by omega))) ?_
       refine Gmc ?_
       refine rn1 ?_
       refine sc ?_
       refine Gm ?_
       refine rn4 ?_
       have hXw : ({ (Ac c m.line) with seen := m.turn, gave := m.turn, given := (Ac c m.line).value, state := 0, value := 0, want := 0 } : Line).wf := by first | exact hlw | (unfold Line.wf An at hlw ⊢; simp only; omega)
       refine Ar Try.call77 rfl (fun w hs => Bd (l := { (Ac c m.line) with seen := m.turn, gave := m.turn, given := (Ac c m.line).value, state := 0, value := 0, want := 0 }) hs mm hXw (by omega)) ?_; intro v138
       refine J.know (p := v138.oneCell' = true) (fun w hs => isSlice.one (hs.fact (List.Mem.head _))) (fun hone138 => ?_)
       refine al_ (cs := [.slice none 0 0, vi 0, vi 0, vi 0]) Try.zeroValue69 ?_; intro b15
       refine s_B (cs := [v138, vi c.wait.kind, vi c.wait.line, vi c.wait.value]) Try.sizeOf69 ?_
       refine Gm ?_
       refine ob (Gp (cs := zOp.cells) R4) ?_
       refine rn1 ?_
       refine s_N [v138, vi 0, vi 0, vi 0] Try.sizeOf66 ?_
       refine Gl ?_
       refine cq_ (blk b8 69 [.slice none 0 0, vi 0, vi 0, vi 0] :: blk b15 69 [v138, vi 0, vi 0, vi 0] :: blk b4 69 (c.cells u) :: blk b5 3 [vi id] :: L) ?_
       refine jd_ (fun ρ S => blk b8 69 (bif S 4 then [v138, vi 0, vi 0, vi 0] else [.slice none 0 0, vi 0, vi 0, vi 0]) :: blk b15 69 [v138, vi 0, vi 0, vi 0] :: blk b4 69 (c.cells u) :: blk b5 3 [vi id] :: L) ?_
       refine dn3 ?_
       refine G5 (γ := Value) (val := fun v => v) (F := fun v => [sl v [(⟨id, c.wait, 0⟩ : Done)]]) (caps := [bp b5 0, bp b4 0]) (vs := []) (fun _ => rfl) Try.call86 (fun _ => rfl) (fun ρ S L R w hs hd => W3 hs (A9 pkk rfl) (Mu (f := 1) (sz := 3) (vs := c.cells u) pkk) hid hk.wwf) (fun _ _ _ _ _ => rfl) ?_
       refine es_ 69 0 [] [] (fun ρ => b8) (fun ρ => [.slice none 0 0, vi 0, vi 0, vi 0]) (fun ρ => [v138, vi 0, vi 0, vi 0]) Try.sizeOf69 ?_
       refine dn1 ?_
       refine e_p (v := fun ρ => (Gh.dec (γ := Value) (ρ 3))) (fun _ _ => Eb) (Ind.gh (h := fun g => ((Gh.dec (γ := Value) g) : Value)) 3 0 rfl) (fun _ _ _ _ _ => rfl) ?_
       refine dnl ?_; intro ρ
       refine xq_ (blk b8 69 [v138, vi 0, vi 0, vi 0] :: blk b15 69 [v138, vi 0, vi 0, vi 0] :: blk b4 69 (c.cells u) :: blk b5 3 [vi id] :: L) ?_
       generalize (Gh.dec (γ := Value) (ρ 3)) = v144
       refine Gl ?_
       have ef : Dr (Ac c m.line) m.kind m.turn = { (Ac c m.line) with seen := m.turn, gave := m.turn, given := (Ac c m.line).value, state := 0, value := 0, want := 0 } := by unfold Dr; rw [if_pos (by omega)]
       have er : Ag c id home m = (Ay c m.line ({ (Ac c m.line) with seen := m.turn, gave := m.turn, given := (Ac c m.line).value, state := 0, value := 0, want := 0 }) zOp, [Ce 9 id home m.line m.turn (Ac c m.line).value], [⟨id, c.wait, 0⟩]) := by unfold Ag; rw [if_neg (by omega)]; rw [if_neg (by omega), if_pos (by omega)]; rw [if_pos (by unfold En; omega), ef, if_pos (by omega), if_pos (by omega)]
       rw [er]
       exact Cu (v138, v118, v144) Try.isAgg69 Try.sizeOf69
      ·
       refine kp [4, 5, 7, 8, 9, 10, 11, 12, 13, 14, 43, 119, 120, 121, 122, 123, 124, 125, 126] ?_
       refine Aa ?_
       refine rn2 ?_
       refine ob (Ae rfl rfl (Ak (by omega))) ?_
       refine rn3 ?_
       refine gy ?_
       refine ob (Ae rfl rfl (Ak (by omega))) ?_
       refine Gd1 ?_
       refine rn1 ?_
       refine sc ?_
       refine Gm ?_
       refine rn2 ?_
       refine ob (Ae rfl rfl (Ak (by omega))) ?_
       refine Glc ?_
       refine JC.slNil Done ?_
       refine Aa ?_
       refine rn4 ?_
       have hXw : ({ (Ac c m.line) with seen := m.turn, gave := m.turn, given := (Ac c m.line).value, state := 1 } : Line).wf := by first | exact hlw | (unfold Line.wf An at hlw ⊢; simp only; omega)
       refine Ar Try.call77 rfl (fun w hs => Bd (l := { (Ac c m.line) with seen := m.turn, gave := m.turn, given := (Ac c m.line).value, state := 1 }) hs mm hXw (by omega)) ?_; intro v149
       refine J.know (p := v149.oneCell' = true) (fun w hs => isSlice.one (hs.fact (List.Mem.head _))) (fun hone149 => ?_)
       refine rn1 ?_
       refine s_B (cs := [v149, vi c.wait.kind, vi c.wait.line, vi c.wait.value]) Try.sizeOf69 ?_
       refine Ga2 ?_
       have ef : Dr (Ac c m.line) m.kind m.turn = { (Ac c m.line) with seen := m.turn, gave := m.turn, given := (Ac c m.line).value, state := 1 } := by unfold Dr; rw [if_neg (by omega), if_neg (by omega)]
       have er : Ag c id home m = (Ay c m.line ({ (Ac c m.line) with seen := m.turn, gave := m.turn, given := (Ac c m.line).value, state := 1 }) c.wait, [Ce 9 id home m.line m.turn (Ac c m.line).value], []) := by unfold Ag; rw [if_neg (by omega)]; rw [if_neg (by omega), if_pos (by omega)]; rw [if_pos (by unfold En; omega), ef, if_neg (by omega), if_neg (by omega)]
       rw [er]
       exact Cu (v149, v118, .slice none 0 0) Try.isAgg69 Try.sizeOf69
end Go.Proofs.Ytofgpimoekhfaaa

/- This file proves what a core hears, by the document's answer: some kinds of messages. No conditions. -/
set_option linter.unusedVariables false
set_option linter.unusedSimpArgs false
set_option maxHeartbeats 1000000
set_option maxRecDepth 8000
namespace Go.Proofs.Ytofgpimoekhfaaa
open Go
theorem T3 {L : List Chunk} {R : List Fact} {w : World} {u : Value} {c : Core} {id home : Int} {m : Msg} (hs : St (L) R w) (hu : sl u c.lines ∈ R) (hk : KB c) (hid : An id) (hhome : An home) (hm : m.wf) (hg : 0 ≤ m.line ∧ m.line < (c.lines.length : Int) ∧ m.kind = 6) : Calls Try.prog 47 [.agg (c.cells u).toArray, vi id, vi home, .agg m.cells.toArray].toArray w (Cg (fun v : Value × Value × Value => .tuple #[.agg (Core.cells v.1 (Ag c id home m).1).toArray, v.2.1, v.2.2]) (fun v => L) (fun v => sl v.1 (Ag c id home m).1.lines :: sl v.2.1 (Ag c id home m).2.1 :: sl v.2.2 (Ag c id home m).2.2 :: R)) := by
  have hlen := Bv hu hs
  have hone0 : u.oneCell' = true := isSlice.one (hs.fact hu)
  have hn4 := hk.n
  have hm0 := hm
  unfold Msg.wf An at hm0
  refine Ah Try.func47 rfl Try.ntmps47 rfl hs ?_
  clear hs
  refine Gm ?_
  refine bx ?_; intro b4
  refine bx ?_; intro b5
  refine bx ?_; intro b6
  refine bx ?_; intro b7
  refine al_ (cs := [.slice none 0 0, vi 0, vi 0, vi 0]) Try.zeroValue69 ?_; intro b8
  refine Gb2 ?_
  refine rn2 ?_
  refine ob (Ae rfl rfl (Al (by omega))) ?_
  refine rn6 ?_
  refine gy ?_
  refine ob (Ae rfl rfl (Bc (by omega))) ?_
  refine Gc1 ?_
  refine F8 (c := c) (v := u) m.line mm (by omega) (by omega) (fun hlw => ?_)
  refine Aa ?_
  refine rn6 ?_
  refine al_ (cs := zLine.cells) Try.zeroValue82 ?_; intro b11
  refine s_B (cs := (Ac c m.line).cells) Try.sizeOf82 ?_
  refine Gm ?_
  refine Ck (vs := [bp b5 0, bp b6 0, bp b7 0]) rfl ?_
  refine Gb1 ?_
  refine Ck (vs := [bp b5 0, bp b4 0]) rfl ?_
  refine Gb1 ?_
  refine Ga2 ?_
  refine kp [4, 5, 7, 8, 9, 10, 11, 12, 13, 43, 44, 45] ?_
  refine Aa ?_
  refine ob (Ae rfl rfl (Ak (by omega))) ?_
  refine Gd1 ?_
  refine ob (Ae rfl rfl (Ak (by omega))) ?_
  refine Gd1 ?_
  refine ob (Ae rfl rfl (Av (by omega))) ?_
  refine Gc1 ?_
  refine kp [4, 5, 7, 8, 9, 10, 11, 12, 13, 43, 71, 72, 73, 74, 75, 76, 77, 78, 79, 80] ?_
  refine Da 80 (.bool (decide (0 < m.turn ∧ m.turn = (Ac c m.line).gave))) ?_ ?_
  ·
   rcases (show (¬ 0 < m.turn) ∨ (0 < m.turn ∧ ¬ m.turn = (Ac c m.line).gave) ∨ (0 < m.turn ∧ m.turn = (Ac c m.line).gave) from by omega) with hm | hm | hm
   ·
    refine Aa ?_
    refine rn2 ?_
    refine ob (Ae rfl rfl (Bu (by omega))) ?_
    refine Ga7 ?_
    refine Ap ?_ (fun w hs => hs)
    refine ⟨by first | exact congrArg (fun b => some (Value.bool b)) (decide_eq_false (by omega)).symm | exact congrArg (fun b => some (Value.bool b)) (by simp; omega), alT⟩
   ·
    refine Aa ?_
    refine rn2 ?_
    refine ob (Ae rfl rfl (C5 (by omega))) ?_
    refine rn5 ?_
    refine gy ?_
    refine ob (Ae rfl rfl (Ak (by omega))) ?_
    refine Ga1 ?_
    refine Ap ?_ (fun w hs => hs)
    refine ⟨by first | exact congrArg (fun b => some (Value.bool b)) (decide_eq_false (by omega)).symm | exact congrArg (fun b => some (Value.bool b)) (by simp; omega), alT⟩
   ·
    refine Aa ?_
    refine rn2 ?_
    refine ob (Ae rfl rfl (C5 (by omega))) ?_
    refine rn5 ?_
    refine gy ?_
    refine ob (Ae rfl rfl (Av (by omega))) ?_
    refine Ga1 ?_
    refine Ap ?_ (fun w hs => hs)
    refine ⟨by first | exact congrArg (fun b => some (Value.bool b)) (decide_eq_true (by omega)).symm | exact congrArg (fun b => some (Value.bool b)) (by simp; omega), alT⟩
  ·
   refine As ?_
   refine Gl ?_
   first | (refine cdx (p := ?p1) (hd := ?d1) ?e1 ?_ ?_; case e1 => exact rfl) | (refine Bh (b := ?b1) ?e1 ?_ ?_; case e1 => exact rfl)
   ·
    intro ht80
    refine Gl ?_
    refine JC.slNil Done ?_
    refine cq_ (blk b8 69 [.slice none 0 0, vi 0, vi 0, vi 0] :: blk b4 69 (c.cells u) :: blk b11 82 (Ac c m.line).cells :: blk b5 3 [vi id] :: blk b6 3 [vi home] :: blk b7 42 m.cells :: L) ?_
    refine jd_ (fun ρ S => blk b8 69 (bif S 7 then (c.cells u) else [.slice none 0 0, vi 0, vi 0, vi 0]) :: blk b4 69 (c.cells u) :: blk b11 82 (Ac c m.line).cells :: blk b5 3 [vi id] :: blk b6 3 [vi home] :: blk b7 42 m.cells :: L) ?_
    refine dn6 ?_
    refine G5 (γ := Value) (val := fun v => v) (F := fun v => [sl v [Ce 9 id home m.line (Ac c m.line).gave (Ac c m.line).given]]) (caps := [bp b5 0, bp b6 0, bp b7 0]) (vs := [vi 9, vi (Ac c m.line).gave, vi (Ac c m.line).given]) (fun _ => rfl) Try.call85 (fun _ => rfl) (fun ρ S L R w hs hd => N1 hs (A9 pkk rfl) (A9 pkk rfl) (A9 pkk rfl) (by unfold An; omega) hlw.2.2.2.2.2.1 hlw.2.2.2.2.2.2 hid hhome hm.2.2.2.1) (fun _ _ _ _ _ => rfl) ?_
    refine es_ 69 0 [] [] (fun ρ => b8) (fun ρ => [.slice none 0 0, vi 0, vi 0, vi 0]) (fun ρ => (c.cells u)) Try.sizeOf69 ?_
    refine e_p (v := fun ρ => (Gh.dec (γ := Value) (ρ 6))) (fun _ _ => Eb) (Ind.gh (h := fun g => ((Gh.dec (γ := Value) g) : Value)) 6 0 rfl) (fun _ _ _ _ _ => rfl) ?_
    refine dn1 ?_
    refine dnl ?_; intro ρ
    refine xq_ (blk b8 69 (c.cells u) :: blk b4 69 (c.cells u) :: blk b11 82 (Ac c m.line).cells :: blk b5 3 [vi id] :: blk b6 3 [vi home] :: blk b7 42 m.cells :: L) ?_
    generalize (Gh.dec (γ := Value) (ρ 6)) = v87
    refine Gl ?_
    have er : Ag c id home m = (c, [Ce 9 id home m.line (Ac c m.line).gave (Ac c m.line).given], []) := by unfold Ag; rw [if_neg (by omega)]; rw [if_neg (by omega), if_pos (by omega)]; rw [if_neg (by unfold En; omega), if_pos (by omega)]
    rw [er]
    exact Cu (u, v87, .slice none 0 0) Try.isAgg69 Try.sizeOf69
   ·
    intro ht80
    refine Gl ?_
    refine kp [4, 5, 7, 8, 9, 10, 11, 12, 13, 43, 88, 89, 90, 91, 92, 93, 94, 95, 96, 97, 98, 99, 100, 101, 102] ?_
    refine Da 102 (.bool (decide (m.turn ≤ (Ac c m.line).seen ∨ ((Ac c m.line).state ≠ 2 ∧ (Ac c m.line).state ≠ 3)))) ?_ ?_
    ·
     rcases (show (m.turn ≤ (Ac c m.line).seen) ∨ ((Ac c m.line).seen < m.turn ∧ (Ac c m.line).state = 2) ∨ ((Ac c m.line).seen < m.turn ∧ (Ac c m.line).state = 3) ∨ ((Ac c m.line).seen < m.turn ∧ (Ac c m.line).state ≠ 2 ∧ (Ac c m.line).state ≠ 3) from by omega) with hm | hm | hm | hm
     ·
      refine Aa ?_
      refine rn4 ?_
      refine ob (Ae rfl rfl (K4 (by omega))) ?_
      refine Ga10 ?_
      refine Ap ?_ (fun w hs => hs)
      refine ⟨by first | exact congrArg (fun b => some (Value.bool b)) (decide_eq_true (by omega)).symm | exact congrArg (fun b => some (Value.bool b)) (by simp; omega), alT⟩
     ·
      refine Aa ?_
      refine rn4 ?_
      refine ob (Ae rfl rfl (Fe (by omega))) ?_
      refine rn3 ?_
      refine gy ?_
      refine ob (Ae rfl rfl (Cb (by omega))) ?_
      refine Ga6 ?_
      refine Ap ?_ (fun w hs => hs)
      refine ⟨by first | exact congrArg (fun b => some (Value.bool b)) (decide_eq_false (by omega)).symm | exact congrArg (fun b => some (Value.bool b)) (by simp; omega), alT⟩
     ·
      refine Aa ?_
      refine rn4 ?_
      refine ob (Ae rfl rfl (Fe (by omega))) ?_
      refine rn3 ?_
      refine gy ?_
      refine ob (Ae rfl rfl (Cn (by omega))) ?_
      refine rn3 ?_
      refine gy ?_
      refine ob (Ae rfl rfl (Cb (by omega))) ?_
      refine Ga2 ?_
      refine Ap ?_ (fun w hs => hs)
      refine ⟨by first | exact congrArg (fun b => some (Value.bool b)) (decide_eq_false (by omega)).symm | exact congrArg (fun b => some (Value.bool b)) (by simp; omega), alT⟩
     ·
      refine kp [4, 5, 7, 8, 9, 10, 11, 12, 13, 43, 88, 89, 90, 91, 92, 93, 94, 95, 96, 97, 98, 99, 100, 101, 102] ?_
      refine Aa ?_
      refine rn4 ?_
      refine ob (Ae rfl rfl (Fe (by omega))) ?_
      refine rn3 ?_
      refine gy ?_
      refine ob (Ae rfl rfl (Cn (by omega))) ?_
      refine rn3 ?_
      refine gy ?_
      refine ob (Ae rfl rfl (Cn (by omega))) ?_
      refine Ga2 ?_
      refine Ap ?_ (fun w hs => hs)
      refine ⟨by first | exact congrArg (fun b => some (Value.bool b)) (decide_eq_true (by omega)).symm | exact congrArg (fun b => some (Value.bool b)) (by simp; omega), alT⟩
    ·
     refine As ?_
     refine Gl ?_
     first | (refine cdx (p := ?p2) (hd := ?d2) ?e2 ?_ ?_; case e2 => exact rfl) | (refine Bh (b := ?b2) ?e2 ?_ ?_; case e2 => exact rfl)
     ·
      intro ht102
      refine Gl ?_
      refine JC.slNil Msg ?_
      refine JC.slNil Done ?_
      refine Aa ?_
      refine rn1 ?_
      refine s_B Try.sizeOf69 ?_
      refine Ga2 ?_
      have er : Ag c id home m = (c, [], []) := by unfold Ag; rw [if_neg (by omega)]; rw [if_neg (by omega), if_pos (by omega)]; rw [if_neg (by unfold En; omega), if_neg (by omega)]
      rw [er]
      exact Cu (u, .slice none 0 0, .slice none 0 0) Try.isAgg69 Try.sizeOf69
     ·
      intro ht102
      refine Gl ?_
      refine cq_ (blk b11 82 [vi (Ac c m.line).state, vi (Ac c m.line).value, vi (Ac c m.line).want, vi (Ac c m.line).serial, vi (Ac c m.line).seen, vi (Ac c m.line).gave, vi (Ac c m.line).given] :: blk b8 69 [.slice none 0 0, vi 0, vi 0, vi 0] :: blk b4 69 (c.cells u) :: blk b5 3 [vi id] :: blk b6 3 [vi home] :: blk b7 42 m.cells :: L) ?_
      refine jd_ (fun ρ S => blk b11 82 (bif S 11 then [vi (Ac c m.line).state, vi (Ac c m.line).value, vi (Ac c m.line).want, vi (Ac c m.line).serial, vi m.turn, vi m.turn, vi (Ac c m.line).value] else (bif S 9 then [vi (Ac c m.line).state, vi (Ac c m.line).value, vi (Ac c m.line).want, vi (Ac c m.line).serial, vi m.turn, vi m.turn, vi (Ac c m.line).given] else (bif S 7 then [vi (Ac c m.line).state, vi (Ac c m.line).value, vi (Ac c m.line).want, vi (Ac c m.line).serial, vi (Ac c m.line).seen, vi m.turn, vi (Ac c m.line).given] else [vi (Ac c m.line).state, vi (Ac c m.line).value, vi (Ac c m.line).want, vi (Ac c m.line).serial, vi (Ac c m.line).seen, vi (Ac c m.line).gave, vi (Ac c m.line).given]))) :: blk b8 69 [.slice none 0 0, vi 0, vi 0, vi 0] :: blk b4 69 (c.cells u) :: blk b5 3 [vi id] :: blk b6 3 [vi home] :: blk b7 42 m.cells :: L) ?_
      refine dn5 ?_
      refine Vz (v := vi (Ac c m.line).value) (fun ρ S hS hB hA => by have h11 : S 11 = false := hA 11 ⟨0, rfl⟩; simp only [h11, cond_false]; exact C6 (hc := A9 pkk (by repeat (first | exact rfl | refine Jj rfl ?_))) Try.isAgg3) (fun _ _ _ _ _ => rfl) ?_
      refine dn1 ?_
      refine es_ 82 5 [] [9, 11] (fun ρ => b11) (fun ρ => [vi (Ac c m.line).state, vi (Ac c m.line).value, vi (Ac c m.line).want, vi (Ac c m.line).serial, vi (Ac c m.line).seen, vi (Ac c m.line).gave, vi (Ac c m.line).given]) (fun ρ => [vi m.turn]) Try.sizeOf3 ?_
      refine dn1 ?_
      refine es_ 82 4 [7] [11] (fun ρ => b11) (fun ρ => [vi (Ac c m.line).state, vi (Ac c m.line).value, vi (Ac c m.line).want, vi (Ac c m.line).serial, vi (Ac c m.line).seen, vi m.turn, vi (Ac c m.line).given]) (fun ρ => [vi m.turn]) Try.sizeOf3 ?_
      refine dn1 ?_
      refine es_ 82 6 [7, 9] [] (fun ρ => b11) (fun ρ => [vi (Ac c m.line).state, vi (Ac c m.line).value, vi (Ac c m.line).want, vi (Ac c m.line).serial, vi m.turn, vi m.turn, vi (Ac c m.line).given]) (fun ρ => [vi (Ac c m.line).value]) Try.sizeOf3 ?_
      refine dnl ?_; intro ρ
      refine xq_ (blk b11 82 [vi (Ac c m.line).state, vi (Ac c m.line).value, vi (Ac c m.line).want, vi (Ac c m.line).serial, vi m.turn, vi m.turn, vi (Ac c m.line).value] :: blk b8 69 [.slice none 0 0, vi 0, vi 0, vi 0] :: blk b4 69 (c.cells u) :: blk b5 3 [vi id] :: blk b6 3 [vi home] :: blk b7 42 m.cells :: L) ?_
      refine Gm ?_
      refine rn5 ?_
      refine Bk (caps := [bp b5 0, bp b6 0, bp b7 0]) (vs := [vi 9, vi m.turn, vi (Ac c m.line).value]) rfl Try.call85 rfl (fun w hs => N1 hs (A9 pkk rfl) (A9 pkk rfl) (A9 pkk rfl) (by unfold An; omega) hm.2.2.2.2.2.1 hlw.2.1 hid hhome hm.2.2.2.1) ?_; intro v118
      refine Ga1 ?_
      rcases (show ((Ac c m.line).want = 3) ∨ ((Ac c m.line).want ≠ 3) from by omega) with hc | hc
      ·
       refine kp [4, 5, 7, 8, 9, 10, 11, 12, 13, 14, 43, 119, 120, 121, 122, 123, 124, 125, 126] ?_
       refine Aa ?_
       refine rn2 ?_
       refine ob (Ae rfl rfl (Av (by omega))) ?_
       refine Gd5 ?_
       refine rn1 ?_
       refine sc ?_
       refine rn1 ?_
       refine sc ?_
       refine Gm ?_
       refine rn2 ?_
       refine ob (Ae rfl rfl (Av (by omega))) ?_
       refine Gmc ?_
       refine rn1 ?_
       refine sc ?_
       refine Gm ?_
       refine rn4 ?_
       have hXw : ({ (Ac c m.line) with seen := m.turn, gave := m.turn, given := (Ac c m.line).value, state := 0, value := 0, want := 0 } : Line).wf := by first | exact hlw | (unfold Line.wf An at hlw ⊢; simp only; omega)
       refine Ar Try.call77 rfl (fun w hs => Bd (l := { (Ac c m.line) with seen := m.turn, gave := m.turn, given := (Ac c m.line).value, state := 0, value := 0, want := 0 }) hs mm hXw (by omega)) ?_; intro v138
       refine J.know (p := v138.oneCell' = true) (fun w hs => isSlice.one (hs.fact (List.Mem.head _))) (fun hone138 => ?_)
       refine al_ (cs := [.slice none 0 0, vi 0, vi 0, vi 0]) Try.zeroValue69 ?_; intro b15
       refine s_B (cs := [v138, vi c.wait.kind, vi c.wait.line, vi c.wait.value]) Try.sizeOf69 ?_
       refine Gm ?_
       refine ob (Gp (cs := zOp.cells) R4) ?_
       refine rn1 ?_
       refine s_N [v138, vi 0, vi 0, vi 0] Try.sizeOf66 ?_
       refine Gl ?_
       refine cq_ (blk b8 69 [.slice none 0 0, vi 0, vi 0, vi 0] :: blk b15 69 [v138, vi 0, vi 0, vi 0] :: blk b4 69 (c.cells u) :: blk b5 3 [vi id] :: L) ?_
       refine jd_ (fun ρ S => blk b8 69 (bif S 4 then [v138, vi 0, vi 0, vi 0] else [.slice none 0 0, vi 0, vi 0, vi 0]) :: blk b15 69 [v138, vi 0, vi 0, vi 0] :: blk b4 69 (c.cells u) :: blk b5 3 [vi id] :: L) ?_
       refine dn3 ?_
       refine G5 (γ := Value) (val := fun v => v) (F := fun v => [sl v [(⟨id, c.wait, 0⟩ : Done)]]) (caps := [bp b5 0, bp b4 0]) (vs := []) (fun _ => rfl) Try.call86 (fun _ => rfl) (fun ρ S L R w hs hd => W3 hs (A9 pkk rfl) (Mu (f := 1) (sz := 3) (vs := c.cells u) pkk) hid hk.wwf) (fun _ _ _ _ _ => rfl) ?_
       refine es_ 69 0 [] [] (fun ρ => b8) (fun ρ => [.slice none 0 0, vi 0, vi 0, vi 0]) (fun ρ => [v138, vi 0, vi 0, vi 0]) Try.sizeOf69 ?_
       refine dn1 ?_
       refine e_p (v := fun ρ => (Gh.dec (γ := Value) (ρ 3))) (fun _ _ => Eb) (Ind.gh (h := fun g => ((Gh.dec (γ := Value) g) : Value)) 3 0 rfl) (fun _ _ _ _ _ => rfl) ?_
       refine dnl ?_; intro ρ
       refine xq_ (blk b8 69 [v138, vi 0, vi 0, vi 0] :: blk b15 69 [v138, vi 0, vi 0, vi 0] :: blk b4 69 (c.cells u) :: blk b5 3 [vi id] :: L) ?_
       generalize (Gh.dec (γ := Value) (ρ 3)) = v144
       refine Gl ?_
       have ef : Dr (Ac c m.line) m.kind m.turn = { (Ac c m.line) with seen := m.turn, gave := m.turn, given := (Ac c m.line).value, state := 0, value := 0, want := 0 } := by unfold Dr; rw [if_pos (by omega)]
       have er : Ag c id home m = (Ay c m.line ({ (Ac c m.line) with seen := m.turn, gave := m.turn, given := (Ac c m.line).value, state := 0, value := 0, want := 0 }) zOp, [Ce 9 id home m.line m.turn (Ac c m.line).value], [⟨id, c.wait, 0⟩]) := by unfold Ag; rw [if_neg (by omega)]; rw [if_neg (by omega), if_pos (by omega)]; rw [if_pos (by unfold En; omega), ef, if_pos (by omega), if_pos (by omega)]
       rw [er]
       exact Cu (v138, v118, v144) Try.isAgg69 Try.sizeOf69
      ·
       refine kp [4, 5, 7, 8, 9, 10, 11, 12, 13, 14, 43, 119, 120, 121, 122, 123, 124, 125, 126] ?_
       refine Aa ?_
       refine rn2 ?_
       refine ob (Ae rfl rfl (Ak (by omega))) ?_
       refine rn3 ?_
       refine gy ?_
       refine ob (Ae rfl rfl (Av (by omega))) ?_
       refine Gd1 ?_
       refine rn1 ?_
       refine sc ?_
       refine rn1 ?_
       refine sc ?_
       refine Gm ?_
       refine rn2 ?_
       refine ob (Ae rfl rfl (Ak (by omega))) ?_
       refine Glc ?_
       refine JC.slNil Done ?_
       refine Aa ?_
       refine rn4 ?_
       have hXw : ({ (Ac c m.line) with seen := m.turn, gave := m.turn, given := (Ac c m.line).value, state := 0, value := 0 } : Line).wf := by first | exact hlw | (unfold Line.wf An at hlw ⊢; simp only; omega)
       refine Ar Try.call77 rfl (fun w hs => Bd (l := { (Ac c m.line) with seen := m.turn, gave := m.turn, given := (Ac c m.line).value, state := 0, value := 0 }) hs mm hXw (by omega)) ?_; intro v149
       refine J.know (p := v149.oneCell' = true) (fun w hs => isSlice.one (hs.fact (List.Mem.head _))) (fun hone149 => ?_)
       refine rn1 ?_
       refine s_B (cs := [v149, vi c.wait.kind, vi c.wait.line, vi c.wait.value]) Try.sizeOf69 ?_
       refine Ga2 ?_
       have ef : Dr (Ac c m.line) m.kind m.turn = { (Ac c m.line) with seen := m.turn, gave := m.turn, given := (Ac c m.line).value, state := 0, value := 0 } := by unfold Dr; rw [if_neg (by omega), if_pos (by omega)]
       have er : Ag c id home m = (Ay c m.line ({ (Ac c m.line) with seen := m.turn, gave := m.turn, given := (Ac c m.line).value, state := 0, value := 0 }) c.wait, [Ce 9 id home m.line m.turn (Ac c m.line).value], []) := by unfold Ag; rw [if_neg (by omega)]; rw [if_neg (by omega), if_pos (by omega)]; rw [if_pos (by unfold En; omega), ef, if_neg (by omega), if_neg (by omega)]
       rw [er]
       exact Cu (v149, v118, .slice none 0 0) Try.isAgg69 Try.sizeOf69
end Go.Proofs.Ytofgpimoekhfaaa
