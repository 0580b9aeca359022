/- This file proves parts of what its law needs: each part is told ahead of it. No conditions. -/
import Derived.Test.YtiofgjolhbgkiaaGreatDoorKM3
import Derived.Test.YtiofgjolhbgkiaaGreatDoorKM4
import Derived.Test.YtiofgjolhbgkiaaGreatDoorKM1
import Derived.Test.YtiofgjolhbgkiaaGreatDoorKM2
import Derived.Lib.ItoaLen
import Derived.Lib.Builder
import Derived.Lib.UnsafeStr
import Derived.Laws.Externs
set_option linter.unusedVariables false
set_option linter.unusedSimpArgs false
set_option linter.unusedSectionVars false
set_option maxHeartbeats 1000000
set_option maxRecDepth 8000
namespace Go.Proofs.YtiofgjolhbgkiaaGreatDoor
open Go
variable {L : List Chunk} {R : List Fact} {w : World}
theorem Wh {v u : Value} {cs : List Core} {i : Nat} (c : Core) (hu : sl u c.lines ∈ R) (hw : c.wait.wf) (hs : St (foc 93 v cs i (Core.cells u c) :: L) R w) : St (row 93 v (cs.set i c) :: L) R w := hs.unfocus (fun j hj => ⟨u, rfl, hj _ hu, hw⟩)
theorem O5 {v u : Value} {cs : List Core} {i : Nat} (hu : sl u (cs.getD i Fw).lines ∈ R) (hw : (cs.getD i Fw).wait.wf) (hs : St (foc 93 v cs i (Core.cells u (cs.getD i Fw)) :: L) R w) : St (row 93 v cs :: L) R w := by
 have h := Wh _ hu hw hs
 rwa [Iw] at h
theorem Kp {id : Int} : ∀ (l : List Entry) (i : Int), (∀ k, k < l.length → ∀ a ∈ Ib (l.getD k A3) (i + (k : Int)) id, MsgIn a) → ∀ a ∈ C4 id i l, MsgIn a
 | [], i, h, a, ha => by cases ha
 | e :: r, i, h, a, ha => by
  simp only [C4, List.mem_append] at ha
  rcases ha with ha | ha
  ·exact h 0 (by simp) a (by simpa using ha)
  ·refine Kp r (i + 1) (fun k hk a ha => h (k + 1) (by simpa using hk) a ?_) a ha
   rw [show i + ((k + 1 : Nat) : Int) = i + 1 + (k : Int) by omega]; exact ha
def J3 (x : Chip) (node : Int) : Int := if node < 0 ∨ A9 x < node then 5 else 0
def El (x : Chip) (node : Int) : Frames := if node < 0 ∨ A9 x < node then x.frames else if node = A9 x then way x.frames (Fp x.home node) else way x.frames (E8 (Aq x node) node (A9 x))
def J5 (x : Chip) (s : Step) : Frames × Int := if D3 x s.n then ([], 5) else if (Ae (Ar x) (Cq x.frames s.n)).2 ≠ 0 then ([], 6) else Bn x.frames s.n s.bit
theorem Tw {b : Nat} {cv hv fv : Value} {x : Chip} {node : Int} {n nl : Nat} {M : List Int} (hs : St (row 93 cv x.cores :: blk b 39 [cv, hv, fv] :: L) R w) (hhv : sl hv x.home ∈ R) (hfv : sl fv x.frames ∈ R) (h : Inv n nl x M) : Calls Tryz.prog 43 [bp b 0, vi node].toArray w (Bh (fun v : Value => vi (J3 x node)) (fun v => row 93 cv x.cores :: blk b 39 [cv, hv, v] :: L) (fun v => sl v (El x node) :: R)) := by
 have hnc := h.nc
 have hnh := h.nh
 have hn1 := h.n1
 have hn2 := h.l1
 refine Ag Tryz.func43 rfl Tryz.ntmps43 rfl hs ?_
 clear hs
 refine ZC ?_
 rcases (show (node < 0) ∨ (0 ≤ node ∧ (x.cores.length : Int) < node) ∨ (0 ≤ node ∧ node ≤ (x.cores.length : Int)) from by omega) with hc | hc | hc
 ·refine ZB ?_
  refine Fm ?_
  refine Gd10 ?_
  exact Zdm
 ·refine ZB ?_
  refine Bj ?_
  refine rn7 ?_
  refine gy ?_
  refine J7 ?_
  refine Gd2 ?_
  exact Zdm
 ·refine ZB ?_
  refine Bj ?_
  refine rn7 ?_
  refine gy ?_
  refine Fe ?_
  refine Gd2 ?_
  refine Ga8 ?_
  refine cdy ?_ ?_
  ·intro ht33
   refine Aa ?_
   refine rn6 ?_
   refine Aj Tryz.call65 rfl (fun w hs => S4 (l := x.home) (id := node) hs mm (fun i hi => (h.ebs i hi).1) (by omega) (by unfold An; omega)) ?_; intro vt
   refine Aj Tryz.call38 rfl (fun w hs => Jb (cv := cv) (hv := hv) (fv := fv) (fs := x.frames) (ms := Fp x.home node) (Af (L' := blk b 39 [cv, hv, fv] :: row 93 cv x.cores :: L) hs) mm mm (Kp _ 0 (fun k hk a ha => h.says_in k hk a (by rw [Int.zero_add] at ha; rw [← hnc, ← ht33]; exact ha)))) ?_; intro vs
   refine ZC ?_
   have er : J3 x node = 0 ∧ El x node = way x.frames (Fp x.home node) := by unfold J3 El A9; rw [if_neg (by omega), if_neg (by omega), if_pos ht33]; exact ⟨rfl, rfl⟩
   rw [er.1, er.2]
   exact Bz vs
  ·intro ht33
   refine JC.focus1 (T := 93) (v := cv) (xs := x.cores) node.toNat pkk (by omega) (fun hwt u => ?_)
   have hkb : KB (Aq x node) := h.kb (p := node.toNat) (by omega)
   have hlb := h.lbs (p := node) (by omega)
   refine Zai ?_
   refine dj ?_
   refine dc (fun _ _ => Ip (v := cv) (i := node) Aco (hl := Cs (α := Core) (xs := x.cores) pkk)) ?_
   refine djc (fun _ _ => Adm (cs := Core.cells u (Aq x node)) Tryz.isAgg93 Tryz.sizeOf93) ?_
   refine dn5 ?_
   refine djc (fun _ _ => Mq Tryz.underlying35 rfl (Cs (α := Core) (xs := x.cores) pkk)) ?_
   refine dj ?_
   refine Acb (γ := Value) (val := fun v => v) (F := fun v => [sl v (E8 (Aq x node) node (x.cores.length : Int))]) (C := fun _ => []) Tryz.call66 (fun _ => rfl) (fun _ _ _ _ => rfl) (fun ρ L R w hd hs => Tn (c := (Aq x node)) (id := node) (home := (x.cores.length : Int)) (u := u) hs (hd.base mm) (by have := hkb.n; omega) (by unfold An; omega) (by unfold An; omega)) ?_
   refine dtl ?_; intro ρ
   have hkn := hkb.n
   generalize (Gh.dec (γ := Value) (ρ 14)) = vt
   refine Aj Tryz.call38 rfl (fun w hs => Jb (cv := cv) (hv := hv) (fv := fv) (fs := x.frames) (ms := (E8 (Aq x node) node (x.cores.length : Int))) (Af (L' := blk b 39 [cv, hv, fv] :: foc 93 cv x.cores node.toNat (Core.cells u (Aq x node)) :: L) hs) mm mm (Qv (by omega) (by omega) _ 0 (by omega) (by omega) (Y0 (d := zLine) hlb))) ?_; intro vs
   refine Gl ?_
   refine kp [4] ?_
   refine Aa ?_
   refine Ga1 ?_
   have er : J3 x node = 0 ∧ El x node = way x.frames (E8 (Aq x node) node (x.cores.length : Int)) := by unfold J3 El A9; rw [if_neg (by omega), if_neg (by omega), if_neg ht33]; exact ⟨rfl, rfl⟩
   rw [er.1, er.2]
   exact Bz vs (hs := fun w hs => Af (O5 mm hwt (hs.pick pkk)))
theorem Tx {b : Nat} {cv hv fv : Value} {x : Chip} {s : Step} (hs : St (blk b 39 [cv, hv, fv] :: L) R w) (hcv : sl cv x.cores ∈ R) (hhv : sl hv x.home ∈ R) (hfv : sl fv x.frames ∈ R) (hsn : s.wf) : Calls Tryz.prog 42 [bp b 0, .agg s.cells.toArray].toArray w (Bh (fun v : Value => .tuple #[v, vi (J5 x s).2]) (fun v => blk b 39 [cv, hv, fv] :: L) (fun v => sl v (J5 x s).1 :: R)) := by
 refine Ag Tryz.func42 rfl Tryz.ntmps42 rfl hs ?_
 clear hs
 refine Gm ?_
 refine bx ?_; intro b3
 refine Ga2 ?_
 rcases (show (D3 x s.n) ∨ (¬ D3 x s.n) from by exact Decidable.em _) with hc | hc
 ·refine ZbJ ?_;intro hnt
  refine Zcw ?_
  refine Fr (γ := Value × Value) (val := fun v => .tuple #[v.1, v.2, vi 5]) (F := fun v => [sl v.1 ([] : Frames), sl v.2 ([] : List UInt8)]) Tryz.call39 (fun _ => rfl) (fun ρ L R w hd hs => by have h := Hm (l := x.frames) (n := s.n) hs (hd.base mm) hsn.2.2.1; rw [hnt] at h; exact frz h) (fun _ _ _ _ _ => rfl) ?_
  refine e_p (v := fun ρ => .tuple #[(Gh.dec (γ := Value × Value) (ρ 6)).1, (Gh.dec (γ := Value × Value) (ρ 6)).2, vi 5]) (fun _ _ => Ss) (Ind.gh (h := fun g => (.tuple #[(Gh.dec (γ := Value × Value) g).1, (Gh.dec (γ := Value × Value) g).2, vi 5] : Value)) 6 0 rfl) (fun _ _ _ _ _ => rfl) ?_
  refine Zbx ?_
  refine Kb (v := vi 5) (fun _ _ => q_x) (fun _ _ _ _ _ => rfl) ?_
  refine Zby ?_
  refine Kb (v := vi 5) (fun _ _ => C6) (fun _ _ _ _ _ => rfl) ?_
  refine dnl ?_; intro ρ
  refine xq_ (blk b3 29 s.cells :: blk b 39 [cv, hv, fv] :: L) ?_
  generalize (Gh.dec (γ := Value × Value) (ρ 6)) = vq
  refine ZW ?_
  refine ZaT ?_
  refine JC.slNil (List UInt8) ?_
  refine Aa ?_
  refine Ga3 ?_
  have er : J5 x s = ([], 5) := by unfold J5; rw [if_pos hc]
  rw [er]
  exact Cl (.slice none 0 0)
 ·refine ZbA ?_;intro hnt
  refine Zcw ?_
  refine Fr (γ := Value × Value) (val := fun v => .tuple #[v.1, v.2, vi 0]) (F := fun v => [sl v.1 (x.frames.eraseIdx s.n.toNat), sl v.2 (Cq x.frames s.n)]) Tryz.call39 (fun _ => rfl) (fun ρ L R w hd hs => by have h := Hm (l := x.frames) (n := s.n) hs (hd.base mm) hsn.2.2.1; rw [hnt] at h; exact frz h) (fun _ _ _ _ _ => rfl) ?_
  refine e_p (v := fun ρ => .tuple #[(Gh.dec (γ := Value × Value) (ρ 6)).1, (Gh.dec (γ := Value × Value) (ρ 6)).2, vi 0]) (fun _ _ => Ss) (Ind.gh (h := fun g => (.tuple #[(Gh.dec (γ := Value × Value) g).1, (Gh.dec (γ := Value × Value) g).2, vi 0] : Value)) 6 0 rfl) (fun _ _ _ _ _ => rfl) ?_
  refine Zbx ?_
  refine Kb (v := vi 0) (fun _ _ => q_x) (fun _ _ _ _ _ => rfl) ?_
  refine Zby ?_
  refine Kb (v := vi 0) (fun _ _ => C6) (fun _ _ _ _ _ => rfl) ?_
  refine dnl ?_; intro ρ
  refine xq_ (blk b3 29 s.cells :: blk b 39 [cv, hv, fv] :: L) ?_
  generalize (Gh.dec (γ := Value × Value) (ρ 6)) = vq
  refine ZW ?_
  refine ZU ?_
  refine Zaw ?_
  refine Aj Tryz.call61 rfl (fun w hs => Aal (x := x) (cv := cv) (hv := hv) (fv := fv) (Af (L' := blk b 39 [cv, hv, fv] :: blk b3 29 s.cells :: L) hs) mm mm) ?_; intro _
  refine rn1 ?_
  refine Aj Tryz.call60 rfl (fun w hs => Rn (c := Ar x) (b := Cq x.frames s.n) hs mm) ?_; intro _
  refine rn3 ?_
  refine al_ (cs := zMsg.cells) Tryz.zeroValue128 ?_; intro b9
  refine s_B (cs := (Ae (Ar x) (Cq x.frames s.n)).1.cells) Tryz.sizeOf128 ?_
  refine ZK ?_
  refine cdy ?_ ?_
  ·intro ht33
   refine Gl ?_
   refine JC.slNil (List UInt8) ?_
   refine kp [0, 3, 4, 5] ?_
   refine Aa ?_
   refine Ga2 ?_
   have er : J5 x s = ([], 6) := by unfold J5; rw [if_neg hc, if_pos ht33]
   rw [er]
   exact Cl (.slice none 0 0)
  ·intro ht33
   refine Gl ?_
   refine kp [0, 3, 4, 5, 34, 35, 36, 37, 38, 39, 40, 41, 42, 43, 44] ?_
   refine cq_ (blk b9 128 (Ae (Ar x) (Cq x.frames s.n)).1.cells :: blk b3 29 s.cells :: blk b 39 [cv, hv, fv] :: L) ?_
   refine jd_ (fun ρ S => blk b9 128 (Ae (Ar x) (Cq x.frames s.n)).1.cells :: blk b3 29 s.cells :: blk b 39 [cv, hv, fv] :: L) ?_
   refine dn8 ?_
   refine Fr (γ := Value) (val := fun v => .tuple #[v, vi (Bn x.frames s.n s.bit).2]) (F := fun v => [sl v (Bn x.frames s.n s.bit).1]) Tryz.call64 (fun _ => rfl) (fun ρ L R w hd hs => frz (Vd (l := x.frames) (n := s.n) (bit := s.bit) hs (hd.base mm) hsn.2.2.1 hsn.2.2.2.1)) (fun _ _ _ _ _ => rfl) ?_
   refine e_p (v := fun ρ => (Gh.dec (γ := Value) (ρ 8))) (fun _ _ => q_x) (Ind.gh (h := fun g => ((Gh.dec (γ := Value) g) : Value)) 8 0 rfl) (fun _ _ _ _ _ => rfl) ?_
   refine Kb (v := vi (Bn x.frames s.n s.bit).2) (fun _ _ => q_x) (fun _ _ _ _ _ => rfl) ?_
   refine epg 8 0 ?_
   refine Kb (v := vi (Bn x.frames s.n s.bit).2) (fun _ _ => C6) (fun _ _ _ _ _ => rfl) ?_
   refine dnl ?_; intro ρ
   refine xq_ (blk b9 128 (Ae (Ar x) (Cq x.frames s.n)).1.cells :: blk b3 29 s.cells :: blk b 39 [cv, hv, fv] :: L) ?_
   generalize (Gh.dec (γ := Value) (ρ 8)) = vz
   refine Gl ?_
   have er : J5 x s = (Bn x.frames s.n s.bit) := by unfold J5; rw [if_neg hc, if_neg ht33]
   rw [er]
   exact Cl vz
theorem fs_A {a b p : Fact} {R : List Fact} (ha : a ∈ R) (hb : b ∈ R) : ∀ f ∈ a :: b :: p :: R, f ∈ p :: R := fun f hf => by
 simp only [List.mem_cons] at hf ⊢
 rcases hf with e | e | e | e
 ·rw [e]; exact .inr ha
 ·rw [e]; exact .inr hb
 ·exact .inl e
 ·exact .inr e
theorem fs_B {a p q : Fact} {R : List Fact} (ha : a ∈ R) : ∀ f ∈ a :: p :: q :: R, f ∈ p :: q :: R := fun f hf => by
 simp only [List.mem_cons] at hf ⊢
 rcases hf with e | e | e | e
 ·rw [e]; exact .inr (.inr ha)
 ·exact .inl e
 ·exact .inr (.inl e)
 ·exact .inr (.inr e)
theorem Wu {b : Nat} {cv hv fv : Value} {x : Chip} {vb : Value} {bt : List UInt8} {n nl : Nat} {M : List Int} (hs : St (row 93 cv x.cores :: blk b 39 [cv, hv, fv] :: L) R w) (hhv : sl hv x.home ∈ R) (hfv : sl fv x.frames ∈ R) (hvb : sl vb bt ∈ R) (h : Inv n nl x M) : Calls Tryz.prog 40 [bp b 0, vb].toArray w (Bh (fun g : Value × Value × Value => g.2.2) (fun g => row 93 cv (Be x bt).1.cores :: blk b 39 [cv, g.1, g.2.1] :: L) (fun g => sl g.1 (Be x bt).1.home :: sl g.2.1 (Be x bt).1.frames :: sl g.2.2 (Be x bt).2 :: R)) := by
 have hnc := h.nc
 have hnh := h.nh
 have hn1 := h.n1
 have hn2 := h.l1
 have honec : cv.oneCell' = true := A8 .hd hs
 have honeh : hv.oneCell' = true := isSlice.one (hs.fact hhv)
 have honef : fv.oneCell' = true := isSlice.one (hs.fact hfv)
 have hn64 : An (x.cores.length : Int) := by unfold An; omega
 refine Ag Tryz.func40 rfl Tryz.ntmps40 rfl hs ?_
 clear hs
 refine Zaz ?_
 refine Aj Tryz.call61 rfl (fun w hs => Aga (x := x) (cv := cv) (hv := hv) (fv := fv) hs mm) ?_; intro _
 refine rn1 ?_
 refine Aj Tryz.call60 rfl (fun w hs => Rn (c := Ar x) (b := bt) hs mm) ?_; intro _
 refine rn3 ?_
 refine al_ (cs := zMsg.cells) Tryz.zeroValue128 ?_; intro b5
 refine s_B (cs := (Ae (Ar x) bt).1.cells) Tryz.sizeOf128 ?_
 refine ZK ?_
 refine cdy ?_ ?_
 ·intro ht21
  refine Gl ?_
  refine ZS ?_
  refine Aa ?_
  refine Ga1 ?_
  have er : Be x bt = (x, []) := by unfold Be; rw [if_pos ht21]
  rw [er]
  exact Bz (hv, fv, .slice none 0 0) (hs := fun w hs => (Af hs : St _ (sl (.slice none 0 0) ([] : List Done) :: R) w).sub .refl (fs_A hhv hfv))
 ·intro ht21
  refine Gl ?_
  have hp0 : (Ae (Ar x) bt).2 = 0 := Decidable.not_not.1 ht21
  have hpk := Hk (c := Ar x) (b := bt) (m := (Ae (Ar x) bt).1) (by rw [← hp0])
  have hwk := Hg hpk.2.2.2.2.1
  have hpw : (Ae (Ar x) bt).1.wf := by rw [hpk.2.2.2.2.2]; exact Ye _
  have ecn : (Ar x).cores = (x.cores.length : Int) := rfl
  rw [ecn] at hwk
  refine Aa ?_
  refine Gb6 ?_
  refine Ga4 ?_
  refine cdy ?_ ?_
  ·intro ht30
   refine Gl ?_
   refine cq_ (blk b5 128 (Ae (Ar x) bt).1.cells :: row 93 cv x.cores :: blk b 39 [cv, hv, fv] :: L) ?_
   refine jd_ (fun ρ S => blk b5 128 (Ae (Ar x) bt).1.cells :: row 93 cv x.cores :: blk b 39 [cv, hv, fv] :: L) ?_
   refine dn6 ?_
   refine Fr (γ := Value × Value) (val := fun v => .tuple #[v.1, v.2]) (F := fun v => [sl v.1 (Am x.home (x.cores.length : Int) (Ae (Ar x) bt).1).1, sl v.2 (Am x.home (x.cores.length : Int) (Ae (Ar x) bt).1).2]) Tryz.call62 (fun _ => rfl) (fun ρ L R w hd hs => Oq (l := x.home) (id := (x.cores.length : Int)) (m := (Ae (Ar x) bt).1) hs (hd.base mm) (fun i hi => (h.ebs i hi).1) (fun i hi => (h.ebs i hi).2.2.2.2) hpw hn64) (fun _ _ _ _ _ => rfl) ?_
   refine e_p (v := fun ρ => .tuple #[(Gh.dec (γ := Value × Value) (ρ 6)).1, (Gh.dec (γ := Value × Value) (ρ 6)).2]) (fun _ _ => Ss) (Ind.gh (h := fun g => (.tuple #[(Gh.dec (γ := Value × Value) g).1, (Gh.dec (γ := Value × Value) g).2] : Value)) 6 0 rfl) (fun _ _ _ _ _ => rfl) ?_
   refine Zbx ?_
   refine Zby ?_
   refine dnl ?_; intro ρ
   refine xq_ (blk b5 128 (Ae (Ar x) bt).1.cells :: row 93 cv x.cores :: blk b 39 [cv, hv, fv] :: L) ?_
   generalize (Gh.dec (γ := Value × Value) (ρ 6)) = vh
   refine Gl ?_
   refine JC.know (p := vh.1.oneCell' = true) (fun w hs => isSlice.one (hs.fact (mm (f := sl vh.1 (Am x.home (x.cores.length : Int) (Ae (Ar x) bt).1).1)))) (fun honeh1 => ?_)
   refine kp [0, 4, 5, 7, 8, 9, 41, 42, 43, 44] ?_
   refine ZG ?_
   refine ZH ?_
   refine rn2 ?_
   refine Aj Tryz.call38 rfl (fun w hs => Jb (cv := cv) (hv := vh.1) (fv := fv) (fs := x.frames) (ms := (Am x.home (x.cores.length : Int) (Ae (Ar x) bt).1).2) (Af (L' := blk b 39 [cv, vh.1, fv] :: row 93 cv x.cores :: L) hs) mm mm (P7 (by omega) (by omega) h.ebs hwk.2.2.2.1 hwk.2.2.2.2.2.1)) ?_; intro vs
   refine Gl ?_
   refine ZS ?_
   refine Aa ?_
   refine Ga1 ?_
   have er : Be x bt = (⟨x.cores, (Am x.home (x.cores.length : Int) (Ae (Ar x) bt).1).1, way x.frames (Am x.home (x.cores.length : Int) (Ae (Ar x) bt).1).2⟩, []) := by unfold Be A9; rw [if_neg ht21, if_pos ht30]
   rw [er]
   exact Bz (vh.1, vs, .slice none 0 0)
  ·intro ht30
   refine Gl ?_
   refine JC.focus1 (T := 93) (v := cv) (xs := x.cores) (Ae (Ar x) bt).1.dst.toNat pkk (by omega) (fun hwt u => ?_)
   have hkb : KB (Aq x (Ae (Ar x) bt).1.dst) := h.kb (p := (Ae (Ar x) bt).1.dst.toNat) (by omega)
   have hlb := h.lbs (p := (Ae (Ar x) bt).1.dst) (by omega)
   have hk4 := hkb.n
   have hpd64 : An (Ae (Ar x) bt).1.dst := by unfold An; omega
   refine cq_ (foc 93 cv x.cores (Ae (Ar x) bt).1.dst.toNat (Core.cells u (Aq x (Ae (Ar x) bt).1.dst)) :: blk b5 128 (Ae (Ar x) bt).1.cells :: blk b 39 [cv, hv, fv] :: L) ?_
   refine jd_ (fun ρ S => foc 93 cv x.cores (Ae (Ar x) bt).1.dst.toNat (Core.cells u (Aq x (Ae (Ar x) bt).1.dst)) :: blk b5 128 (Ae (Ar x) bt).1.cells :: blk b 39 [cv, hv, fv] :: ((bif S 17 then [blk (Gh.dec (γ := Nat) (ρ 17)) 93 (bif S 18 then [(Gh.dec (γ := Value × Value × Value) (ρ 12)).1, vi (Ac (Aq x (Ae (Ar x) bt).1.dst) (Ae (Ar x) bt).1.dst (x.cores.length : Int) (Ae (Ar x) bt).1).1.wait.kind, vi (Ac (Aq x (Ae (Ar x) bt).1.dst) (Ae (Ar x) bt).1.dst (x.cores.length : Int) (Ae (Ar x) bt).1).1.wait.line, vi (Ac (Aq x (Ae (Ar x) bt).1.dst) (Ae (Ar x) bt).1.dst (x.cores.length : Int) (Ae (Ar x) bt).1).1.wait.value] else [.slice none 0 0, vi 0, vi 0, vi 0])] else []) ++ (L))) ?_
   refine dn6 ?_
   refine epc (fun _ _ => Ip (v := cv) (i := (Ae (Ar x) bt).1.dst) Aco (hl := Cs (α := Core) (xs := x.cores) pkk)) ?_
   refine epc (fun _ _ => Adm (cs := Core.cells u (Aq x (Ae (Ar x) bt).1.dst)) Tryz.isAgg93 Tryz.sizeOf93) ?_
   refine dn4 ?_
   refine Fr (γ := Value × Value × Value) (val := fun v => .tuple #[.agg (Core.cells v.1 (Ac (Aq x (Ae (Ar x) bt).1.dst) (Ae (Ar x) bt).1.dst (x.cores.length : Int) (Ae (Ar x) bt).1).1).toArray, v.2.1, v.2.2]) (F := fun v => [sl v.1 (Ac (Aq x (Ae (Ar x) bt).1.dst) (Ae (Ar x) bt).1.dst (x.cores.length : Int) (Ae (Ar x) bt).1).1.lines, sl v.2.1 (Ac (Aq x (Ae (Ar x) bt).1.dst) (Ae (Ar x) bt).1.dst (x.cores.length : Int) (Ae (Ar x) bt).1).2.1, sl v.2.2 (Ac (Aq x (Ae (Ar x) bt).1.dst) (Ae (Ar x) bt).1.dst (x.cores.length : Int) (Ae (Ar x) bt).1).2.2]) Tryz.call63 (fun _ => rfl) (fun ρ L R w hd hs => Wj (c := (Aq x (Ae (Ar x) bt).1.dst)) (id := (Ae (Ar x) bt).1.dst) (home := (x.cores.length : Int)) (m := (Ae (Ar x) bt).1) (u := u) hs (hd.base mm) hkb.kh hpd64 hn64 hpw) (fun ρ g S hS hA => by have u17 : upS S 12 17 = S 17 := rfl; have u18 : upS S 12 18 = S 18 := rfl; have r17 : Rho.set ρ 12 g 17 = ρ 17 := rfl; have h18 : S 18 = false := hA 18 ⟨0, rfl⟩; simp only [u17, u18, r17, h18, cond_false]) ?_
   refine e_p (v := fun ρ => .tuple #[.agg (Core.cells (Gh.dec (γ := Value × Value × Value) (ρ 12)).1 (Ac (Aq x (Ae (Ar x) bt).1.dst) (Ae (Ar x) bt).1.dst (x.cores.length : Int) (Ae (Ar x) bt).1).1).toArray, (Gh.dec (γ := Value × Value × Value) (ρ 12)).2.1, (Gh.dec (γ := Value × Value × Value) (ρ 12)).2.2]) (fun _ _ => Ss) (Ind.gh (h := fun g => (.tuple #[.agg (Core.cells (Gh.dec (γ := Value × Value × Value) g).1 (Ac (Aq x (Ae (Ar x) bt).1.dst) (Ae (Ar x) bt).1.dst (x.cores.length : Int) (Ae (Ar x) bt).1).1).toArray, (Gh.dec (γ := Value × Value × Value) g).2.1, (Gh.dec (γ := Value × Value × Value) g).2.2] : Value)) 12 0 rfl) (fun _ _ _ _ _ => rfl) ?_
   refine e_p (v := fun ρ => .agg (Core.cells (Gh.dec (γ := Value × Value × Value) (ρ 12)).1 (Ac (Aq x (Ae (Ar x) bt).1.dst) (Ae (Ar x) bt).1.dst (x.cores.length : Int) (Ae (Ar x) bt).1).1).toArray) (fun _ _ => q_x) (Ind.gh (h := fun g => (.agg (Core.cells (Gh.dec (γ := Value × Value × Value) g).1 (Ac (Aq x (Ae (Ar x) bt).1.dst) (Ae (Ar x) bt).1.dst (x.cores.length : Int) (Ae (Ar x) bt).1).1).toArray : Value)) 12 1 rfl) (fun _ _ _ _ _ => rfl) ?_
   refine e_p (v := fun ρ => (Gh.dec (γ := Value × Value × Value) (ρ 12)).2.1) (fun _ _ => q_x) (Ind.gh (h := fun g => ((Gh.dec (γ := Value × Value × Value) g).2.1 : Value)) 12 1 rfl) (fun _ _ _ _ _ => rfl) ?_
   refine e_p (v := fun ρ => (Gh.dec (γ := Value × Value × Value) (ρ 12)).2.2) (fun _ _ => q_x) (Ind.gh (h := fun g => ((Gh.dec (γ := Value × Value × Value) g).2.2 : Value)) 12 1 rfl) (fun _ _ _ _ _ => rfl) ?_
   refine Jr (cs := [.slice none 0 0, vi 0, vi 0, vi 0]) Tryz.zeroValue93 rfl (fun ρ b S hS hA => ?_) ?_
   ·have ui : upS S 17 17 = true := rfl; have u18 : upS S 17 18 = S 18 := rfl; have r12 : Rho.set ρ 17 (Gh.enc b) 12 = ρ 12 := rfl; have h18 : S 18 = false := hA 18 ⟨0, rfl⟩; have rs : (Gh.dec (γ := Nat) (Rho.set ρ 17 (Gh.enc b) 17)) = b := rfl
    simp only [ui, hS, u18, r12, h18, rs, cond_true, cond_false, List.nil_append]
    exact ZcQ
   refine es_ 93 0 [17] [] (fun ρ => (Gh.dec (γ := Nat) (ρ 17))) (fun ρ => [.slice none 0 0, vi 0, vi 0, vi 0]) (fun ρ => [(Gh.dec (γ := Value × Value × Value) (ρ 12)).1, vi (Ac (Aq x (Ae (Ar x) bt).1.dst) (Ae (Ar x) bt).1.dst (x.cores.length : Int) (Ae (Ar x) bt).1).1.wait.kind, vi (Ac (Aq x (Ae (Ar x) bt).1.dst) (Ae (Ar x) bt).1.dst (x.cores.length : Int) (Ae (Ar x) bt).1).1.wait.line, vi (Ac (Aq x (Ae (Ar x) bt).1.dst) (Ae (Ar x) bt).1.dst (x.cores.length : Int) (Ae (Ar x) bt).1).1.wait.value]) Tryz.sizeOf93 (h1 := (fun ρ R w L' hd hs => Ec (isSlice.one (hs.fact (hd.dep (it := ⟨12, _, _, _, _⟩) (by repeat (first | exact List.Mem.head _ | refine List.Mem.tail _ ?_)) ⟨9, rfl⟩ (List.Mem.head _)))) (by repeat (first | exact Ie | refine Ec rfl ?_)))) ?_
   refine e_p (v := fun ρ => (Gh.dec (γ := Value × Value × Value) (ρ 12)).2.1) (fun _ _ => C6) (Ind.gh (h := fun g => ((Gh.dec (γ := Value × Value × Value) g).2.1 : Value)) 12 0 rfl) (fun _ _ _ _ _ => rfl) ?_
   refine e_p (v := fun ρ => (Gh.dec (γ := Value × Value × Value) (ρ 12)).2.2) (fun _ _ => C6) (Ind.gh (h := fun g => ((Gh.dec (γ := Value × Value × Value) g).2.2 : Value)) 12 0 rfl) (fun _ _ _ _ _ => rfl) ?_
   refine dnl ?_; intro ρ
   refine xq_ (foc 93 cv x.cores (Ae (Ar x) bt).1.dst.toNat (Core.cells u (Aq x (Ae (Ar x) bt).1.dst)) :: blk b5 128 (Ae (Ar x) bt).1.cells :: blk b 39 [cv, hv, fv] :: (blk (Gh.dec (γ := Nat) (ρ 17)) 93 [(Gh.dec (γ := Value × Value × Value) (ρ 12)).1, vi (Ac (Aq x (Ae (Ar x) bt).1.dst) (Ae (Ar x) bt).1.dst (x.cores.length : Int) (Ae (Ar x) bt).1).1.wait.kind, vi (Ac (Aq x (Ae (Ar x) bt).1.dst) (Ae (Ar x) bt).1.dst (x.cores.length : Int) (Ae (Ar x) bt).1).1.wait.line, vi (Ac (Aq x (Ae (Ar x) bt).1.dst) (Ae (Ar x) bt).1.dst (x.cores.length : Int) (Ae (Ar x) bt).1).1.wait.value] :: L)) ?_
   generalize (Gh.dec (γ := Value × Value × Value) (ρ 12)) = vk
   generalize (Gh.dec (γ := Nat) (ρ 17)) = b10
   refine Gl ?_
   refine JC.conseq (L' := row 93 cv x.cores :: blk b10 93 (Core.cells vk.1 (Ac (Aq x (Ae (Ar x) bt).1.dst) (Ae (Ar x) bt).1.dst (x.cores.length : Int) (Ae (Ar x) bt).1).1) :: blk b5 128 (Ae (Ar x) bt).1.cells :: blk b 39 [cv, hv, fv] :: L) (fun w hs => Af (O5 mm hwt (hs.pick pkk))) ?_
   refine kp [0, 4, 5, 10, 11, 12, 65, 66, 67, 68, 69, 70, 71, 72] ?_
   refine ZO ?_
   refine dtl ?_; intro ρ
   refine s_W (α := Core) (Ac (Aq x (Ae (Ar x) bt).1.dst) (Ae (Ar x) bt).1.dst (x.cores.length : Int) (Ae (Ar x) bt).1).1 Tryz.sizeOf93 rfl rfl rfl pkk (by omega) (Abq mm (Vs hkb.wwf)) ?_
   refine ZP ?_
   refine Aj Tryz.call38 rfl (fun w hs => Jb (cv := cv) (hv := hv) (fv := fv) (fs := x.frames) (ms := (Ac (Aq x (Ae (Ar x) bt).1.dst) (Ae (Ar x) bt).1.dst (x.cores.length : Int) (Ae (Ar x) bt).1).2.1) (Af (L' := blk b 39 [cv, hv, fv] :: row 93 cv (x.cores.set (Ae (Ar x) bt).1.dst.toNat (Ac (Aq x (Ae (Ar x) bt).1.dst) (Ae (Ar x) bt).1.dst (x.cores.length : Int) (Ae (Ar x) bt).1).1) :: L) hs) mm mm (Aeh (by omega) (by omega) hk4 hlb hwk.2.2.2.2.1)) ?_; intro vs
   refine ZE ?_
   have er : Be x bt = (Ch x (Ae (Ar x) bt).1.dst (Ac (Aq x (Ae (Ar x) bt).1.dst) (Ae (Ar x) bt).1.dst (x.cores.length : Int) (Ae (Ar x) bt).1).1 (Ac (Aq x (Ae (Ar x) bt).1.dst) (Ae (Ar x) bt).1.dst (x.cores.length : Int) (Ae (Ar x) bt).1).2.1, (Ac (Aq x (Ae (Ar x) bt).1.dst) (Ae (Ar x) bt).1.dst (x.cores.length : Int) (Ae (Ar x) bt).1).2.2) := by unfold Be A9; rw [if_neg ht21, if_neg ht30]
   rw [er]
   exact Bz (hv, vs, vk.2.2) (hs := fun w hs => (Af hs : St _ (sl vs (way x.frames (Ac (Aq x (Ae (Ar x) bt).1.dst) (Ae (Ar x) bt).1.dst (x.cores.length : Int) (Ae (Ar x) bt).1).2.1) :: sl vk.2.2 (Ac (Aq x (Ae (Ar x) bt).1.dst) (Ae (Ar x) bt).1.dst (x.cores.length : Int) (Ae (Ar x) bt).1).2.2 :: R) w).sub .refl (fs_B hhv))
theorem kv_row {v : Value} {ks : List KV} {cs : List Core} (h : ks.map KV.c = cs) (hs : St (row 93 v ks :: (ks.map Xk ++ L)) R w) : St (row 93 v cs :: L) R w := by
 subst h
 have h1 : St (ks.map Xk ++ (row 93 v ks :: L)) R w := hs.perm List.perm_middle.symm
 have h2 := Oh ks h1
 have h3 := Sm (fun x hx => List.mem_append.2 (.inl (List.mem_map.2 ⟨x, hx, rfl⟩))) h2
 exact h3.sub .refl (fun f hf => List.mem_append.2 (.inr hf))
theorem Gw {cv hv fv : Value} {x : Chip} (hs : St L R w) (hcv : sl cv x.cores ∈ R) (hhv : sl hv x.home ∈ R) (hfv : sl fv x.frames ∈ R) (hn4 : x.cores.length ≤ 1000) : Calls Tryz.prog 36 [.agg #[cv, hv, fv]].toArray w (Bh (fun g : Value × Value × Value => .agg #[g.1, g.2.1, g.2.2]) (fun g => row 93 g.1 x.cores :: L) (fun g => sl g.2.2 x.frames :: sl g.2.1 x.home :: R)) :=
 Hs (Afz hs hcv hhv hfv hn4) (fun g w' hs' => ⟨(g.1, g.2.1, g.2.2.1), rfl, by
  have h1 := Ga (.head _) hs'
  exact (kv_row h1 hs').sub .refl (fun f hf => .tail _ hf)⟩)
theorem Yr {n nl : Nat} {x : Chip} {M : List Int} (h : Inv n nl x M) (i : Nat) : Inv n nl ⟨x.cores, x.home, x.frames.eraseIdx i⟩ M :=
 ⟨h.n1, h.l1, h.nc, h.nh, h.ncl, h.nla, h.ml, h.mv, h.bit, h.gi, h.ci, h.cw, by have := h.fr; have := List.length_eraseIdx_le x.frames i; simp only; omega, fun b hb => h.mi b (List.mem_of_mem_eraseIdx hb)⟩
theorem Aaj {cv hv fv : Value} {x : Chip} {s : Step} {n nl : Nat} {M : List Int} (hs : St (L) R w) (hcv : sl cv x.cores ∈ R) (hhv : sl hv x.home ∈ R) (hfv : sl fv x.frames ∈ R) (hsn : s.wf) (h : Inv n nl x M) (hk : s.kind = 1) : Calls Tryz.prog 17 [.agg #[cv, hv, fv], .agg s.cells.toArray].toArray w (Bh (fun v : Value × Value × Value × Value => .tuple #[.agg #[v.1, v.2.1, v.2.2.1], v.2.2.2, vi (Al x s).2.2]) (fun v => L) (fun v => sl v.1 (Al x s).1.cores :: sl v.2.1 (Al x s).1.home :: sl v.2.2.1 (Al x s).1.frames :: sl v.2.2.2 (Al x s).2.1 :: R)) := by
 refine Za9 ?_;intro hnc hnh hn1 hn2 honec honeh honef hn64 hop
 clear hs
 refine ZaG ?_;intro b2 b3 b4
 refine Aj Tryz.call36 rfl (fun w hs => Gw (x := x) (cv := cv) (hv := hv) (fv := fv) hs mm mm mm (by omega)) ?_; intro ⟨cY, hY, fY⟩
 refine ZaD ?_;intro h12
 obtain ⟨honeY1, honeY2, honeY3⟩ := h12
 refine ZaE ?_;intro b7
 refine Df ?_
 refine Gc1 ?_
 rcases (show (s.node < 0) ∨ (0 ≤ s.node ∧ (x.cores.length : Int) ≤ s.node) ∨ (0 ≤ s.node ∧ s.node < (x.cores.length : Int)) from by omega) with hc | hc | hc
 ·refine Zay ?_
  refine Gc8 ?_
  exact Zdr
 ·refine ZA ?_
  refine Bj ?_
  refine ZL ?_
  refine J8 ?_
  refine Gc1 ?_
  exact Zdr
 ·refine ZA ?_
  refine Zag ?_
  refine Gc1 ?_
  refine X9 (x := x) (v := cv) s.node mm (by omega) (by omega) (fun hwt u => ?_)
  have hkb : KB (Aq x s.node) := h.kb (p := s.node.toNat) (by omega)
  have hlb := h.lbs (p := s.node) (by omega)
  have hk4 := hkb.n
  refine cq_ (row 93 cY x.cores :: blk b7 39 [cY, hY, fY] :: blk b4 39 [.slice none 0 0, .slice none 0 0, .slice none 0 0] :: blk b3 29 s.cells :: blk b2 39 [cv, hv, fv] :: L) ?_
  refine jd_ (fun ρ S => row 93 cY x.cores :: blk b7 39 [cY, hY, fY] :: blk b4 39 [.slice none 0 0, .slice none 0 0, .slice none 0 0] :: blk b3 29 s.cells :: blk b2 39 [cv, hv, fv] :: ((bif S 19 then [blk (Gh.dec (γ := Nat) (ρ 19)) 93 (bif S 20 then [(Gh.dec (γ := Value × Value × Value) (ρ 13)).1, vi (Ak (Aq x s.node) s.node (x.cores.length : Int) s.op).1.wait.kind, vi (Ak (Aq x s.node) s.node (x.cores.length : Int) s.op).1.wait.line, vi (Ak (Aq x s.node) s.node (x.cores.length : Int) s.op).1.wait.value] else [.slice none 0 0, vi 0, vi 0, vi 0])] else []) ++ (L))) ?_
  refine dn13 ?_
  refine Fr (γ := Value × Value × Value) (val := fun v => .tuple #[.agg (Core.cells v.1 (Ak (Aq x s.node) s.node (x.cores.length : Int) s.op).1).toArray, v.2.1, v.2.2, vi (Ak (Aq x s.node) s.node (x.cores.length : Int) s.op).2.2.2]) (F := fun v => [sl v.1 (Ak (Aq x s.node) s.node (x.cores.length : Int) s.op).1.lines, sl v.2.1 (Ak (Aq x s.node) s.node (x.cores.length : Int) s.op).2.1, sl v.2.2 (Ak (Aq x s.node) s.node (x.cores.length : Int) s.op).2.2.1]) Tryz.call37 (fun _ => rfl) (fun ρ L R w hd hs => Tq (c := (Aq x s.node)) (id := s.node) (home := (x.cores.length : Int)) (q := s.op) (u := u) hs (hd.base mm) hkb hsn.2.1 hn64 hop) (fun ρ g S hS hA => by have u19 : upS S 13 19 = S 19 := rfl; have u20 : upS S 13 20 = S 20 := rfl; have r19 : Rho.set ρ 13 g 19 = ρ 19 := rfl; have h20 : S 20 = false := hA 20 ⟨0, rfl⟩; simp only [u19, u20, r19, h20, cond_false]) ?_
  refine e_p (v := fun ρ => .tuple #[.agg (Core.cells (Gh.dec (γ := Value × Value × Value) (ρ 13)).1 (Ak (Aq x s.node) s.node (x.cores.length : Int) s.op).1).toArray, (Gh.dec (γ := Value × Value × Value) (ρ 13)).2.1, (Gh.dec (γ := Value × Value × Value) (ρ 13)).2.2, vi (Ak (Aq x s.node) s.node (x.cores.length : Int) s.op).2.2.2]) (fun _ _ => Ss) (Ind.gh (h := fun g => (.tuple #[.agg (Core.cells (Gh.dec (γ := Value × Value × Value) g).1 (Ak (Aq x s.node) s.node (x.cores.length : Int) s.op).1).toArray, (Gh.dec (γ := Value × Value × Value) g).2.1, (Gh.dec (γ := Value × Value × Value) g).2.2, vi (Ak (Aq x s.node) s.node (x.cores.length : Int) s.op).2.2.2] : Value)) 13 0 rfl) (fun _ _ _ _ _ => rfl) ?_
  refine e_p (v := fun ρ => .agg (Core.cells (Gh.dec (γ := Value × Value × Value) (ρ 13)).1 (Ak (Aq x s.node) s.node (x.cores.length : Int) s.op).1).toArray) (fun _ _ => q_x) (Ind.gh (h := fun g => (.agg (Core.cells (Gh.dec (γ := Value × Value × Value) g).1 (Ak (Aq x s.node) s.node (x.cores.length : Int) s.op).1).toArray : Value)) 13 1 rfl) (fun _ _ _ _ _ => rfl) ?_
  refine e_p (v := fun ρ => (Gh.dec (γ := Value × Value × Value) (ρ 13)).2.1) (fun _ _ => q_x) (Ind.gh (h := fun g => ((Gh.dec (γ := Value × Value × Value) g).2.1 : Value)) 13 1 rfl) (fun _ _ _ _ _ => rfl) ?_
  refine e_p (v := fun ρ => (Gh.dec (γ := Value × Value × Value) (ρ 13)).2.2) (fun _ _ => q_x) (Ind.gh (h := fun g => ((Gh.dec (γ := Value × Value × Value) g).2.2 : Value)) 13 1 rfl) (fun _ _ _ _ _ => rfl) ?_
  refine Kb (v := vi (Ak (Aq x s.node) s.node (x.cores.length : Int) s.op).2.2.2) (fun _ _ => q_x) (fun _ _ _ _ _ => rfl) ?_
  refine Jr (cs := [.slice none 0 0, vi 0, vi 0, vi 0]) Tryz.zeroValue93 rfl (fun ρ b S hS hA => ?_) ?_
  ·have ui : upS S 19 19 = true := rfl; have u20 : upS S 19 20 = S 20 := rfl; have r13 : Rho.set ρ 19 (Gh.enc b) 13 = ρ 13 := rfl; have h20 : S 20 = false := hA 20 ⟨0, rfl⟩; have rs : (Gh.dec (γ := Nat) (Rho.set ρ 19 (Gh.enc b) 19)) = b := rfl
   simp only [ui, hS, u20, r13, h20, rs, cond_true, cond_false, List.nil_append]
   exact ZcQ
  refine es_ 93 0 [19] [] (fun ρ => (Gh.dec (γ := Nat) (ρ 19))) (fun ρ => [.slice none 0 0, vi 0, vi 0, vi 0]) (fun ρ => [(Gh.dec (γ := Value × Value × Value) (ρ 13)).1, vi (Ak (Aq x s.node) s.node (x.cores.length : Int) s.op).1.wait.kind, vi (Ak (Aq x s.node) s.node (x.cores.length : Int) s.op).1.wait.line, vi (Ak (Aq x s.node) s.node (x.cores.length : Int) s.op).1.wait.value]) Tryz.sizeOf93 (h1 := (fun ρ R w L' hd hs => Ec (isSlice.one (hs.fact (hd.dep (it := ⟨13, _, _, _, _⟩) (by repeat (first | exact List.Mem.head _ | refine List.Mem.tail _ ?_)) ⟨9, rfl⟩ (List.Mem.head _)))) (by repeat (first | exact Ie | refine Ec rfl ?_)))) ?_
  refine e_p (v := fun ρ => (Gh.dec (γ := Value × Value × Value) (ρ 13)).2.1) (fun _ _ => C6) (Ind.gh (h := fun g => ((Gh.dec (γ := Value × Value × Value) g).2.1 : Value)) 13 0 rfl) (fun _ _ _ _ _ => rfl) ?_
  refine e_p (v := fun ρ => (Gh.dec (γ := Value × Value × Value) (ρ 13)).2.2) (fun _ _ => C6) (Ind.gh (h := fun g => ((Gh.dec (γ := Value × Value × Value) g).2.2 : Value)) 13 0 rfl) (fun _ _ _ _ _ => rfl) ?_
  refine Kb (v := vi (Ak (Aq x s.node) s.node (x.cores.length : Int) s.op).2.2.2) (fun _ _ => C6) (fun _ _ _ _ _ => rfl) ?_
  refine dnl ?_; intro ρ
  refine xq_ (row 93 cY x.cores :: blk b7 39 [cY, hY, fY] :: blk b4 39 [.slice none 0 0, .slice none 0 0, .slice none 0 0] :: blk b3 29 s.cells :: blk b2 39 [cv, hv, fv] :: (blk (Gh.dec (γ := Nat) (ρ 19)) 93 [(Gh.dec (γ := Value × Value × Value) (ρ 13)).1, vi (Ak (Aq x s.node) s.node (x.cores.length : Int) s.op).1.wait.kind, vi (Ak (Aq x s.node) s.node (x.cores.length : Int) s.op).1.wait.line, vi (Ak (Aq x s.node) s.node (x.cores.length : Int) s.op).1.wait.value] :: L)) ?_
  generalize (Gh.dec (γ := Value × Value × Value) (ρ 13)) = vk
  generalize (Gh.dec (γ := Nat) (ρ 19)) = b10
  refine Gl ?_
  refine kp [2, 3, 4, 5, 6, 7, 8, 9, 10, 11, 12, 13, 20, 54, 55] ?_
  refine Aa ?_
  refine Ga2 ?_
  refine cdy ?_ ?_
  ·intro ht55
   refine Gl ?_
   refine ZaW ?_
   have er : Al x s = (Ev, [], (Ak (Aq x s.node) s.node (x.cores.length : Int) s.op).2.2.2) := by unfold Al A9; rw [if_pos (by omega), if_neg (by omega), if_pos ht55]
   exact ZcI
  ·intro ht55
   refine Gm ?_
   refine rn6 ?_
   refine s_W (α := Core) (Ak (Aq x s.node) s.node (x.cores.length : Int) s.op).1 Tryz.sizeOf93 rfl rfl rfl pkk (by omega) (Abq mm (T2 hop)) ?_
   refine ZW ?_
   refine Aj Tryz.call38 rfl (fun w hs => Jb (cv := cY) (hv := hY) (fv := fY) (fs := x.frames) (ms := (Ak (Aq x s.node) s.node (x.cores.length : Int) s.op).2.1) (Af (L' := blk b7 39 [cY, hY, fY] :: row 93 cY (x.cores.set s.node.toNat (Ak (Aq x s.node) s.node (x.cores.length : Int) s.op).1) :: blk b4 39 [.slice none 0 0, .slice none 0 0, .slice none 0 0] :: blk b3 29 s.cells :: blk b2 39 [cv, hv, fv] :: L) hs) mm mm (Aas (by omega) (by omega) hk4 hlb)) ?_; intro vs
   refine Gm ?_
   refine Gb2 ?_
   refine rn1 ?_
   refine ZU ?_
   refine Glc ?_
   refine JC.shut (v := cY) (xs := (x.cores.set s.node.toNat (Ak (Aq x s.node) s.node (x.cores.length : Int) s.op).1)) pkk ?_
   refine JC.know (p := vs.oneCell' = true) (fun w hs => isSlice.one (hs.fact (mm (f := sl vs (way x.frames (Ak (Aq x s.node) s.node (x.cores.length : Int) s.op).2.1))))) (fun honevs => ?_)
   refine ZA ?_
   refine s_B (cs := [cY, hY, vs]) Tryz.sizeOf39 ?_
   refine Ga2 ?_
   have er : Al x s = (Ch x s.node (Ak (Aq x s.node) s.node (x.cores.length : Int) s.op).1 (Ak (Aq x s.node) s.node (x.cores.length : Int) s.op).2.1, (Ak (Aq x s.node) s.node (x.cores.length : Int) s.op).2.2.1, 0) := by unfold Al A9; rw [if_pos (by omega), if_neg (by omega), if_neg ht55]
   rw [er]
   exact Eu (cY, hY, vs, vk.2.2) Tryz.isAgg39 Tryz.sizeOf39
theorem Aak {cv hv fv : Value} {x : Chip} {s : Step} {n nl : Nat} {M : List Int} (hs : St (L) R w) (hcv : sl cv x.cores ∈ R) (hhv : sl hv x.home ∈ R) (hfv : sl fv x.frames ∈ R) (hsn : s.wf) (h : Inv n nl x M) (hk : s.kind < 1 ∨ 6 < s.kind) : Calls Tryz.prog 17 [.agg #[cv, hv, fv], .agg s.cells.toArray].toArray w (Bh (fun v : Value × Value × Value × Value => .tuple #[.agg #[v.1, v.2.1, v.2.2.1], v.2.2.2, vi (Al x s).2.2]) (fun v => L) (fun v => sl v.1 (Al x s).1.cores :: sl v.2.1 (Al x s).1.home :: sl v.2.2.1 (Al x s).1.frames :: sl v.2.2.2 (Al x s).2.1 :: R)) := by
 refine Za9 ?_;intro hnc hnh hn1 hn2 honec honeh honef hn64 hop
 clear hs
 refine ZaG ?_;intro b2 b3 b4
 refine Aj Tryz.call36 rfl (fun w hs => Gw (x := x) (cv := cv) (hv := hv) (fv := fv) hs mm mm mm (by omega)) ?_; intro ⟨cY, hY, fY⟩
 refine ZaD ?_;intro h12
 obtain ⟨honeY1, honeY2, honeY3⟩ := h12
 refine ZaE ?_;intro b7
 refine ZD ?_
 refine ZD ?_
 refine ZD ?_
 refine ZD ?_
 refine ZD ?_
 refine ZD ?_
 refine Gb1 ?_
 refine rn1 ?_
 refine ZaT ?_
 refine ZaW ?_
 have er : Al x s = (Ev, [], 1) := by unfold Al A9; rw [if_neg (by omega), if_neg (by omega), if_neg (by omega), if_neg (by omega), if_neg (by omega), if_neg (by omega)]
 exact ZcI
theorem Aai {cv hv fv : Value} {x : Chip} {s : Step} {n nl : Nat} {M : List Int} (hs : St (L) R w) (hcv : sl cv x.cores ∈ R) (hhv : sl hv x.home ∈ R) (hfv : sl fv x.frames ∈ R) (hsn : s.wf) (h : Inv n nl x M) (hk : s.kind = 2) : Calls Tryz.prog 17 [.agg #[cv, hv, fv], .agg s.cells.toArray].toArray w (Bh (fun v : Value × Value × Value × Value => .tuple #[.agg #[v.1, v.2.1, v.2.2.1], v.2.2.2, vi (Al x s).2.2]) (fun v => L) (fun v => sl v.1 (Al x s).1.cores :: sl v.2.1 (Al x s).1.home :: sl v.2.2.1 (Al x s).1.frames :: sl v.2.2.2 (Al x s).2.1 :: R)) := by
 refine Za9 ?_;intro hnc hnh hn1 hn2 honec honeh honef hn64 hop
 clear hs
 refine ZaG ?_;intro b2 b3 b4
 refine Aj Tryz.call36 rfl (fun w hs => Gw (x := x) (cv := cv) (hv := hv) (fv := fv) hs mm mm mm (by omega)) ?_; intro ⟨cY, hY, fY⟩
 refine ZaD ?_;intro h12
 obtain ⟨honeY1, honeY2, honeY3⟩ := h12
 refine ZaE ?_;intro b7
 refine ZD ?_
 refine Df ?_
 refine Gc1 ?_
 rcases (show (D3 x s.n) ∨ (¬ D3 x s.n) from by exact Classical.em _) with hc | hc
 ·refine ZbJ ?_;intro hnt
  refine ZG ?_
  refine Aj (γ := Value × Value) (val := fun v => .tuple #[v.1, v.2, vi 5]) (Rf := fun v => sl v.1 ([] : Frames) :: sl v.2 ([] : List UInt8) :: _) Tryz.call39 rfl (fun w hs => by have h := Hm (v0 := fv) (l := x.frames) (n := s.n) hs mm hsn.2.2.1; rw [hnt] at h; exact frz h) ?_; intro ⟨va, vb⟩
  refine Gb7 ?_
  refine rn1 ?_
  refine ZaT ?_
  refine ZaF ?_
  refine kp [2, 3, 4, 5, 6, 7, 8, 9, 14, 15, 16, 20, 81, 82] ?_
  refine Zbb ?_
  refine Ga2 ?_
  have er : Al x s = (Ev, [], 5) := by unfold Al A9; rw [if_neg (by omega), if_pos (by omega)]; rw [if_pos hc]
  exact ZcI
 ·refine ZbA ?_;intro hnt
  refine ZG ?_
  refine Aj (γ := Value × Value) (val := fun v => .tuple #[v.1, v.2, vi 0]) (Rf := fun v => sl v.1 (x.frames.eraseIdx s.n.toNat) :: sl v.2 (Cq x.frames s.n) :: _) Tryz.call39 rfl (fun w hs => by have h := Hm (v0 := fv) (l := x.frames) (n := s.n) hs mm hsn.2.2.1; rw [hnt] at h; exact frz h) ?_; intro ⟨va, vb⟩
  refine Gb7 ?_
  refine rn1 ?_
  refine Zc6 ?_;intro honeva
  refine kp [2, 3, 4, 5, 6, 7, 8, 9, 14, 15, 20, 83, 84] ?_
  refine ZA ?_
  refine ZH ?_
  refine rn2 ?_
  refine Df ?_
  refine Zaw ?_
  refine Aj Tryz.call40 rfl (fun w hs => Wu (x := ⟨x.cores, x.home, x.frames.eraseIdx s.n.toNat⟩) (cv := cY) (hv := hY) (fv := va) (bt := (Cq x.frames s.n)) (Af (L' := row 93 cY x.cores :: blk b7 39 [cY, hY, va] :: blk b4 39 [.slice none 0 0, .slice none 0 0, .slice none 0 0] :: blk b3 29 s.cells :: blk b2 39 [cv, hv, fv] :: L) hs) mm mm mm (Yr h _)) ?_; intro ⟨vh, vf, vd⟩
  refine Gb1 ?_
  refine rn1 ?_
  refine ZU ?_
  refine Glc ?_
  refine JC.shut (v := cY) (xs := (Be ⟨x.cores, x.home, x.frames.eraseIdx s.n.toNat⟩ (Cq x.frames s.n)).1.cores) pkk ?_
  refine JC.know (p := vh.oneCell' = true) (fun w hs => isSlice.one (hs.fact (mm (f := sl vh (Be ⟨x.cores, x.home, x.frames.eraseIdx s.n.toNat⟩ (Cq x.frames s.n)).1.home)))) (fun honevh => ?_)
  refine JC.know (p := vf.oneCell' = true) (fun w hs => isSlice.one (hs.fact (mm (f := sl vf (Be ⟨x.cores, x.home, x.frames.eraseIdx s.n.toNat⟩ (Cq x.frames s.n)).1.frames)))) (fun honevf => ?_)
  refine ZA ?_
  refine s_B (cs := [cY, vh, vf]) Tryz.sizeOf39 ?_
  refine Ga2 ?_
  have er : Al x s = ((Be ⟨x.cores, x.home, x.frames.eraseIdx s.n.toNat⟩ (Cq x.frames s.n)).1, (Be ⟨x.cores, x.home, x.frames.eraseIdx s.n.toNat⟩ (Cq x.frames s.n)).2, 0) := by unfold Al A9; rw [if_neg (by omega), if_pos (by omega)]; rw [if_neg hc]
  rw [er]
  exact Eu (cY, vh, vf, vd) Tryz.isAgg39 Tryz.sizeOf39
theorem Aah {cv hv fv : Value} {x : Chip} {s : Step} {n nl : Nat} {M : List Int} (hs : St (L) R w) (hcv : sl cv x.cores ∈ R) (hhv : sl hv x.home ∈ R) (hfv : sl fv x.frames ∈ R) (hsn : s.wf) (h : Inv n nl x M) (hk : s.kind = 3) : Calls Tryz.prog 17 [.agg #[cv, hv, fv], .agg s.cells.toArray].toArray w (Bh (fun v : Value × Value × Value × Value => .tuple #[.agg #[v.1, v.2.1, v.2.2.1], v.2.2.2, vi (Al x s).2.2]) (fun v => L) (fun v => sl v.1 (Al x s).1.cores :: sl v.2.1 (Al x s).1.home :: sl v.2.2.1 (Al x s).1.frames :: sl v.2.2.2 (Al x s).2.1 :: R)) := by
 refine Za9 ?_;intro hnc hnh hn1 hn2 honec honeh honef hn64 hop
 clear hs
 refine ZaG ?_;intro b2 b3 b4
 refine Aj Tryz.call36 rfl (fun w hs => Gw (x := x) (cv := cv) (hv := hv) (fv := fv) hs mm mm mm (by omega)) ?_; intro ⟨cY, hY, fY⟩
 refine ZaD ?_;intro h12
 obtain ⟨honeY1, honeY2, honeY3⟩ := h12
 refine ZaE ?_;intro b7
 refine Zas ?_
 refine Gc1 ?_
 rcases (show (D3 x s.n) ∨ (¬ D3 x s.n) from by exact Classical.em _) with hc | hc
 ·refine ZbJ ?_;intro hnt
  refine ZG ?_
  refine Aj (γ := Value × Value) (val := fun v => .tuple #[v.1, v.2, vi 5]) (Rf := fun v => sl v.1 ([] : Frames) :: sl v.2 ([] : List UInt8) :: _) Tryz.call39 rfl (fun w hs => by have h := Hm (v0 := fv) (l := x.frames) (n := s.n) hs mm hsn.2.2.1; rw [hnt] at h; exact frz h) ?_; intro ⟨va, vb⟩
  refine Ga7 ?_
  refine kp [2, 3, 4, 5, 6, 7, 8, 9, 14, 15, 16, 20, 79, 80] ?_
  refine ZB ?_
  refine ZaT ?_
  refine ZaW ?_
  have er : Al x s = (Ev, [], 5) := by unfold Al A9; rw [if_neg (by omega), if_neg (by omega), if_pos (by omega)]; rw [if_pos hc]
  exact ZcI
 ·refine ZbA ?_;intro hnt
  refine ZG ?_
  refine Aj (γ := Value × Value) (val := fun v => .tuple #[v.1, v.2, vi 0]) (Rf := fun v => sl v.1 (x.frames.eraseIdx s.n.toNat) :: sl v.2 (Cq x.frames s.n) :: _) Tryz.call39 rfl (fun w hs => by have h := Hm (v0 := fv) (l := x.frames) (n := s.n) hs mm hsn.2.2.1; rw [hnt] at h; exact frz h) ?_; intro ⟨va, vb⟩
  refine Ga7 ?_
  refine kp [2, 3, 4, 5, 6, 7, 8, 9, 14, 15, 16, 20, 79, 80] ?_
  refine ZB ?_
  refine Zc6 ?_;intro honeva
  refine ZA ?_
  refine ZH ?_
  refine rn2 ?_
  refine Ay ?_
  refine Zaw ?_
  refine ZU ?_
  refine Glc ?_
  refine Zb8 ?_
  have er : Al x s = (⟨x.cores, x.home, x.frames.eraseIdx s.n.toNat⟩, [], 0) := by unfold Al A9; rw [if_neg (by omega), if_neg (by omega), if_pos (by omega)]; rw [if_neg hc]
  exact ZdS
theorem Aag {cv hv fv : Value} {x : Chip} {s : Step} {n nl : Nat} {M : List Int} (hs : St (L) R w) (hcv : sl cv x.cores ∈ R) (hhv : sl hv x.home ∈ R) (hfv : sl fv x.frames ∈ R) (hsn : s.wf) (h : Inv n nl x M) (hk : s.kind = 4) : Calls Tryz.prog 17 [.agg #[cv, hv, fv], .agg s.cells.toArray].toArray w (Bh (fun v : Value × Value × Value × Value => .tuple #[.agg #[v.1, v.2.1, v.2.2.1], v.2.2.2, vi (Al x s).2.2]) (fun v => L) (fun v => sl v.1 (Al x s).1.cores :: sl v.2.1 (Al x s).1.home :: sl v.2.2.1 (Al x s).1.frames :: sl v.2.2.2 (Al x s).2.1 :: R)) := by
 refine Za9 ?_;intro hnc hnh hn1 hn2 honec honeh honef hn64 hop
 clear hs
 refine ZaG ?_;intro b2 b3 b4
 refine Aj Tryz.call36 rfl (fun w hs => Gw (x := x) (cv := cv) (hv := hv) (fv := fv) hs mm mm mm (by omega)) ?_; intro ⟨cY, hY, fY⟩
 refine ZaD ?_;intro h12
 obtain ⟨honeY1, honeY2, honeY3⟩ := h12
 refine ZaE ?_;intro b7
 refine ZD ?_
 refine Zas ?_
 refine Gc1 ?_
 rcases (show (D3 x s.n) ∨ (¬ D3 x s.n) from by exact Classical.em _) with hc | hc
 ·have hnt : Ed x.frames s.n = ([], 5) := by unfold Ed; rw [if_pos (show s.n < 0 ∨ (x.frames.length : Int) ≤ s.n from hc)]
  refine ZG ?_
  refine Aj (γ := Value) (val := fun v => .tuple #[v, vi 5]) (Rf := fun v => sl v ([] : Frames) :: _) Tryz.call41 rfl (fun w hs => by have h := Og (v0 := fv) (l := x.frames) (n := s.n) hs mm hsn.2.2.1; rw [hnt] at h; exact frz h) ?_; intro va
  refine Zb5 ?_;intro honeva
  refine ZB ?_
  refine ZaT ?_
  refine ZaW ?_
  have er : Al x s = (Ev, [], 5) := by unfold Al A9; rw [if_neg (by omega), if_neg (by omega), if_neg (by omega), if_pos (by omega)]; rw [if_pos hc]
  exact ZcI
 ·have hnt : Ed x.frames s.n = (C5 x.frames (Cq x.frames s.n), 0) := by unfold Ed; rw [if_neg (show ¬ (s.n < 0 ∨ (x.frames.length : Int) ≤ s.n) from hc)]
  refine ZG ?_
  refine Aj (γ := Value) (val := fun v => .tuple #[v, vi 0]) (Rf := fun v => sl v (C5 x.frames (Cq x.frames s.n)) :: _) Tryz.call41 rfl (fun w hs => by have h := Og (v0 := fv) (l := x.frames) (n := s.n) hs mm hsn.2.2.1; rw [hnt] at h; exact frz h) ?_; intro va
  refine Zb5 ?_;intro honeva
  refine ZB ?_
  refine ZU ?_
  refine Glc ?_
  refine Zb8 ?_
  have er : Al x s = (⟨x.cores, x.home, C5 x.frames (Cq x.frames s.n)⟩, [], 0) := by unfold Al A9; rw [if_neg (by omega), if_neg (by omega), if_neg (by omega), if_pos (by omega)]; rw [if_neg hc]
  exact ZdS
theorem Aaf {cv hv fv : Value} {x : Chip} {s : Step} {n nl : Nat} {M : List Int} (hs : St (L) R w) (hcv : sl cv x.cores ∈ R) (hhv : sl hv x.home ∈ R) (hfv : sl fv x.frames ∈ R) (hsn : s.wf) (h : Inv n nl x M) (hk : s.kind = 5) : Calls Tryz.prog 17 [.agg #[cv, hv, fv], .agg s.cells.toArray].toArray w (Bh (fun v : Value × Value × Value × Value => .tuple #[.agg #[v.1, v.2.1, v.2.2.1], v.2.2.2, vi (Al x s).2.2]) (fun v => L) (fun v => sl v.1 (Al x s).1.cores :: sl v.2.1 (Al x s).1.home :: sl v.2.2.1 (Al x s).1.frames :: sl v.2.2.2 (Al x s).2.1 :: R)) := by
 refine Za9 ?_;intro hnc hnh hn1 hn2 honec honeh honef hn64 hop
 clear hs
 refine ZaG ?_;intro b2 b3 b4
 refine Aj Tryz.call36 rfl (fun w hs => Gw (x := x) (cv := cv) (hv := hv) (fv := fv) hs mm mm mm (by omega)) ?_; intro ⟨cY, hY, fY⟩
 refine ZaD ?_;intro h12
 obtain ⟨honeY1, honeY2, honeY3⟩ := h12
 refine ZaE ?_;intro b7
 refine ZD ?_
 refine ZD ?_
 refine Zas ?_
 refine Zav ?_
 refine Aj Tryz.call42 rfl (fun w hs => Tx (x := x) (cv := cv) (hv := hv) (fv := fv) (s := s) (Af (L' := blk b2 39 [cv, hv, fv] :: row 93 cY x.cores :: blk b7 39 [cY, hY, fY] :: blk b4 39 [.slice none 0 0, .slice none 0 0, .slice none 0 0] :: blk b3 29 s.cells :: L) hs) mm mm mm hsn) ?_; intro va
 refine Zb5 ?_;intro honeva
 refine Aa ?_
 refine Ga2 ?_
 refine cdy ?_ ?_
 ·intro ht115
  refine Gl ?_
  refine ZaW ?_
  have er : Al x s = (Ev, [], (J5 x s).2) := by unfold Al A9; rw [if_neg (by omega), if_neg (by omega), if_neg (by omega), if_neg (by omega), if_pos (by omega)]; revert ht115; unfold J5; (repeat' split) <;> simp_all
  rw [er]
  exact Eu (.slice none 0 0, .slice none 0 0, .slice none 0 0, .slice none 0 0) Tryz.isAgg39 Tryz.sizeOf39
 ·intro ht115
  refine Gl ?_
  refine Zb8 ?_
  have er : Al x s = (⟨x.cores, x.home, (J5 x s).1⟩, [], 0) := by unfold Al A9; rw [if_neg (by omega), if_neg (by omega), if_neg (by omega), if_neg (by omega), if_pos (by omega)]; revert ht115; unfold J5; (repeat' split) <;> simp_all
  rw [er]
  exact Eu (cY, hY, va, .slice none 0 0) Tryz.isAgg39 Tryz.sizeOf39
theorem Aae {cv hv fv : Value} {x : Chip} {s : Step} {n nl : Nat} {M : List Int} (hs : St (L) R w) (hcv : sl cv x.cores ∈ R) (hhv : sl hv x.home ∈ R) (hfv : sl fv x.frames ∈ R) (hsn : s.wf) (h : Inv n nl x M) (hk : s.kind = 6) : Calls Tryz.prog 17 [.agg #[cv, hv, fv], .agg s.cells.toArray].toArray w (Bh (fun v : Value × Value × Value × Value => .tuple #[.agg #[v.1, v.2.1, v.2.2.1], v.2.2.2, vi (Al x s).2.2]) (fun v => L) (fun v => sl v.1 (Al x s).1.cores :: sl v.2.1 (Al x s).1.home :: sl v.2.2.1 (Al x s).1.frames :: sl v.2.2.2 (Al x s).2.1 :: R)) := by
 refine Za9 ?_;intro hnc hnh hn1 hn2 honec honeh honef hn64 hop
 clear hs
 refine ZaG ?_;intro b2 b3 b4
 refine Aj Tryz.call36 rfl (fun w hs => Gw (x := x) (cv := cv) (hv := hv) (fv := fv) hs mm mm mm (by omega)) ?_; intro ⟨cY, hY, fY⟩
 refine ZaD ?_;intro h12
 obtain ⟨honeY1, honeY2, honeY3⟩ := h12
 refine ZaE ?_;intro b7
 refine ZD ?_
 refine ZD ?_
 refine ZD ?_
 refine Zas ?_
 refine Gd1 ?_
 refine rn2 ?_
 refine Aj Tryz.call43 rfl (fun w hs => Tw (x := x) (cv := cY) (hv := hY) (fv := fY) (node := s.node) (Af (L' := row 93 cY x.cores :: blk b7 39 [cY, hY, fY] :: blk b4 39 [.slice none 0 0, .slice none 0 0, .slice none 0 0] :: blk b3 29 s.cells :: blk b2 39 [cv, hv, fv] :: L) hs) mm mm h) ?_; intro va
 refine J.know (p := va.oneCell' = true) (fun w hs => isSlice.one (hs.fact (.head _))) (fun honeva => ?_)
 refine ZK ?_
 refine cdy ?_ ?_
 ·intro ht115
  refine Gl ?_
  refine ZaF ?_
  refine kp [4, 5, 6, 7, 8, 9, 116, 117] ?_
  refine Zbb ?_
  refine Ga2 ?_
  have er : Al x s = (Ev, [], (J3 x s.node)) := by unfold Al A9; rw [if_neg (by omega), if_neg (by omega), if_neg (by omega), if_neg (by omega), if_neg (by omega), if_pos (by omega)]; revert ht115; unfold J3 A9; split <;> simp_all
  rw [er]
  exact Eu (.slice none 0 0, .slice none 0 0, .slice none 0 0, .slice none 0 0) Tryz.isAgg39 Tryz.sizeOf39
 ·intro ht115
  refine Gl ?_
  refine JC.shut (v := cY) (xs := x.cores) pkk ?_
  refine ZS ?_
  refine kp [4, 5, 6, 7, 8, 118, 119] ?_
  refine ZA ?_
  refine s_B (cs := [cY, hY, va]) Tryz.sizeOf39 ?_
  refine Ga2 ?_
  have er : Al x s = (⟨x.cores, x.home, El x s.node⟩, [], 0) := by unfold Al A9; rw [if_neg (by omega), if_neg (by omega), if_neg (by omega), if_neg (by omega), if_neg (by omega), if_pos (by omega)]; revert ht115; unfold J3 El A9; split <;> simp_all; split <;> rfl
  rw [er]
  exact Eu (cY, hY, va, .slice none 0 0) Tryz.isAgg39 Tryz.sizeOf39
theorem Hr {cv hv fv : Value} {x : Chip} {s : Step} {n nl : Nat} {M : List Int} (hs : St (L) R w) (hcv : sl cv x.cores ∈ R) (hhv : sl hv x.home ∈ R) (hfv : sl fv x.frames ∈ R) (hsn : s.wf) (h : Inv n nl x M) : Calls Tryz.prog 17 [.agg #[cv, hv, fv], .agg s.cells.toArray].toArray w (Bh (fun v : Value × Value × Value × Value => .tuple #[.agg #[v.1, v.2.1, v.2.2.1], v.2.2.2, vi (Al x s).2.2]) (fun v => L) (fun v => sl v.1 (Al x s).1.cores :: sl v.2.1 (Al x s).1.home :: sl v.2.2.1 (Al x s).1.frames :: sl v.2.2.2 (Al x s).2.1 :: R)) := by
 by_cases h1 : s.kind = 1
 ·exact Aaj hs hcv hhv hfv hsn h h1
 by_cases h2 : s.kind = 2
 ·exact Aai hs hcv hhv hfv hsn h h2
 by_cases h3 : s.kind = 3
 ·exact Aah hs hcv hhv hfv hsn h h3
 by_cases h4 : s.kind = 4
 ·exact Aag hs hcv hhv hfv hsn h h4
 by_cases h5 : s.kind = 5
 ·exact Aaf hs hcv hhv hfv hsn h h5
 by_cases h6 : s.kind = 6
 ·exact Aae hs hcv hhv hfv hsn h h6
 exact Aak hs hcv hhv hfv hsn h (by omega)
theorem rdAns {R : List Fact} {e : Answer} (hw : e.wf) : ∀ j, (∀ q ∈ R, q.p j) → RdV [e] [.agg e.cells.toArray] j := fun j _ => ⟨⟨_, rfl, rfl, hw⟩, trivial⟩
def F1 : Chip → List Step → List Answer
 | _, [] => []
 | x, s :: r => ⟨(Al x s).2.2, ((Al x s).2.1.length : Int)⟩ :: F1 (if (Al x s).2.2 = 0 then (Al x s).1 else x) r
def Xg (x : Chip) (s : Step) : Answer := ⟨(Al x s).2.2, ((Al x s).2.1.length : Int)⟩
theorem Io (s : Step) : ∀ (l : List Step) (x : Chip), F1 x (l ++ [s]) = F1 x l ++ [Xg (Cd x l).1 s]
 | [], x => rfl
 | a :: l, x => by
  rw [List.cons_append]; unfold F1
  rw [List.cons_append]; congr 1
  by_cases h : (Al x a).2.2 = 0
  ·rw [if_pos h, Fg h]; exact Io s l _
  ·rw [if_neg h, Fh h]; exact Io s l _
theorem Mh : ∀ (l : List Step) (x : Chip), (F1 x l).length = l.length
 | [], _ => rfl
 | a :: l, x => by unfold F1; rw [List.length_cons, Mh l, List.length_cons]
def aAt (c : Config) (l : List Step) (k : Nat) : List Answer := F1 (Bu c).1 (l.take k)
theorem R4 {c : Config} {l : List Step} {k : Nat} (h : k < l.length) : aAt c l (k + 1) = aAt c l k ++ [Xg (bAt c l k).1 (l.getD k zStep)] := by
 unfold aAt bAt; rw [J4 zStep h]; exact Io ..
theorem Agt {c : Config} {l : List Step} {k : Nat} (h : k ≤ l.length) : (aAt c l k).length = k := by
 unfold aAt; rw [Mh, List.length_take]; omega
def As (c : Config) (l : List Step) : Chip × List Answer × List Done × Int :=
 if (Bu c).2 ≠ 0 then (Ev, [], [], (Bu c).2)
 else if 300 < l.length then (Ev, [], [], 4)
 else ((Cd (Bu c).1 l).1, F1 (Bu c).1 l, (Cd (Bu c).1 l).2, 0)
theorem pS_1 {c : Config} {l : List Step} (h : (Bu c).2 ≠ 0) : As c l = (Ev, [], [], (Bu c).2) := if_pos h
theorem pS_2 {c : Config} {l : List Step} (h : (Bu c).2 = 0) (h2 : 300 < l.length) : As c l = (Ev, [], [], 4) := by unfold As; rw [if_neg (by rw [h]; decide), if_pos h2]
theorem pS_3 {c : Config} {l : List Step} (h : (Bu c).2 = 0) (h2 : l.length ≤ 300) : As c l = ((bAt c l l.length).1, aAt c l l.length, (bAt c l l.length).2, 0) := by
 unfold As bAt aAt; rw [if_neg (by rw [h]; decide), if_neg (by omega), List.take_length]
theorem Wz (c : Core) (id home : Int) (o : Op) : 0 ≤ (Ak c id home o).2.2.2 ∧ (Ak c id home o).2.2.2 ≤ 8 := by
 unfold Ak
 repeat' split
 all_goals exact ⟨by simp, by simp⟩
theorem Ul (l : Frames) (k b : Int) : 0 ≤ (Bn l k b).2 ∧ (Bn l k b).2 ≤ 8 := by
 unfold Bn
 repeat' split
 all_goals exact ⟨by simp, by simp⟩
theorem Afq (x : Chip) (s : Step) : 0 ≤ (Al x s).2.2 ∧ (Al x s).2.2 ≤ 8 := by
 have h1 := Ul x.frames s.n s.bit
 have h2 := Wz (Aq x s.node) s.node (A9 x) s.op
 unfold Al
 generalize Bn x.frames s.n s.bit = z at *
 generalize Ak (Aq x s.node) s.node (A9 x) s.op = y at *
 repeat' split
 all_goals first | exact h1 | exact h2 | exact ⟨by simp, by simp⟩
theorem Abe (x : Chip) (s : Step) : (Xg x s).wf := by
 have h1 := Afq x s; have h2 := Mc x s
 unfold Answer.wf Xg An; simp only; omega
theorem Jj {vl : Value} {c : Config} {l : List Step} (hs : St (L) R w) (hl : sl vl l ∈ R) (hcw : c.wf) : Calls Tryz.prog 7 [.agg c.cells.toArray, vl].toArray w (Bh (fun v : Value × Value × Value × Value × Value => .tuple #[.agg #[v.1, v.2.1, v.2.2.1], v.2.2.2.1, v.2.2.2.2, vi (As c l).2.2.2]) (fun v => L) (fun v => sl v.1 (As c l).1.cores :: sl v.2.1 (As c l).1.home :: sl v.2.2.1 (As c l).1.frames :: sl v.2.2.2.1 (As c l).2.1 :: sl v.2.2.2.2 (As c l).2.2.1 :: R)) := by
 have hlen := Bv hl hs
 refine Ag Tryz.func7 rfl Tryz.ntmps7 rfl hs ?_
 clear hs
 refine Gm ?_
 refine bx ?_; intro b2
 refine al_ (cs := [.slice none 0 0, .slice none 0 0, .slice none 0 0]) Tryz.zeroValue39 ?_; intro b4
 refine Gb3 ?_
 refine rn1 ?_
 refine Aj Tryz.call16 rfl (fun w hs => Aad (c := c) hs hcw) ?_; intro v19
 refine J.know (p := v19.1.oneCell' = true ∧ v19.2.oneCell' = true) (fun w hs => ⟨isSlice.one (hs.fact (.head _)), isSlice.one (hs.fact (.tail _ (.head _)))⟩) (fun h12 => ?_)
 obtain ⟨honev191, honev192⟩ := h12
 refine rn3 ?_
 refine al_ (cs := [.slice none 0 0, .slice none 0 0, .slice none 0 0]) Tryz.zeroValue39 ?_; intro b8
 refine s_B (cs := [v19.1, v19.2, .slice none 0 0]) Tryz.sizeOf39 ?_
 refine ZK ?_
 refine cdy ?_ ?_
 ·intro ht23
  refine Gl ?_
  refine ZaF ?_
  refine JC.slNil Answer ?_
  refine Zbb ?_
  refine Ga3 ?_
  rw [pS_1 ht23]
  exact Zd0
 ·intro ht23
  refine Zau ?_
  refine cdy ?_ ?_
  ·intro ht28
   refine Gl ?_
   refine ZaF ?_
   refine JC.slNil Answer ?_
   refine Zb3 ?_
   refine Ga3 ?_
   rw [pS_2 (Decidable.not_not.1 ht23) (by omega)]
   exact Zd0
  ·intro ht28
   refine ZJ ?_
   refine Gb1 ?_
   refine Ga3 ?_
   have hok : (Bu c).2 = 0 := Decidable.not_not.1 ht23
   have hl3 : l.length ≤ 300 := by omega
   have e0 : bAt c l 0 = ((Bu c).1, []) := by unfold bAt; simp [Cd]
   have e0a : aAt c l 0 = [] := by unfold aAt; simp [F1]
   refine Zax ?_
   refine JC.rowNil 45 Answer ?_
   refine Cn (γ := Nat × Value × Value × Value × Value × Value) (fun g => g.1 ≤ l.length) (fun g => row 45 g.2.2.2.2.1 (aAt c l g.1) :: row 47 g.2.2.2.2.2 (bAt c l g.1).2 :: blk b8 39 [g.2.1, g.2.2.1, g.2.2.2.1] :: blk b4 39 [.slice none 0 0, .slice none 0 0, .slice none 0 0] :: L) (fun g => sl g.2.1 (bAt c l g.1).1.cores :: sl g.2.2.1 (bAt c l g.1).1.home :: sl g.2.2.2.1 (bAt c l g.1).1.frames :: R) (fun g => [(4, bp b4 0), (8, bp b8 0), (10, g.2.2.2.2.1), (11, g.2.2.2.2.2), (30, vl), (31, vi (l.length : Int)), (32, vi (g.1 : Int))]) (fun g => l.length - g.1) (0, v19.1, v19.2, .slice none 0 0, .slice none 0 0, .slice none 0 0) (Nat.zero_le _) alT (fun w hs => by rw [e0, e0a]; exact Af hs) ?_
   rintro ⟨k, cv, hv, fv, av, dv⟩ hk
   try simp only at hk ⊢
   refine ZC ?_
   refine cdy ?_ ?_
   ·intro ht33
    refine Gl ?_
    refine JC.open0 (xs := l) (v := vl) k mm (by omega) (fun hsw => ?_)
    refine ZA ?_
    refine al_ (cs := zStep.cells) Tryz.zeroValue29 ?_; intro b13
    refine s_B (cs := (l.getD k zStep).cells) Tryz.sizeOf29 ?_
    refine ZP ?_
    obtain ⟨n, nl, M, hI⟩ := Ago l hok k
    have hle := Agt (c := c) (l := l) (k := k) (by omega)
    have h8 := Xa c l k
    have h9 := Mc (bAt c l k).1 (l.getD k zStep)
    refine Aj Tryz.call17 rfl (fun w hs => Hr (x := (bAt c l k).1) (s := (l.getD k zStep)) hs mm mm mm hsw hI) ?_; intro v39
    refine Zcl ?_;intro h12
    obtain ⟨honev391, honev392, honev393⟩ := h12
    refine rn4 ?_
    refine al_ (cs := [.slice none 0 0, .slice none 0 0, .slice none 0 0]) Tryz.zeroValue39 ?_; intro b14
    refine Zbq ?_
    refine Ga2 ?_
    refine kp [4, 5, 6, 7, 8, 10, 11, 13, 14, 15, 16, 30, 31, 32, 33, 34, 35, 36, 37, 38, 39, 40, 41, 42, 43, 44, 45, 46, 47, 48, 49] ?_
    refine ZX ?_
    refine li (α := Answer) ([Xg (bAt c l k).1 (l.getD k zStep)] : List Answer) eo_40 rfl (rdAns (Abe _ _)) ?_; intro v48
    refine ap eo_40 (hb := fun w hs => by have : maxN = 16777216 := rfl; (try simp only [List.length_cons, List.length_nil]); omega) (k := ?_); intro v49
    refine ZK ?_
    refine cdy ?_ ?_
    ·intro ht51
     refine ZW ?_
     refine Zbq ?_
     refine ZP ?_
     refine ap I6 (hb := fun w hs => by have : maxN = 16777216 := rfl; (try simp only [List.length_cons, List.length_nil]); omega) (k := ?_); intro v55
     refine ZK ?_
     have e1 := W9 (c := c) (l := l) (k := k) (by omega) ht51
     have e2 := R4 (c := c) (l := l) (k := k) (by omega)
     refine Br (k + 1, v39.1, v39.2.1, v39.2.2.1, v49, v55) (by show k + 1 ≤ l.length; omega) (by show l.length - (k + 1) < l.length - k; omega) alT (fun w hs => ?_)
     try simp only
     rw [e1, e2]; exact Af hs
    ·intro ht51
     refine ZE ?_
     have e1 := Acj (c := c) (l := l) (k := k) (by omega) ht51
     have e2 := R4 (c := c) (l := l) (k := k) (by omega)
     refine Br (k + 1, cv, hv, fv, v49, dv) (by show k + 1 ≤ l.length; omega) (by show l.length - (k + 1) < l.length - k; omega) alT (fun w hs => ?_)
     try simp only
     rw [e1, e2]; exact Af hs
   ·intro ht33
    refine Gl ?_
    have hkl : k = l.length := by omega
    subst hkl
    refine JC.shut (v := av) pkk ?_
    refine JC.shut (v := dv) pkk ?_
    refine JC.know (p := cv.oneCell' = true ∧ hv.oneCell' = true ∧ fv.oneCell' = true) (fun w hs => ⟨isSlice.one (hs.fact (mm (f := sl cv (bAt c l l.length).1.cores))), isSlice.one (hs.fact (mm (f := sl hv (bAt c l l.length).1.home))), isSlice.one (hs.fact (mm (f := sl fv (bAt c l l.length).1.frames)))⟩) (fun h12 => ?_)
    obtain ⟨hone1, hone2, hone3⟩ := h12
    refine ZI ?_
    refine ZaU ?_
    refine Ga3 ?_
    rw [pS_3 hok hl3]
    exact Hw (cv, hv, fv, av, dv) Tryz.isAgg39 Tryz.sizeOf39
theorem Le : ∀ (a b : List Step) (x : Chip), Cd x (a ++ b) = ((Cd (Cd x a).1 b).1, (Cd x a).2 ++ (Cd (Cd x a).1 b).2)
 | [], b, x => by rw [List.nil_append]; simp [Cd]
 | s :: a, b, x => by
  rw [List.cons_append]
  by_cases h : (Al x s).2.2 = 0
  ·rw [Fg h, Fg h, Le a b]; simp
  ·rw [Fh h, Fh h, Le a b]
section
variable {n nl : Nat} {x : Chip} {M : List Int}
end
def goS : Step := ⟨2, 0, 0, 0, zOp⟩
def tmS (k : Nat) : Step := ⟨6, (k : Int), 0, 0, zOp⟩
theorem Ld : ∀ (l : List Step) (x : Chip), (Cd x l).2.length ≤ l.length
 | [], x => by simp [Cd]
 | s :: l, x => by
  by_cases h : (Al x s).2.2 = 0
  ·rw [Fg h]; have := Ld l (Al x s).1; have := Mc x s
   simp only [List.length_append, List.length_cons]; omega
  ·rw [Fh h]; have := Ld l x; simp only [List.length_cons]; omega
theorem go_eq {x : Chip} (h : 0 < x.frames.length) : Al x goS = ((Be ⟨x.cores, x.home, x.frames.eraseIdx 0⟩ (Cq x.frames 0)).1, (Be ⟨x.cores, x.home, x.frames.eraseIdx 0⟩ (Cq x.frames 0)).2, 0) := by
 unfold Al goS
 rw [if_neg (by simp), if_pos rfl, if_neg (by unfold D3; simp only; omega)]
 simp only
 rw [Int.toNat_zero]
theorem Abk : ∀ (ms : List Msg) (l : Frames), l.length ≤ (way l ms).length
 | [], l => Nat.le_refl _
 | m :: r, l => by
  have h1 : l.length ≤ (C5 l (Bd m)).length := by unfold C5; split <;> simp
  have h2 := Abk r (C5 l (Bd m))
  simp only [way]; omega
theorem Vy {x : Chip} (h : 0 < x.frames.length) : (Al x goS).2.2 = 0 ∧ x.frames.length ≤ (Al x goS).1.frames.length + 1 := by
 rw [go_eq h]
 refine ⟨rfl, ?_⟩
 have he : (x.frames.eraseIdx 0).length = x.frames.length - 1 := by rw [List.length_eraseIdx, if_pos h]
 rcases Aam ⟨x.cores, x.home, x.frames.eraseIdx 0⟩ (Cq x.frames 0) with e | ⟨ms, e⟩
 ·simp only [e]; omega
 ·simp only [e]; have := Abk ms (x.frames.eraseIdx 0); omega
def Fu (x : Chip) (k : Nat) : Chip × List Done := Cd x (List.replicate k goS)
def It (y : Chip) (k : Nat) : Chip × List Done := Cd y ((List.range k).map tmS)
theorem Ov {x : Chip} {k : Nat} (h : (Al (Fu x k).1 goS).2.2 = 0) : Fu x (k + 1) = ((Al (Fu x k).1 goS).1, (Fu x k).2 ++ (Al (Fu x k).1 goS).2.1) := by
 unfold Fu at h ⊢; rw [List.replicate_succ']; exact Gg _ _ _ h
theorem Vz (x : Chip) : ∀ k, k ≤ x.frames.length → x.frames.length ≤ (Fu x k).1.frames.length + k
 | 0, _ => by simp [Fu, Cd]
 | k + 1, h => by
  have ih := Vz x k (by omega)
  have h1 := Vy (x := (Fu x k).1) (by omega)
  rw [Ov h1.1]; simp only; omega
theorem Aej {x : Chip} {k : Nat} (h : k < x.frames.length) : (Al (Fu x k).1 goS).2.2 = 0 := by
 have := Vz x k (by omega)
 exact (Vy (by omega)).1
theorem Rm (x : Chip) (k : Nat) : (Fu x k).2.length ≤ k := by
 unfold Fu; exact Nat.le_trans (Ld _ _) (by simp)
theorem tm_ok {x : Chip} {k : Nat} (h : k ≤ x.cores.length) : (Al x (tmS k)).2.2 = 0 ∧ (Al x (tmS k)).2.1 = [] ∧ (Al x (tmS k)).1.cores = x.cores ∧ (Al x (tmS k)).1.home = x.home := by
 unfold Al tmS A9
 rw [if_neg (by simp), if_neg (by simp), if_neg (by simp), if_neg (by simp), if_neg (by simp), if_pos rfl, if_neg (by simp only; omega)]
 split <;> exact ⟨rfl, rfl, rfl, rfl⟩
theorem Kn (y : Chip) : ∀ k, k ≤ y.cores.length + 1 → (It y k).1.cores = y.cores ∧ (It y k).1.home = y.home ∧ (It y k).2 = []
 | 0, _ => by simp [It, Cd]
 | k + 1, h => by
  obtain ⟨a, b, c⟩ := Kn y k (by omega)
  have h1 := tm_ok (x := (It y k).1) (k := k) (by rw [a]; omega)
  have e : It y (k + 1) = ((Al (It y k).1 (tmS k)).1, (It y k).2 ++ (Al (It y k).1 (tmS k)).2.1) := by
   unfold It at h1 ⊢; rw [List.range_succ, List.map_append]; exact Gg _ _ _ h1.1
  rw [e]; simp only
  exact ⟨by rw [h1.2.2.1, a], by rw [h1.2.2.2, b], by rw [c, h1.2.1]; rfl⟩
theorem Uh {y : Chip} {k : Nat} (h : k ≤ y.cores.length) : (Al (It y k).1 (tmS k)).2.2 = 0 ∧ It y (k + 1) = ((Al (It y k).1 (tmS k)).1, []) := by
 obtain ⟨a, b, c⟩ := Kn y k (by omega)
 have h1 := tm_ok (x := (It y k).1) (k := k) (by rw [a]; omega)
 refine ⟨h1.1, ?_⟩
 have e : It y (k + 1) = ((Al (It y k).1 (tmS k)).1, (It y k).2 ++ (Al (It y k).1 (tmS k)).2.1) := by
  unfold It at h1 ⊢; rw [List.range_succ, List.map_append]; exact Gg _ _ _ h1.1
 rw [e, c, h1.2.1]; rfl
def Bc (x : Chip) : Chip × List Done := ((It (Fu x x.frames.length).1 ((Fu x x.frames.length).1.cores.length + 1)).1, (Fu x x.frames.length).2)
theorem Pn (x : Chip) : Bc x = Cd x (List.replicate x.frames.length goS ++ (List.range ((Fu x x.frames.length).1.cores.length + 1)).map tmS) := by
 rw [Le]
 have h := (Kn (Fu x x.frames.length).1 ((Fu x x.frames.length).1.cores.length + 1) (Nat.le_refl _)).2.2
 show _ = ((It (Fu x x.frames.length).1 _).1, (Fu x x.frames.length).2 ++ (It (Fu x x.frames.length).1 _).2)
 rw [h, List.append_nil]; rfl
section
variable {n nl : Nat} {x : Chip} {M : List Int}
theorem Rh (h : Inv n nl x M) (k : Nat) : ∃ M', Inv n nl (Fu x k).1 M' ∧ D9 M (Fu x k).2 M' := Gf _ h
theorem Yq (h : Inv n nl x M) (k : Nat) : ∃ M', Inv n nl (It x k).1 M' := by
 obtain ⟨M', h', _⟩ := Gf ((List.range k).map tmS) h; exact ⟨M', h'⟩
theorem Vl (h : Inv n nl x M) : ∃ M', Inv n nl (Bc x).1 M' ∧ D9 M (Bc x).2 M' := by
 rw [Pn]; exact Gf _ h
theorem N6 (h : Inv n nl x M) : (Bc x).2.length ≤ 40 := Nat.le_trans (Rm x _) h.fr
theorem calmR_iff : Il x = true ↔ (∀ i, i < x.home.length → (ent x i).phase = 0) ∧ ∀ p, p < x.cores.length → (cor x p).wait.kind = 0 := by
 unfold Il
 rw [Bool.and_eq_true, allN_iff, allN_iff]
 unfold K3 J1
 simp only [beq_iff_eq]
def frW (b : List UInt8) : Nat := if 3 ≤ (b.getD 0 0).toNat ∧ (b.getD 0 0).toNat ≤ 7 then 2 else 1
def H7 : Frames → Nat
 | [] => 0
 | b :: l => frW b + H7 l
theorem Y3 (b : List UInt8) : 1 ≤ frW b ∧ frW b ≤ 2 := by unfold frW; split <;> omega
theorem Rt : ∀ (a b : Frames), H7 (a ++ b) = H7 a + H7 b
 | [], b => by simp [H7]
 | c :: a, b => by rw [List.cons_append]; simp only [H7]; rw [Rt a b]; omega
theorem Qc : ∀ (a : Frames), H7 a ≤ 2 * a.length
 | [] => by simp [H7]
 | c :: a => by have := Qc a; have := Y3 c; simp only [H7, List.length_cons]; omega
theorem Aek (m : Msg) (h : 8 ≤ m.kind ∧ m.kind ≤ 11) : frW (Bd m) = 1 := by
 have e : (Bd m).getD 0 0 = u8 m.kind := rfl
 unfold frW; rw [e]
 have : m.kind = 8 ∨ m.kind = 9 ∨ m.kind = 10 ∨ m.kind = 11 := by omega
 rcases this with h | h | h | h <;> rw [h] <;> decide
theorem V0 {c : Config} {b : List UInt8} {m : Msg} (h : Ae c b = (m, 0)) (h3 : 3 ≤ m.kind ∧ m.kind ≤ 7) : frW b = 2 := by
 have e : m.kind = ((b.getD 0 0).toNat : Int) := by
  rw [(Hk h).2.2.2.2.2]; rfl
 unfold frW; rw [if_pos (by omega)]
theorem Vq {e : Entry} {id : Int} {m : Msg} (h0 : e.phase = 0) (hg : m.kind = 1 ∨ m.kind = 2 → m.serial ≤ Fb e m.src) : (Ad e id m).1.phase = 0 ∧ ((Ad e id m).2 = [] ∨ (m.kind = 3 ∧ ∃ m', (Ad e id m).2 = [m'] ∧ m'.kind = 11)) := by
 unfold Ad
 split
 ·rename_i hk
  rw [if_pos (.inr (.inl (hg hk)))]; exact ⟨h0, .inl rfl⟩
 split
 ·rename_i hk
  rw [if_neg (fun h => h h0)]
  refine ⟨?_, .inr ⟨hk, _, rfl, rfl⟩⟩
  simp only; unfold H5
  split
  ·split <;> exact h0
  ·exact h0
 split
 ·exact ZdO
 split
 ·exact ZdO
 split
 ·exact ZdO
 ·exact ⟨h0, .inl rfl⟩
theorem Wi {c : Core} {id home : Int} {m : Msg} (hw : ¬ (m.line < 0 ∨ (c.lines.length : Int) ≤ m.line) → (Bq c m.line).want = 0) (hf : m.kind = 5 ∨ m.kind = 6 → m.turn ≤ (Bq c m.line).seen) : (Ac c id home m).1.wait = c.wait ∧ (Ac c id home m).2.2 = [] ∧ ((Ac c id home m).2.1 = [] ∨ ((3 ≤ m.kind ∧ m.kind ≤ 7) ∧ ∃ m', (Ac c id home m).2.1 = [m'] ∧ 8 ≤ m'.kind ∧ m'.kind ≤ 11)) := by
 unfold Ac
 split
 ·exact ⟨rfl, rfl, .inl rfl⟩
 rename_i h0
 have hw := hw h0
 split
 ·rename_i hk; exact ⟨rfl, rfl, .inr ⟨by omega, _, rfl, by unfold Bm; simp only; omega⟩⟩
 split
 ·rename_i hk
  rw [if_neg (show ¬ Ez (Bq c m.line) m.turn from fun h => by have := h.2.1; have := hf hk; omega)]
  split
  ·exact ⟨by trivial, by trivial, .inr ⟨by omega, _, rfl, by unfold Bm; simp only; omega⟩⟩
  ·exact ⟨by trivial, by trivial, .inl rfl⟩
 split
 ·split
  ·exact ⟨rfl, rfl, .inl rfl⟩
  rw [if_neg (show ¬ Kc (Bq c m.line) m from fun h => by have := h.2; omega)]
  exact ⟨rfl, rfl, .inr ⟨by omega, _, rfl, by unfold Bm; simp only; omega⟩⟩
 split
 ·rename_i h; exact absurd h.2.1 (by omega)
 ·exact ⟨rfl, rfl, .inl rfl⟩
theorem Wa (l : Frames) (m : Msg) (h : 8 ≤ m.kind ∧ m.kind ≤ 11) : H7 (C5 l (Bd m)) ≤ H7 l + 1 := by
 unfold C5; split
 ·rw [Rt]; simp only [H7]; rw [Aek m h]; omega
 ·omega
theorem M8 {l : Frames} {ms : List Msg} {b : List UInt8} (h : ms = [] ∨ (frW b = 2 ∧ ∃ m', ms = [m'] ∧ 8 ≤ m'.kind ∧ m'.kind ≤ 11)) : H7 (way l ms) + 1 ≤ frW b + H7 l := by
 rcases h with rfl | ⟨h1, m', rfl, h2⟩
 ·have := Y3 b; simp only [way]; omega
 ·simp only [way]; have := Wa l m' h2; omega
theorem Qh (h : Inv n nl x M) (hc : Il x = true) (hf : 0 < x.frames.length) : Il (Al x goS).1 = true ∧ (Al x goS).2.1 = [] ∧ H7 (Al x goS).1.frames + 1 ≤ H7 x.frames := by
 have hc0 := calmR_iff.1 hc
 obtain ⟨b, fs, hfr⟩ : ∃ b fs, x.frames = b :: fs := by
  cases e : x.frames with
  | nil => rw [e] at hf; exact absurd hf (by simp)
  | cons b fs => exact ⟨b, fs, rfl⟩
 rw [go_eq hf]
 have hb : Cq x.frames 0 = b := by rw [hfr]; rfl
 have he : x.frames.eraseIdx 0 = fs := by rw [hfr]; rfl
 have hd : H7 x.frames = frW b + H7 fs := by rw [hfr]; rfl
 rw [hb, he, hd]
 have hcf : Ar ⟨x.cores, x.home, fs⟩ = Fv n nl := by
  show (⟨((x.cores.length : Nat) : Int), ((x.home.length : Nat) : Int)⟩ : Config) = Fv n nl
  rw [h.nc, h.nh]; rfl
 have hmi := (h.mi b (by rw [hfr]; exact List.mem_cons_self ..)).2
 have hwant : ∀ p i, p < n → i < nl → (lin x i p).want = 0 := fun p i hp hi => ((h.cw p hp).free (hc0.2 p (by rw [h.nc]; exact hp))).2 i hi
 unfold Be
 rw [hcf]
 split
 ·exact ⟨hc, rfl, by have := Y3 b; simp only; omega⟩
 rename_i hp0
 have hpar : Ae (Fv n nl) b = ((Ae (Fv n nl) b).1, 0) := by rw [← Decidable.not_not.1 hp0]
 have hMX := hmi _ hpar
 have hw := Hg (Hk hpar).2.2.2.2.1
 have hfw := fun h3 => V0 hpar h3
 generalize (Ae (Fv n nl) b).1 = m at *
 have hnx : A9 ⟨x.cores, x.home, fs⟩ = (n : Int) := by unfold A9; simp only; rw [h.nc]
 rw [hnx]
 have hcn : (Fv n nl).cores = (n : Int) := rfl
 have hln : (Fv n nl).lines = (nl : Int) := rfl
 rw [hcn, hln] at hw
 have hli : m.line.toNat < nl := by omega
 split
 ·rename_i hdst
  have hpe : Oc n m = m.src.toNat := by unfold Oc; rw [if_pos hdst]
  unfold MX at hMX; rw [hpe] at hMX
  have hsrc : m.src.toNat < n := by omega
  have hw0 := hwant m.src.toNat m.line.toNat hsrc hli
  have hg : m.kind = 1 ∨ m.kind = 2 → m.serial ≤ Fb (Ah x.home m.line) m.src := fun hk => by
   have h1 := (hMX.get hk).2
   refine Int.not_lt.1 fun hlt => ?_
   have h2 := (h1 hlt).2
   rw [hw0] at h2; omega
  have h00 : (Ah x.home m.line).phase = 0 := hc0.1 m.line.toNat (by rw [h.nh]; exact hli)
  have hr := Vq (e := Ah x.home m.line) (id := (n : Int)) (m := m) h00 hg
  simp only
  unfold Am
  split
  ·exact ⟨calmR_iff.2 hc0, trivial, M8 (.inl rfl)⟩
  ·refine ⟨calmR_iff.2 ⟨fun i hi => ?_, hc0.2⟩, trivial, M8 ?_⟩
   ·simp only [List.length_set] at hi
    show ((x.home.set m.line.toNat _).getD i A3).phase = 0
    rw [Cx _ _ _ _ _ (by rw [h.nh]; exact hli)]
    split
    ·exact hr.1
    ·exact hc0.1 i hi
   ·simp only
    rcases hr.2 with e | ⟨h3, m', e1, e2⟩
    ·exact .inl e
    ·exact .inr ⟨hfw (by omega), m', e1, by omega⟩
 ·rename_i hdst
  have hpe : Oc n m = m.dst.toNat := by unfold Oc; rw [if_neg hdst]
  unfold MX at hMX; rw [hpe] at hMX
  have hdn : m.dst.toNat < n := by omega
  have hw0 := hwant m.dst.toNat m.line.toNat hdn hli
  have h00 : (ent x m.line.toNat).phase = 0 := hc0.1 m.line.toNat (by rw [h.nh]; exact hli)
  have hr := Wi (c := Aq ⟨x.cores, x.home, fs⟩ m.dst) (id := m.dst) (home := (n : Int)) (m := m) (fun _ => hw0) (fun hk => by
   have h1 := (hMX.fet hk).2
   refine Int.not_lt.1 fun hlt => ?_
   have h2 := (h1 hlt).2.1
   have h3 : (ab (ent x m.line.toNat)).phase = 0 := h00
   omega)
  simp only
  refine ⟨calmR_iff.2 ⟨hc0.1, fun p hp => ?_⟩, hr.2.1, ?_⟩
  ·simp only [Ch, List.length_set] at hp
   show ((x.cores.set m.dst.toNat _).getD p Fw).wait.kind = 0
   rw [Cx _ _ _ _ _ (by rw [h.nc]; exact hdn)]
   split
   ·rw [hr.1]; exact hc0.2 m.dst.toNat (by rw [h.nc]; exact hdn)
   ·exact hc0.2 p hp
  ·show H7 (way fs _) + 1 ≤ _
   have := M8 (l := fs) (b := b) (ms := (Ac (Aq ⟨x.cores, x.home, fs⟩ m.dst) m.dst (n : Int) m).2.1) (by
    rcases hr.2.2 with e | ⟨h3, m', e1, e2⟩
    ·exact .inl e
    ·exact .inr ⟨hfw h3, m', e1, e2⟩)
   omega
def drN : Nat → Chip → Chip
 | 0, x => x
 | k + 1, x => if x.frames.length = 0 then x else drN k (Al x goS).1
def Tj (x : Chip) : Chip := drN (H7 x.frames) x
theorem Rs {l : Frames} (h : 0 < l.length) : 0 < H7 l := by
 cases l with
 | nil => exact absurd h (by simp)
 | cons b l => have := Y3 b; simp only [H7]; omega
theorem M9 (x : Chip) (h : x.frames.length = 0) : ∀ j, drN j x = x
 | 0 => rfl
 | j + 1 => by simp only [drN]; rw [if_pos h]
theorem O1 {l : Frames} (h : H7 l = 0) : l.length = 0 := by
 refine Classical.byContradiction fun c => ?_
 have := Rs (l := l) (by omega); omega
theorem Ru : ∀ (k j : Nat) {x : Chip} {M : List Int}, Inv n nl x M → Il x = true → H7 x.frames ≤ k → H7 x.frames ≤ j → drN k x = drN j x
 | 0, j, x, M, _, _, hk, _ => (M9 x (O1 (by omega)) j).symm
 | k + 1, 0, x, M, _, _, _, hj => M9 x (O1 (by omega)) (k + 1)
 | k + 1, j + 1, x, M, h, hc, hk, hj => by
  simp only [drN]
  by_cases hz : x.frames.length = 0
  ·rw [if_pos hz, if_pos hz]
  ·rw [if_neg hz, if_neg hz]
   obtain ⟨c1, c2, c3⟩ := Qh h hc (by omega)
   obtain ⟨M', h', _⟩ := On h (Vy (x := x) (by omega)).1
   exact Ru k j h' c1 (by omega) (by omega)
theorem V9 {x : Chip} (h : x.frames.length = 0) : Tj x = x := M9 x h _
theorem Z5 (h : Inv n nl x M) (hc : Il x = true) (hf : 0 < x.frames.length) : Tj x = Tj (Al x goS).1 := by
 obtain ⟨c1, c2, c3⟩ := Qh h hc hf
 obtain ⟨M', h', _⟩ := On h (Vy hf).1
 obtain ⟨d, hd⟩ : ∃ d, H7 x.frames = d + 1 := ⟨H7 x.frames - 1, by have := Rs hf; omega⟩
 unfold Tj
 rw [hd]; simp only [drN]; rw [if_neg (by omega)]
 exact Ru _ _ h' c1 (by omega) (Nat.le_refl _)
end
def C8 : Nat → Chip → Chip × List Done × Nat
 | 0, x => (x, [], 0)
 | k + 1, x => if Il x = true then (x, [], 0) else ((C8 k (Bc x).1).1, (Bc x).2 ++ (C8 k (Bc x).1).2.1, (C8 k (Bc x).1).2.2 + 1)
def K9 (k n0 : Nat) (x : Chip) (d : List Done) : Chip × List Done × Nat :=
 if (C8 k x).2.2 = k then ((C8 k x).1, d ++ (C8 k x).2.1, n0 + k) else (Tj (C8 k x).1, d ++ (C8 k x).2.1, n0 + (C8 k x).2.2)
theorem fin_0 {n0 : Nat} {x : Chip} {d : List Done} : K9 0 n0 x d = (x, d, n0) := by unfold K9; rw [if_pos (show (C8 0 x).2.2 = 0 from rfl)]; simp [C8]
theorem Pj {k : Nat} {x : Chip} (hc : Il x = true) : C8 (k + 1) x = (x, [], 0) := by simp only [C8]; rw [if_pos hc]
theorem M5 {k n0 : Nat} {x : Chip} {d : List Done} (hc : Il x = true) : K9 (k + 1) n0 x d = (Tj x, d, n0) := by
 unfold K9; rw [Pj hc, if_neg (by simp)]; simp
theorem V2 {k n0 : Nat} {x : Chip} {d : List Done} (hc : ¬ Il x = true) : K9 (k + 1) n0 x d = K9 k (n0 + 1) (Bc x).1 (d ++ (Bc x).2) := by
 have e : C8 (k + 1) x = ((C8 k (Bc x).1).1, (Bc x).2 ++ (C8 k (Bc x).1).2.1, (C8 k (Bc x).1).2.2 + 1) := by simp only [C8]; rw [if_neg hc]
 unfold K9; rw [e]; simp only
 by_cases h : (C8 k (Bc x).1).2.2 = k
 ·rw [if_pos (by omega), if_pos h]; simp; omega
 ·rw [if_neg (by omega), if_neg h]; simp; omega
def Kf (x : Chip) : Nat := 12 * x.cores.length + 12
def G2 (x : Chip) : Chip × List Done × Nat := K9 (Kf x) 0 x []
theorem N0 {a b : Nat} {q : Bool} (h : a ≤ b) : a = b ∨ (a < b ∧ q = true) ∨ (a < b ∧ q = false) := by
 rcases Nat.lt_or_ge a b with h1 | h1
 ·cases q
  ·exact .inr (.inr ⟨h1, rfl⟩)
  ·exact .inr (.inl ⟨h1, rfl⟩)
 ·exact .inl (by omega)
def S3 (p : Nat → Bool) : Nat → Int
 | 0 => -1
 | k + 1 => if 0 ≤ S3 p k then S3 p k else if p k = true then (k : Int) else -1
theorem Ri {p : Nat → Bool} : ∀ {k : Nat}, (∀ i, i < k → p i = false) → S3 p k = -1
 | 0, _ => rfl
 | k + 1, h => by
  simp only [S3]
  rw [Ri (k := k) fun i hi => h i (by omega), if_neg (by decide), if_neg (by rw [h k (by omega)]; decide)]
theorem Vp {p : Nat → Bool} {k : Nat} (h : ∀ i, i < k → p i = false) (hk : p k = true) : ∀ {n : Nat}, k < n → S3 p n = (k : Int)
 | 0, hn => absurd hn (by omega)
 | n + 1, hn => by
  simp only [S3]
  by_cases e : k = n
  ·rw [← e, Ri h, if_neg (by decide), if_pos hk]
  ·rw [Vp h hk (n := n) (by omega), if_pos (by omega)]
theorem Vo {p : Nat → Bool} : ∀ {n : Nat}, Lv (fun k => !p k) n = false → 0 ≤ S3 p n
 | 0, e => by cases e
 | n + 1, e => by
  simp only [Lv, Bool.and_eq_false_iff] at e
  simp only [S3]
  by_cases h : 0 ≤ S3 p n
  ·rw [if_pos h]; exact h
  ·rw [if_neg h]
   rcases e with e | e
   ·exact absurd (Vo e) h
   ·rw [if_pos (by simpa using e)]; omega
theorem Aee {p : Nat → Bool} {n : Nat} : decide (0 ≤ S3 p n) = !Lv (fun k => !p k) n := by
 cases e : Lv (fun k => !p k) n with
 | true => rw [Ri fun i hi => by have := allN_iff.1 e i hi; simpa using this]; rfl
 | false => rw [decide_eq_true (Vo e)]; rfl
theorem Aef {cv : Value} {x : Chip} {ff : Nat} {caps : List Value} {p : Nat → Bool} (hs : St (L) R w) (hv : sl cv x.cores ∈ R) (hf : ∀ args w, (callFunc ff args).run Tryz.prog w = .ok (.enter ff args) w) (hc : ∀ k, k < x.cores.length → (cor x k).wait.wf → ∀ uk, uk.oneCell' = true → ∀ R' w, sl uk (cor x k).lines ∈ R' → St L R' w → Calls Tryz.prog ff ([Value.agg (Core.cells uk (cor x k)).toArray] ++ caps).toArray w (Bh (fun _ : Unit => .bool (p k)) (fun _ => L) (fun _ => R'))) : Calls Tryz.prog 67 [cv, .func (.func ff) #[] caps.toArray].toArray w (Bh (fun _ : Unit => vi (S3 p x.cores.length)) (fun _ => L) (fun _ => R)) := by
 have hlen := Bv hv hs
 refine Ag Tryz.func67 rfl Tryz.ntmps67 rfl hs ?_
 clear hs
 refine ZJ ?_
 refine Ga3 ?_
 refine Cn (γ := Nat) (fun k => k ≤ x.cores.length ∧ ∀ i, i < k → p i = false) (fun _ => L) (fun _ => R) (fun k => [(0, cv), (1, .func (.func ff) #[] caps.toArray), (7, vi (x.cores.length : Int)), (8, vi (k : Int))]) (fun k => x.cores.length - k) 0 ⟨Nat.zero_le _, fun i hi => absurd hi (by omega)⟩ alT (fun w hs => hs) ?_
 rintro k ⟨hk, hp0⟩
 refine ZC ?_
 refine cdy ?_ ?_
 ·intro ht9
  refine ZE ?_
  refine Q5 k (v := cv) mm (by omega) (fun hwk uk honek => ?_)
  refine ZX ?_
  refine Bt (γ := Unit) (val := fun _ => .bool (p k)) (caps := caps) (vs := [.agg (Core.cells uk (cor x k)).toArray]) rfl hf rfl (fun w hs => hc k (by omega) hwk uk honek _ w mm hs) ?_; intro _
  refine Gl ?_
  first | (refine cdx (p := ?p2) (hd := ?d2) ?e2 ?_ ?_; case e2 => exact rfl) | (refine Cb (b := ?b2) ?e2 ?_ ?_; case e2 => exact rfl)
  ·intro ht16
   refine ZE ?_
   have er : S3 p x.cores.length = (k : Int) := Vp hp0 ht16 (by omega)
   exact Zdz
  ·intro ht16
   refine ZE ?_
   refine Br (k + 1) ⟨by omega, fun i hi => ?_⟩ (by omega) alT (fun w hs => Af hs)
   by_cases e : i = k
   ·rw [e]; exact ht16
   ·exact hp0 i (by omega)
 ·intro ht9
  refine ZC ?_
  have er : S3 p x.cores.length = -1 := Ri fun i hi => hp0 i (by omega)
  exact Zdz
theorem Afu {cv : Value} {x : Chip} {ff : Nat} {caps : List Value} {p : Nat → Bool} (hs : St (L) R w) (hv : sl cv x.cores ∈ R) (hf : ∀ args w, (callFunc ff args).run Tryz.prog w = .ok (.enter ff args) w) (hc : ∀ k, k < x.cores.length → (cor x k).wait.wf → ∀ uk, uk.oneCell' = true → ∀ R' w, sl uk (cor x k).lines ∈ R' → St L R' w → Calls Tryz.prog ff ([Value.agg (Core.cells uk (cor x k)).toArray] ++ caps).toArray w (Bh (fun _ : Unit => .bool (p k)) (fun _ => L) (fun _ => R'))) : Calls Tryz.prog 44 [cv, .func (.func ff) #[] caps.toArray].toArray w (Bh (fun _ : Unit => .bool (!Lv (fun k => !p k) x.cores.length)) (fun _ => L) (fun _ => R)) := by
 refine Ag Tryz.func44 rfl Tryz.ntmps44 rfl hs ?_
 clear hs
 refine ZJ ?_
 refine rn2 ?_
 refine Aj Tryz.call67 rfl (fun w hs => Aef (ff := ff) (caps := caps) (p := p) hs hv hf hc) ?_; intro _
 refine Ga2 ?_
 rw [← Aee]
 exact Bz ()
theorem Aac {up : Value} {x : Chip} {p : Nat} (hs : St (L) R w) (honeu : up.oneCell' = true) : Calls Tryz.prog 45 [.agg (Core.cells up (cor x p)).toArray].toArray w (Bh (fun _ : Unit => .bool (!J1 x p)) (fun _ => L) (fun _ => R)) := by
 refine Ag Tryz.func45 rfl Tryz.ntmps45 rfl hs ?_
 clear hs
 refine Gm ?_
 refine bx ?_; intro b1
 refine Gb1 ?_
 refine Ga5 ?_
 have er : (!J1 x p) = decide ((cor x p).wait.kind ≠ 0) := by unfold J1; by_cases h : (cor x p).wait.kind = 0 <;> simp [h]
 rw [er]
 exact Bz ()
theorem Nj {cv hv fv : Value} {x : Chip} (hs : St (L) R w) (hcv : sl cv x.cores ∈ R) (hhv : sl hv x.home ∈ R) (hx : CX x) (hfv : sl fv x.frames ∈ R) (honef : fv.oneCell' = true) : Calls Tryz.prog 19 [.agg #[cv, hv, fv]].toArray w (Bh (fun _ : Unit => .bool (Fa x)) (fun _ => L) (fun _ => R)) := by
 have honec : cv.oneCell' = true := isSlice.one (hs.fact hcv)
 have honeh : hv.oneCell' = true := isSlice.one (hs.fact hhv)
 have hn4 := hx.n4
 have hh4 := hx.h4
 refine Ag Tryz.func19 rfl Tryz.ntmps19 rfl hs ?_
 clear hs
 refine Gm ?_
 refine bx ?_; intro b1
 refine Gb1 ?_
 refine Ga4 ?_
 refine Cn (γ := Nat) (fun i => i ≤ x.home.length ∧ Lv (K3 x) i = true) (fun _ => blk b1 39 [cv, hv, fv] :: L) (fun _ => R) (fun i => [(1, bp b1 0), (6, hv), (7, vi (x.home.length : Int)), (8, vi (i : Int))]) (fun i => x.home.length - i) 0 ⟨Nat.zero_le _, rfl⟩ alT (fun w hs => Af hs) ?_
 rintro i ⟨hi, hal⟩
 refine ZC ?_
 refine cdy ?_ ?_
 ·intro ht9
  refine Gl ?_
  refine X7 i (v := hv) mm (by omega) (fun hwe ue honeu => ?_)
  refine ZA ?_
  refine al_ (cs := [vi 0, vi 0, vi 0, vi 0, vi 0, vi 0, .bool false, vi 0, vi 0, .slice none 0 0]) Tryz.zeroValue109 ?_; intro b4
  refine s_B (cs := Entry.cells ue (ent x i)) Tryz.sizeOf109 ?_
  refine Zau ?_
  refine cdy ?_ ?_
  ·intro ht14
   refine ZC ?_
   have er : Fa x = false := by unfold Fa; rw [Agr (show i < x.home.length by omega) (by unfold K3; simpa using ht14)]; rfl
   exact Zdz
  ·intro ht14
   refine ZE ?_
   refine Br (i + 1) ⟨by omega, Xi hal (by unfold K3; simpa using ht14)⟩ (by omega) alT (fun w hs => Af hs)
 ·intro ht9
  refine Gl ?_
  rcases (show ((x.frames.length : Int) ≠ 0) ∨ ((x.frames.length : Int) = 0) from by omega) with hc | hc
  ·refine ZI ?_
   refine Ay ?_
   refine Ga7 ?_
   have er : Fa x = false := by unfold Fa; rw [decide_eq_false (show ¬ x.frames.length = 0 by omega)]; simp
   exact Zdz
  ·refine ZI ?_
   refine Df ?_
   refine Zad ?_
   refine Aj Tryz.call44 rfl (fun w hs => Afu (x := x) (ff := 45) (caps := []) (p := fun p => !J1 x p) hs hcv Tryz.call45 (fun k hk hwk uk honek R1 w1 hu1 hs1 => Aac hs1 honek)) ?_; intro _
   refine Ga3 ?_
   have er : Fa x = Lv (J1 x) x.cores.length := by unfold Fa; rw [decide_eq_true (show x.frames.length = 0 by omega), show x.home.length = i by omega, hal]; simp
   rw [er]
   refine Bz () (hv := ?_)
   simp
theorem Po {c : Int} (hs : St (L) R w) (hc : 0 ≤ c ∧ c ≤ 1000) : Calls Tryz.prog 18 [vi c].toArray w (Bh (fun _ : Unit => vi (12 * c + 12)) (fun _ => L) (fun _ => R)) := by
 refine Ag Tryz.func18 rfl Tryz.ntmps18 rfl hs ?_
 clear hs
 refine ZJ ?_
 refine Ga4 ?_
 exact Bz ()
theorem Adc {cv hv fv : Value} {x : Chip} {n nl : Nat} {M : List Int} {b0 : Nat} (hs : St (blk b0 39 [cv, hv, fv] :: L) R w) (hcv : sl cv x.cores ∈ R) (hhv : sl hv x.home ∈ R) (hfv : sl fv x.frames ∈ R) (h : Inv n nl x M) : Calls Tryz.prog 20 [bp b0 0].toArray w (Bh (fun _ : Unit => .bool (Il x)) (fun _ => blk b0 39 [cv, hv, fv] :: L) (fun _ => R)) := by
 have hn := h.nc
 have hn4 := h.n1
 have hf40 := h.fr
 refine ZaO ?_;intro honec honeh honef
 have hcx : CX (⟨x.cores, x.home, []⟩ : Chip) := (h.frames (f := []) (by simp) (fun b hb => absurd hb (by simp))).cx
 refine Ag Tryz.func20 rfl Tryz.ntmps20 rfl hs ?_
 clear hs
 refine ZJ ?_
 refine rn3 ?_
 refine al_ (cs := [.slice none 0 0, .slice none 0 0, .slice none 0 0]) Tryz.zeroValue39 ?_; intro b3
 refine ZaU ?_
 refine Gl ?_
 refine JC.slNil (List UInt8) ?_
 refine ZB ?_
 refine ZH ?_
 refine rn1 ?_
 refine Aj Tryz.call19 rfl (fun w hs => Nj (x := ⟨x.cores, x.home, []⟩) hs mm mm hcx mm rfl) ?_; intro _
 refine Ga1 ?_
 have er : Il x = Fa ⟨x.cores, x.home, []⟩ := by rw [Qi]; simp only [List.length_nil, decide_true, Bool.true_and]; rfl
 rw [er]
 exact Bz ()
theorem rndOne {cv hv fv : Value} {x : Chip} {n nl : Nat} {M : List Int} (hs : St (L) R w) (hcv : sl cv x.cores ∈ R) (hhv : sl hv x.home ∈ R) (hfv : sl fv x.frames ∈ R) (h : Inv n nl x M) : Calls Tryz.prog 21 [.agg #[cv, hv, fv]].toArray w (Bh (fun v : Value × Value × Value × Value => .tuple #[.agg #[v.1, v.2.1, v.2.2.1], v.2.2.2]) (fun v => L) (fun v => sl v.1 (Bc x).1.cores :: sl v.2.1 (Bc x).1.home :: sl v.2.2.1 (Bc x).1.frames :: sl v.2.2.2 (Bc x).2 :: R)) := by
 have hn := h.nc
 have hn4 := h.n1
 have hf40 := h.fr
 refine ZaO ?_;intro honec honeh honef
 refine Ag Tryz.func21 rfl Tryz.ntmps21 rfl hs ?_
 clear hs
 refine Zbk ?_;intro b1 b2
 refine Gb1 ?_
 refine Gb1 ?_
 refine Ga4 ?_
 have e0 : Fu x 0 = (x, []) := by unfold Fu; simp [Cd]
 refine Zax ?_
 refine Cn (γ := Nat × Value × Value × Value × Value) (fun g => g.1 ≤ x.frames.length) (fun g => row 47 g.2.2.2.2 (Fu x g.1).2 :: blk b1 39 [g.2.1, g.2.2.1, g.2.2.2.1] :: blk b2 39 [.slice none 0 0, .slice none 0 0, .slice none 0 0] :: L) (fun g => sl g.2.1 (Fu x g.1).1.cores :: sl g.2.2.1 (Fu x g.1).1.home :: sl g.2.2.2.1 (Fu x g.1).1.frames :: R) (fun g => [(1, bp b1 0), (2, bp b2 0), (4, g.2.2.2.2), (14, vi (x.frames.length : Int)), (15, vi (g.1 : Int))]) (fun g => x.frames.length - g.1) (0, cv, hv, fv, .slice none 0 0) (Nat.zero_le _) alT (fun w hs => by rw [e0]; exact Af hs) ?_
 rintro ⟨k, cv, hv, fv, dv⟩ hk
 try simp only at hk ⊢
 have hdl := Rm x k
 refine ZC ?_
 refine cdy ?_ ?_
 ·intro ht16
  refine ZP ?_
  obtain ⟨Mk, hIk, _⟩ := Rh h k
  have gok := Aej (x := x) (k := k) (by omega)
  have h9 := Mc (Fu x k).1 goS
  refine Aj Tryz.call17 rfl (fun w hs => Hr (x := (Fu x k).1) (s := goS) hs mm mm mm (by unfold Step.wf An goS zOp; decide) hIk) ?_; intro v20
  refine J.know (p := v20.1.oneCell' = true ∧ v20.2.1.oneCell' = true ∧ v20.2.2.1.oneCell' = true) (fun w hs => ⟨isSlice.one (hs.fact (.head _)), isSlice.one (hs.fact (.tail _ (.head _))), isSlice.one (hs.fact (.tail _ (.tail _ (.head _))))⟩) (fun h12 => ?_)
  obtain ⟨honev201, honev202, honev203⟩ := h12
  refine rn4 ?_
  refine ZbP ?_;intro b5
  refine s_B (cs := [v20.1, v20.2.1, v20.2.2.1]) Tryz.sizeOf39 ?_
  refine Gb2 ?_
  refine rn1 ?_
  refine ob (Ai rfl rfl (Cf gok)) ?_
  refine Zaw ?_
  refine s_B (cs := [v20.1, v20.2.1, v20.2.2.1]) Tryz.sizeOf39 ?_
  refine ZP ?_
  refine ap I6 (hb := fun w hs => by have : maxN = 16777216 := rfl; (try simp only [List.length_cons, List.length_nil]); omega) (k := ?_); intro v29
  refine ZK ?_
  have e1 := Ov gok
  refine Br (k + 1, v20.1, v20.2.1, v20.2.2.1, v29) (by show k + 1 ≤ x.frames.length; omega) (by show x.frames.length - (k + 1) < x.frames.length - k; omega) alT (fun w hs => ?_)
  try simp only
  rw [e1]; exact Af hs
 ·intro ht16
  refine Gl ?_
  have hkf : k = x.frames.length := by omega
  subst hkf
  obtain ⟨My, hIy, _⟩ := Rh h x.frames.length
  have hny := hIy.nc
  refine Aa ?_
  refine Ga5 ?_
  have f0 : It (Fu x x.frames.length).1 0 = ((Fu x x.frames.length).1, []) := by unfold It; simp [Cd]
  refine Cn (γ := Nat × Value × Value × Value) (fun g => g.1 ≤ (Fu x x.frames.length).1.cores.length + 1) (fun g => row 47 dv (Fu x x.frames.length).2 :: blk b1 39 [g.2.1, g.2.2.1, g.2.2.2] :: blk b2 39 [.slice none 0 0, .slice none 0 0, .slice none 0 0] :: L) (fun g => sl g.2.1 (It (Fu x x.frames.length).1 g.1).1.cores :: sl g.2.2.1 (It (Fu x x.frames.length).1 g.1).1.home :: sl g.2.2.2 (It (Fu x x.frames.length).1 g.1).1.frames :: R) (fun g => [(1, bp b1 0), (2, bp b2 0), (4, dv), (34, vi ((((Fu x x.frames.length).1.cores.length + 1 : Nat)) : Int)), (35, vi (g.1 : Int))]) (fun g => (Fu x x.frames.length).1.cores.length + 1 - g.1) (0, cv, hv, fv) (Nat.zero_le _) alT (fun w hs => by rw [f0]; exact Af hs) ?_
  rintro ⟨k, cv, hv, fv⟩ hk
  try simp only at hk ⊢
  refine ZC ?_
  refine cdy ?_ ?_
  ·intro ht36
   refine Gm ?_
   refine Gb2 ?_
   refine rn3 ?_
   obtain ⟨Mk, hIk⟩ := Yq hIy k
   have tok := Uh (y := (Fu x x.frames.length).1) (k := k) (by omega)
   refine Aj Tryz.call17 rfl (fun w hs => Hr (x := (It (Fu x x.frames.length).1 k).1) (s := tmS k) hs mm mm mm (by unfold Step.wf An tmS zOp; simp only; omega) hIk) ?_; intro v42
   refine J.know (p := v42.1.oneCell' = true ∧ v42.2.1.oneCell' = true ∧ v42.2.2.1.oneCell' = true) (fun w hs => ⟨isSlice.one (hs.fact (.head _)), isSlice.one (hs.fact (.tail _ (.head _))), isSlice.one (hs.fact (.tail _ (.tail _ (.head _))))⟩) (fun h12 => ?_)
   obtain ⟨honev421, honev422, honev423⟩ := h12
   refine rn4 ?_
   refine al_ (cs := [.slice none 0 0, .slice none 0 0, .slice none 0 0]) Tryz.zeroValue39 ?_; intro b9
   refine s_B (cs := [v42.1, v42.2.1, v42.2.2.1]) Tryz.sizeOf39 ?_
   refine Gb2 ?_
   refine rn1 ?_
   refine ob (Ai rfl rfl (Aw tok.1)) ?_
   refine Glc ?_
   refine kp [1, 2, 3, 4, 8, 9, 11, 34, 35, 36, 37, 38, 39, 40, 41, 42, 43, 44, 45, 46, 47, 48] ?_
   refine ZB ?_
   refine s_B (cs := [v42.1, v42.2.1, v42.2.2.1]) Tryz.sizeOf39 ?_
   refine ZE ?_
   refine Br (k + 1, v42.1, v42.2.1, v42.2.2.1) (by show k + 1 ≤ (Fu x x.frames.length).1.cores.length + 1; omega) (by show (Fu x x.frames.length).1.cores.length + 1 - (k + 1) < (Fu x x.frames.length).1.cores.length + 1 - k; omega) alT (fun w hs => ?_)
   try simp only
   rw [tok.2]; exact Af hs
  ·intro ht36
   refine Gl ?_
   have hkl : k = (Fu x x.frames.length).1.cores.length + 1 := by omega
   subst hkl
   refine JC.shut (v := dv) pkk ?_
   refine JC.know (p := cv.oneCell' = true ∧ hv.oneCell' = true ∧ fv.oneCell' = true) (fun w hs => ⟨isSlice.one (hs.fact (mm (f := sl cv (Bc x).1.cores))), isSlice.one (hs.fact (mm (f := sl hv (Bc x).1.home))), isSlice.one (hs.fact (mm (f := sl fv (Bc x).1.frames)))⟩) (fun h12 => ?_)
   obtain ⟨hone1, hone2, hone3⟩ := h12
   refine ZA ?_
   refine ZaU ?_
   refine Ga1 ?_
   exact D6 (cv, hv, fv, dv) Tryz.isAgg39 Tryz.sizeOf39
theorem Uv {cv hv fv : Value} {x : Chip} {n nl : Nat} {M : List Int} (hs : St (L) R w) (hcv : sl cv x.cores ∈ R) (hhv : sl hv x.home ∈ R) (hfv : sl fv x.frames ∈ R) (h : Inv n nl x M) : Calls Tryz.prog 9 [.agg #[cv, hv, fv]].toArray w (Bh (fun v : Value × Value × Value × Value => .tuple #[.agg #[v.1, v.2.1, v.2.2.1], v.2.2.2, vi ((G2 x).2.2 : Int)]) (fun v => L) (fun v => sl v.1 (G2 x).1.cores :: sl v.2.1 (G2 x).1.home :: sl v.2.2.1 (G2 x).1.frames :: sl v.2.2.2 (G2 x).2.1 :: R)) := by
 have hn := h.nc
 have hn4 := h.n1
 have hf40 := h.fr
 refine ZaO ?_;intro honec honeh honef
 refine Ag Tryz.func9 rfl Tryz.ntmps9 rfl hs ?_
 clear hs
 refine Zbk ?_;intro b1 b2
 refine Gb2 ?_
 refine Gb1 ?_
 refine Ga1 ?_
 refine Zax ?_
 refine Cn (γ := Nat × Chip × List Done × Value × Value × Value × Value) (fun g => ∃ Mk, Inv n nl g.2.1 Mk ∧ g.1 ≤ Kf x ∧ K9 (Kf x - g.1) g.1 g.2.1 g.2.2.1 = G2 x ∧ g.2.2.1.length ≤ 40 * g.1) (fun g => row 47 g.2.2.2.2.2.2 g.2.2.1 :: blk b1 39 [g.2.2.2.1, g.2.2.2.2.1, g.2.2.2.2.2.1] :: blk b2 39 [.slice none 0 0, .slice none 0 0, .slice none 0 0] :: L) (fun g => sl g.2.2.2.1 g.2.1.cores :: sl g.2.2.2.2.1 g.2.1.home :: sl g.2.2.2.2.2.1 g.2.1.frames :: R) (fun g => [(1, bp b1 0), (2, bp b2 0), (5, g.2.2.2.2.2.2), (6, vi (g.1 : Int))]) (fun g => (Kf x - g.1) * 100 + H7 g.2.1.frames) (0, x, [], cv, hv, fv, .slice none 0 0) ⟨M, h, Nat.zero_le _, rfl, by show 0 ≤ 40 * 0; omega⟩ alT (fun w hs => Af hs) ?_
 rintro ⟨k, X, D, cv, hv, fv, dv⟩ ⟨Mk, hI, hkm, hfin, hDl⟩
 try simp only at hI hkm hfin hDl ⊢
 have hXn := hI.nc
 have hX4 := hI.n1
 have hXh := hI.nh
 have hXl := hI.l1
 have hX40 := hI.fr
 have hdw := Qc X.frames
 have hmo : Kf x = 12 * n + 12 := by unfold Kf; rw [hn]
 refine JC.know (p := cv.oneCell' = true ∧ hv.oneCell' = true ∧ fv.oneCell' = true) (fun w hs => ⟨isSlice.one (hs.fact (mm (f := sl cv X.cores))), isSlice.one (hs.fact (mm (f := sl hv X.home))), isSlice.one (hs.fact (mm (f := sl fv X.frames)))⟩) (fun h12 => ?_)
 obtain ⟨hone1, hone2, hone3⟩ := h12
 refine Gl ?_
 rcases (show (k = Kf x) ∨ (k < Kf x ∧ Fa X = true) ∨ (k < Kf x ∧ Fa X = false) from by exact N0 hkm) with hc | hc | hc
 ·refine ZG ?_
  refine Aj Tryz.call18 rfl (fun w hs => Po hs (by omega)) ?_; intro _
  refine Bj ?_
  refine Gc5 ?_
  refine JC.shut (v := dv) pkk ?_
  refine ZI ?_
  refine ZaU ?_
  refine Ga2 ?_
  rw [← hfin, show Kf x - k = 0 by omega, fin_0]
  exact Eu (cv, hv, fv, dv) Tryz.isAgg39 Tryz.sizeOf39
 ·have hcm : X.frames.length = 0 ∧ Il X = true := by have h8 := hc.2; rw [Qi, Bool.and_eq_true, decide_eq_true_eq] at h8; exact h8
  refine ZG ?_
  refine Aj Tryz.call18 rfl (fun w hs => Po hs (by omega)) ?_; intro _
  refine Fm ?_
  refine rn2 ?_
  refine gy ?_
  refine Aj Tryz.call19 rfl (fun w hs => by have h8 := Nj (x := X) hs mm mm hI.cx mm hone3; rw [hc.2] at h8; exact h8) ?_; intro _
  refine Gc2 ?_
  refine JC.shut (v := dv) pkk ?_
  refine ZI ?_
  refine ZaU ?_
  refine Ga2 ?_
  rw [← hfin, show Kf x - k = (Kf x - k - 1) + 1 by omega, M5 hcm.2, V9 hcm.1]
  exact Eu (cv, hv, fv, dv) Tryz.isAgg39 Tryz.sizeOf39
 ·refine ZG ?_
  refine Aj Tryz.call18 rfl (fun w hs => Po hs (by omega)) ?_; intro _
  refine Fm ?_
  refine rn2 ?_
  refine gy ?_
  refine Aj Tryz.call19 rfl (fun w hs => by have h8 := Nj (x := X) hs mm mm hI.cx mm hone3; rw [hc.2] at h8; exact h8) ?_; intro _
  refine Gd2 ?_
  refine Aj Tryz.call20 rfl (fun w hs => Adc (x := X) (cv := cv) (hv := hv) (fv := fv) (b0 := b1) (Af (L' := blk b1 39 [cv, hv, fv] :: row 47 dv D :: blk b2 39 [.slice none 0 0, .slice none 0 0, .slice none 0 0] :: L) hs) mm mm mm hI) ?_; intro _
  refine Gl ?_
  refine Cb (b := ?b1) ?e1 ?_ ?_; case e1 => exact rfl
  ·intro ht23
   have hfp : 0 < X.frames.length := by
    refine Nat.pos_of_ne_zero fun h8 => ?_
    have h9 := hc.2
    rw [Qi, ht23, decide_eq_true h8] at h9
    exact absurd h9 (by decide)
   have gok := (Vy hfp).1
   refine ZP ?_
   refine Aj Tryz.call17 rfl (fun w hs => Hr (x := X) (s := goS) hs mm mm mm (by unfold Step.wf An goS zOp; decide) hI) ?_; intro v27
   refine J.know (p := v27.1.oneCell' = true ∧ v27.2.1.oneCell' = true ∧ v27.2.2.1.oneCell' = true) (fun w hs => ⟨isSlice.one (hs.fact (.head _)), isSlice.one (hs.fact (.tail _ (.head _))), isSlice.one (hs.fact (.tail _ (.tail _ (.head _))))⟩) (fun h12 => ?_)
   obtain ⟨honev271, honev272, honev273⟩ := h12
   refine rn4 ?_
   refine al_ (cs := [.slice none 0 0, .slice none 0 0, .slice none 0 0]) Tryz.zeroValue39 ?_; intro b7
   refine s_B (cs := [v27.1, v27.2.1, v27.2.2.1]) Tryz.sizeOf39 ?_
   refine Gb2 ?_
   refine rn1 ?_
   refine ob (Ai rfl rfl (Cf gok)) ?_
   refine Glc ?_
   refine kp [1, 2, 3, 4, 5, 6, 7, 8, 9, 12, 13, 14, 15, 16, 17, 18, 19, 20, 21, 22, 23, 24, 25, 26, 27, 28, 29, 30, 31, 32, 33] ?_
   refine ZB ?_
   refine s_B (cs := [v27.1, v27.2.1, v27.2.2.1]) Tryz.sizeOf39 ?_
   refine Gl ?_
   have h9 := Mc X goS
   refine ZA ?_
   refine ap I6 (hb := fun w hs => by have : maxN = 16777216 := rfl; omega) (k := ?_); intro v36
   refine Ga1 ?_
   have hcg := Qh hI ht23 hfp
   have e1 : K9 (Kf x - k) k (Al X goS).1 D = G2 x := by
    rw [← hfin, show Kf x - k = (Kf x - k - 1) + 1 by omega, M5 hcg.1, M5 ht23, Z5 hI ht23 hfp]
   obtain ⟨M2, hI2, _⟩ := On hI gok
   refine Br (k, (Al X goS).1, D, v27.1, v27.2.1, v27.2.2.1, v36) ⟨M2, hI2, hkm, e1, hDl⟩ (by show (Kf x - k) * 100 + H7 (Al X goS).1.frames < (Kf x - k) * 100 + H7 X.frames; omega) alT (fun w hs => ?_)
   try simp only
   rw [hcg.2.1, List.append_nil] at hs; exact Af hs
  ·intro ht23
   refine ZW ?_
   refine Aj Tryz.call21 rfl (fun w hs => rndOne (x := X) hs mm mm mm hI) ?_; intro v39
   refine Zcl ?_;intro h12
   obtain ⟨honev391, honev392, honev393⟩ := h12
   refine rn3 ?_
   refine al_ (cs := [.slice none 0 0, .slice none 0 0, .slice none 0 0]) Tryz.zeroValue39 ?_; intro b10
   refine Zbq ?_
   refine Gb1 ?_
   refine rn1 ?_
   refine Zbq ?_
   refine Gl ?_
   have h9 := N6 hI
   refine ZA ?_
   refine ap I6 (hb := fun w hs => by have : maxN = 16777216 := rfl; omega) (k := ?_); intro v45
   refine Ga1 ?_
   refine kp [1, 2, 3, 4, 5, 6, 7, 8, 9, 10, 11, 12, 13, 14, 15, 16, 17, 18, 19, 20, 21, 22, 23, 24, 25, 26, 27, 28, 29, 30, 31, 32, 33, 34, 35, 36, 37, 38, 39, 40, 41, 42, 43, 44, 45, 46, 47] ?_
   refine Aa ?_
   refine Ga3 ?_
   have hrl := N6 hI
   obtain ⟨M2, hI2, _⟩ := Vl hI
   have hdw2 := Qc (Bc X).1.frames
   have hI240 := hI2.fr
   have e1 : K9 (Kf x - (k + 1)) (k + 1) (Bc X).1 (D ++ (Bc X).2) = G2 x := by
    rw [← hfin, show Kf x - k = (Kf x - (k + 1)) + 1 by omega, V2 (by rw [ht23]; decide)]
   refine Br (k + 1, (Bc X).1, D ++ (Bc X).2, v39.1, v39.2.1, v39.2.2.1, v45) ⟨M2, hI2, by show k + 1 ≤ Kf x; omega, e1, by show (D ++ (Bc X).2).length ≤ 40 * (k + 1); rw [List.length_append]; omega⟩ (by show (Kf x - (k + 1)) * 100 + H7 (Bc X).1.frames < (Kf x - k) * 100 + H7 X.frames; omega) alT (fun w hs => ?_)
   try simp only
   exact Af hs
end Go.Proofs.YtiofgjolhbgkiaaGreatDoor
namespace Go.Proofs.YtiofgjolhbgkiaaGreatDoor
def want (k op : Nat) : Nat := if k = 1 ∧ (op = 2 ∨ op = 3) then 3 else if k = 1 ∨ k = 5 then 2 else 1
set_option maxHeartbeats 1000000
set_option maxRecDepth 8000
variable {L : List Chunk} {R : List Fact} {w : World}
theorem Q6 : ∀ {l : List Step} {x : Chip}, (∀ s ∈ l, Al x s = Al x s ∧ ¬ A0 s ∧ (s.kind = 1 → s.op.kind = 1 ∨ s.op.kind = 4 → s.op.value = 0)) → Cd x (l.map Dw) = Cd x l ∧ F1 x (l.map Dw) = F1 x l
 | [], x, _ => ⟨rfl, rfl⟩
 | s :: r, x, h => by
  obtain ⟨_, h2, h3⟩ := h s (List.mem_cons_self ..)
  have ih : ∀ y, Cd y (r.map Dw) = Cd y r ∧ F1 y (r.map Dw) = F1 y r := fun y => Q6 fun q hq => ⟨rfl, (h q (List.mem_cons_of_mem _ hq)).2⟩
  rw [List.map_cons]
  unfold Cd F1
  rw [Adu h2 h3]
  exact ⟨by rw [(ih _).1, (ih _).1], by rw [(ih _).2]⟩
theorem Va {c : Config} {l : List Step} (h : ∀ s ∈ l, ¬ A0 s ∧ (s.kind = 1 → s.op.kind = 1 ∨ s.op.kind = 4 → s.op.value = 0)) : As c (l.map Dw) = As c l := by
 unfold As
 obtain ⟨h1, h2⟩ := Q6 (x := (Bu c).1) (l := l) (fun s hs => ⟨rfl, h s hs⟩)
 rw [List.length_map, h1, h2]
theorem L6 : ∀ {l : List Bs} {w : Bs} {k : Nat}, k < l.length → w ∉ l.take k → l.getD k [] = w → A4 l w = k + 1
 | [], w, k, h, _, _ => absurd h (Nat.not_lt_zero _)
 | x :: r, w, 0, h, _, e => by
  have e' : x = w := e
  unfold A4; rw [if_pos e']
 | x :: r, w, k + 1, h, hn, e => by
  have hx : ¬ x = w := fun e => hn (by rw [List.take_succ_cons, e]; exact List.mem_cons_self ..)
  have ih := L6 (l := r) (w := w) (k := k) (by simpa using h) (fun hm => hn (by rw [List.take_succ_cons]; exact List.mem_cons_of_mem _ hm)) (by simpa using e)
  unfold A4; rw [if_neg hx, ih]
theorem L5 : ∀ {l : List Bs} {w : Bs}, w ∉ l → A4 l w = 0
 | [], w, _ => rfl
 | x :: r, w, h => by
  have hx : ¬ x = w := fun e => h (by rw [e]; exact List.mem_cons_self ..)
  unfold A4; rw [if_neg hx, L5 (fun hm => h (List.mem_cons_of_mem _ hm))]
theorem Yb {l : List Bs} {w : Bs} {k : Nat} (hk : k < l.length) (h : w ∉ l.take k) (h2 : ¬ l.getD k [] = w) : w ∉ l.take (k + 1) := by
 rw [J4 [] hk]; intro hm
 rcases List.mem_append.1 hm with a | a
 ·exact h a
 ·exact h2 (List.mem_singleton.1 a).symm
theorem Adf {R : List Fact} : ∀ j, (∀ q ∈ R, q.p j) → RdV (α := Wd) kinds [.string (Ba [111, 112]), .string (Ba [103, 111]), .string (Ba [100, 114, 111, 112]), .string (Ba [116, 119, 105, 99, 101]), .string (Ba [115, 112, 111, 105, 108]), .string (Ba [116, 105, 109, 101, 114])] j := fun j _ => ⟨⟨_, rfl, rfl⟩, ⟨_, rfl, rfl⟩, ⟨_, rfl, rfl⟩, ⟨_, rfl, rfl⟩, ⟨_, rfl, rfl⟩, ⟨_, rfl, rfl⟩, trivial⟩
theorem rdOpns {R : List Fact} : ∀ j, (∀ q ∈ R, q.p j) → RdV (α := Wd) opns [.string (Ba [108, 111, 97, 100]), .string (Ba [115, 116, 111, 114, 101]), .string (Ba [97, 100, 100]), .string (Ba [101, 118, 105, 99, 116])] j := fun j _ => ⟨⟨_, rfl, rfl⟩, ⟨_, rfl, rfl⟩, ⟨_, rfl, rfl⟩, ⟨_, rfl, rfl⟩, trivial⟩
theorem Ur  (hs : St (L) R w) : Calls Tryz.prog 22 [].toArray w (Bh (fun g : Value => g) (fun g => L) (fun g => sl (α := Wd) g kinds :: R)) := by
 refine Ag Tryz.func22 rfl Tryz.ntmps22 rfl hs ?_
 clear hs
 refine ZJ ?_
 refine li (α := Wd) kinds Oy rfl Adf ?_; intro v1
 refine Ga1 ?_
 exact Bz v1
theorem scOps  (hs : St (L) R w) : Calls Tryz.prog 25 [].toArray w (Bh (fun g : Value => g) (fun g => L) (fun g => sl (α := Wd) g opns :: R)) := by
 refine Ag Tryz.func25 rfl Tryz.ntmps25 rfl hs ?_
 clear hs
 refine ZJ ?_
 refine li (α := Wd) opns Oy rfl rdOpns ?_; intro v1
 refine Ga1 ?_
 exact Bz v1
theorem Ut {v0 : Value} {l : List Bs} {wd : Bs} (hs : St (L) R w) (h0 : sl (α := Wd) v0 l ∈ R) : Calls Tryz.prog 30 [v0, .string (Ba wd)].toArray w (Bh (fun _ : Unit => vi ((A4 l wd : Nat) : Int)) (fun _ => L) (fun _ => R)) := by
 refine Ag Tryz.func30 rfl Tryz.ntmps30 rfl hs ?_
 clear hs
 refine ZJ ?_
 refine Ga3 ?_
 refine JC.know (p := l.length ≤ 16777216) (fun w hs => Bv (α := Wd) (v := v0) (xs := l) mm hs) (fun hll => ?_)
 refine Cn (γ := Nat) (fun k => k ≤ l.length ∧ wd ∉ l.take k) (fun _ => L) (fun _ => R) (fun k => [(1, .string (Ba wd)), (7, v0), (8, vi (l.length : Int)), (9, vi (k : Int))]) (fun k => l.length - k) 0 ⟨Nat.zero_le _, by simp⟩ alT (fun w hs => Af hs) ?_
 rintro k ⟨hk, hno⟩
 try simp only at hk hno ⊢
 refine ZC ?_
 refine cdy ?_ ?_
 ·intro ht10
  refine Gl ?_
  refine JC.open0 (α := Wd) (xs := l) (v := v0) k mm (show k < @List.length Bs l by omega) (fun _ => ?_)
  refine Aa ?_
  refine Gb5 ?_
  refine rn2 ?_
  refine ob (q_s b_seD) ?_
  refine Gl ?_
  refine cdy ?_ ?_
  ·intro ht16
   refine Zau ?_
   have hpl := L6 (by omega) hno ht16
   rw [hpl]
   exact Bz ()
  ·intro ht16
   refine ZE ?_
   refine Br (k + 1) ⟨by omega, Yb (by omega) hno ht16⟩ (by omega) alT (fun w hs => Af hs)
 ·intro ht10
  refine ZC ?_
  have hkl : ¬ ((k : Int) < ((l.length : Nat) : Int)) := ht10
  rw [L5 (l := l) (w := wd) (by rwa [List.take_of_length_le (by omega)] at hno)]
  exact Bz ()
end Go.Proofs.YtiofgjolhbgkiaaGreatDoor
namespace Go.Proofs.YtiofgjolhbgkiaaGreatDoor
theorem pl0 {W : List Bs} (h : A4 kinds (hdW (W, true)) = 0) : Eb W = (zStep, 1) := if_pos h
theorem pl1 {W : List Bs} (h : A4 kinds (hdW (W, true)) = 1) : Eb W = H2 (rdW (W, true)) := by unfold Eb; rw [if_neg (by omega), if_pos h]
theorem pl6 {W : List Bs} (h : A4 kinds (hdW (W, true)) = 6) : Eb W = fin ⟨6, vN (rdW (W, true)), 0, 0, zOp⟩ (rdN (rdW (W, true))) := by unfold Eb; rw [if_neg (by omega), if_neg (by omega), if_pos h]
theorem pl5 {W : List Bs} (h : A4 kinds (hdW (W, true)) = 5) : Eb W = fin ⟨5, 0, vN (rdW (W, true)), vN (rdN (rdW (W, true))), zOp⟩ (rdN (rdN (rdW (W, true)))) := by unfold Eb; rw [if_neg (by omega), if_neg (by omega), if_neg (by omega), if_pos h]
theorem plE {W : List Bs} (h0 : A4 kinds (hdW (W, true)) ≠ 0) (h1 : A4 kinds (hdW (W, true)) ≠ 1) (h6 : A4 kinds (hdW (W, true)) ≠ 6) (h5 : A4 kinds (hdW (W, true)) ≠ 5) : Eb W = fin ⟨(A4 kinds (hdW (W, true)) : Nat), 0, vN (rdW (W, true)), 0, zOp⟩ (rdN (rdW (W, true))) := by unfold Eb; rw [if_neg h0, if_neg h1, if_neg h6, if_neg h5]
theorem pl_all (k : Nat) : k = 0 ∨ k = 1 ∨ k = 6 ∨ k = 5 ∨ (k ≠ 0 ∧ k ≠ 1 ∧ k ≠ 6 ∧ k ≠ 5) := by omega
theorem po0 {st : RSt} (h : A4 opns (hdW (rdN st)) = 0) (h2 : (rdW (rdN st)).2 = true) : H2 st = (zStep, 1) := if_pos ⟨h, h2⟩
theorem po2 {st : RSt} (h : A4 opns (hdW (rdN st)) = 2 ∨ A4 opns (hdW (rdN st)) = 3) : H2 st = fin ⟨1, vN st, 0, 0, ⟨(A4 opns (hdW (rdN st)) : Nat), vN (rdW (rdN st)), vN (rdN (rdW (rdN st)))⟩⟩ (rdN (rdN (rdW (rdN st)))) := by
 unfold H2; rw [if_neg (by omega), if_pos h]
theorem po1 {st : RSt} (h0 : ¬ (A4 opns (hdW (rdN st)) = 0 ∧ (rdW (rdN st)).2 = true)) (h : ¬ (A4 opns (hdW (rdN st)) = 2 ∨ A4 opns (hdW (rdN st)) = 3)) : H2 st = fin ⟨1, vN st, 0, 0, ⟨(A4 opns (hdW (rdN st)) : Nat), vN (rdW (rdN st)), 0⟩⟩ (rdN (rdW (rdN st))) := by
 unfold H2; rw [if_neg h0, if_neg h]
theorem po_all (k : Nat) (b : Bool) : (k = 0 ∧ b = true) ∨ (k = 0 ∧ b = false) ∨ (k ≠ 0 ∧ (k = 2 ∨ k = 3)) ∨ (k ≠ 0 ∧ ¬ (k = 2 ∨ k = 3)) := by cases b <;> simp <;> omega
theorem Afl {s : Step} {st : RSt} (h : st.2 = false) : fin s st = (zStep, 2) := if_pos (.inl h)
theorem Afk {s : Step} {st : RSt} (h : 0 < st.1.length) : fin s st = (zStep, 2) := if_pos (.inr h)
theorem Afj {s : Step} {st : RSt} (h : st.2 = true) (h2 : st.1.length = 0) : fin s st = (s, 0) := if_neg (by rw [h, h2]; simp)
theorem Ig (st : RSt) : st.2 = false ∨ (st.2 = true ∧ 0 < st.1.length) ∨ (st.2 = true ∧ st.1.length = 0) := by
 cases st.2
 ·exact .inl rfl
 ·rcases Nat.eq_zero_or_pos st.1.length with h | h
  ·exact .inr (.inr ⟨rfl, h⟩)
  ·exact .inr (.inl ⟨rfl, h⟩)
def BdW (N : Nat) (st : RSt) : Prop := ∀ w ∈ st.1, w.length ≤ N
theorem BdW.hd {N : Nat} {st : RSt} (h : BdW N st) : (hdW st).length ≤ N := by
 obtain ⟨l, b⟩ := st
 cases l with
 | nil => exact Nat.zero_le _
 | cons a r => exact h a (List.mem_cons_self ..)
theorem BdW.w {N : Nat} {st : RSt} (h : BdW N st) : BdW N (rdW st) := by
 obtain ⟨l, b⟩ := st
 cases l with
 | nil => exact fun _ hm => by cases hm
 | cons a r => exact fun w hm => h w (List.mem_cons_of_mem _ hm)
theorem BdW.n {N : Nat} {st : RSt} (h : BdW N st) : BdW N (rdN st) := h.w
theorem Nc {c : UInt8} : ∀ {s : Bs} {w : Bs}, w ∈ Av c s → w.length ≤ s.length
 | [], w, h => by simp [Av] at h; rw [h]; simp
 | b :: r, w, h => by
  by_cases e : b = c
  ·subst e; rw [Nd] at h
   rcases List.mem_cons.1 h with h | h
   ·rw [h]; simp
   ·have := Nc h; simp; omega
  ·obtain ⟨x, ws, h1, h2⟩ := Hq (r := r) e
   rw [h2] at h
   rcases List.mem_cons.1 h with h | h
   ·have := Nc (c := c) (s := r) (w := x) (by rw [h1]; exact List.mem_cons_self ..)
    rw [h]; simp; omega
   ·have := Nc (c := c) (s := r) (w := w) (by rw [h1]; exact List.mem_cons_of_mem _ h)
    simp; omega
theorem BdW.cut {s : Bs} : BdW s.length (Av 32 s, true) := fun _ h => Nc h
theorem Bk (b : Bs) : Db b = Eb (Av 32 b) := (U2 _ (Ki _ _)).symm
theorem Acu {s : Bs} (h : s ≠ []) : (10 : UInt8) ∉ s ∨ ∃ b r, s = b ++ 10 :: r ∧ (10 : UInt8) ∉ b := by
 rcases N1 s with e | ⟨_, h2⟩ | h3
 ·exact absurd e h
 ·exact .inl h2
 ·exact .inr h3
theorem Z9 (r : List Step × Int) (h : r.2 ≠ 0 → r.1 = []) : Nh [] r = r := by
 unfold Nh
 split
 ·rename_i h0; rw [← h0]; rfl
 ·rename_i h0; rw [← h h0]
theorem X5 (t : Bs) : Cm t = Nh [] (Cm t) := (Z9 _ (Acw _ (Nat.le_refl _))).symm
theorem prs_ok {t b r : Bs} {D : List Step} (he : Cm t = Nh D (Cm (b ++ 10 :: r))) (hb : (10 : UInt8) ∉ b) (h0 : (Db b).2 = 0) : Cm t = Nh (D ++ [(Db b).1]) (Cm r) := by
 rw [he, Kd hb, if_pos h0, Wr]
theorem prs_er {t b r : Bs} {D : List Step} (he : Cm t = Nh D (Cm (b ++ 10 :: r))) (hb : (10 : UInt8) ∉ b) (h0 : (Db b).2 ≠ 0) : Cm t = ([], (Db b).2) := by
 rw [he, Kd hb, if_neg h0, Rw h0]
theorem prs_op {t s : Bs} {D : List Step} (he : Cm t = Nh D (Cm s)) (hs : (10 : UInt8) ∉ s) (h0 : s ≠ []) : Cm t = ([], 2) := by
 rw [he, Qz hs h0, Rw (by decide)]
theorem Ado {t s : Bs} {D : List Step} (he : Cm t = Nh D (Cm s)) (h0 : s = []) : Cm t = (D, 0) := by
 rw [he, h0, Acv, Afv, List.append_nil]
theorem Adz {b : Bs} (h : (Db b).2 = 0) : (Db b).1.wf := (Ug (b := b) (s := (Db b).1) (by rw [← h])).2.2.2
set_option maxHeartbeats 1000000
set_option maxRecDepth 8000
variable {L : List Chunk} {R : List Fact} {w : World}
theorem Abo {b : Nat} {v : Value} {W : List Bs} {ok : Bool} (hs : St (blk b 86 [v, .bool ok] :: L) R w) (h0 : sl (α := Wd) v W ∈ R) : Calls Tryz.prog 31 [bp b 0].toArray w (Bh (fun g : Value => .string (Ba (hdW (W, ok)))) (fun g => blk b 86 [g, .bool (rdW (W, ok)).2] :: L) (fun g => sl (α := Wd) g (rdW (W, ok)).1 :: R)) := by
 have hone0 : v.oneCell' = true := isSlice.one (hs.fact h0)
 refine Ag Tryz.func31 rfl Tryz.ntmps31 rfl hs ?_
 clear hs
 refine ZC ?_
 rcases (show (W = []) ∨ (∃ a r, W = a :: r) from by cases W with
  | nil => exact .inl rfl
  | cons w0 r => exact .inr ⟨w0, r, rfl⟩) with hc | hc
 ·subst hc
  refine ZX ?_
  refine ob (Ai rfl rfl (Aw rfl)) ?_
  refine Gmc ?_
  refine rn3 ?_
  refine sc ?_
  refine ZC ?_
  refine Ax (.inr rfl) (fun B w hs => Uw rfl rfl B w) (fun w hs => ⟨v, rfl, Af hs⟩)
 ·obtain ⟨w0, r, rfl⟩ := hc
  have hm0 := h0
  refine JC.know (p := ∃ a cap, v = .slice (some a) (@List.length Bs r + 1) cap ∧ @List.length Bs r + 1 ≤ cap) (fun w hs => Acr (α := Wd) h0 hs) (fun hx => ?_)
  obtain ⟨a, cap, rfl, hcap⟩ := hx
  refine ZX ?_
  refine ob (Ai rfl rfl (A1 (by show ¬ (((@List.length Bs r + 1 : Nat)) : Int) = 0; omega))) ?_
  refine Glc ?_
  refine JC.open0 (α := Wd) (xs := w0 :: r) (v := .slice (some a) (@List.length Bs r + 1) cap) 0 mm (Nat.zero_lt_succ _) (fun _ => ?_)
  refine ZG ?_
  refine ob (I0 (i := 0) Sd (hl := D8 (α := Wd) (xs := w0 :: r) mm) (h1 := Nat.zero_lt_succ _)) ?_
  refine Gb2 ?_
  refine rn5 ?_
  refine ob (q_sl (lo := 1) (hi := @List.length Bs r + 1) (sz := 1) (e := 9) Sd rfl rfl rfl (by omega) (by omega)) ?_
  refine rn2 ?_
  refine sc ?_
  refine ZE ?_
  refine Ax (.inr rfl) (fun B w hs => Uw rfl rfl B w) (fun w hs => ⟨(.slice (if cap = 1 then some a else some (a.add (1 * 1))) (@List.length Bs r + 1 - 1) (cap - 1)), rfl, by have h9 := Acp (α := Wd) rfl (List.mem_cons_of_mem _ hm0) hs; exact Af h9⟩)
theorem rdNum {b : Nat} {v : Value} {W : List Bs} {ok : Bool} (hs : St (blk b 86 [v, .bool ok] :: L) R w) (h0 : sl (α := Wd) v W ∈ R) (hl : lbF ∈ R) (hn : (hdW (W, ok)).length ≤ 4294967280) : Calls Tryz.prog 32 [bp b 0].toArray w (Bh (fun g : Value => vi (vN (W, ok))) (fun g => blk b 86 [g, .bool (rdN (W, ok)).2] :: L) (fun g => sl (α := Wd) g (rdN (W, ok)).1 :: R)) := by
 refine Ag Tryz.func32 rfl Tryz.ntmps32 rfl hs ?_
 clear hs
 refine Zaz ?_
 refine Aj Tryz.call31 rfl (fun w hs => Abo (W := W) (ok := ok) (Af hs) mm) ?_; intro g7
 refine Gb1 ?_
 refine rn1 ?_
 refine Aj Tryz.call51 rfl (fun w hs => cAtoi hs mm (by omega)) ?_; intro g8
 refine Ga5 ?_
 rcases (show (okA (hdW (W, ok)) = true ∧ Go.Lib.itoa (vOf (hdW (W, ok))) = (hdW (W, ok))) ∨ (okA (hdW (W, ok)) = true ∧ Go.Lib.itoa (vOf (hdW (W, ok))) ≠ (hdW (W, ok))) ∨ (okA (hdW (W, ok)) = false ∧ True) from by exact num3 _) with hc | hc | hc
 ·have ho : Ls (hdW (W, ok)) = true := by rw [Adt, hc.1, decide_eq_true hc.2]; rfl
  refine ZB ?_
  refine ob (I1 rfl rfl M4 (Ry Tryz.underlying58 hc.1)) ?_
  refine rn2 ?_
  refine gy ?_
  refine Aj Tryz.call24 rfl (fun w hs => Agf hs mm (Abm _)) ?_; intro _
  refine rn1 ?_
  refine gy ?_
  refine ob (Adr rfl rfl (W1 hc.2)) ?_
  refine Gd1 ?_
  refine Ga2 ?_
  have e1 : (rdN (W, ok)).2 = (rdW (W, ok)).2 := by show ((rdW (W, ok)).2 && Ls (hdW (W, ok))) = _; rw [ho]; exact Bool.and_true _
  refine Ax (.inr rfl) (fun B w hs => Uw rfl rfl B w) (fun w hs => ⟨g7, rfl, by rw [e1]; exact Af hs⟩)
 ·have ho : Ls (hdW (W, ok)) = false := by rw [Adt, hc.1, decide_eq_false hc.2]; rfl
  refine ZB ?_
  refine ob (I1 rfl rfl M4 (Ry Tryz.underlying58 hc.1)) ?_
  refine rn2 ?_
  refine gy ?_
  refine Aj Tryz.call24 rfl (fun w hs => Agf hs mm (Abm _)) ?_; intro _
  refine rn1 ?_
  refine gy ?_
  refine ob (Adr rfl rfl (W0 hc.2)) ?_
  refine Gd1 ?_
  refine Zc5 ?_;intro e1
  refine Ax (.inr rfl) (fun B w hs => Uw rfl rfl B w) (fun w hs => ⟨g7, rfl, by rw [e1]; exact Af hs⟩)
 ·have ho : Ls (hdW (W, ok)) = false := by rw [Adt, hc.1]; rfl
  refine ZB ?_
  refine ob (I1 rfl rfl M4 (Aay Tryz.underlying58 hc.1)) ?_
  refine Gd6 ?_
  refine Zc5 ?_;intro e1
  refine Ax (.inr rfl) (fun B w hs => Uw rfl rfl B w) (fun w hs => ⟨g7, rfl, by rw [e1]; exact Af hs⟩)
theorem Uy {b : Nat} {v : Value} {st : RSt} (hs : St (blk b 86 [v, .bool st.2] :: L) R w) (h0 : sl (α := Wd) v st.1 ∈ R) : Calls Tryz.prog 31 [bp b 0].toArray w (Bh (fun g : Value => .string (Ba (hdW st))) (fun g => blk b 86 [g, .bool (rdW st).2] :: L) (fun g => sl (α := Wd) g (rdW st).1 :: R)) := Abo (W := st.1) (ok := st.2) hs h0
theorem H1 {b N : Nat} {v : Value} {st : RSt} (hs : St (blk b 86 [v, .bool st.2] :: L) R w) (h0 : sl (α := Wd) v st.1 ∈ R) (hl : lbF ∈ R) (hn : BdW N st) (hN : N ≤ 4294967280) : Calls Tryz.prog 32 [bp b 0].toArray w (Bh (fun g : Value => vi (vN st)) (fun g => blk b 86 [g, .bool (rdN st).2] :: L) (fun g => sl (α := Wd) g (rdN st).1 :: R)) := rdNum (W := st.1) (ok := st.2) hs h0 hl (Nat.le_trans hn.hd hN)
theorem scLine {bs : Bs} (hs : St (L) R w) (hl : lbF ∈ R) (hb : bs.length ≤ 16777215) : Calls Tryz.prog 15 [.string (Ba bs)].toArray w (Bh (fun _ : Unit => .tuple #[.agg (Db bs).1.cells.toArray, vi (Db bs).2]) (fun _ => L) (fun _ => R)) := by
 have hN : bs.length ≤ 4294967280 := by omega
 have hB := BdW.cut (s := bs)
 refine Ag Tryz.func15 rfl Tryz.ntmps15 rfl hs ?_
 clear hs
 refine Gm ?_
 refine al_ (cs := zStep.cells) Tryz.zeroValue29 ?_; intro b2
 refine Gb1 ?_
 refine rn1 ?_
 refine Aj Tryz.call29 rfl (fun w hs => cSplit (l := bs) (c := 32) hs mm (by omega)) ?_; intro v7
 refine J.know (p := v7.oneCell' = true) (fun w hs => isSlice.one (hs.fact (.head _))) (fun hone7 => ?_)
 refine rn1 ?_
 refine bx ?_; intro b9
 refine Gb1 ?_
 refine Aj Tryz.call22 rfl (fun w hs => Ur hs) ?_; intro v10
 refine rn1 ?_
 refine Aj Tryz.call31 rfl (fun w hs => Uy (st := ((Av 32 bs, true) : RSt)) (Af hs) mm) ?_; intro g12
 refine Aj Tryz.call30 rfl (fun w hs => Ut hs mm) ?_; intro _
 refine rn1 ?_
 refine al_ (cs := zStep.cells) Tryz.zeroValue29 ?_; intro b5
 refine s_B Tryz.sizeOf29 ?_
 refine Gl ?_
 rcases (show (A4 kinds (hdW ((Av 32 bs, true) : RSt)) = 0) ∨ (A4 kinds (hdW ((Av 32 bs, true) : RSt)) = 1) ∨ (A4 kinds (hdW ((Av 32 bs, true) : RSt)) = 6) ∨ (A4 kinds (hdW ((Av 32 bs, true) : RSt)) = 5) ∨ ((A4 kinds (hdW ((Av 32 bs, true) : RSt)) ≠ 0 ∧ A4 kinds (hdW ((Av 32 bs, true) : RSt)) ≠ 1 ∧ A4 kinds (hdW ((Av 32 bs, true) : RSt)) ≠ 6 ∧ A4 kinds (hdW ((Av 32 bs, true) : RSt)) ≠ 5)) from by exact pl_all _) with hc | hc | hc | hc | hc
 ·have e9 : Db bs = (zStep, 1) := (Bk bs).trans (pl0 hc)
  refine Aa ?_
  refine Gb2 ?_
  refine Df ?_
  refine Gd1 ?_
  refine ZaQ ?_
  exact D6 () Tryz.isAgg29 Tryz.sizeOf29
 ·have hk := hc
  rw [hc]
  refine Aa ?_
  refine Gb2 ?_
  refine ZD ?_
  refine Df ?_
  refine Zav ?_
  refine Aj Tryz.call32 rfl (fun w hs => H1 (st := (rdW ((Av 32 bs, true) : RSt))) (Af hs) mm mm hB.w hN) ?_; intro g26
  refine rn1 ?_
  refine ZH ?_
  refine Aj Tryz.call25 rfl (fun w hs => scOps hs) ?_; intro v28
  refine rn1 ?_
  refine Aj Tryz.call31 rfl (fun w hs => Uy (st := (rdN (rdW ((Av 32 bs, true) : RSt)))) (Af hs) mm) ?_; intro g30
  refine Aj Tryz.call30 rfl (fun w hs => Ut hs mm) ?_; intro _
  refine Zaa ?_
  rcases (show (A4 opns (hdW (rdN (rdW ((Av 32 bs, true) : RSt)))) = 0 ∧ (rdW (rdN (rdW ((Av 32 bs, true) : RSt)))).2 = true) ∨ (A4 opns (hdW (rdN (rdW ((Av 32 bs, true) : RSt)))) = 0 ∧ (rdW (rdN (rdW ((Av 32 bs, true) : RSt)))).2 = false) ∨ (A4 opns (hdW (rdN (rdW ((Av 32 bs, true) : RSt)))) ≠ 0 ∧ (A4 opns (hdW (rdN (rdW ((Av 32 bs, true) : RSt)))) = 2 ∨ A4 opns (hdW (rdN (rdW ((Av 32 bs, true) : RSt)))) = 3)) ∨ (A4 opns (hdW (rdN (rdW ((Av 32 bs, true) : RSt)))) ≠ 0 ∧ ¬ (A4 opns (hdW (rdN (rdW ((Av 32 bs, true) : RSt)))) = 2 ∨ A4 opns (hdW (rdN (rdW ((Av 32 bs, true) : RSt)))) = 3)) from by exact po_all _ _) with hc | hc | hc | hc
  ·have e9 : Db bs = (zStep, 1) := (Bk bs).trans ((pl1 hk).trans (po0 hc.1 hc.2))
   rw [hc.2]
   refine Zbo ?_
   refine ob (Ai rfl rfl (Aw (by have := hc.1; omega))) ?_
   refine ZF ?_
   refine ob (Cp Tryz.isAgg4) ?_
   refine Gd1 ?_
   refine ZaQ ?_
   exact D6 () Tryz.isAgg29 Tryz.sizeOf29
  ·have hoz := hc.1
   have ho : ¬ (A4 opns (hdW (rdN (rdW ((Av 32 bs, true) : RSt)))) = 0 ∧ (rdW (rdN (rdW ((Av 32 bs, true) : RSt)))).2 = true) := fun h => by rw [hc.2] at h; cases h.2
   have ho2 : ¬ (A4 opns (hdW (rdN (rdW ((Av 32 bs, true) : RSt)))) = 2 ∨ A4 opns (hdW (rdN (rdW ((Av 32 bs, true) : RSt)))) = 3) := by omega
   refine Zbo ?_
   refine ob (Ai rfl rfl (Aw (by have := hc.1; omega))) ?_
   refine Ga6 ?_
   refine Cb (b := ?b1) ?e1 ?_ ?_; case e1 => exact rfl
   ·intro ht43
    rw [hc.2] at ht43; cases ht43
   ·intro ht43
    refine Gm ?_
    refine ZbH ?_;intro g46
    refine rn2 ?_
    refine ZH ?_
    refine rn3 ?_
    refine ob (Ai rfl rfl (A1 (by have := hc.1; omega))) ?_
    refine ZF ?_
    refine ob (Ai rfl rfl (A1 (by have := hc.1; omega))) ?_
    exact ZcA
  ·have ho := hc
   refine Zbo ?_
   refine ob (Ai rfl rfl (A1 (by have := ho.1; omega))) ?_
   refine Gd6 ?_
   refine ZbH ?_;intro g46
   refine Zaa ?_
   rcases (show (A4 opns (hdW (rdN (rdW ((Av 32 bs, true) : RSt)))) = 2) ∨ (A4 opns (hdW (rdN (rdW ((Av 32 bs, true) : RSt)))) = 3) from by exact ho.2) with hc | hc
   ·refine ZI ?_
    refine Df ?_
    refine Gd6 ?_
    refine rn1 ?_
    exact Zc9
   ·refine ZI ?_
    refine Ay ?_
    refine ZF ?_
    refine Df ?_
    refine Zav ?_
    exact Zc9
  ·have ho0 := hc
   have ho : ¬ (A4 opns (hdW (rdN (rdW ((Av 32 bs, true) : RSt)))) = 0 ∧ (rdW (rdN (rdW ((Av 32 bs, true) : RSt)))).2 = true) := fun h => ho0.1 h.1
   have ho2 := ho0.2
   refine Zbo ?_
   refine ob (Ai rfl rfl (A1 (by have := ho0.1; omega))) ?_
   refine Gd6 ?_
   refine ZbH ?_;intro g46
   refine rn2 ?_
   refine ZH ?_
   refine rn3 ?_
   refine ob (Ai rfl rfl (A1 (by have := ho0.2; omega))) ?_
   refine ZF ?_
   refine ob (Ai rfl rfl (A1 (by have := ho0.2; omega))) ?_
   exact ZcA
 ·have hk := hc
  rw [hc]
  refine Aa ?_
  refine Gb2 ?_
  refine Zas ?_
  refine Zav ?_
  refine Aj Tryz.call32 rfl (fun w hs => H1 (st := (rdW ((Av 32 bs, true) : RSt))) (Af hs) mm mm hB.w hN) ?_; intro g66
  refine rn1 ?_
  refine sc ?_
  refine Gl ?_
  rcases (show ((rdN (rdW ((Av 32 bs, true) : RSt))).2 = false) ∨ ((rdN (rdW ((Av 32 bs, true) : RSt))).2 = true ∧ 0 < (rdN (rdW ((Av 32 bs, true) : RSt))).1.length) ∨ ((rdN (rdW ((Av 32 bs, true) : RSt))).2 = true ∧ (rdN (rdW ((Av 32 bs, true) : RSt))).1.length = 0) from by exact Ig (rdN (rdW ((Av 32 bs, true) : RSt)))) with hc | hc | hc
  ·have e9 : Db bs = (zStep, 2) := ((Bk bs).trans (pl6 hk)).trans (Afl hc)
   exact ZcG
  ·have e9 : Db bs = (zStep, 2) := ((Bk bs).trans (pl6 hk)).trans (Afk hc.2)
   exact Zd1
  ·have e9 := ((Bk bs).trans (pl6 hk)).trans (Afj hc.1 hc.2)
   exact Zd2
 ·have hk := hc
  rw [hc]
  refine Aa ?_
  refine Gb2 ?_
  refine ZD ?_
  refine Zas ?_
  refine Zav ?_
  refine Aj Tryz.call32 rfl (fun w hs => H1 (st := (rdW ((Av 32 bs, true) : RSt))) (Af hs) mm mm hB.w hN) ?_; intro g71
  refine rn1 ?_
  refine Aj Tryz.call32 rfl (fun w hs => H1 (st := (rdN (rdW ((Av 32 bs, true) : RSt)))) (Af hs) mm mm hB.w.n hN) ?_; intro g73
  refine rn1 ?_
  refine sc ?_
  refine rn1 ?_
  refine sc ?_
  refine Gl ?_
  rcases (show ((rdN (rdN (rdW ((Av 32 bs, true) : RSt)))).2 = false) ∨ ((rdN (rdN (rdW ((Av 32 bs, true) : RSt)))).2 = true ∧ 0 < (rdN (rdN (rdW ((Av 32 bs, true) : RSt)))).1.length) ∨ ((rdN (rdN (rdW ((Av 32 bs, true) : RSt)))).2 = true ∧ (rdN (rdN (rdW ((Av 32 bs, true) : RSt)))).1.length = 0) from by exact Ig (rdN (rdN (rdW ((Av 32 bs, true) : RSt))))) with hc | hc | hc
  ·have e9 : Db bs = (zStep, 2) := ((Bk bs).trans (pl5 hk)).trans (Afl hc)
   rw [hc]
   refine ZbL ?_
   first | refine ob (q_notD) ?_ | refine ob (Ew) ?_
   refine Gd8 ?_
   refine ZaQ ?_
   exact D6 () Tryz.isAgg29 Tryz.sizeOf29
  ·have e9 : Db bs = (zStep, 2) := ((Bk bs).trans (pl5 hk)).trans (Afk hc.2)
   rw [hc.1]
   refine ZbL ?_
   first | refine ob (q_notD) ?_ | refine ob (Ew) ?_
   refine ZL ?_
   refine ob (Ai rfl rfl (Es (by have h9 : 0 < @List.length Wd (rdN (rdN (rdW ((Av 32 bs, true) : RSt)))).1 := hc.2; omega))) ?_
   refine Gd1 ?_
   refine ZaQ ?_
   exact D6 () Tryz.isAgg29 Tryz.sizeOf29
  ·have e9 := ((Bk bs).trans (pl5 hk)).trans (Afj hc.1 hc.2)
   rw [hc.1]
   refine ZbL ?_
   first | refine ob (q_notD) ?_ | refine ob (Ew) ?_
   refine ZL ?_
   refine ob (Ai rfl rfl (F5 (by have h9 : @List.length Wd (rdN (rdN (rdW ((Av 32 bs, true) : RSt)))).1 = 0 := hc.2; omega))) ?_
   refine Zav ?_
   refine s_B Tryz.sizeOf29 ?_
   refine Ga1 ?_
   rw [e9]
   exact D6 () Tryz.isAgg29 Tryz.sizeOf29
 ·have hk := hc
  obtain ⟨hq0, hq1, hq6, hq5⟩ := hc
  refine Aa ?_
  refine Gb2 ?_
  refine ZD ?_
  refine ZD ?_
  refine ZD ?_
  refine ZD ?_
  refine rn1 ?_
  refine Aj Tryz.call32 rfl (fun w hs => H1 (st := (rdW ((Av 32 bs, true) : RSt))) (Af hs) mm mm hB.w hN) ?_; intro g18
  refine rn1 ?_
  refine sc ?_
  refine Gl ?_
  rcases (show ((rdN (rdW ((Av 32 bs, true) : RSt))).2 = false) ∨ ((rdN (rdW ((Av 32 bs, true) : RSt))).2 = true ∧ 0 < (rdN (rdW ((Av 32 bs, true) : RSt))).1.length) ∨ ((rdN (rdW ((Av 32 bs, true) : RSt))).2 = true ∧ (rdN (rdW ((Av 32 bs, true) : RSt))).1.length = 0) from by exact Ig (rdN (rdW ((Av 32 bs, true) : RSt)))) with hc | hc | hc
  ·have e9 : Db bs = (zStep, 2) := ((Bk bs).trans (plE hk.1 hk.2.1 hk.2.2.1 hk.2.2.2)).trans (Afl hc)
   exact ZcG
  ·have e9 : Db bs = (zStep, 2) := ((Bk bs).trans (plE hk.1 hk.2.1 hk.2.2.1 hk.2.2.2)).trans (Afk hc.2)
   exact Zd1
  ·have e9 := ((Bk bs).trans (plE hk.1 hk.2.1 hk.2.2.1 hk.2.2.2)).trans (Afj hc.1 hc.2)
   exact Zd2
theorem Acx {t : Bs} (hs : St (L) R w) (hl : lbF ∈ R) (ht : t.length ≤ 16777215) : Calls Tryz.prog 6 [.string (Ba t)].toArray w (Bh (fun v : Value => .tuple #[v, vi (Cm t).2]) (fun v => L) (fun v => sl v (Cm t).1 :: R)) := by
 refine Ag Tryz.func6 rfl Tryz.ntmps6 rfl hs ?_
 clear hs
 refine Gm ?_
 refine Gb2 ?_
 refine Ga1 ?_
 refine Cn (γ := List Step × Value × Bs) (fun g => Cm t = Nh g.1 (Cm g.2.2) ∧ g.1.length + g.2.2.length ≤ t.length) (fun g => row 29 g.2.1 g.1 :: L) (fun _ => R) (fun g => [(0, .string (Ba g.2.2)), (4, g.2.1)]) (fun g => g.2.2.length) ([], .slice none 0 0, t) ⟨X5 t, by show 0 + t.length ≤ t.length; omega⟩ alT (fun w hs => hs.rowNil 29 Step) ?_
 rintro ⟨D, v, s⟩ ⟨he, hle⟩
 try simp only at he hle ⊢
 refine ZW ?_
 refine ob (q_s b_snD) ?_
 refine Gl ?_
 refine cdy ?_ ?_
 ·intro ht11
  refine Gl ?_
  rcases (show ((10 : UInt8) ∉ s) ∨ (∃ b r, s = b ++ 10 :: r ∧ (10 : UInt8) ∉ b) from by exact Acu ht11) with hc | hc
  ·skip
   refine ZB ?_
   refine Aj Tryz.call14 rfl (fun w hs => cCutF hs mm (by omega) hc) ?_; intro _
   refine rn3 ?_
   refine ob q_x ?_
   refine Gb3 ?_
   refine Gd2 ?_
   refine Ga2 ?_
   have e9 := prs_op he hc ht11
   rw [e9]
   refine Ax (.inr rfl) (fun B w hs => res2 rfl rfl rfl B w) (fun w hs => ⟨.slice none 0 0, rfl, Af (Up (α := Step) hs)⟩)
  ·obtain ⟨b, r, rfl, hb10⟩ := hc
   have hlen : (b ++ 10 :: r).length = b.length + (r.length + 1) := by simp only [List.length_append, List.length_cons]
   refine ZB ?_
   refine Aj Tryz.call14 rfl (fun w hs => cCutT hs mm (by omega) hb10) ?_; intro _
   refine rn3 ?_
   refine ob q_x ?_
   refine Gb3 ?_
   refine Gd2 ?_
   refine rn1 ?_
   refine Aj Tryz.call15 rfl (fun w hs => scLine (bs := b) hs mm (by omega)) ?_; intro _
   refine rn3 ?_
   refine al_ (cs := zStep.cells) Tryz.zeroValue29 ?_; intro b8
   refine s_B Tryz.sizeOf29 ?_
   refine Ga1 ?_
   rcases (show ((Db b).2 = 0) ∨ ((Db b).2 ≠ 0) from by exact Decidable.em _) with hc | hc
   ·have h70 := hc
    have hxw := Adz hc
    refine ZB ?_
    refine ob (Ai rfl rfl (Cf h70)) ?_
    refine Gmc ?_
    refine rn2 ?_
    refine li (α := Step) [(Db b).1] Afn rfl (fun j hj => ⟨⟨_, rfl, rfl, hxw⟩, trivial⟩) ?_; intro v30
    refine ap Afn (hb := fun w hs => by have : maxN = 16777216 := rfl; simp only [List.length_cons, List.length_nil]; omega) (k := ?_); intro v31
    refine Ga1 ?_
    refine kp [0, 2, 3, 4, 5, 6, 7, 8, 9, 10, 11, 12, 13, 14, 15, 16, 17, 18, 19, 20, 21, 22, 23, 24, 25, 26, 27, 28, 29, 30, 31, 32] ?_
    refine Aa ?_
    refine Ga2 ?_
    refine Br (D ++ [(Db b).1], v31, r) ⟨prs_ok he hb10 h70, by simp only [List.length_append, List.length_cons, List.length_nil] at hle ⊢; omega⟩ (by show r.length < (b ++ 10 :: r).length; simp only [List.length_append, List.length_cons]; omega) alT (fun w hs => Af hs)
   ·refine ZB ?_
    refine ob (Ai rfl rfl (Fs hc)) ?_
    refine Gmc ?_
    refine Ga3 ?_
    have e9 := prs_er he hb10 hc
    rw [e9]
    refine Ax (.inr rfl) (fun B w hs => res2 rfl rfl rfl B w) (fun w hs => ⟨.slice none 0 0, rfl, Af (Up (α := Step) hs)⟩)
 ·intro ht11
  refine Zau ?_
  have e9 := Ado he (Decidable.not_not.1 ht11)
  rw [e9]
  refine Ax (.inr rfl) (fun B w hs => res2 rfl rfl rfl B w) (fun w hs => ⟨v, rfl, Af hs.shut⟩)
end Go.Proofs.YtiofgjolhbgkiaaGreatDoor
namespace Go.Proofs.YtiofgjolhbgkiaaGreatDoor
open Go.Lib (itoa)
theorem G5 {s : Step} (h : A0 s) : Q4 s = ([], 1) := if_pos h
theorem Gk {s : Step} (h : ¬ A0 s) : Q4 s = (E7 (Az s), 0) := if_neg h
theorem Ph {s : Step} (h : s.kind = 1) (h2 : s.op.kind = 2 ∨ s.op.kind = 3) : Az s = ((([Bw s.kind] ++ [itoa s.node]) ++ [D7 s.op.kind]) ++ [itoa s.op.line]) ++ [itoa s.op.value] := by
 unfold Az Dj; rw [if_pos h, if_pos h2]; rfl
theorem Ub {s : Step} (h : s.kind = 1) (h2 : ¬ (s.op.kind = 2 ∨ s.op.kind = 3)) : Az s = (([Bw s.kind] ++ [itoa s.node]) ++ [D7 s.op.kind]) ++ [itoa s.op.line] := by
 unfold Az Dj; rw [if_pos h, if_neg h2]; rfl
theorem Abi {s : Step} (h : s.kind = 6) : Az s = [Bw s.kind] ++ [itoa s.node] := by
 unfold Az Dj; rw [if_neg (by omega), if_pos h]; rfl
theorem Abj {s : Step} (h : s.kind = 5) : Az s = ([Bw s.kind] ++ [itoa s.n]) ++ [itoa s.bit] := by
 unfold Az Dj; rw [if_neg (by omega), if_neg (by omega), if_pos h]; rfl
theorem Abh {s : Step} (h : s.kind ≠ 1) (h6 : s.kind ≠ 6) (h5 : s.kind ≠ 5) : Az s = [Bw s.kind] ++ [itoa s.n] := by
 unfold Az Dj; rw [if_neg h, if_neg h6, if_neg h5]; rfl
theorem U3 (s : Step) : s.kind < 1 ∨ 6 < s.kind ∨ (s.kind = 1 ∧ s.op.kind < 1) ∨ (s.kind = 1 ∧ 4 < s.op.kind) ∨ (s.kind = 1 ∧ 1 ≤ s.op.kind ∧ s.op.kind ≤ 4) ∨ (2 ≤ s.kind ∧ s.kind ≤ 6) := by omega
def Xl (l : List Bs) : Nat := (l.map fun w => w.length + 1).sum
theorem Ol : ∀ (l : List Bs), (E7 l).length ≤ Xl l
 | [] => Nat.le_refl _
 | [x] => by show x.length ≤ Xl [x]; unfold Xl; simp
 | x :: y :: r => by
  have ih := Ol (y :: r)
  show (x ++ 32 :: E7 (y :: r)).length ≤ Xl (x :: y :: r)
  unfold Xl at ih ⊢
  rw [List.length_append, List.length_cons, List.map_cons, List.sum_cons]; omega
theorem Ra {l : List Bs} (h : ∀ w ∈ l, w.length ≤ 5) (k : Nat) : (l.getD k []).length ≤ 5 := by
 rw [List.getD_eq_getElem?_getD]
 cases e : l[k]? with
 | none => simp
 | some w => exact h w (List.mem_of_getElem? e)
theorem Fo {s : Step} (hw : s.wf) : (G9 s).length ≤ 79 := by
 have h := Ol (Az s)
 have hk : (Bw s.kind).length ≤ 5 := Ra (by decide) _
 have ho : (D7 s.op.kind).length ≤ 5 := Ra (by decide) _
 obtain ⟨w1, w2, w3, w4, w5, w6, w7⟩ := hw
 have i2 := Go.Lib.itoa_length_le s.node w2.1 w2.2
 have i3 := Go.Lib.itoa_length_le s.n w3.1 w3.2
 have i4 := Go.Lib.itoa_length_le s.bit w4.1 w4.2
 have i6 := Go.Lib.itoa_length_le s.op.line w6.1 w6.2
 have i7 := Go.Lib.itoa_length_le s.op.value w7.1 w7.2
 unfold G9
 refine Nat.le_trans h ?_
 by_cases h1 : s.kind = 1
 ·by_cases h2 : s.op.kind = 2 ∨ s.op.kind = 3
  ·rw [Ph h1 h2]; simp [Xl]; omega
  ·rw [Ub h1 h2]; simp [Xl]; omega
 ·by_cases h6 : s.kind = 6
  ·rw [Abi h6]; simp [Xl]; omega
  ·by_cases h5 : s.kind = 5
   ·rw [Abj h5]; simp [Xl]; omega
   ·rw [Abh h1 h6 h5]; simp [Xl]; omega
theorem Nu : ∀ {l : List Step}, (∀ s ∈ l, s.wf) → (Et l).length ≤ 80 * l.length
 | [], _ => Nat.le_refl _
 | s :: r, h => by
  have ih := Nu (l := r) fun x hx => h x (List.mem_cons_of_mem _ hx)
  have := Fo (h s (List.mem_cons_self ..))
  rw [F8, List.length_append, List.length_cons, List.length_cons]; omega
theorem Lx {l : List Step} {k : Nat} (h : k < l.length) : Et (l.take (k + 1)) = (Et (l.take k) ++ G9 (l.getD k zStep)) ++ [10] := by
 have e : l.take (k + 1) = l.take k ++ [l.getD k zStep] := by
  rw [List.take_add_one, List.getD_eq_getElem?_getD, List.getElem?_eq_getElem h]; rfl
 rw [e, Nv, F8, List.append_assoc]; rfl
theorem R8 (l : List Step) (k : Nat) : (Et (l.take k)).length ≤ (Et l).length := by
 have : Et l = Et (l.take k) ++ Et (l.drop k) := by rw [← Nv, List.take_append_drop]
 rw [this, List.length_append]; omega
theorem Vx {l : List Step} {k : Nat} (h : ∀ s ∈ l.take k, ¬ A0 s) (hk : k < l.length) (hx : ¬ A0 (l.getD k zStep)) : ∀ s ∈ l.take (k + 1), ¬ A0 s := by
 have e : l.take (k + 1) = l.take k ++ [l.getD k zStep] := by
  rw [List.take_add_one, List.getD_eq_getElem?_getD, List.getElem?_eq_getElem hk]; rfl
 rw [e]; intro s hs
 exact Zd8
theorem Xo {l : List Step} {k : Nat} (hk : k < l.length) (hx : A0 (l.getD k zStep)) : Gz l = ([], 1) := Is ⟨_, by
 rw [List.getD_eq_getElem?_getD, List.getElem?_eq_getElem hk]; exact List.getElem_mem _, hx⟩
theorem Xp {l : List Step} (h : l ≠ []) : Et l ≠ [] := by
 cases l with
 | nil => exact absurd rfl h
 | cons s r => rw [F8]; simp
set_option maxHeartbeats 1000000
set_option maxRecDepth 8000
variable {L : List Chunk} {R : List Fact} {w : World}
theorem N2 {k : Int} (hs : St L R w) (h1 : 1 ≤ k) (h6 : k ≤ 6) : Calls Tryz.prog 22 [].toArray w (Bh (fun v : Value => v) (fun _ => L) (fun v => cF v 1 (k - 1).toNat [.string (Ba (Bw k))] :: sl (α := Wd) v kinds :: R)) :=
 O9 (Ur hs) fun v w hs => ⟨v, rfl, (St.open0 (α := Wd) (xs := kinds) (k - 1).toNat (.head _) (by show _ < 6; omega) hs).2⟩
theorem Acy {k : Int} (hs : St L R w) (h1 : 1 ≤ k) (h4 : k ≤ 4) : Calls Tryz.prog 25 [].toArray w (Bh (fun v : Value => v) (fun _ => L) (fun v => cF v 1 (k - 1).toNat [.string (Ba (D7 k))] :: sl (α := Wd) v opns :: R)) :=
 O9 (scOps hs) fun v w hs => ⟨v, rfl, (St.open0 (α := Wd) (xs := opns) (k - 1).toNat (.head _) (by show _ < 4; omega) hs).2⟩
theorem Oa {b : Nat} {v : Value} {ws : List Wd} {n : Int} (hs : St (blk b 77 [v] :: row 9 v ws :: L) R w) (hl : lbF ∈ R) (hn : An n) (hw : ws.length ≤ 100) : Calls Tryz.prog 23 [vi n, bp b 0].toArray w (Bh (fun g : Value => .tuple #[]) (fun g => blk b 77 [g] :: row 9 g (ws ++ [toW (Go.Lib.itoa n)]) :: L) (fun g => R)) := by
 refine Ag Tryz.func23 rfl Tryz.ntmps23 rfl hs ?_
 clear hs
 refine cq_ (blk b 77 [v] :: row 9 v ws :: L) ?_
 refine jd_ (fun ρ S => blk b 77 (bif S 5 then [(Gh.dec (γ := Value) (ρ 4))] else [v]) :: (bif S 4 then row 9 (Gh.dec (γ := Value) (ρ 4)) (ws ++ [toW (Go.Lib.itoa n)]) else row 9 v ws) :: L) ?_
 refine H6 (v := v) (fun ρ S hS hB hA => by have h5 : S 5 = false := hA 5 ⟨0, rfl⟩; simp only [h5, cond_false]; exact Cp (hc := Bg pkk (by repeat (first | exact rfl | refine Cr rfl ?_))) Tryz.isAgg77) (fun _ _ _ _ _ => rfl) ?_
 refine dn1 ?_
 refine Fr (γ := Unit) (val := fun _ => .string (Ba (Go.Lib.itoa n))) (F := fun _ => []) Tryz.call24 (fun _ => rfl) (fun ρ L R w hd hs => Agf hs (hd.base mm) hn) (fun _ _ _ _ _ => rfl) ?_
 refine Jq (α := Wd) [toW (Go.Lib.itoa n)] Oy rfl (fun _ => rfl) rfl (fun _ => rfl) rfl rfl (fun ρ R hd j hj => ⟨⟨_, rfl, rfl⟩, trivial⟩) (fun _ _ _ _ _ => rfl) ?_
 refine Dx (e := 9) (xs := ws) (ys := [toW (Go.Lib.itoa n)]) (v := v) Oy (fun _ => rfl) (fun _ => rfl) rfl (by decide) (fun ρ R hd => (hd.dep (it := ⟨3, _, _, _, _⟩) (by repeat (first | exact List.Mem.head _ | refine List.Mem.tail _ ?_)) ⟨9, rfl⟩ (List.Mem.head _))) (by have : maxN = 16777216 := rfl; simp only [List.length_append, List.length_cons, List.length_nil]; omega) (fun ρ g S hS hB hA => ?_) ?_
 ·have ui : upS S 4 4 = true := rfl; have u5 : upS S 4 5 = S 5 := rfl; have h5 : S 5 = false := hA 5 ⟨0, rfl⟩; have rs : (Gh.dec (γ := Value) (Rho.set ρ 4 (Gh.enc g) 4)) = g := rfl
  simp only [ui, hS, u5, h5, rs, cond_true, cond_false]
  exact pex
 refine Cy (T0 := 77) (f := 0) (vs := fun ρ => [v]) (v := fun ρ => (Gh.dec (γ := Value) (ρ 4))) (fun ρ => b) Tryz.sizeOf77 (fun _ => rfl) (fun _ => rfl) (fun ρ S R w L9 hB hd hs => by have h4 : S 4 = true := hB 4 ⟨9, rfl⟩; simp only [h4, cond_true] at hs; exact A8 pkk hs) (fun _ => rfl) (fun ρ g S hS hB hA => ?_) ?_
 ·have ui : upS S 5 5 = true := rfl; have u4 : upS S 5 4 = S 4 := rfl; have r4 : Rho.set ρ 5 g 4 = ρ 4 := rfl
  simp only [ui, hS, u4, r4, cond_true, cond_false]
  exact pex
 refine dnl ?_; intro ρ
 refine xq_ (blk b 77 [(Gh.dec (γ := Value) (ρ 4))] :: row 9 (Gh.dec (γ := Value) (ρ 4)) (ws ++ [toW (Go.Lib.itoa n)]) :: L) ?_
 generalize (Gh.dec (γ := Value) (ρ 3)) = v6
 generalize (Gh.dec (γ := Value) (ρ 4)) = v7
 refine Ax (.inl rfl) (fun B w hs => Gx rfl _ w) (fun w hs => ⟨v7, rfl, Af hs⟩)
theorem Us {s : Step} (hs : St (L) R w) (hl : lbF ∈ R) (hsw : s.wf) : Calls Tryz.prog 10 [.agg s.cells.toArray].toArray w (Bh (fun _ : Unit => .tuple #[.string (Ba (Q4 s).1), vi (Q4 s).2]) (fun _ => L) (fun _ => R)) := by
 refine Ag Tryz.func10 rfl Tryz.ntmps10 rfl hs ?_
 clear hs
 refine Gm ?_
 refine bx ?_; intro b1
 refine Ga2 ?_
 rcases (show (s.kind < 1) ∨ (6 < s.kind) ∨ (s.kind = 1 ∧ s.op.kind < 1) ∨ (s.kind = 1 ∧ 4 < s.op.kind) ∨ (s.kind = 1 ∧ 1 ≤ s.op.kind ∧ s.op.kind ≤ 4) ∨ (2 ≤ s.kind ∧ s.kind ≤ 6) from by exact U3 s) with hc | hc | hc | hc | hc | hc
 ·have hbad : A0 s := .inl hc
  refine Zay ?_
  refine Gd22 ?_
  exact Zd7
 ·have hbad : A0 s := .inr (.inl hc)
  refine ZaV ?_
  refine Gd18 ?_
  exact Zd7
 ·have hbad : A0 s := .inr (.inr ⟨hc.1, .inl hc.2⟩)
  refine Zah ?_
  refine ZF ?_
  refine ob (Ai rfl rfl (Aw hc.1)) ?_
  refine ZF ?_
  refine ob (Ai rfl rfl (Nl hc.2)) ?_
  refine Gd8 ?_
  exact Zd7
 ·have hbad : A0 s := .inr (.inr ⟨hc.1, .inr hc.2⟩)
  refine Zah ?_
  refine ZF ?_
  refine ob (Ai rfl rfl (Aw hc.1)) ?_
  refine Za4 ?_
  refine ob (Ai rfl rfl (Es hc.2)) ?_
  refine Gd3 ?_
  exact Zd7
 ·have hnb : ¬ A0 s := by unfold A0; omega
  have ht45_ : s.kind = 1 := hc.1
  have hk1 : 1 ≤ s.kind := by omega
  have hk2 : s.kind ≤ 6 := by omega
  refine Zah ?_
  refine ZF ?_
  refine ob (Ai rfl rfl (Aw hc.1)) ?_
  refine Zat ?_
  refine Gc3 ?_
  refine Zcb ?_
  refine e_pw (v := fun ρ => ep (Gh.dec (γ := Value) (ρ 0)) 1 (s.kind - 1).toNat 0) (fun ρ S R9 hd => Ip Sd (hl := D8 (α := Wd) (xs := kinds) (hd.dep (it := ⟨0, _, _, _, _⟩) (by repeat (first | exact List.Mem.head _ | refine List.Mem.tail _ ?_)) ⟨9, rfl⟩ (.tail _ (.head _)))) (h0 := by omega) (h1 := by show s.kind - 1 < ((6 : Nat) : Int); omega)) (Ind.gh (h := fun g => ep (Gh.dec (γ := Value) g) 1 (s.kind - 1).toNat 0) 0 0 rfl) (fun _ _ _ _ _ => rfl) ?_
  refine e_pw (v := fun ρ => .string (Ba (Bw s.kind))) (fun ρ S R9 hd => Cp Tryz.isAgg9 (hc := Abc (hd.dep (it := ⟨0, _, _, _, _⟩) (by repeat (first | exact List.Mem.head _ | refine List.Mem.tail _ ?_)) ⟨9, rfl⟩ (List.Mem.head _)) rfl)) (Ind.const _) (fun _ _ _ _ _ => rfl) ?_
  refine Zcd ?_
  refine Jr (cs := [.slice none 0 0]) Tryz.zeroValue77 rfl (fun ρ b S hS hA => ?_) ?_
  ·exact ZcZ
  refine Cy (T0 := 77) (f := 0) (vs := fun ρ => [.slice none 0 0]) (v := fun ρ => (Gh.dec (γ := Value) (ρ 6))) (fun ρ => (Gh.dec (γ := Nat) (ρ 7))) Tryz.sizeOf77 (fun _ => rfl) (fun _ => rfl) (fun ρ S R w L9 hB hd hs => hs.fact (hd.dep (it := ⟨6, _, _, _, _⟩) (by repeat (first | exact List.Mem.head _ | refine List.Mem.tail _ ?_)) ⟨9, rfl⟩ (List.Mem.head _))) (fun _ => rfl) (fun ρ g S hS hB hA => ?_) ?_
  ·exact Zde
  refine Zcc ?_;intro ρ v31 v37 b4
  refine ob (Ai rfl rfl (Aw hc.1)) ?_
  refine Gd1 ?_
  refine rn3 ?_
  refine Bt (γ := Value) (val := fun _ => .tuple #[]) (caps := [bp b4 0]) (vs := [vi s.node]) rfl Tryz.call23 rfl (fun w hs => Oa (b := b4) (v := v37) (ws := ([toW (Bw s.kind)] : List Wd)) (n := s.node) (Af hs) mm hsw.2.1 (by simp only [List.length_append, List.length_cons, List.length_nil]; omega)) ?_; intro v50
  refine Gl ?_
  have hk1 : 1 ≤ s.op.kind := hc.2.1
  have hk2 : s.op.kind ≤ 4 := hc.2.2
  refine cq_ (blk b4 77 [v50] :: row 9 v50 (([toW (Bw s.kind)] : List Wd) ++ [toW (Go.Lib.itoa s.node)]) :: blk b1 29 s.cells :: L) ?_
  refine jd_ (fun ρ S => blk b4 77 (bif S 10 then [(Gh.dec (γ := Value) (ρ 9))] else [v50]) :: (bif S 9 then row 9 (Gh.dec (γ := Value) (ρ 9)) ((([toW (Bw s.kind)] : List Wd) ++ [toW (Go.Lib.itoa s.node)]) ++ [toW (D7 s.op.kind)]) else row 9 v50 (([toW (Bw s.kind)] : List Wd) ++ [toW (Go.Lib.itoa s.node)])) :: blk b1 29 s.cells :: L) ?_
  refine H6 (v := v50) (fun ρ S hS hB hA => by have h10 : S 10 = false := hA 10 ⟨0, rfl⟩; simp only [h10, cond_false]; exact Cp (hc := Bg pkk (by repeat (first | exact rfl | refine Cr rfl ?_))) Tryz.isAgg77) (fun _ _ _ _ _ => rfl) ?_
  refine Fr (γ := Value) (val := fun v => v) (F := fun v => [cF v 1 (s.op.kind - 1).toNat [.string (Ba (D7 s.op.kind))], sl (α := Wd) v opns]) Tryz.call25 (fun _ => rfl) (fun ρ L R w hd hs => Acy hs hk1 hk2) (fun _ _ _ _ _ => rfl) ?_
  refine dn4 ?_
  refine e_pw (v := fun ρ => ep (Gh.dec (γ := Value) (ρ 1)) 1 (s.op.kind - 1).toNat 0) (fun ρ S R9 hd => Ip Sd (hl := D8 (α := Wd) (xs := opns) (hd.dep (it := ⟨1, _, _, _, _⟩) (by repeat (first | exact List.Mem.head _ | refine List.Mem.tail _ ?_)) ⟨9, rfl⟩ (.tail _ (.head _)))) (h0 := by omega) (h1 := by show s.op.kind - 1 < ((4 : Nat) : Int); omega)) (Ind.gh (h := fun g => ep (Gh.dec (γ := Value) g) 1 (s.op.kind - 1).toNat 0) 1 0 rfl) (fun _ _ _ _ _ => rfl) ?_
  refine e_pw (v := fun ρ => .string (Ba (D7 s.op.kind))) (fun ρ S R9 hd => Cp Tryz.isAgg9 (hc := Abc (hd.dep (it := ⟨1, _, _, _, _⟩) (by repeat (first | exact List.Mem.head _ | refine List.Mem.tail _ ?_)) ⟨9, rfl⟩ (List.Mem.head _)) rfl)) (Ind.const _) (fun _ _ _ _ _ => rfl) ?_
  refine Jq (α := Wd) [toW (D7 s.op.kind)] Oy rfl (fun _ => rfl) rfl (fun _ => rfl) rfl rfl (fun ρ R hd j hj => ⟨⟨_, rfl, rfl⟩, trivial⟩) (fun _ _ _ _ _ => rfl) ?_
  refine Dx (e := 9) (xs := (([toW (Bw s.kind)] : List Wd) ++ [toW (Go.Lib.itoa s.node)])) (ys := [toW (D7 s.op.kind)]) (v := v50) Oy (fun _ => rfl) (fun _ => rfl) rfl (by decide) (fun ρ R hd => (hd.dep (it := ⟨8, _, _, _, _⟩) (by repeat (first | exact List.Mem.head _ | refine List.Mem.tail _ ?_)) ⟨9, rfl⟩ (List.Mem.head _))) (by have : maxN = 16777216 := rfl; simp only [List.length_append, List.length_cons, List.length_nil]; omega) (fun ρ g S hS hB hA => ?_) ?_
  ·have ui : upS S 9 9 = true := rfl; have u10 : upS S 9 10 = S 10 := rfl; have h10 : S 10 = false := hA 10 ⟨0, rfl⟩; have rs : (Gh.dec (γ := Value) (Rho.set ρ 9 (Gh.enc g) 9)) = g := rfl
   simp only [ui, hS, u10, h10, rs, cond_true, cond_false]
   exact pex
  refine Cy (T0 := 77) (f := 0) (vs := fun ρ => [v50]) (v := fun ρ => (Gh.dec (γ := Value) (ρ 9))) (fun ρ => b4) Tryz.sizeOf77 (fun _ => rfl) (fun _ => rfl) (fun ρ S R w L9 hB hd hs => by have h9 : S 9 = true := hB 9 ⟨9, rfl⟩; simp only [h9, cond_true] at hs; exact A8 pkk hs) (fun _ => rfl) (fun ρ g S hS hB hA => ?_) ?_
  ·have ui : upS S 10 10 = true := rfl; have u9 : upS S 10 9 = S 9 := rfl; have r9 : Rho.set ρ 10 g 9 = ρ 9 := rfl
   simp only [ui, hS, u9, r9, cond_true, cond_false]
   exact pex
  refine dnl ?_; intro ρ
  refine xq_ (blk b4 77 [(Gh.dec (γ := Value) (ρ 9))] :: row 9 (Gh.dec (γ := Value) (ρ 9)) ((([toW (Bw s.kind)] : List Wd) ++ [toW (Go.Lib.itoa s.node)]) ++ [toW (D7 s.op.kind)]) :: blk b1 29 s.cells :: L) ?_
  generalize (Gh.dec (γ := Value) (ρ 1)) = v52
  generalize (Gh.dec (γ := Value) (ρ 8)) = v59
  generalize (Gh.dec (γ := Value) (ρ 9)) = v60
  refine Gm ?_
  refine rn4 ?_
  refine Bt (γ := Value) (val := fun _ => .tuple #[]) (caps := [bp b4 0]) (vs := [vi s.op.line]) rfl Tryz.call23 rfl (fun w hs => Oa (b := b4) (v := v60) (ws := ((([toW (Bw s.kind)] : List Wd) ++ [toW (Go.Lib.itoa s.node)]) ++ [toW (D7 s.op.kind)])) (n := s.op.line) (Af hs) mm hsw.2.2.2.2.2.1 (by simp only [List.length_append, List.length_cons, List.length_nil]; omega)) ?_; intro v65
  refine Gl ?_
  rcases (show (s.op.kind = 2) ∨ (s.op.kind = 3) ∨ (s.op.kind ≠ 2 ∧ s.op.kind ≠ 3) from by omega) with hc | hc | hc
  ·have ht75 : s.op.kind = 2 ∨ s.op.kind = 3 := .inl hc
   refine ZI ?_
   refine Df ?_
   refine Gc6 ?_
   exact ZcU
  ·have ht75 : s.op.kind = 2 ∨ s.op.kind = 3 := .inr hc
   refine ZI ?_
   refine Ay ?_
   refine ZF ?_
   refine Df ?_
   refine Gc1 ?_
   exact ZcU
  ·have ht75 : ¬ (s.op.kind = 2 ∨ s.op.kind = 3) := by omega
   refine ZI ?_
   refine Ay ?_
   refine ZF ?_
   refine Ay ?_
   refine Gc1 ?_
   have eW : Az s = (((([toW (Bw s.kind)] : List Wd) ++ [toW (Go.Lib.itoa s.node)]) ++ [toW (D7 s.op.kind)]) ++ [toW (Go.Lib.itoa s.op.line)]) := (Ub ht45_ ht75)
   have hLn : (E7 (((([toW (Bw s.kind)] : List Wd) ++ [toW (Go.Lib.itoa s.node)]) ++ [toW (D7 s.op.kind)]) ++ [toW (Go.Lib.itoa s.op.line)])).length ≤ 79 := by rw [← eW]; exact Fo hsw
   refine JC.shut (α := Wd) (v := v65) (xs := (((([toW (Bw s.kind)] : List Wd) ++ [toW (Go.Lib.itoa s.node)]) ++ [toW (D7 s.op.kind)]) ++ [toW (Go.Lib.itoa s.op.line)])) (T := 9) pkk ?_
   refine kp [2, 3, 4, 97, 98] ?_
   refine ZB ?_
   refine Aj Tryz.call26 rfl (fun w hs => Tz (l := (((([toW (Bw s.kind)] : List Wd) ++ [toW (Go.Lib.itoa s.node)]) ++ [toW (D7 s.op.kind)]) ++ [toW (Go.Lib.itoa s.op.line)])) hs mm (by rw [← eW]; exact Dn s) (Nat.le_trans hLn (by decide))) ?_; intro _
   exact Zd4
 ·have hnb : ¬ A0 s := by unfold A0; omega
  have hk1 : 1 ≤ s.kind := by omega
  have hk2 : s.kind ≤ 6 := hc.2
  refine Zah ?_
  refine ZF ?_
  refine Ay ?_
  refine Gc13 ?_
  refine Zcb ?_
  refine e_pw (v := fun ρ => ep (Gh.dec (γ := Value) (ρ 0)) 1 (s.kind - 1).toNat 0) (fun ρ S R9 hd => Ip Sd (hl := D8 (α := Wd) (xs := kinds) (hd.dep (it := ⟨0, _, _, _, _⟩) (by repeat (first | exact List.Mem.head _ | refine List.Mem.tail _ ?_)) ⟨9, rfl⟩ (.tail _ (.head _)))) (h0 := by omega) (h1 := by show s.kind - 1 < ((6 : Nat) : Int); omega)) (Ind.gh (h := fun g => ep (Gh.dec (γ := Value) g) 1 (s.kind - 1).toNat 0) 0 0 rfl) (fun _ _ _ _ _ => rfl) ?_
  refine e_pw (v := fun ρ => .string (Ba (Bw s.kind))) (fun ρ S R9 hd => Cp Tryz.isAgg9 (hc := Abc (hd.dep (it := ⟨0, _, _, _, _⟩) (by repeat (first | exact List.Mem.head _ | refine List.Mem.tail _ ?_)) ⟨9, rfl⟩ (List.Mem.head _)) rfl)) (Ind.const _) (fun _ _ _ _ _ => rfl) ?_
  refine Zcd ?_
  refine Jr (cs := [.slice none 0 0]) Tryz.zeroValue77 rfl (fun ρ b S hS hA => ?_) ?_
  ·exact ZcZ
  refine Cy (T0 := 77) (f := 0) (vs := fun ρ => [.slice none 0 0]) (v := fun ρ => (Gh.dec (γ := Value) (ρ 6))) (fun ρ => (Gh.dec (γ := Nat) (ρ 7))) Tryz.sizeOf77 (fun _ => rfl) (fun _ => rfl) (fun ρ S R w L9 hB hd hs => hs.fact (hd.dep (it := ⟨6, _, _, _, _⟩) (by repeat (first | exact List.Mem.head _ | refine List.Mem.tail _ ?_)) ⟨9, rfl⟩ (List.Mem.head _))) (fun _ => rfl) (fun ρ g S hS hB hA => ?_) ?_
  ·exact Zde
  refine Zcc ?_;intro ρ v31 v37 b4
  refine ZD ?_
  refine Ga2 ?_
  refine cdy ?_ ?_
  ·intro ht81
   refine ZI ?_
   refine Bt (γ := Value) (val := fun _ => .tuple #[]) (caps := [bp b4 0]) (vs := [vi s.node]) rfl Tryz.call23 rfl (fun w hs => Oa (b := b4) (v := v37) (ws := ([toW (Bw s.kind)] : List Wd)) (n := s.node) (Af hs) mm hsw.2.1 (by simp only [List.length_append, List.length_cons, List.length_nil]; omega)) ?_; intro v86
   refine Gl ?_
   have eW : Az s = (([toW (Bw s.kind)] : List Wd) ++ [toW (Go.Lib.itoa s.node)]) := (Abi ht81)
   have hLn : (E7 (([toW (Bw s.kind)] : List Wd) ++ [toW (Go.Lib.itoa s.node)])).length ≤ 79 := by rw [← eW]; exact Fo hsw
   refine JC.shut (α := Wd) (v := v86) (xs := (([toW (Bw s.kind)] : List Wd) ++ [toW (Go.Lib.itoa s.node)])) (T := 9) pkk ?_
   refine ZB ?_
   refine Aj Tryz.call26 rfl (fun w hs => Tz (l := (([toW (Bw s.kind)] : List Wd) ++ [toW (Go.Lib.itoa s.node)])) hs mm (by rw [← eW]; exact Dn s) (Nat.le_trans hLn (by decide))) ?_; intro _
   exact Zd4
  ·intro ht81
   refine ZE ?_
   refine cdy ?_ ?_
   ·intro ht87
    refine Gm ?_
    refine rn3 ?_
    refine Bt (γ := Value) (val := fun _ => .tuple #[]) (caps := [bp b4 0]) (vs := [vi s.n]) rfl Tryz.call23 rfl (fun w hs => Oa (b := b4) (v := v37) (ws := ([toW (Bw s.kind)] : List Wd)) (n := s.n) (Af hs) mm hsw.2.2.1 (by simp only [List.length_append, List.length_cons, List.length_nil]; omega)) ?_; intro v92
    refine Gm ?_
    refine rn3 ?_
    refine Bt (γ := Value) (val := fun _ => .tuple #[]) (caps := [bp b4 0]) (vs := [vi s.bit]) rfl Tryz.call23 rfl (fun w hs => Oa (b := b4) (v := v92) (ws := (([toW (Bw s.kind)] : List Wd) ++ [toW (Go.Lib.itoa s.n)])) (n := s.bit) (Af hs) mm hsw.2.2.2.1 (by simp only [List.length_append, List.length_cons, List.length_nil]; omega)) ?_; intro v96
    refine Gl ?_
    have eW : Az s = ((([toW (Bw s.kind)] : List Wd) ++ [toW (Go.Lib.itoa s.n)]) ++ [toW (Go.Lib.itoa s.bit)]) := (Abj ht87)
    have hLn : (E7 ((([toW (Bw s.kind)] : List Wd) ++ [toW (Go.Lib.itoa s.n)]) ++ [toW (Go.Lib.itoa s.bit)])).length ≤ 79 := by rw [← eW]; exact Fo hsw
    refine JC.shut (α := Wd) (v := v96) (xs := ((([toW (Bw s.kind)] : List Wd) ++ [toW (Go.Lib.itoa s.n)]) ++ [toW (Go.Lib.itoa s.bit)])) (T := 9) pkk ?_
    refine ZB ?_
    refine Aj Tryz.call26 rfl (fun w hs => Tz (l := ((([toW (Bw s.kind)] : List Wd) ++ [toW (Go.Lib.itoa s.n)]) ++ [toW (Go.Lib.itoa s.bit)])) hs mm (by rw [← eW]; exact Dn s) (Nat.le_trans hLn (by decide))) ?_; intro _
    exact Zd4
   ·intro ht87
    refine ZI ?_
    refine Bt (γ := Value) (val := fun _ => .tuple #[]) (caps := [bp b4 0]) (vs := [vi s.n]) rfl Tryz.call23 rfl (fun w hs => Oa (b := b4) (v := v37) (ws := ([toW (Bw s.kind)] : List Wd)) (n := s.n) (Af hs) mm hsw.2.2.1 (by simp only [List.length_append, List.length_cons, List.length_nil]; omega)) ?_; intro v44
    refine Gl ?_
    have eW : Az s = (([toW (Bw s.kind)] : List Wd) ++ [toW (Go.Lib.itoa s.n)]) := (Abh (by omega) ht81 ht87)
    have hLn : (E7 (([toW (Bw s.kind)] : List Wd) ++ [toW (Go.Lib.itoa s.n)])).length ≤ 79 := by rw [← eW]; exact Fo hsw
    refine JC.shut (α := Wd) (v := v44) (xs := (([toW (Bw s.kind)] : List Wd) ++ [toW (Go.Lib.itoa s.n)])) (T := 9) pkk ?_
    refine ZB ?_
    refine Aj Tryz.call26 rfl (fun w hs => Tz (l := (([toW (Bw s.kind)] : List Wd) ++ [toW (Go.Lib.itoa s.n)])) hs mm (by rw [← eW]; exact Dn s) (Nat.le_trans hLn (by decide))) ?_; intro _
    exact Zd4
end Go.Proofs.YtiofgjolhbgkiaaGreatDoor
namespace Go.Proofs.YtiofgjolhbgkiaaGreatDoor
open Go
variable {L : List Chunk} {R : List Fact} {w : World}
def pv (b : Nat) (u : Bool) : Value := bif u then bp b 0 else .pointer none
section
variable {P : Program} {n : Nat} {ops : Array Oper} {Q : Exit → Act → World → Prop} {rest : List Oper} {L L' : List Chunk} {R : List Fact} {al : List (Nat × Value)} {d : Nat} {x y : Operand} {T ty : TypeId} {pos : String} {aft : Array Edge}
theorem q_toU {src dst t : TypeId} {b : Nat} {T0 : TypeId} {vs : List Value} (hs : P.underlying src = some (.pointer t)) (hd : P.underlying dst = some .unsafePointer) (ht : (P.info? t).any (fun j => j.size != 0) = true) (hx : ev n al x = some (bp b 0)) (hp : Pick L (blk b T0 vs) L') (h0 : 0 < vs.length) :
  Ao P n al L R ⟨some d, .convert src dst x, ty, pos, aft, none⟩ (bp b 0) :=
 ⟨rfl, fun ρ w h hst => by
  show (convert src dst (ρ x) >>= fun v => Pure.pure (Next.value v)).run P w = _
  have hb : w.heap[b]? = some (.cells vs.toArray T0 (0, 0)) := (hst.pick hp).blk_get
  have hsh : w.shape? b = some (T0, vs.length) := by unfold World.shape?; rw [hb]; simp
  obtain ⟨j, hj, hjs⟩ : ∃ j, P.info? t = some j ∧ j.size ≠ 0 := by
   cases hi : P.info? t with
   | none => rw [hi] at ht; exact absurd ht (by simp)
   | some j => rw [hi] at ht; exact ⟨j, rfl, by simpa using ht⟩
  rw [h x (by simp [Op.operands]) _ hx, Sem.run_bind, show bp b 0 = .pointer (some ⟨b, 0, none⟩) from rfl, Lib.run_to_unsafe w ⟨b, 0, none⟩ hs hd hj hjs hsh h0]; rfl⟩
theorem Adn {src dst u : TypeId} {b : Nat} {T0 : TypeId} {vs : List Value} {k : Nat} (hs : P.underlying src = some .unsafePointer) (hd : P.underlying dst = some (.pointer u)) (hu : (P.info? u).isSome = true) (hk : vs.length = k) (hl : liesAt P P.depth T0 (k / P.cellsOf T0) 0 u 1 = true) (hx : ev n al x = some (bp b 0)) (hp : Pick L (blk b T0 vs) L') :
  Ao P n al L R ⟨some d, .convert src dst x, ty, pos, aft, none⟩ (bp b 0) :=
 ⟨rfl, fun ρ w h hst => by
  show (convert src dst (ρ x) >>= fun v => Pure.pure (Next.value v)).run P w = _
  have hb : w.heap[b]? = some (.cells vs.toArray T0 (0, 0)) := (hst.pick hp).blk_get
  have hsh : w.shape? b = some (T0, vs.length) := by unfold World.shape?; rw [hb]; simp
  obtain ⟨j, hj⟩ := Option.isSome_iff_exists.1 hu
  rw [h x (by simp [Op.operands]) _ hx, Sem.run_bind, show bp b 0 = .pointer (some ⟨b, 0, none⟩) from rfl, Lib.run_from_unsafe w ⟨b, 0, none⟩ hs hd hj hsh (by rw [hk]; exact hl)]; rfl⟩
theorem r_ext {f : FuncId} {fn : Func} {e : Array Value → Sem Value} {args : List Operand} {ts : Array TypeId} {vs : List Value} {v : Value} (hf : P.funcs[f]? = some fn) (hname : (fn.name == "runtime.NumGoroutine") = false) (hb : fn.body.isNone = true) (hn : Extern.findNext fn = none) (he : Extern.find fn = some e)
  (ha : evL n al args = some vs) (hv : ∀ w, (e vs.toArray).run P w = .ok v w) (k : J P n ops Q rest L R ((d, v) :: al)) : J P n ops Q (⟨some d, .call { callee := .value (.func f), args := args.toArray, argTypes := ts }, ty, pos, aft, none⟩ :: rest) L R al :=
 J.pure rfl rfl (fun B w hs => by
  have hcf : ∀ zs w', (callFunc f zs).run P w' = ((e zs).run P w').andThen fun v w' => .ok (.value v) w' := fun zs w' => run_callFunc_extern hf hname hb hn he zs w'
  have hρ : (mkA n al B).eval (.func f) = .func (.func f) #[] #[] := rfl
  simp only [execOp, resolve, hρ, Deferred.ofValue, invoke]
  simp [hcf, List.map_toArray, Jo ha, hv, Result.andThen]) k
theorem K5 {op : BinOp} {a b : Option Addr} (w : World) : (eqGuard op T x y (.pointer a) (.pointer b)).run P w = .ok () w := by unfold eqGuard; cases op <;> rfl
theorem Aav {tp te : TypeId} (hp : P.underlying tp = some (.pointer te)) (w : World) : (binOp .eql tp (.pointer none) (.pointer none)).run P w = .ok (.bool true) w := by
 have h : ∀ d : Nat, (Op.equalIn (d + 1) tp (.pointer none) (.pointer none)).run P w = .ok true w := fun d => by
  simp [Op.equalIn, run_underlying hp]
 simp only [binOp]
 simp [Op.equal, Op.maxDepth, h 9999]
theorem Aau {tp te : TypeId} {a : Addr} (hp : P.underlying tp = some (.pointer te)) (w : World) : (binOp .eql tp (.pointer (some a)) (.pointer none)).run P w = .ok (.bool false) w := by
 have h : ∀ d : Nat, (Op.equalIn (d + 1) tp (.pointer (some a)) (.pointer none)).run P w = .ok false w := fun d => by
  simp [Op.equalIn, run_underlying hp]
 simp only [binOp]
 simp [Op.equal, Op.maxDepth, h 9999]
theorem W4 {tp te : TypeId} {a : Addr} (hp : P.underlying tp = some (.pointer te)) (hte : (P.info? te).isSome = true) (w : World) : (binOp .neq tp (.pointer (some a)) (.pointer (some a))).run P w = .ok (.bool false) w := by
 obtain ⟨j, hj⟩ := Option.isSome_iff_exists.1 hte
 exact Lib.run_neq_ptr_same w a hp hj
theorem q_usd {v : Value} {bs : List UInt8} {ts : Array TypeId} {T0 : TypeId} (hx : ev n al x = some v) (hp : Pick L (row T0 v bs) L') (h0 : bs ≠ []) :
  Ao P n al L R ⟨some d, .call { callee := .builtin .unsafeSliceData, args := #[x], argTypes := ts }, ty, pos, aft, none⟩ (ep v 1 0 0) :=
 ⟨rfl, fun ρ w h hst => by
  have hx' := h x (by simp [Op.operands, Call.operands]) _ hx
  obtain ⟨m, j, _, _, _, hr, _⟩ := (hst.pick hp).head
  obtain ⟨_, ⟨_, hb⟩ | ⟨g, cap, cur, cs, hv, _, hcap, _⟩⟩ := hr
  ·exact absurd hb h0
  ·have hc : cap ≠ 0 := by
    have : 0 < bs.length := List.length_pos_iff.2 h0
    omega
   have e := Lib.run_unsafeSliceData_row (P := P) w ts ty ⟨g, 0, none⟩ bs.length cap hc
   rw [hv] at hx' ⊢
   simp [execOp, resolve, invoke, builtin, hx', e, ep, Addr.add]⟩
theorem r_ustr {v : Value} {bs : List UInt8} {pt it T0 : TypeId} (hpt : P.underlying pt = some (.pointer T0)) (hc : P.cellsOf T0 = 1) (hx : ev n al x = some (ep v 1 0 0)) (hy : ev n al y = some (vi (bs.length : Int))) (hp : Pick L (row T0 v bs) L') (h0 : bs ≠ [])
  (k : J P n ops Q rest L' R ((d, .string (Ba bs)) :: al)) : J P n ops Q (⟨some d, .call { callee := .builtin .unsafeString, args := #[x, y], argTypes := #[pt, it] }, ty, pos, aft, none⟩ :: rest) L R al :=
 J.yieldEx (γ := Unit) (v := fun _ => .string (Ba bs)) (L' := fun _ => L') (R' := fun _ => R) rfl rfl (fun B w hs => by
  obtain ⟨m, i, hd, hm, hi, ⟨m1, m2, hd', h1, h2, hr, hst⟩, hR⟩ := hs.pick hp
  obtain ⟨hml, ⟨_, hb⟩ | ⟨g, cap, cur, cs, hv, hg, hcap, hmx, hsz, htk, hrd⟩⟩ := hr
  ·exact absurd hb h0
  have hbw : w.heap[g]? = some (.cells cur T0 (0, 0)) := Ge (hm _ _ (h1 _ _ hg))
  have hsz1 : cur.size = cap := by rw [hsz]; show cap * 1 = cap; omega
  have hcells : ∀ (j : Nat) (u : UInt8), bs[j]? = some u → w.cell? ((⟨g, 0, none⟩ : Addr).add j) = some (.int .u8 u.toNat) := by
   intro j u hu
   obtain ⟨p, c, q, e1, e2, e3, _⟩ := hrd.get hu
   have hc' : c = [vb u] := e3
   have hp1 : p.length = j := by rw [e2]; show j * 1 = j; omega
   have hj : j < cs.length := by rw [e1, hc']; simp; omega
   have hcs : cs[j]? = some (vb u) := by rw [e1, hc', List.append_assoc, List.getElem?_append_right (by omega), show j - p.length = 0 by omega]; rfl
   rw [← htk, List.getElem?_take] at hcs
   split at hcs
   ·rw [Gi, Nat.zero_add]
    rw [Eg hbw, ← Array.getElem?_toList]; exact hcs
   ·cases hcs
  have h63 : bs.length ≤ 9223372036854775807 := by have : maxN = 16777216 := rfl; omega
  have e := Lib.run_unsafeString_row (P := P) w pt it ty T0 hpt hc g cap (by unfold World.shape?; rw [hbw, ← hsz1]) bs h0 hcap h63 hcells
  refine ⟨(), w.freeze ⟨g, 0, none⟩ bs.length, ?_, ?_⟩
  ·have ex := A5 (B := B) hx
   have ey := A5 (B := B) hy
   rw [hv] at ex
   have ex' : (mkA n al B).eval x = .pointer (some ⟨g, 0, none⟩) := by rw [ex]; simp [ep, Addr.add]
   simp [execOp, resolve, invoke, builtin, ex', ey, e, Ba]
  ·have hl : bs.length ≠ 0 := by simpa using h0
   have hput := St.put (c' := ⟨fun _ _ => True, fun _ _ _ _ _ => trivial⟩) (w' := w.freeze ⟨g, 0, none⟩ bs.length) (o' := .cells cur T0 (0, 0 + bs.length)) hd hm hi hd' h1 h2 hst hR hg (by
    unfold World.freeze; rw [if_neg hl]; simp only [Array.getElem?_modify, if_pos]; rw [hbw]; rfl) (fun x hx => by unfold World.freeze; rw [if_neg hl]; simp only [Array.getElem?_modify]; rw [if_neg (fun e => hx e.symm)]) (by unfold World.freeze; rw [if_neg hl]) (by unfold World.freeze; rw [if_neg hl]) trivial
   exact hput.sub (.drop .refl) (fun f h => h)) (fun _ => k)
end
set_option maxHeartbeats 1000000
set_option maxRecDepth 8000
theorem Wx {b : Nat} {u : Bool} {v : Value} (hs : St (blk b 55 [pv b u, v] :: L) R w) (hv : v.oneCell' = true) : Calls Tryz.prog 27 [bp b 0].toArray w (Bh (fun _ : Unit => .tuple #[]) (fun _ => blk b 55 [pv b true, v] :: L) (fun _ => R)) := by
 refine Ag Tryz.func27 rfl Tryz.ntmps27 rfl hs ?_
 clear hs
 refine Gl ?_
 rcases (show (u = true) ∨ (u = false) from by cases u <;> simp) with hc | hc
 ·subst hc
  refine ZG ?_
  refine ob (I1 rfl rfl K5 (Aau Tryz.underlying52)) ?_
  refine Gmc ?_
  refine rn5 ?_
  refine ob (I1 rfl rfl K5 (W4 Tryz.underlying52 (by kernel_rfl))) ?_
  refine Glc ?_
  exact ZdJ
 ·subst hc
  refine ZG ?_
  refine ob (I1 rfl rfl K5 (Aav Tryz.underlying52)) ?_
  refine Gmc ?_
  refine rn2 ?_
  refine ob (q_toU Tryz.underlying52 Tryz.underlying112 (by kernel_rfl) rfl pkk (by exact Nat.zero_lt_succ _)) ?_
  refine r_ext Tryz.func48 (by kernel_rfl) (by kernel_rfl) (by kernel_rfl) (e := Extern.AbiNoEscape.same) (by kernel_rfl) rfl (fun w => rfl) ?_
  refine ob (Adn Tryz.underlying112 Tryz.underlying52 (by kernel_rfl) (k := 2) rfl (by kernel_rfl) rfl pkk) ?_
  refine Zaa ?_
  exact ZdJ
theorem Agi {b : Nat} {u : Bool} {v : Value} {bs ys : List UInt8} (hs : St (blk b 55 [pv b u, v] :: row 5 v bs :: L) R w) (hn : bs.length + ys.length ≤ 16777216) : Calls Tryz.prog 11 [bp b 0, .string (Ba ys)].toArray w (Bh (fun g : Value => .tuple #[vi (ys.length : Int), .nilIface]) (fun g => blk b 55 [pv b true, g] :: row 5 g (bs ++ ys) :: L) (fun g => R)) := by
 refine Ag Tryz.func11 rfl Tryz.ntmps11 rfl hs ?_
 clear hs
 refine ZE ?_
 refine JC.know (p := v.oneCell' = true) (fun w hs => A8 pkk hs) (fun honev => ?_)
 refine ZB ?_
 refine Aj Tryz.call27 rfl (fun w hs => Wx (b := b) (u := u) (v := v) (Af hs) honev) ?_; intro _
 refine Gm ?_
 refine rn6 ?_
 refine U1 (xs := bs) (ys := ys) Ka Tryz.underlying9 rfl rfl pkk (by have : maxN = 16777216 := rfl; omega) ?_; intro v14
 refine rn2 ?_
 refine J.know (p := v14.oneCell' = true) (fun w hs => A8 pkk hs) (fun hone30 => ?_)
 refine s_b Tryz.sizeOf53 ?_
 intro cs_ hcs_; simp only [Nat.zero_add, Nat.add_zero, Nat.reduceAdd, List.set_cons_zero, List.set_cons_succ] at hcs_; subst hcs_
 refine ZW ?_
 refine ob (q_slen (l := ys) Tryz.underlying9) ?_
 refine Ga2 ?_
 exact Cl v14
theorem Aaq {b : Nat} {u : Bool} {v : Value} {bs : List UInt8} {c : UInt8} (hs : St (blk b 55 [pv b u, v] :: row 5 v bs :: L) R w) (hn : bs.length + 1 ≤ 16777216) : Calls Tryz.prog 12 [bp b 0, vb c].toArray w (Bh (fun g : Value => .nilIface) (fun g => blk b 55 [pv b true, g] :: row 5 g (bs ++ [c]) :: L) (fun g => R)) := by
 refine Ag Tryz.func12 rfl Tryz.ntmps12 rfl hs ?_
 clear hs
 refine ZC ?_
 refine JC.know (p := v.oneCell' = true) (fun w hs => A8 pkk hs) (fun honev => ?_)
 refine ZB ?_
 refine Aj Tryz.call27 rfl (fun w hs => Wx (b := b) (u := u) (v := v) (Af hs) honev) ?_; intro _
 refine Gm ?_
 refine rn6 ?_
 refine li (α := UInt8) [c] Ka rfl (fun j hj => ⟨⟨_, rfl, rfl⟩, trivial⟩) ?_; intro v13
 refine ap Ka (hb := fun w hs => by have : maxN = 16777216 := rfl; simp only [List.length_cons, List.length_nil]; omega) (k := ?_); intro v14
 refine rn2 ?_
 refine J.know (p := v14.oneCell' = true) (fun w hs => A8 pkk hs) (fun hone30 => ?_)
 refine s_b Tryz.sizeOf53 ?_
 intro cs_ hcs_; simp only [Nat.zero_add, Nat.add_zero, Nat.reduceAdd, List.set_cons_zero, List.set_cons_succ] at hcs_; subst hcs_
 refine ZC ?_
 exact Bz v14
theorem Ww {b : Nat} {u : Bool} {v : Value} {bs : List UInt8} (hs : St (blk b 55 [pv b u, v] :: row 5 v bs :: L) R w) (h0 : bs ≠ []) : Calls Tryz.prog 13 [bp b 0].toArray w (Bh (fun _ : Unit => .string (Ba bs)) (fun _ => L) (fun _ => R)) := by
 refine Ag Tryz.func13 rfl Tryz.ntmps13 rfl hs ?_
 clear hs
 refine ZC ?_
 refine Bl ?_
 refine dn4 ?_
 refine djc (fun _ _ => q_usd rfl pkk h0) ?_
 refine dn5 ?_
 refine dtl ?_; intro ρ
 refine r_ustr Tryz.underlying82 (by kernel_rfl) rfl rfl pkk h0 ?_
 refine Ga1 ?_
 exact Bz ()
section
variable {P : Program} {n : Nat} {ops : Array Oper} {L : List Chunk} {R : List Fact} {al : List (Nat × Value)} {d : Nat} {x y : Operand} {ty : TypeId} {pos : String} {aft : Array Edge}
theorem q_usd0 {ts : Array TypeId} (hx : ev n al x = some (.slice none 0 0)) :
  Ao P n al L R ⟨some d, .call { callee := .builtin .unsafeSliceData, args := #[x], argTypes := ts }, ty, pos, aft, none⟩ (.pointer none) :=
 ⟨rfl, fun ρ w h hst => by
  have hx' := h x (by simp [Op.operands, Call.operands]) _ hx
  have e := Lib.run_unsafeSliceData_nil (P := P) (w := w) ts ty 0 0
  simp [execOp, resolve, invoke, builtin, hx', e]⟩
theorem Adj {pt it : TypeId} (hx : ev n al x = some (.pointer none)) (hy : ev n al y = some (vi 0)) :
  Ao P n al L R ⟨some d, .call { callee := .builtin .unsafeString, args := #[x, y], argTypes := #[pt, it] }, ty, pos, aft, none⟩ (.string (Ba [])) :=
 ⟨rfl, fun ρ w h hst => by
  have hx' := h x (by simp [Op.operands, Call.operands]) _ hx
  have hy' := h y (by simp [Op.operands, Call.operands]) _ hy
  have e := Lib.run_unsafeString_none (P := P) (w := w) pt it ty none
  simp [execOp, resolve, invoke, builtin, hx', hy', e, show ByteArray.empty = Ba [] from rfl]⟩
end
theorem T1 {b : Nat} {u : Bool} (hs : St (blk b 55 [pv b u, (.slice none 0 0)] :: L) R w) : Calls Tryz.prog 13 [bp b 0].toArray w (Bh (fun _ : Unit => .string (Ba [])) (fun _ => L) (fun _ => R)) := by
 refine Ag Tryz.func13 rfl Tryz.ntmps13 rfl hs ?_
 clear hs
 refine ZC ?_
 refine Bl ?_
 refine dn4 ?_
 refine djc (fun _ _ => q_usd0 rfl) ?_
 refine dn4 ?_
 refine djc (fun _ _ => Mq (len := 0) Tryz.underlying53 (hl := fun w hs => ⟨none, 0, rfl, fun h => absurd h (Nat.lt_irrefl 0)⟩)) ?_
 refine dtl ?_; intro ρ
 refine ob (Adj rfl rfl) ?_
 refine Ga1 ?_
 exact Bz ()
theorem Xu {s : Step} (hs : St L R w) (hl : lbF ∈ R) (hsw : s.wf) (h : A0 s) : Calls Tryz.prog 10 [Value.agg s.cells.toArray].toArray w (Bh (fun _ : Unit => .tuple #[.string (Ba []), vi 1]) (fun _ => L) (fun _ => R)) := by
 have := Us hs hl hsw
 rw [G5 h] at this; exact this
theorem Xt {s : Step} (hs : St L R w) (hl : lbF ∈ R) (hsw : s.wf) (h : ¬ A0 s) : Calls Tryz.prog 10 [Value.agg s.cells.toArray].toArray w (Bh (fun _ : Unit => .tuple #[.string (Ba (G9 s)), vi 0]) (fun _ => L) (fun _ => R)) := by
 have := Us hs hl hsw
 rw [Gk h] at this; exact this
theorem sl_wfS {v : Value} {l : List Step} (hm : sl v l ∈ R) (hs : St L R w) : ∀ s ∈ l, s.wf := by
 intro s h
 obtain ⟨k, hk, e⟩ := List.mem_iff_getElem.1 h
 have := (St.open0 (xs := l) k hm hk hs).1
 rw [List.getD_eq_getElem?_getD, List.getElem?_eq_getElem hk] at this
 rw [← e]; exact this
theorem scText {v0 : Value} {l : List Step} (hs : St (L) R w) (hl : lbF ∈ R) (h0 : sl v0 l ∈ R) (hT : (Et l).length ≤ 16777000) : Calls Tryz.prog 5 [v0].toArray w (Bh (fun _ : Unit => .tuple #[.string (Ba (Gz l).1), vi (Gz l).2]) (fun _ => L) (fun _ => R)) := by
 have hll := Bv h0 hs
 refine Ag Tryz.func5 rfl Tryz.ntmps5 rfl hs ?_
 clear hs
 refine Gm ?_
 refine Gb2 ?_
 refine al_ (cs := [.pointer none, .slice none 0 0]) Tryz.zeroValue55 ?_; intro b4
 refine Zau ?_
 refine Cn (γ := Nat × Bool × Value) (fun g => g.1 ≤ l.length ∧ (∀ s ∈ l.take g.1, ¬ A0 s) ∧ (g.1 = 0 → g.2.2 = .slice none 0 0)) (fun g => blk b4 55 [pv b4 g.2.1, g.2.2] :: row 5 g.2.2 (Et (l.take g.1)) :: L) (fun _ => R) (fun g => [(4, bp b4 0), (9, v0), (10, vi (l.length : Int)), (11, vi (g.1 : Int))]) (fun g => l.length - g.1) (0, false, .slice none 0 0) ⟨Nat.zero_le _, by simp, fun _ => rfl⟩ alT (fun w hs => Af (hs.rowNil 5 UInt8)) ?_
 rintro ⟨k, u, v⟩ ⟨hk, hg, hz⟩
 try simp only at hk hg hz ⊢
 have hT9 := R8 l (k + 1)
 refine ZC ?_
 refine cdy ?_ ?_
 ·intro ht12
  refine Gl ?_
  refine JC.open0 (xs := l) (v := v0) k mm (by omega) (fun hwk => ?_)
  refine ZA ?_
  refine al_ (cs := zStep.cells) Tryz.zeroValue29 ?_; intro b6
  refine s_B Tryz.sizeOf29 ?_
  refine Gl ?_
  rcases (show (A0 (l.getD k zStep)) ∨ (¬ A0 (l.getD k zStep)) from by exact Decidable.em _) with hc | hc
  ·skip
   refine ZB ?_
   refine Aj Tryz.call10 rfl (fun w hs => Xu hs mm hwk hc) ?_; intro _
   refine Gb5 ?_
   refine rn1 ?_
   refine oneqT ?_
   refine Gmc ?_
   refine Ga3 ?_
   rw [Xo (by omega) hc]
   exact Cl ()
  ·have hx9 := congrArg List.length (Lx (l := l) (k := k) (by omega))
   rw [List.length_append, List.length_append] at hx9
   refine ZB ?_
   refine Aj Tryz.call10 rfl (fun w hs => Xt hs mm hwk hc) ?_; intro _
   refine Gb5 ?_
   refine rn1 ?_
   refine ZU ?_
   refine Zaw ?_
   refine Aj Tryz.call11 rfl (fun w hs => Agi (b := b4) (u := u) (v := v) (bs := Et (l.take k)) (ys := G9 (l.getD k zStep)) (Af hs) (by simp only [List.length_cons, List.length_nil] at hx9; omega)) ?_; intro v24
   refine Gm ?_
   refine Aj Tryz.call12 rfl (fun w hs => Aaq (b := b4) (u := true) (v := v24) (bs := Et (l.take k) ++ G9 (l.getD k zStep)) (c := 10) (Af hs) (by rw [List.length_append]; simp only [List.length_cons, List.length_nil] at hx9; omega)) ?_; intro v25
   refine ZE ?_
   refine Br (k + 1, true, v25) ⟨by show k + 1 ≤ l.length; omega, Vx hg (by omega) hc, fun h => absurd h (Nat.succ_ne_zero k)⟩ (by show l.length - (k + 1) < l.length - k; omega) alT (fun w hs => ?_)
   try simp only
   rw [Lx (by omega)]; exact Af hs
 ·intro ht12
  refine Gl ?_
  rcases (show (l = []) ∨ (l ≠ []) from by exact Decidable.em _) with hc | hc
  ·have hk0 : k = 0 := by rw [hc] at hk; exact Nat.le_zero.1 hk
   obtain rfl := hz hk0
   refine Aa ?_
   refine Aj Tryz.call13 rfl (fun w hs => T1 (b := b4) (u := u) (Af hs)) ?_; intro _
   refine Ga2 ?_
   rw [hc]
   exact Cl ()
  ·have hkl : k = l.length := by omega
   subst hkl
   rw [List.take_length] at hg ⊢
   refine Aa ?_
   refine Aj Tryz.call13 rfl (fun w hs => Ww (b := b4) (u := u) (v := v) (bs := Et l) (Af hs) (Xp hc)) ?_; intro _
   refine Ga2 ?_
   rw [Hi hg]
   exact Cl ()
end Go.Proofs.YtiofgjolhbgkiaaGreatDoor
namespace Go.Proofs.YtiofgjolhbgkiaaGreatDoor
theorem Vb {l : List Step} (hw : ∀ x ∈ l, x.wf) (h : ∀ s ∈ l, ¬ A0 s) : Cm (Et l) = (l.map Dw, 0) ∧ Gz (l.map Dw) = (Et l, 0) := turns hw (Hi h)
set_option maxHeartbeats 1000000
set_option maxRecDepth 8000
variable {L : List Chunk} {R : List Fact} {w : World}
theorem parseT {t : Bs} {m : List Step} {e : Int} (h : Cm t = (m, e)) (hs : St L R w) (hl : lbF ∈ R) (ht : t.length ≤ 16777215) : Calls Tryz.prog 6 [.string (Ba t)].toArray w (Bh (fun v : Value => .tuple #[v, vi e]) (fun _ => L) (fun v => sl v m :: R)) := by
 have := Acx hs hl ht
 rw [h] at this; exact this
theorem textT {v0 : Value} {l : List Step} {t : Bs} {e : Int} (h : Gz l = (t, e)) (hs : St L R w) (hl : lbF ∈ R) (h0 : sl v0 l ∈ R) (hT : (Et l).length ≤ 16777000) : Calls Tryz.prog 5 [v0].toArray w (Bh (fun _ : Unit => .tuple #[.string (Ba t), vi e]) (fun _ => L) (fun _ => R)) := by
 have := scText hs hl h0 hT
 rw [h] at this; exact this
def tsL : List Step := [⟨1, 0, 0, 0, ⟨1, 0, 0⟩⟩]
def tsX : Chip := (Al (Gp 1 1) ⟨1, 0, 0, 0, ⟨1, 0, 0⟩⟩).1
def tsAns : List Answer := [⟨0, 0⟩]
theorem ts_ps : As ⟨1, 1⟩ tsL = (tsX, tsAns, [], 0) := Prod.ext rfl (by decide +kernel)
theorem ts_inv : ∃ M, Inv 1 1 tsX M := by
 obtain ⟨M, h, _⟩ := On (Vm (n := 1) (nl := 1) (by decide) (by decide)) (s := ⟨1, 0, 0, 0, ⟨1, 0, 0⟩⟩) (by decide)
 exact ⟨M, h⟩
theorem ts_1 : ((G2 tsX).2.1.length : Int) = 1 := by decide +kernel
theorem ts_2 : (0 : Int) < ((G2 tsX).2.2 : Int) := by decide +kernel
theorem ts_3 : ((G2 tsX).1.cores.length : Int) = 1 := by decide +kernel
def okV (x : Step) : Prop := x.kind = 1 → x.op.kind = 1 ∨ x.op.kind = 4 → x.op.value = 0
theorem Ke {l : List Step} {k : Nat} (h : ∀ s ∈ l.take k, okV s) (hk : k < l.length) (hx : okV (l.getD k zStep)) : ∀ s ∈ l.take (k + 1), okV s := by
 rw [J4 zStep hk]; intro s hs
 exact Zd8
theorem Xs (x : Step) : x.kind ≠ 1 ∨ (x.kind = 1 ∧ x.op.kind = 1 ∧ x.op.value ≠ 0) ∨ (x.kind = 1 ∧ x.op.kind = 1 ∧ x.op.value = 0) ∨ (x.kind = 1 ∧ x.op.kind = 4 ∧ x.op.value ≠ 0) ∨ (x.kind = 1 ∧ x.op.kind = 4 ∧ x.op.value = 0) ∨ (x.kind = 1 ∧ x.op.kind ≠ 1 ∧ x.op.kind ≠ 4) := by omega
theorem Uf (l : List Step) : (∀ s ∈ l, ¬ A0 s) ∨ ∃ s ∈ l, A0 s := (Kl l).imp (fun h => h.1) fun h => h.1
theorem opTs {p kind line v : Int} (hs : St (L) R w) : Calls Tryz.prog 8 [vi p, vi kind, vi line, vi v].toArray w (Bh (fun _ : Unit => .agg (Step.cells ⟨1, p, 0, 0, ⟨kind, line, v⟩⟩).toArray) (fun _ => L) (fun _ => R)) := by
 refine Ag Tryz.func8 rfl Tryz.ntmps8 rfl hs ?_
 clear hs
 refine Gm ?_
 refine al_ (cs := zStep.cells) Tryz.zeroValue29 ?_; intro b8
 refine Gm ?_
 refine rn6 ?_
 refine s_B (cs := (⟨1, p, 0, 0, ⟨kind, line, v⟩⟩ : Step).cells) Tryz.sizeOf29 ?_
 refine Gl ?_
 exact Sp () Tryz.isAgg29 Tryz.sizeOf29
theorem Ags  (hs : St (L) R w) : Calls Tryz.prog 4 [].toArray w (Bh (fun _ : Unit => .bool true) (fun _ => L) (fun _ => R)) := by
 obtain ⟨M, hI⟩ := ts_inv
 refine Ag Tryz.func4 rfl Tryz.ntmps4 rfl hs ?_
 clear hs
 refine Zaz ?_
 refine Aj Tryz.call8 rfl (fun w hs => opTs (p := 0) (kind := 1) (line := 0) (v := 0) hs) ?_; intro _
 refine li (α := Step) tsL Afn rfl (fun j hj => ⟨⟨_, rfl, rfl, by unfold Step.wf An; decide⟩, trivial⟩) ?_; intro v11
 refine Aj Tryz.call7 rfl (fun w hs => by have h := Jj (c := ⟨1, 1⟩) (l := tsL) hs mm (by unfold Config.wf An; decide); rw [ts_ps] at h; exact h) ?_; intro v12
 refine J.know (p := v12.1.oneCell' = true ∧ v12.2.1.oneCell' = true ∧ v12.2.2.1.oneCell' = true) (fun w hs => ⟨isSlice.one (hs.fact (.head _)), isSlice.one (hs.fact (.tail _ (.head _))), isSlice.one (hs.fact (.tail _ (.tail _ (.head _))))⟩) (fun h12 => ?_)
 obtain ⟨honev121, honev122, honev123⟩ := h12
 refine rn5 ?_
 refine al_ (cs := [.slice none 0 0, .slice none 0 0, .slice none 0 0]) Tryz.zeroValue39 ?_; intro b1
 refine s_B (cs := [v12.1, v12.2.1, v12.2.2.1]) Tryz.sizeOf39 ?_
 refine Gb3 ?_
 refine rn1 ?_
 refine Aj Tryz.call9 rfl (fun w hs => Uv (x := tsX) hs mm mm mm hI) ?_; intro v19
 refine J.know (p := v19.1.oneCell' = true ∧ v19.2.1.oneCell' = true ∧ v19.2.2.1.oneCell' = true) (fun w hs => ⟨isSlice.one (hs.fact (.head _)), isSlice.one (hs.fact (.tail _ (.head _))), isSlice.one (hs.fact (.tail _ (.tail _ (.head _))))⟩) (fun h12 => ?_)
 obtain ⟨honev191, honev192, honev193⟩ := h12
 refine rn4 ?_
 refine ZbP ?_;intro b5
 refine s_B (cs := [v19.1, v19.2.1, v19.2.2.1]) Tryz.sizeOf39 ?_
 refine Gb2 ?_
 refine rn1 ?_
 refine ob (Ai rfl rfl (Aw rfl)) ?_
 refine Zad ?_
 refine ob (Ai rfl rfl (Aw rfl)) ?_
 refine ZF ?_
 refine ob (Ai rfl rfl (Aw ts_1)) ?_
 refine Zad ?_
 refine ob (Ai rfl rfl (Es ts_2)) ?_
 refine Zac ?_
 refine ob (Ai rfl rfl (Aw ts_3)) ?_
 refine Ga2 ?_
 exact Bz ()
theorem Lo {v1 : Value} {c : Config} {l : List Step} (hs : St (L) R w) (h0 : sl v1 l ∈ R) (hl : lbF ∈ R) (hn : l.length ≤ 174763) (hcw : c.wf) : Calls Tryz.prog 3 [.agg c.cells.toArray, v1].toArray w (Bh (fun _ : Unit => .bool true) (fun _ => L) (fun _ => R)) := by
 have hwl := sl_wfS h0 hs
 have hT9 := Nu hwl
 refine Ag Tryz.func3 rfl Tryz.ntmps3 rfl hs ?_
 clear hs
 refine Gm ?_
 refine bx ?_; intro b2
 refine Gb1 ?_
 refine Aj Tryz.call4 rfl (fun w hs => Ags hs) ?_; intro _
 refine Gd1 ?_
 refine Ga3 ?_
 refine Cn (γ := Nat) (fun k => k ≤ l.length ∧ ∀ x ∈ l.take k, okV x) (fun _ => blk b2 23 c.cells :: L) (fun _ => R) (fun k => [(1, v1), (2, bp b2 0), (21, v1), (22, vi (l.length : Int)), (23, vi (k : Int))]) (fun k => l.length - k) 0 ⟨Nat.zero_le _, by simp⟩ alT (fun w hs => Af hs) ?_
 rintro k ⟨hk, hok⟩
 refine ZC ?_
 refine cdy ?_ ?_
 ·intro ht24
  refine Gl ?_
  refine JC.open0 (xs := l) (v := v1) k mm (by omega) (fun _ => ?_)
  refine ZA ?_
  refine al_ (cs := zStep.cells) Tryz.zeroValue29 ?_; intro b6
  refine s_B Tryz.sizeOf29 ?_
  refine Gl ?_
  rcases (show ((l.getD k zStep).kind ≠ 1) ∨ ((l.getD k zStep).kind = 1 ∧ (l.getD k zStep).op.kind = 1 ∧ (l.getD k zStep).op.value ≠ 0) ∨ ((l.getD k zStep).kind = 1 ∧ (l.getD k zStep).op.kind = 1 ∧ (l.getD k zStep).op.value = 0) ∨ ((l.getD k zStep).kind = 1 ∧ (l.getD k zStep).op.kind = 4 ∧ (l.getD k zStep).op.value ≠ 0) ∨ ((l.getD k zStep).kind = 1 ∧ (l.getD k zStep).op.kind = 4 ∧ (l.getD k zStep).op.value = 0) ∨ ((l.getD k zStep).kind = 1 ∧ (l.getD k zStep).op.kind ≠ 1 ∧ (l.getD k zStep).op.kind ≠ 4) from by exact Xs _) with hc | hc | hc | hc | hc | hc
  ·have hx : okV (l.getD k zStep) := fun h => absurd h hc
   refine ZA ?_
   refine ob (Ai rfl rfl (A1 hc)) ?_
   refine Gc18 ?_
   exact ZcO
  ·refine Zbp ?_
   refine ob (Ai rfl rfl (Aw hc.2.1)) ?_
   refine rn11 ?_
   refine gy ?_
   refine Zcm ?_
   exact Bz ()
  ·have hx : okV (l.getD k zStep) := fun _ _ => hc.2.2
   refine Zbp ?_
   refine ob (Ai rfl rfl (Aw hc.2.1)) ?_
   refine rn11 ?_
   refine gy ?_
   refine ob (Ai rfl rfl (Cf hc.2.2)) ?_
   refine Gc1 ?_
   exact ZcO
  ·refine Zcs ?_
   refine Zcm ?_
   exact Bz ()
  ·have hx : okV (l.getD k zStep) := fun _ _ => hc.2.2
   refine Zcs ?_
   refine ob (Ai rfl rfl (Cf hc.2.2)) ?_
   refine Gc1 ?_
   exact ZcO
  ·have hx : okV (l.getD k zStep) := fun _ h => h.elim (fun h => absurd h hc.2.1) fun h => absurd h hc.2.2
   refine Zbp ?_
   refine ob (Ai rfl rfl (A1 hc.2.1)) ?_
   refine ZF ?_
   refine ob (Ai rfl rfl (A1 hc.2.2)) ?_
   refine Gc8 ?_
   exact ZcO
 ·intro ht24
  refine Gl ?_
  have hall : ∀ x ∈ l, okV x := by rwa [List.take_of_length_le (by omega)] at hok
  rcases (show (∀ s ∈ l, ¬ A0 s) ∨ (∃ s ∈ l, A0 s) from by exact Uf l) with hc | hc
  ·have hnb := Vb hwl hc
   have hnp : As c (l.map Dw) = As c l := Va fun s hs => ⟨hc s hs, hall s hs⟩
   have e1 := Hi hc
   refine ZB ?_
   refine Aj Tryz.call5 rfl (fun w hs => textT e1 hs mm mm (by omega)) ?_; intro _
   refine Gb5 ?_
   refine rn1 ?_
   refine ZU ?_
   refine Zaw ?_
   refine Aj Tryz.call6 rfl (fun w hs => parseT hnb.1 hs mm (by omega)) ?_; intro v58
   refine Gb5 ?_
   refine rn1 ?_
   refine ZU ?_
   refine Gmc ?_
   refine rn2 ?_
   refine Aj Tryz.call7 rfl (fun w hs => Jj (c := c) (l := l) hs mm hcw) ?_; intro v66
   refine J.know (p := v66.1.oneCell' = true ∧ v66.2.1.oneCell' = true ∧ v66.2.2.1.oneCell' = true) (fun w hs => ⟨isSlice.one (hs.fact (.head _)), isSlice.one (hs.fact (.tail _ (.head _))), isSlice.one (hs.fact (.tail _ (.tail _ (.head _))))⟩) (fun h12 => ?_)
   obtain ⟨honev661, honev662, honev663⟩ := h12
   refine rn5 ?_
   refine al_ (cs := [.slice none 0 0, .slice none 0 0, .slice none 0 0]) Tryz.zeroValue39 ?_; intro b10
   refine s_B (cs := [v66.1, v66.2.1, v66.2.2.1]) Tryz.sizeOf39 ?_
   refine Ga3 ?_
   refine kp [2, 4, 8, 9, 11, 12, 13, 14, 15, 16, 71, 72, 73, 74, 75, 76, 77, 78] ?_
   refine ZA ?_
   refine Aj Tryz.call7 rfl (fun w hs => by have h := Jj (c := c) (l := l.map Dw) hs mm hcw; rw [hnp] at h; exact h) ?_; intro v74
   refine J.know (p := v74.1.oneCell' = true ∧ v74.2.1.oneCell' = true ∧ v74.2.2.1.oneCell' = true) (fun w hs => ⟨isSlice.one (hs.fact (.head _)), isSlice.one (hs.fact (.tail _ (.head _))), isSlice.one (hs.fact (.tail _ (.tail _ (.head _))))⟩) (fun h12 => ?_)
   obtain ⟨honev741, honev742, honev743⟩ := h12
   refine rn5 ?_
   refine al_ (cs := [.slice none 0 0, .slice none 0 0, .slice none 0 0]) Tryz.zeroValue39 ?_; intro b13
   refine s_B (cs := [v74.1, v74.2.1, v74.2.2.1]) Tryz.sizeOf39 ?_
   refine Gb3 ?_
   refine rn2 ?_
   refine ZU ?_
   refine Zac ?_
   refine ZU ?_
   refine ZL ?_
   refine ZU ?_
   refine Gd1 ?_
   refine Ga3 ?_
   refine Cn (γ := Nat) (fun i => i ≤ (As c l).2.1.length) (fun _ => L) (fun _ => sl v66.2.2.2.1 (As c l).2.1 :: sl v66.2.2.2.2 (As c l).2.2.1 :: sl v74.2.2.2.1 (As c l).2.1 :: sl v74.2.2.2.2 (As c l).2.2.1 :: R) (fun i => [(11, v66.2.2.2.1), (12, v66.2.2.2.2), (14, v74.2.2.2.1), (15, v74.2.2.2.2), (97, vi ((As c l).2.1.length : Int)), (98, vi (i : Int))]) (fun i => (As c l).2.1.length - i) 0 (Nat.zero_le _) alT (fun w hs => Af hs) ?_
   intro i hi
   refine JC.know (p := (As c l).2.1.length ≤ 16777216) (fun w hs => Bv (xs := (As c l).2.1) (v := v66.2.2.2.1) mm hs) (fun hla => ?_)
   refine Gl ?_
   refine kp [4, 11, 12, 14, 15, 97, 98, 99] ?_
   refine Aa ?_
   refine Ga1 ?_
   refine cdy ?_ ?_
   ·intro ht99
    refine ZE ?_
    refine JC.open0 (xs := (As c l).2.1) (v := v66.2.2.2.1) i mm (by omega) (fun _ => ?_)
    refine JC.open0 (xs := (As c l).2.1) (v := v74.2.2.2.1) i mm (by omega) (fun _ => ?_)
    refine Bl ?_
    refine Afr ?_
    refine djc (fun _ _ => Ai rfl rfl (Cf rfl)) ?_
    refine dnl ?_; intro ρ
    refine Gmc ?_
    refine Ga2 ?_
    refine Br (i + 1) (by show i + 1 ≤ (As c l).2.1.length; omega) (by show (As c l).2.1.length - (i + 1) < (As c l).2.1.length - i; omega) alT (fun w hs => Af hs)
   ·intro ht99
    refine Zau ?_
    refine Cn (γ := Nat) (fun i => i ≤ (As c l).2.2.1.length) (fun _ => L) (fun _ => sl v66.2.2.2.1 (As c l).2.1 :: sl v66.2.2.2.2 (As c l).2.2.1 :: sl v74.2.2.2.1 (As c l).2.1 :: sl v74.2.2.2.2 (As c l).2.2.1 :: R) (fun i => [(12, v66.2.2.2.2), (15, v74.2.2.2.2), (114, vi ((As c l).2.2.1.length : Int)), (115, vi (i : Int))]) (fun i => (As c l).2.2.1.length - i) 0 (Nat.zero_le _) alT (fun w hs => Af hs) ?_
    intro i hi
    refine JC.know (p := (As c l).2.2.1.length ≤ 16777216) (fun w hs => Bv (xs := (As c l).2.2.1) (v := v66.2.2.2.2) mm hs) (fun hla => ?_)
    refine ZC ?_
    refine cdy ?_ ?_
    ·intro ht116
     refine ZE ?_
     refine JC.open0 (xs := (As c l).2.2.1) (v := v66.2.2.2.2) i mm (by omega) (fun _ => ?_)
     refine JC.open0 (xs := (As c l).2.2.1) (v := v74.2.2.2.2) i mm (by omega) (fun _ => ?_)
     refine Bl ?_
     refine Afr ?_
     refine djc (fun _ _ => Ai rfl rfl (Cf rfl)) ?_
     refine djm ?_
     refine Afr ?_
     refine dj (dgy ?_)
     refine dc (fun _ _ => Ai rfl rfl (Cf rfl)) ?_
     refine djf ?_
     refine dnl ?_; intro ρ
     refine Glc ?_
     refine kp [4, 12, 15, 18, 114, 115, 116, 117, 118, 119, 120, 121, 122, 123, 124, 125, 126, 127, 128, 129, 130, 131, 132, 133, 134, 135, 136, 137, 138, 139, 140, 141, 142] ?_
     refine Aa ?_
     refine Ga2 ?_
     refine Br (i + 1) (by show i + 1 ≤ (As c l).2.2.1.length; omega) (by show (As c l).2.2.1.length - (i + 1) < (As c l).2.2.1.length - i; omega) alT (fun w hs => Af hs)
    ·intro ht116
     refine ZC ?_
     exact Bz ()
  ·have e1 := Is hc
   refine ZB ?_
   refine Aj Tryz.call5 rfl (fun w hs => textT e1 hs mm mm (by omega)) ?_; intro _
   refine Gb5 ?_
   refine rn1 ?_
   refine ob (Ai rfl rfl (Fs (by decide))) ?_
   refine Gmc ?_
   refine Ga1 ?_
   exact Bz ()
end Go.Proofs.YtiofgjolhbgkiaaGreatDoor
