/- This file proves parts of what its law needs: each part is told ahead of it. No conditions. -/
import Derived.Test.YtehpekiedfpnkaaXM5
import Derived.Test.YtehpekiedfpnkaaXM3
import Derived.Test.YtehpekiedfpnkaaXM4
import Derived.Test.YtehpekiedfpnkaaXM1
import Derived.Test.YtehpekiedfpnkaaXM2
import Derived.MapKept
set_option linter.unusedVariables false
set_option linter.unusedSimpArgs false
set_option maxHeartbeats 1000000
set_option maxRecDepth 8000
namespace Go.Proofs.Ytehpekiedfpnkaa
open Go
variable {L : List Chunk} {R : List Fact} {w : World}
theorem Aeb {cv hv fv : Value} {x : Chip} {s : Step} {n nl : Nat} {M : List Int} (hs : St (L) R w) (hcv : sl cv x.cores ∈ R) (hhv : sl hv x.home ∈ R) (hfv : sl fv x.frames ∈ R) (hsn : s.wf) (h : Inv n nl x M) (hk : s.kind = 1) : Calls Try.prog 19 [.agg #[cv, hv, fv], .agg s.cells.toArray].toArray w (Bw (fun v : Value × Value × Value × Value => .tuple #[.agg #[v.1, v.2.1, v.2.2.1], v.2.2.2, vi (Ak x s).2.2]) (fun v => L) (fun v => sl v.1 (Ak x s).1.cores :: sl v.2.1 (Ak x s).1.home :: sl v.2.2.1 (Ak x s).1.frames :: sl v.2.2.2 (Ak x s).2.1 :: R)) := by
 refine ZaX ?_;intro hnc hnh hn1 hn2 honec honeh honef hn64 hop
 clear hs
 refine ZaF ?_;intro b2 b3 b4
 refine rn1 ?_
 refine Ao Try.call22 rfl (fun w hs => H8 (x := x) (cv := cv) (hv := hv) (fv := fv) hs mm mm mm (by omega)) ?_; intro ⟨cY, hY, fY⟩
 refine Zbb ?_;intro h12
 obtain ⟨honeY1, honeY2, honeY3⟩ := h12
 refine Zbc ?_;intro b7
 refine Zap ?_
 rcases (show (s.node < 0) ∨ (0 ≤ s.node ∧ (x.cores.length : Int) ≤ s.node) ∨ (0 ≤ s.node ∧ s.node < (x.cores.length : Int)) from by omega) with hc | hc | hc
 ·refine ZX ?_
  refine Gc8 ?_
  refine Zaa ?_
  refine ZbZ ?_
  refine Zcn ?_;intro er
  exact ZeG
 ·refine ZZ ?_
  refine Zbk ?_
  refine Gc1 ?_
  refine Zaa ?_
  refine ZbZ ?_
  refine Zcn ?_;intro er
  exact ZeG
 ·refine Zau ?_
  refine Gc1 ?_
  refine ZcR ?_;intro hwt u hkb hlb hk4
  refine cq_ (row 57 cY x.cores :: blk b7 33 [cY, hY, fY] :: blk b4 33 [.slice none 0 0, .slice none 0 0, .slice none 0 0] :: blk b3 28 s.cells :: blk b2 33 [cv, hv, fv] :: L) ?_
  refine jd_ (fun ρ S => row 57 cY x.cores :: blk b7 33 [cY, hY, fY] :: blk b4 33 [.slice none 0 0, .slice none 0 0, .slice none 0 0] :: blk b3 28 s.cells :: blk b2 33 [cv, hv, fv] :: ((bif S 19 then [blk (Gh.dec (γ := Nat) (ρ 19)) 57 (bif S 20 then [(Gh.dec (γ := Value × Value × Value) (ρ 13)).1, vi (Ah (Aq x s.node) s.node (x.cores.length : Int) s.op).1.wait.kind, vi (Ah (Aq x s.node) s.node (x.cores.length : Int) s.op).1.wait.line, vi (Ah (Aq x s.node) s.node (x.cores.length : Int) s.op).1.wait.value] else [.slice none 0 0, vi 0, vi 0, vi 0])] else []) ++ (L))) ?_
  refine dn13 ?_
  refine Bt (γ := Value × Value × Value) (val := fun v => .tuple #[.agg (Core.cells v.1 (Ah (Aq x s.node) s.node (x.cores.length : Int) s.op).1).toArray, v.2.1, v.2.2, vi (Ah (Aq x s.node) s.node (x.cores.length : Int) s.op).2.2.2]) (F := fun v => [sl v.1 (Ah (Aq x s.node) s.node (x.cores.length : Int) s.op).1.lines, sl v.2.1 (Ah (Aq x s.node) s.node (x.cores.length : Int) s.op).2.1, sl v.2.2 (Ah (Aq x s.node) s.node (x.cores.length : Int) s.op).2.2.1]) Try.call42 (fun _ => rfl) (fun ρ L R w hd hs => Wv (c := (Aq x s.node)) (id := s.node) (home := (x.cores.length : Int)) (q := s.op) (u := u) hs (hd.base mm) hkb hsn.2.1 hn64 hop) (fun ρ g S hS hA => by have u19 : upS S 13 19 = S 19 := rfl; have u20 : upS S 13 20 = S 20 := rfl; have r19 : Rho.set ρ 13 g 19 = ρ 19 := rfl; have h20 : S 20 = false := hA 20 ⟨0, rfl⟩; simp only [u19, u20, r19, h20, cond_false]) ?_
  refine e_p (v := fun ρ => .tuple #[.agg (Core.cells (Gh.dec (γ := Value × Value × Value) (ρ 13)).1 (Ah (Aq x s.node) s.node (x.cores.length : Int) s.op).1).toArray, (Gh.dec (γ := Value × Value × Value) (ρ 13)).2.1, (Gh.dec (γ := Value × Value × Value) (ρ 13)).2.2, vi (Ah (Aq x s.node) s.node (x.cores.length : Int) s.op).2.2.2]) (fun _ _ => S2) (Ind.gh (h := fun g => (.tuple #[.agg (Core.cells (Gh.dec (γ := Value × Value × Value) g).1 (Ah (Aq x s.node) s.node (x.cores.length : Int) s.op).1).toArray, (Gh.dec (γ := Value × Value × Value) g).2.1, (Gh.dec (γ := Value × Value × Value) g).2.2, vi (Ah (Aq x s.node) s.node (x.cores.length : Int) s.op).2.2.2] : Value)) 13 0 rfl) (fun _ _ _ _ _ => rfl) ?_
  refine e_p (v := fun ρ => .agg (Core.cells (Gh.dec (γ := Value × Value × Value) (ρ 13)).1 (Ah (Aq x s.node) s.node (x.cores.length : Int) s.op).1).toArray) (fun _ _ => q_x) (Ind.gh (h := fun g => (.agg (Core.cells (Gh.dec (γ := Value × Value × Value) g).1 (Ah (Aq x s.node) s.node (x.cores.length : Int) s.op).1).toArray : Value)) 13 1 rfl) (fun _ _ _ _ _ => rfl) ?_
  refine e_p (v := fun ρ => (Gh.dec (γ := Value × Value × Value) (ρ 13)).2.1) (fun _ _ => q_x) (Ind.gh (h := fun g => ((Gh.dec (γ := Value × Value × Value) g).2.1 : Value)) 13 1 rfl) (fun _ _ _ _ _ => rfl) ?_
  refine e_p (v := fun ρ => (Gh.dec (γ := Value × Value × Value) (ρ 13)).2.2) (fun _ _ => q_x) (Ind.gh (h := fun g => ((Gh.dec (γ := Value × Value × Value) g).2.2 : Value)) 13 1 rfl) (fun _ _ _ _ _ => rfl) ?_
  refine Zes ?_
  refine J4 (cs := [.slice none 0 0, vi 0, vi 0, vi 0]) Try.zeroValue57 rfl (fun ρ b S hS hA => ?_) ?_
  ·have ui : upS S 19 19 = true := rfl; have u20 : upS S 19 20 = S 20 := rfl; have r13 : Rho.set ρ 19 (Gh.enc b) 13 = ρ 13 := rfl; have h20 : S 20 = false := hA 20 ⟨0, rfl⟩; have rs : (Gh.dec (γ := Nat) (Rho.set ρ 19 (Gh.enc b) 19)) = b := rfl
   simp only [ui, hS, u20, r13, h20, rs, cond_true, cond_false, List.nil_append]
   exact ZeM
  refine es_ 57 0 [19] [] (fun ρ => (Gh.dec (γ := Nat) (ρ 19))) (fun ρ => [.slice none 0 0, vi 0, vi 0, vi 0]) (fun ρ => [(Gh.dec (γ := Value × Value × Value) (ρ 13)).1, vi (Ah (Aq x s.node) s.node (x.cores.length : Int) s.op).1.wait.kind, vi (Ah (Aq x s.node) s.node (x.cores.length : Int) s.op).1.wait.line, vi (Ah (Aq x s.node) s.node (x.cores.length : Int) s.op).1.wait.value]) Try.sizeOf57 (h1 := (fun ρ R w L' hd hs => Bi (isSlice.one (hs.fact (hd.dep (it := ⟨13, _, _, _, _⟩) (by repeat (first | exact List.Mem.head _ | refine List.Mem.tail _ ?_)) ⟨9, rfl⟩ (List.Mem.head _)))) (by repeat (first | exact D7 | refine Bi rfl ?_)))) ?_
  refine e_p (v := fun ρ => (Gh.dec (γ := Value × Value × Value) (ρ 13)).2.1) (fun _ _ => Dv) (Ind.gh (h := fun g => ((Gh.dec (γ := Value × Value × Value) g).2.1 : Value)) 13 0 rfl) (fun _ _ _ _ _ => rfl) ?_
  refine e_p (v := fun ρ => (Gh.dec (γ := Value × Value × Value) (ρ 13)).2.2) (fun _ _ => Dv) (Ind.gh (h := fun g => ((Gh.dec (γ := Value × Value × Value) g).2.2 : Value)) 13 0 rfl) (fun _ _ _ _ _ => rfl) ?_
  refine J9 (v := vi (Ah (Aq x s.node) s.node (x.cores.length : Int) s.op).2.2.2) (fun _ _ => Dv) (fun _ _ _ _ _ => rfl) ?_
  refine dnl ?_; intro ρ
  refine xq_ (row 57 cY x.cores :: blk b7 33 [cY, hY, fY] :: blk b4 33 [.slice none 0 0, .slice none 0 0, .slice none 0 0] :: blk b3 28 s.cells :: blk b2 33 [cv, hv, fv] :: (blk (Gh.dec (γ := Nat) (ρ 19)) 57 [(Gh.dec (γ := Value × Value × Value) (ρ 13)).1, vi (Ah (Aq x s.node) s.node (x.cores.length : Int) s.op).1.wait.kind, vi (Ah (Aq x s.node) s.node (x.cores.length : Int) s.op).1.wait.line, vi (Ah (Aq x s.node) s.node (x.cores.length : Int) s.op).1.wait.value] :: L)) ?_
  generalize (Gh.dec (γ := Value × Value × Value) (ρ 13)) = vk
  generalize (Gh.dec (γ := Nat) (ρ 19)) = b10
  refine Gl ?_
  refine kp [2, 3, 4, 5, 6, 7, 8, 9, 10, 11, 12, 13, 20, 54, 55] ?_
  refine ZW ?_
  refine cdy ?_ ?_
  ·intro ht55
   refine Gl ?_
   refine Zaa ?_
   refine Zbm ?_
   have er : Ak x s = (D3, [], (Ah (Aq x s.node) s.node (x.cores.length : Int) s.op).2.2.2) := by unfold Ak A7; rw [if_pos (by omega), if_neg (by omega), if_pos ht55]
   rw [er]
   exact ZeG
  ·intro ht55
   refine Gm ?_
   refine rn6 ?_
   refine s_W (α := Core) (Ah (Aq x s.node) s.node (x.cores.length : Int) s.op).1 Try.sizeOf57 rfl rfl rfl pkk (by omega) (Xr mm (O1 hop)) ?_
   refine ZJ ?_
   refine Ao Try.call43 rfl (fun w hs => Kt (cv := cY) (hv := hY) (fv := fY) (fs := x.frames) (ms := (Ah (Aq x s.node) s.node (x.cores.length : Int) s.op).2.1) (Ai (L' := blk b7 33 [cY, hY, fY] :: row 57 cY (x.cores.set s.node.toNat (Ah (Aq x s.node) s.node (x.cores.length : Int) s.op).1) :: blk b4 33 [.slice none 0 0, .slice none 0 0, .slice none 0 0] :: blk b3 28 s.cells :: blk b2 33 [cv, hv, fv] :: L) hs) mm mm (Va (by omega) (by omega) hk4 hlb)) ?_; intro vs
   refine ZaQ ?_
   refine rn1 ?_
   refine Zb0 ?_
   refine JC.shut (v := cY) (xs := (x.cores.set s.node.toNat (Ah (Aq x s.node) s.node (x.cores.length : Int) s.op).1)) pkk ?_
   refine JC.know (p := vs.oneCell' = true) (fun w hs => isSlice.one (hs.fact (mm (f := sl vs (way x.frames (Ah (Aq x s.node) s.node (x.cores.length : Int) s.op).2.1))))) (fun honevs => ?_)
   refine ZA ?_
   refine s_B (cs := [cY, hY, vs]) Try.sizeOf33 ?_
   refine Ga2 ?_
   have er : Ak x s = (C1 x s.node (Ah (Aq x s.node) s.node (x.cores.length : Int) s.op).1 (Ah (Aq x s.node) s.node (x.cores.length : Int) s.op).2.1, (Ah (Aq x s.node) s.node (x.cores.length : Int) s.op).2.2.1, 0) := by unfold Ak A7; rw [if_pos (by omega), if_neg (by omega), if_neg ht55]
   rw [er]
   exact Cf (cY, hY, vs, vk.2.2) Try.isAgg33 Try.sizeOf33
theorem Aec {cv hv fv : Value} {x : Chip} {s : Step} {n nl : Nat} {M : List Int} (hs : St (L) R w) (hcv : sl cv x.cores ∈ R) (hhv : sl hv x.home ∈ R) (hfv : sl fv x.frames ∈ R) (hsn : s.wf) (h : Inv n nl x M) (hk : s.kind < 1 ∨ 6 < s.kind) : Calls Try.prog 19 [.agg #[cv, hv, fv], .agg s.cells.toArray].toArray w (Bw (fun v : Value × Value × Value × Value => .tuple #[.agg #[v.1, v.2.1, v.2.2.1], v.2.2.2, vi (Ak x s).2.2]) (fun v => L) (fun v => sl v.1 (Ak x s).1.cores :: sl v.2.1 (Ak x s).1.home :: sl v.2.2.1 (Ak x s).1.frames :: sl v.2.2.2 (Ak x s).2.1 :: R)) := by
 refine ZaX ?_;intro hnc hnh hn1 hn2 honec honeh honef hn64 hop
 clear hs
 refine ZaF ?_;intro b2 b3 b4
 refine rn1 ?_
 refine Ao Try.call22 rfl (fun w hs => H8 (x := x) (cv := cv) (hv := hv) (fv := fv) hs mm mm mm (by omega)) ?_; intro ⟨cY, hY, fY⟩
 refine Zbb ?_;intro h12
 obtain ⟨honeY1, honeY2, honeY3⟩ := h12
 refine Zbc ?_;intro b7
 refine ZF ?_
 refine ZF ?_
 refine ZF ?_
 refine ZF ?_
 refine ZF ?_
 refine ZF ?_
 refine Zar ?_
 refine ZaK ?_
 refine Zbm ?_
 have er : Ak x s = (D3, [], 1) := by unfold Ak A7; rw [if_neg (by omega), if_neg (by omega), if_neg (by omega), if_neg (by omega), if_neg (by omega), if_neg (by omega)]
 rw [er]
 exact ZeG
theorem Aea {cv hv fv : Value} {x : Chip} {s : Step} {n nl : Nat} {M : List Int} (hs : St (L) R w) (hcv : sl cv x.cores ∈ R) (hhv : sl hv x.home ∈ R) (hfv : sl fv x.frames ∈ R) (hsn : s.wf) (h : Inv n nl x M) (hk : s.kind = 2) : Calls Try.prog 19 [.agg #[cv, hv, fv], .agg s.cells.toArray].toArray w (Bw (fun v : Value × Value × Value × Value => .tuple #[.agg #[v.1, v.2.1, v.2.2.1], v.2.2.2, vi (Ak x s).2.2]) (fun v => L) (fun v => sl v.1 (Ak x s).1.cores :: sl v.2.1 (Ak x s).1.home :: sl v.2.2.1 (Ak x s).1.frames :: sl v.2.2.2 (Ak x s).2.1 :: R)) := by
 refine ZaX ?_;intro hnc hnh hn1 hn2 honec honeh honef hn64 hop
 clear hs
 refine ZaF ?_;intro b2 b3 b4
 refine rn1 ?_
 refine Ao Try.call22 rfl (fun w hs => H8 (x := x) (cv := cv) (hv := hv) (fv := fv) hs mm mm mm (by omega)) ?_; intro ⟨cY, hY, fY⟩
 refine Zbb ?_;intro h12
 obtain ⟨honeY1, honeY2, honeY3⟩ := h12
 refine Zbc ?_;intro b7
 refine ZF ?_
 refine Zap ?_
 rcases (show (Cp x s.n) ∨ (¬ Cp x s.n) from by exact Classical.em _) with hc | hc
 ·refine Zdc ?_;intro hnt
  refine ZC ?_
  refine Ao (γ := Value × Value) (val := fun v => .tuple #[v.1, v.2, vi 5]) (Rf := fun v => sl v.1 ([] : Frames) :: sl v.2 ([] : List UInt8) :: _) Try.call44 rfl (fun w hs => by have h := Jd (v0 := fv) (l := x.frames) (n := s.n) hs mm hsn.2.2.1; rw [hnt] at h; exact frz h) ?_; intro ⟨va, vb⟩
  refine Gb7 ?_
  refine rn1 ?_
  refine ZaK ?_
  refine kp [2, 3, 4, 5, 6, 7, 8, 9, 14, 15, 16, 20, 81, 82] ?_
  refine Zbm ?_
  have er : Ak x s = (D3, [], 5) := by unfold Ak A7; rw [if_neg (by omega), if_pos (by omega)]; rw [if_pos hc]
  rw [er]
  exact ZeG
 ·refine ZcU ?_;intro hnt
  refine ZC ?_
  refine Ao (γ := Value × Value) (val := fun v => .tuple #[v.1, v.2, vi 0]) (Rf := fun v => sl v.1 (x.frames.eraseIdx s.n.toNat) :: sl v.2 (Av x.frames s.n) :: _) Try.call44 rfl (fun w hs => by have h := Jd (v0 := fv) (l := x.frames) (n := s.n) hs mm hsn.2.2.1; rw [hnt] at h; exact frz h) ?_; intro ⟨va, vb⟩
  refine Gb7 ?_
  refine rn1 ?_
  refine Zb0 ?_
  refine JC.know (p := va.oneCell' = true) (fun w hs => isSlice.one (hs.fact (mm (f := sl va (x.frames.eraseIdx s.n.toNat))))) (fun honeva => ?_)
  refine kp [2, 3, 4, 5, 6, 7, 8, 9, 14, 15, 20, 83, 84] ?_
  refine ZA ?_
  refine sc ?_
  refine ZK ?_
  refine Cs ?_
  refine Gmc ?_
  refine rn1 ?_
  refine Ao Try.call45 rfl (fun w hs => Zv (x := ⟨x.cores, x.home, x.frames.eraseIdx s.n.toNat⟩) (cv := cY) (hv := hY) (fv := va) (bt := (Av x.frames s.n)) (Ai (L' := row 57 cY x.cores :: blk b7 33 [cY, hY, va] :: blk b4 33 [.slice none 0 0, .slice none 0 0, .slice none 0 0] :: blk b3 28 s.cells :: blk b2 33 [cv, hv, fv] :: L) hs) mm mm mm (Acj h _)) ?_; intro ⟨vh, vf, vd⟩
  refine Zar ?_
  refine Zb0 ?_
  refine JC.shut (v := cY) (xs := (Be ⟨x.cores, x.home, x.frames.eraseIdx s.n.toNat⟩ (Av x.frames s.n)).1.cores) pkk ?_
  refine JC.know (p := vh.oneCell' = true) (fun w hs => isSlice.one (hs.fact (mm (f := sl vh (Be ⟨x.cores, x.home, x.frames.eraseIdx s.n.toNat⟩ (Av x.frames s.n)).1.home)))) (fun honevh => ?_)
  refine JC.know (p := vf.oneCell' = true) (fun w hs => isSlice.one (hs.fact (mm (f := sl vf (Be ⟨x.cores, x.home, x.frames.eraseIdx s.n.toNat⟩ (Av x.frames s.n)).1.frames)))) (fun honevf => ?_)
  refine ZA ?_
  refine s_B (cs := [cY, vh, vf]) Try.sizeOf33 ?_
  refine Ga2 ?_
  have er : Ak x s = ((Be ⟨x.cores, x.home, x.frames.eraseIdx s.n.toNat⟩ (Av x.frames s.n)).1, (Be ⟨x.cores, x.home, x.frames.eraseIdx s.n.toNat⟩ (Av x.frames s.n)).2, 0) := by unfold Ak A7; rw [if_neg (by omega), if_pos (by omega)]; rw [if_neg hc]
  rw [er]
  exact Cf (cY, vh, vf, vd) Try.isAgg33 Try.sizeOf33
theorem Adz {cv hv fv : Value} {x : Chip} {s : Step} {n nl : Nat} {M : List Int} (hs : St (L) R w) (hcv : sl cv x.cores ∈ R) (hhv : sl hv x.home ∈ R) (hfv : sl fv x.frames ∈ R) (hsn : s.wf) (h : Inv n nl x M) (hk : s.kind = 3) : Calls Try.prog 19 [.agg #[cv, hv, fv], .agg s.cells.toArray].toArray w (Bw (fun v : Value × Value × Value × Value => .tuple #[.agg #[v.1, v.2.1, v.2.2.1], v.2.2.2, vi (Ak x s).2.2]) (fun v => L) (fun v => sl v.1 (Ak x s).1.cores :: sl v.2.1 (Ak x s).1.home :: sl v.2.2.1 (Ak x s).1.frames :: sl v.2.2.2 (Ak x s).2.1 :: R)) := by
 refine ZaX ?_;intro hnc hnh hn1 hn2 honec honeh honef hn64 hop
 clear hs
 refine ZaF ?_;intro b2 b3 b4
 refine rn1 ?_
 refine Ao Try.call22 rfl (fun w hs => H8 (x := x) (cv := cv) (hv := hv) (fv := fv) hs mm mm mm (by omega)) ?_; intro ⟨cY, hY, fY⟩
 refine Zbb ?_;intro h12
 obtain ⟨honeY1, honeY2, honeY3⟩ := h12
 refine Zbc ?_;intro b7
 refine Zan ?_
 refine Gc1 ?_
 rcases (show (Cp x s.n) ∨ (¬ Cp x s.n) from by exact Classical.em _) with hc | hc
 ·refine Zdc ?_;intro hnt
  refine ZC ?_
  refine Ao (γ := Value × Value) (val := fun v => .tuple #[v.1, v.2, vi 5]) (Rf := fun v => sl v.1 ([] : Frames) :: sl v.2 ([] : List UInt8) :: _) Try.call44 rfl (fun w hs => by have h := Jd (v0 := fv) (l := x.frames) (n := s.n) hs mm hsn.2.2.1; rw [hnt] at h; exact frz h) ?_; intro ⟨va, vb⟩
  refine Ga7 ?_
  refine kp [2, 3, 4, 5, 6, 7, 8, 9, 14, 15, 16, 20, 79, 80] ?_
  refine ZB ?_
  refine ZaK ?_
  refine Zbm ?_
  have er : Ak x s = (D3, [], 5) := by unfold Ak A7; rw [if_neg (by omega), if_neg (by omega), if_pos (by omega)]; rw [if_pos hc]
  rw [er]
  exact ZeG
 ·refine ZcU ?_;intro hnt
  refine ZC ?_
  refine Ao (γ := Value × Value) (val := fun v => .tuple #[v.1, v.2, vi 0]) (Rf := fun v => sl v.1 (x.frames.eraseIdx s.n.toNat) :: sl v.2 (Av x.frames s.n) :: _) Try.call44 rfl (fun w hs => by have h := Jd (v0 := fv) (l := x.frames) (n := s.n) hs mm hsn.2.2.1; rw [hnt] at h; exact frz h) ?_; intro ⟨va, vb⟩
  refine Ga7 ?_
  refine kp [2, 3, 4, 5, 6, 7, 8, 9, 14, 15, 16, 20, 79, 80] ?_
  refine ZB ?_
  refine Zb0 ?_
  refine JC.know (p := va.oneCell' = true) (fun w hs => isSlice.one (hs.fact (mm (f := sl va (x.frames.eraseIdx s.n.toNat))))) (fun honeva => ?_)
  refine ZA ?_
  refine sc ?_
  refine ZK ?_
  refine ZaR ?_
  refine rn1 ?_
  refine Zb0 ?_
  refine ZcT ?_
  have er : Ak x s = (⟨x.cores, x.home, x.frames.eraseIdx s.n.toNat⟩, [], 0) := by unfold Ak A7; rw [if_neg (by omega), if_neg (by omega), if_pos (by omega)]; rw [if_neg hc]
  exact Zgt
theorem Ady {cv hv fv : Value} {x : Chip} {s : Step} {n nl : Nat} {M : List Int} (hs : St (L) R w) (hcv : sl cv x.cores ∈ R) (hhv : sl hv x.home ∈ R) (hfv : sl fv x.frames ∈ R) (hsn : s.wf) (h : Inv n nl x M) (hk : s.kind = 4) : Calls Try.prog 19 [.agg #[cv, hv, fv], .agg s.cells.toArray].toArray w (Bw (fun v : Value × Value × Value × Value => .tuple #[.agg #[v.1, v.2.1, v.2.2.1], v.2.2.2, vi (Ak x s).2.2]) (fun v => L) (fun v => sl v.1 (Ak x s).1.cores :: sl v.2.1 (Ak x s).1.home :: sl v.2.2.1 (Ak x s).1.frames :: sl v.2.2.2 (Ak x s).2.1 :: R)) := by
 refine ZaX ?_;intro hnc hnh hn1 hn2 honec honeh honef hn64 hop
 clear hs
 refine ZaF ?_;intro b2 b3 b4
 refine rn1 ?_
 refine Ao Try.call22 rfl (fun w hs => H8 (x := x) (cv := cv) (hv := hv) (fv := fv) hs mm mm mm (by omega)) ?_; intro ⟨cY, hY, fY⟩
 refine Zbb ?_;intro h12
 obtain ⟨honeY1, honeY2, honeY3⟩ := h12
 refine Zbc ?_;intro b7
 refine ZF ?_
 refine Zan ?_
 refine Gc1 ?_
 rcases (show (Cp x s.n) ∨ (¬ Cp x s.n) from by exact Classical.em _) with hc | hc
 ·have hnt : Fh x.frames s.n = ([], 5) := by unfold Fh; rw [if_pos (show s.n < 0 ∨ (x.frames.length : Int) ≤ s.n from hc)]
  refine ZC ?_
  refine Ao (γ := Value) (val := fun v => .tuple #[v, vi 5]) (Rf := fun v => sl v ([] : Frames) :: _) Try.call46 rfl (fun w hs => by have h := Rb (v0 := fv) (l := x.frames) (n := s.n) hs mm hsn.2.2.1; rw [hnt] at h; exact frz h) ?_; intro va
  refine ZcP ?_;intro honeva
  refine ZB ?_
  refine ZaK ?_
  refine Zbm ?_
  have er : Ak x s = (D3, [], 5) := by unfold Ak A7; rw [if_neg (by omega), if_neg (by omega), if_neg (by omega), if_pos (by omega)]; rw [if_pos hc]
  rw [er]
  exact ZeG
 ·have hnt : Fh x.frames s.n = (Cy x.frames (Av x.frames s.n), 0) := by unfold Fh; rw [if_neg (show ¬ (s.n < 0 ∨ (x.frames.length : Int) ≤ s.n) from hc)]
  refine ZC ?_
  refine Ao (γ := Value) (val := fun v => .tuple #[v, vi 0]) (Rf := fun v => sl v (Cy x.frames (Av x.frames s.n)) :: _) Try.call46 rfl (fun w hs => by have h := Rb (v0 := fv) (l := x.frames) (n := s.n) hs mm hsn.2.2.1; rw [hnt] at h; exact frz h) ?_; intro va
  refine ZcP ?_;intro honeva
  refine ZB ?_
  refine Zb0 ?_
  refine ZcT ?_
  have er : Ak x s = (⟨x.cores, x.home, Cy x.frames (Av x.frames s.n)⟩, [], 0) := by unfold Ak A7; rw [if_neg (by omega), if_neg (by omega), if_neg (by omega), if_pos (by omega)]; rw [if_neg hc]
  exact Zgt
theorem Adx {cv hv fv : Value} {x : Chip} {s : Step} {n nl : Nat} {M : List Int} (hs : St (L) R w) (hcv : sl cv x.cores ∈ R) (hhv : sl hv x.home ∈ R) (hfv : sl fv x.frames ∈ R) (hsn : s.wf) (h : Inv n nl x M) (hk : s.kind = 5) : Calls Try.prog 19 [.agg #[cv, hv, fv], .agg s.cells.toArray].toArray w (Bw (fun v : Value × Value × Value × Value => .tuple #[.agg #[v.1, v.2.1, v.2.2.1], v.2.2.2, vi (Ak x s).2.2]) (fun v => L) (fun v => sl v.1 (Ak x s).1.cores :: sl v.2.1 (Ak x s).1.home :: sl v.2.2.1 (Ak x s).1.frames :: sl v.2.2.2 (Ak x s).2.1 :: R)) := by
 refine ZaX ?_;intro hnc hnh hn1 hn2 honec honeh honef hn64 hop
 clear hs
 refine ZaF ?_;intro b2 b3 b4
 refine rn1 ?_
 refine Ao Try.call22 rfl (fun w hs => H8 (x := x) (cv := cv) (hv := hv) (fv := fv) hs mm mm mm (by omega)) ?_; intro ⟨cY, hY, fY⟩
 refine Zbb ?_;intro h12
 obtain ⟨honeY1, honeY2, honeY3⟩ := h12
 refine Zbc ?_;intro b7
 refine ZaO ?_
 refine Gd1 ?_
 refine rn1 ?_
 refine Ao Try.call47 rfl (fun w hs => W1 (x := x) (cv := cv) (hv := hv) (fv := fv) (s := s) (Ai (L' := blk b2 33 [cv, hv, fv] :: row 57 cY x.cores :: blk b7 33 [cY, hY, fY] :: blk b4 33 [.slice none 0 0, .slice none 0 0, .slice none 0 0] :: blk b3 28 s.cells :: L) hs) mm mm mm hsn) ?_; intro va
 refine ZcP ?_;intro honeva
 refine ZW ?_
 refine cdy ?_ ?_
 ·intro ht115
  refine Gl ?_
  refine Zaa ?_
  refine Zbm ?_
  have er : Ak x s = (D3, [], (Lw x s).2) := by unfold Ak A7; rw [if_neg (by omega), if_neg (by omega), if_neg (by omega), if_neg (by omega), if_pos (by omega)]; revert ht115; unfold Lw; (repeat' split) <;> simp_all
  rw [er]
  exact Cf (.slice none 0 0, .slice none 0 0, .slice none 0 0, .slice none 0 0) Try.isAgg33 Try.sizeOf33
 ·intro ht115
  refine Gl ?_
  refine ZcT ?_
  have er : Ak x s = (⟨x.cores, x.home, (Lw x s).1⟩, [], 0) := by unfold Ak A7; rw [if_neg (by omega), if_neg (by omega), if_neg (by omega), if_neg (by omega), if_pos (by omega)]; revert ht115; unfold Lw; (repeat' split) <;> simp_all
  rw [er]
  exact Cf (cY, hY, va, .slice none 0 0) Try.isAgg33 Try.sizeOf33
theorem Adw {cv hv fv : Value} {x : Chip} {s : Step} {n nl : Nat} {M : List Int} (hs : St (L) R w) (hcv : sl cv x.cores ∈ R) (hhv : sl hv x.home ∈ R) (hfv : sl fv x.frames ∈ R) (hsn : s.wf) (h : Inv n nl x M) (hk : s.kind = 6) : Calls Try.prog 19 [.agg #[cv, hv, fv], .agg s.cells.toArray].toArray w (Bw (fun v : Value × Value × Value × Value => .tuple #[.agg #[v.1, v.2.1, v.2.2.1], v.2.2.2, vi (Ak x s).2.2]) (fun v => L) (fun v => sl v.1 (Ak x s).1.cores :: sl v.2.1 (Ak x s).1.home :: sl v.2.2.1 (Ak x s).1.frames :: sl v.2.2.2 (Ak x s).2.1 :: R)) := by
 refine ZaX ?_;intro hnc hnh hn1 hn2 honec honeh honef hn64 hop
 clear hs
 refine ZaF ?_;intro b2 b3 b4
 refine rn1 ?_
 refine Ao Try.call22 rfl (fun w hs => H8 (x := x) (cv := cv) (hv := hv) (fv := fv) hs mm mm mm (by omega)) ?_; intro ⟨cY, hY, fY⟩
 refine Zbb ?_;intro h12
 obtain ⟨honeY1, honeY2, honeY3⟩ := h12
 refine Zbc ?_;intro b7
 refine ZF ?_
 refine ZaO ?_
 refine Gd1 ?_
 refine rn2 ?_
 refine Ao Try.call48 rfl (fun w hs => W0 (x := x) (cv := cY) (hv := hY) (fv := fY) (node := s.node) (Ai (L' := row 57 cY x.cores :: blk b7 33 [cY, hY, fY] :: blk b4 33 [.slice none 0 0, .slice none 0 0, .slice none 0 0] :: blk b3 28 s.cells :: blk b2 33 [cv, hv, fv] :: L) hs) mm mm h) ?_; intro va
 refine J.know (p := va.oneCell' = true) (fun w hs => isSlice.one (hs.fact (.head _))) (fun honeva => ?_)
 refine ZH ?_
 refine cdy ?_ ?_
 ·intro ht115
  refine Gl ?_
  refine Zaa ?_
  refine kp [4, 5, 6, 7, 8, 9, 116, 117] ?_
  refine Zbm ?_
  have er : Ak x s = (D3, [], (Lv x s.node)) := by unfold Ak A7; rw [if_neg (by omega), if_neg (by omega), if_neg (by omega), if_neg (by omega), if_neg (by omega), if_pos (by omega)]; revert ht115; unfold Lv A7; split <;> simp_all
  rw [er]
  exact Cf (.slice none 0 0, .slice none 0 0, .slice none 0 0, .slice none 0 0) Try.isAgg33 Try.sizeOf33
 ·intro ht115
  refine Gl ?_
  refine JC.shut (v := cY) (xs := x.cores) pkk ?_
  refine ZS ?_
  refine kp [4, 5, 6, 7, 8, 118, 119] ?_
  refine ZA ?_
  refine s_B (cs := [cY, hY, va]) Try.sizeOf33 ?_
  refine Ga2 ?_
  have er : Ak x s = (⟨x.cores, x.home, Fo x s.node⟩, [], 0) := by unfold Ak A7; rw [if_neg (by omega), if_neg (by omega), if_neg (by omega), if_neg (by omega), if_neg (by omega), if_pos (by omega)]; revert ht115; unfold Lv Fo A7; split <;> simp_all; split <;> rfl
  rw [er]
  exact Cf (cY, hY, va, .slice none 0 0) Try.isAgg33 Try.sizeOf33
theorem Jh {cv hv fv : Value} {x : Chip} {s : Step} {n nl : Nat} {M : List Int} (hs : St (L) R w) (hcv : sl cv x.cores ∈ R) (hhv : sl hv x.home ∈ R) (hfv : sl fv x.frames ∈ R) (hsn : s.wf) (h : Inv n nl x M) : Calls Try.prog 19 [.agg #[cv, hv, fv], .agg s.cells.toArray].toArray w (Bw (fun v : Value × Value × Value × Value => .tuple #[.agg #[v.1, v.2.1, v.2.2.1], v.2.2.2, vi (Ak x s).2.2]) (fun v => L) (fun v => sl v.1 (Ak x s).1.cores :: sl v.2.1 (Ak x s).1.home :: sl v.2.2.1 (Ak x s).1.frames :: sl v.2.2.2 (Ak x s).2.1 :: R)) := by
 by_cases h1 : s.kind = 1
 ·exact Aeb hs hcv hhv hfv hsn h h1
 by_cases h2 : s.kind = 2
 ·exact Aea hs hcv hhv hfv hsn h h2
 by_cases h3 : s.kind = 3
 ·exact Adz hs hcv hhv hfv hsn h h3
 by_cases h4 : s.kind = 4
 ·exact Ady hs hcv hhv hfv hsn h h4
 by_cases h5 : s.kind = 5
 ·exact Adx hs hcv hhv hfv hsn h h5
 by_cases h6 : s.kind = 6
 ·exact Adw hs hcv hhv hfv hsn h h6
 exact Aec hs hcv hhv hfv hsn h (by omega)
def Ej (l : List Done) (p : Int) : List Done := l.filter (fun d => d.core == p)
theorem Ado {l : List Done} {p : Int} {k : Nat} (h : k < l.length) (hd : (l.getD k zDone).core = p) : Ej (l.take (k + 1)) p = Ej (l.take k) p ++ [l.getD k zDone] := by
 unfold Ej; rw [G7 zDone h, List.filter_append]; congr 1; generalize l.getD k zDone = d at hd ⊢; simp [hd]
theorem Adp {l : List Done} {p : Int} {k : Nat} (h : k < l.length) (hd : ¬ (l.getD k zDone).core = p) : Ej (l.take (k + 1)) p = Ej (l.take k) p := by
 unfold Ej; rw [G7 zDone h, List.filter_append]; generalize l.getD k zDone = d at hd ⊢; simp [hd]
theorem Wo (l : List Done) (p : Int) (k : Nat) : (Ej (l.take k) p).length ≤ l.length := by
 unfold Ej
 exact Nat.le_trans (List.length_filter_le _ _) (by rw [List.length_take]; omega)
theorem I2 : ∀ (a b : List Step) (x : Chip), Cq x (a ++ b) = ((Cq (Cq x a).1 b).1, (Cq x a).2 ++ (Cq (Cq x a).1 b).2)
 | [], b, x => by rw [List.nil_append]; simp [Cq]
 | s :: a, b, x => by
  rw [List.cons_append]
  by_cases h : (Ak x s).2.2 = 0
  ·rw [E2 h, E2 h, I2 a b]; simp
  ·rw [Ft h, Ft h, I2 a b]
def L5 (x : Chip) (p : Int) : List Op := if 0 ≤ p ∧ p < A7 x ∧ (Aq x p).wait.kind ≠ 0 then [(Aq x p).wait] else []
def I4 (x : Chip) (s : Step) (p : Int) : List Op := if s.kind = 1 ∧ s.node = p ∧ (Ak x s).2.2 = 0 then [s.op] else []
def Jj : Chip → List Step → Int → List Op
 | _, [], _ => []
 | x, s :: r, p => I4 x s p ++ Jj (if (Ak x s).2.2 = 0 then (Ak x s).1 else x) r p
theorem Rv {α : Type} (l : List α) (q p : Int) (a d : α) (h0 : 0 ≤ q) (hq : q < (l.length : Int)) (hp : 0 ≤ p) : (l.set q.toNat a).getD p.toNat d = if p = q then a else l.getD p.toNat d := by
 have h1 := Ch l q.toNat p.toNat a d (by omega)
 rw [h1]
 by_cases e : p = q
 ·rw [if_pos (by omega), if_pos e]
 ·rw [if_neg (by omega), if_neg e]
theorem Uc {x : Chip} {q p : Int} {k : Core} {h : List Entry} {f : Frames} (h0 : 0 ≤ q) (hq : q < A7 x) (hp : 0 ≤ p) : L5 ⟨x.cores.set q.toNat k, h, f⟩ p = if p = q then (if k.wait.kind ≠ 0 then [k.wait] else []) else L5 x p := by
 unfold L5 A7 Aq at *
 simp only [List.length_set]
 rw [Rv x.cores q p k E4 h0 hq hp]
 by_cases e : p = q
 ·subst e
  rw [if_pos rfl, if_pos rfl]
  by_cases w : k.wait.kind ≠ 0
  ·rw [if_pos ⟨hp, hq, w⟩, if_pos w]
  ·rw [if_neg (fun h => w h.2.2), if_neg w]
 ·rw [if_neg e, if_neg e]
theorem Ud {x : Chip} {p : Int} (h : p < 0) : L5 x p = [] := by unfold L5; rw [if_neg (by omega)]
theorem Q8 {x y : Chip} (p : Int) (h : y.cores = x.cores) : L5 y p = L5 x p := by unfold L5 A7 Aq; rw [h]
theorem Pk (p : Int) : Ej [] p = [] := rfl
theorem Uh (d : Done) (p : Int) : (Ej [d] p).map Done.op = if d.core = p then [d.op] else [] := by
 unfold Ej; by_cases h : d.core = p <;> simp [h]
theorem of_app (a b : List Done) (p : Int) : Ej (a ++ b) p = Ej a p ++ Ej b p := List.filter_append ..
theorem Sf {c : Core} {id home : Int} {o : Op} (h : (Ah c id home o).2.2.2 = 0) : c.wait.kind = 0 ∧ o.kind ≠ 0 ∧ (((Ah c id home o).1.wait = zOp ∧ ∃ v, (Ah c id home o).2.2.1 = [⟨id, o, v⟩]) ∨ ((Ah c id home o).1.wait = o ∧ (Ah c id home o).2.2.1 = [])) := by
 revert h; unfold Ah
 split
 ·exact Zfx
 split
 ·exact Zfx
 split
 ·exact Zfx
 rename_i h1 h2 h3
 split
 ·intro _; exact ⟨by omega, by omega, .inl ⟨rfl, _, rfl⟩⟩
 ·intro _; exact ⟨by omega, by omega, .inr ⟨rfl, rfl⟩⟩
theorem Acn {c : Core} {id home : Int} {m : Msg} (hw : ∀ i : Nat, i < c.lines.length → (c.lines.getD i zLine).want ≠ 0 → c.wait.kind ≠ 0) : ((Ae c id home m).1.wait = c.wait ∧ (Ae c id home m).2.2 = []) ∨ (c.wait.kind ≠ 0 ∧ (Ae c id home m).1.wait = zOp ∧ ∃ v, (Ae c id home m).2.2 = [⟨id, c.wait, v⟩]) := by
 have hz : ¬ (m.line < 0 ∨ (c.lines.length : Int) ≤ m.line) → (Ac c m.line).want ≠ 0 → c.wait.kind ≠ 0 := fun h => hw m.line.toNat (by omega)
 unfold Ae
 split
 ·exact ZfH
 rename_i h0
 have hz := hz h0
 split
 ·exact ZfH
 split
 ·split
  ·by_cases w : (Ac c m.line).want = 3
   ·rw [if_pos w, if_pos w]
    exact .inr ⟨hz (by omega), rfl, _, rfl⟩
   ·rw [if_neg w, if_neg w]
    exact ZfH
  split
  ·exact ZfH
  ·exact ZfH
 split
 ·split
  ·exact ZfH
  split
  ·rename_i ha
   exact .inr ⟨hz (by have := ha.2; omega), rfl, _, rfl⟩
  ·exact ZfH
 split
 ·rename_i ha
  exact .inr ⟨hz (by have := ha.2.1; omega), rfl, _, rfl⟩
 ·exact ZfH
section
variable {n nl : Nat} {x : Chip} {M : List Int}
theorem Yi (h : Inv n nl x M) {p : Int} (h0 : 0 ≤ p) (hp : p < A7 x) : ∀ i : Nat, i < (Aq x p).lines.length → ((Aq x p).lines.getD i zLine).want ≠ 0 → (Aq x p).wait.kind ≠ 0 := by
 have hn := h.nc; unfold A7 at hp
 have hp' : p.toNat < n := by omega
 intro i hi hw
 have hl := h.ncl p.toNat hp'
 exact (Ld (h.cw p.toNat hp') (by rw [← hl]; exact hi) hw).1
theorem Aao (h : Inv n nl x M) (s : Step) (p : Int) (hok : (Ak x s).2.2 = 0) : L5 x p ++ I4 x s p = (Ej (Ak x s).2.1 p).map Done.op ++ L5 (Ak x s).1 p := by
 have hn := h.nc
 have hnc : A7 x = (n : Int) := by unfold A7; rw [hn]
 by_cases hp0 : p < 0
 ·rw [Ud hp0, Ud hp0, List.nil_append, List.append_nil]
  have hb : I4 x s p = [] := by
   unfold I4; rw [if_neg]; intro ⟨b1, b2, b3⟩
   unfold Ak at b3; rw [if_pos b1, if_pos (by omega)] at b3; exact absurd b3 (by decide)
  rw [hb]
  have hd : ∀ d ∈ (Ak x s).2.1, d.core ≠ p := by
   intro d hd
   revert hd; unfold Ak
   split
   ·split
    ·simp
    split
    ·simp
    ·rename_i a1 a2 a3
     rcases (Sf (Decidable.not_not.1 a3)).2.2 with ⟨_, v, e⟩ | ⟨_, e⟩
     ·rw [e]; intro hd; rw [List.mem_singleton.1 hd]; simp only; omega
     ·rw [e]; simp
   split
   ·split
    ·simp
    ·simp only
     unfold Be
     split
     ·simp
     split
     ·simp
     ·simp only
      intro hd
      by_cases hm : (Af (Ap ⟨x.cores, x.home, x.frames.eraseIdx s.n.toNat⟩) (Av x.frames s.n)).1.dst < 0
      ·rename_i b1 b2
       have hpar : Af (Ap ⟨x.cores, x.home, x.frames.eraseIdx s.n.toNat⟩) (Av x.frames s.n) = ((Af (Ap ⟨x.cores, x.home, x.frames.eraseIdx s.n.toNat⟩) (Av x.frames s.n)).1, 0) := by
        rw [← Decidable.not_not.1 b1]
       have hw := Ey (Fg hpar).2.2.2.2.1
       omega
      ·generalize (Af (Ap ⟨x.cores, x.home, x.frames.eraseIdx s.n.toNat⟩) (Av x.frames s.n)).1 = m at *
       revert hd; unfold Ae
       repeat' split
       all_goals first | (simp; done) | (intro hd; rw [List.mem_singleton.1 hd]; simp only; omega)
   all_goals (repeat' split) <;> simp
  have : Ej (Ak x s).2.1 p = [] := List.filter_eq_nil_iff.2 fun d hm => by simp [hd d hm]
  rw [this]; rfl
 have hp0' : 0 ≤ p := by omega
 have hno : ∀ fr hm, L5 ⟨x.cores, hm, fr⟩ p = L5 x p := fun fr hm => Q8 p rfl
 by_cases k1 : s.kind = 1
 ·unfold I4
  revert hok
  unfold Ak
  rw [if_pos k1]
  split
  ·intro hok; exact absurd hok (by simp)
  split
  ·intro hok; exact absurd hok (by assumption)
  rename_i a1 a2
  intro _
  simp only [true_and, and_true, k1]
  have hb := Sf (Decidable.not_not.1 a2)
  obtain ⟨w0, w1, w2⟩ := hb
  unfold C1
  rw [Uc (by omega) (by omega) hp0']
  by_cases e : p = s.node
  ·subst e
   rw [if_pos rfl, if_pos rfl]
   have hx : L5 x s.node = [] := by unfold L5; rw [if_neg (fun h => h.2.2 w0)]
   rw [hx, List.nil_append]
   rcases w2 with ⟨e1, v, e2⟩ | ⟨e1, e2⟩
   ·rw [e1, e2, Uh]; simp [zOp]
   ·rw [e1, e2, Pk, if_pos w1]; rfl
  ·rw [if_neg (fun h => e h.symm), if_neg e, List.append_nil]
   rcases w2 with ⟨_, v, e2⟩ | ⟨_, e2⟩
   ·rw [e2, Uh, if_neg (fun h => e h.symm)]; rfl
   ·rw [e2]; rfl
 have hb1 : I4 x s p = [] := by unfold I4; rw [if_neg (fun h => k1 h.1)]
 rw [hb1, List.append_nil]
 by_cases k2 : s.kind = 2
 ·revert hok
  unfold Ak
  rw [if_neg k1, if_pos k2]
  split
  ·intro hok; exact absurd hok (by simp)
  intro _
  simp only
  unfold Be
  split
  ·rw [Pk, hno]; rfl
  split
  ·rw [Pk, hno]; rfl
  rename_i b1 b2
  have hpar : Af (Ap ⟨x.cores, x.home, x.frames.eraseIdx s.n.toNat⟩) (Av x.frames s.n) = ((Af (Ap ⟨x.cores, x.home, x.frames.eraseIdx s.n.toNat⟩) (Av x.frames s.n)).1, 0) := by
   rw [← Decidable.not_not.1 b1]
  have hw := Ey (Fg hpar).2.2.2.2.1
  generalize (Af (Ap ⟨x.cores, x.home, x.frames.eraseIdx s.n.toNat⟩) (Av x.frames s.n)).1 = m at *
  have hc2 : (Ap ⟨x.cores, x.home, x.frames.eraseIdx s.n.toNat⟩).cores = A7 x := rfl
  have hn2 : A7 ⟨x.cores, x.home, x.frames.eraseIdx s.n.toNat⟩ = A7 x := rfl
  have hca : Aq ⟨x.cores, x.home, x.frames.eraseIdx s.n.toNat⟩ m.dst = Aq x m.dst := rfl
  rw [hn2] at b2 ⊢
  rw [hca]
  have hd : 0 ≤ m.dst ∧ m.dst < A7 x := by rw [hc2] at hw; omega
  unfold C1
  simp only
  rw [Uc hd.1 hd.2 hp0']
  have ho := Acn (id := m.dst) (home := A7 x) (m := m) (Yi h hd.1 hd.2)
  by_cases e : p = m.dst
  ·subst e
   rw [if_pos rfl]
   rcases ho with ⟨e1, e2⟩ | ⟨w, e1, v, e2⟩
   ·rw [e1, e2, Pk]; unfold L5
    by_cases w : (Aq x m.dst).wait.kind ≠ 0
    ·rw [if_pos ⟨hd.1, hd.2, w⟩, if_pos w]; rfl
    ·rw [if_neg (fun h => w h.2.2), if_neg w]; rfl
   ·rw [e1, e2, Uh, if_pos rfl]; unfold L5; rw [if_pos ⟨hd.1, hd.2, w⟩]; simp [zOp]
  ·rw [if_neg e]
   rcases ho with ⟨_, e2⟩ | ⟨_, _, v, e2⟩
   ·rw [e2]; rfl
   ·rw [e2, Uh, if_neg (fun h => e h.symm)]; rfl
 have hcs : (Ak x s).1.cores = x.cores ∧ (Ak x s).2.1 = [] := by
  revert hok
  unfold Ak
  rw [if_neg k1, if_neg k2]
  exact ZfG
 rw [hcs.2, Q8 p hcs.1]; rfl
theorem Tu (p : Int) : ∀ (l : List Step) {x : Chip} {M : List Int}, Inv n nl x M → L5 x p ++ Jj x l p = (Ej (Cq x l).2 p).map Done.op ++ L5 (Cq x l).1 p
 | [], x, M, h => by simp [Jj, Cq, Ej]
 | s :: l, x, M, h => by
  unfold Jj
  by_cases hok : (Ak x s).2.2 = 0
  ·obtain ⟨M', h', _⟩ := Ix h hok
   rw [if_pos hok, E2 hok, of_app, List.map_append, ← List.append_assoc, Aao h s p hok, List.append_assoc, Tu p l h', List.append_assoc]
  ·have hb : I4 x s p = [] := by unfold I4; rw [if_neg (fun h => hok h.2.2)]
   rw [if_neg hok, Ft hok, hb, List.nil_append]
   exact Tu p l h
end
def goS : Step := ⟨2, 0, 0, 0, zOp⟩
def tmS (k : Nat) : Step := ⟨6, (k : Int), 0, 0, zOp⟩
theorem Nv : ∀ (l : List Step) (x : Chip), (Cq x l).2.length ≤ l.length
 | [], x => by simp [Cq]
 | s :: l, x => by
  by_cases h : (Ak x s).2.2 = 0
  ·rw [E2 h]; have := Nv l (Ak x s).1; have := Nu x s
   simp only [List.length_append, List.length_cons]; omega
  ·rw [Ft h]; have := Nv l x; simp only [List.length_cons]; omega
theorem Acs {x : Chip} (h : 0 < x.frames.length) : Ak x goS = ((Be ⟨x.cores, x.home, x.frames.eraseIdx 0⟩ (Av x.frames 0)).1, (Be ⟨x.cores, x.home, x.frames.eraseIdx 0⟩ (Av x.frames 0)).2, 0) := by
 unfold Ak goS
 rw [if_neg (by simp), if_pos rfl, if_neg (by unfold Cp; simp only; omega)]
 simp only
 rw [Int.toNat_zero]
theorem Aet : ∀ (ms : List Msg) (l : Frames), l.length ≤ (way l ms).length
 | [], l => Nat.le_refl _
 | m :: r, l => by
  have h1 : l.length ≤ (Cy l (msgBytes m)).length := by unfold Cy; split <;> simp
  have h2 := Aet r (Cy l (msgBytes m))
  simp only [way]; omega
theorem Ru {x : Chip} (h : 0 < x.frames.length) : (Ak x goS).2.2 = 0 ∧ x.frames.length ≤ (Ak x goS).1.frames.length + 1 := by
 rw [Acs h]
 refine ⟨rfl, ?_⟩
 have he : (x.frames.eraseIdx 0).length = x.frames.length - 1 := by rw [List.length_eraseIdx, if_pos h]
 rcases Aee ⟨x.cores, x.home, x.frames.eraseIdx 0⟩ (Av x.frames 0) with e | ⟨ms, e⟩
 ·simp only [e]; omega
 ·simp only [e]; have := Aet ms (x.frames.eraseIdx 0); omega
def En (x : Chip) (k : Nat) : Chip × List Done := Cq x (List.replicate k goS)
def Jm (y : Chip) (k : Nat) : Chip × List Done := Cq y ((List.range k).map tmS)
theorem Rw {x : Chip} {k : Nat} (h : (Ak (En x k).1 goS).2.2 = 0) : En x (k + 1) = ((Ak (En x k).1 goS).1, (En x k).2 ++ (Ak (En x k).1 goS).2.1) := by
 unfold En at h ⊢; rw [List.replicate_succ']; exact Hm _ _ _ h
theorem Yv (x : Chip) : ∀ k, k ≤ x.frames.length → x.frames.length ≤ (En x k).1.frames.length + k
 | 0, _ => by simp [En, Cq]
 | k + 1, h => by
  have ih := Yv x k (by omega)
  have h1 := Ru (x := (En x k).1) (by omega)
  rw [Rw h1.1]; simp only; omega
theorem Ahr {x : Chip} {k : Nat} (h : k < x.frames.length) : (Ak (En x k).1 goS).2.2 = 0 := by
 have := Yv x k (by omega)
 exact (Ru (by omega)).1
theorem Uz (x : Chip) (k : Nat) : (En x k).2.length ≤ k := by
 unfold En; exact Nat.le_trans (Nv _ _) (by simp)
theorem tm_ok {x : Chip} {k : Nat} (h : k ≤ x.cores.length) : (Ak x (tmS k)).2.2 = 0 ∧ (Ak x (tmS k)).2.1 = [] ∧ (Ak x (tmS k)).1.cores = x.cores ∧ (Ak x (tmS k)).1.home = x.home := by
 unfold Ak tmS A7
 rw [if_neg (by simp), if_neg (by simp), if_neg (by simp), if_neg (by simp), if_neg (by simp), if_pos rfl, if_neg (by simp only; omega)]
 split <;> exact ⟨rfl, rfl, rfl, rfl⟩
theorem Ij (y : Chip) : ∀ k, k ≤ y.cores.length + 1 → (Jm y k).1.cores = y.cores ∧ (Jm y k).1.home = y.home ∧ (Jm y k).2 = []
 | 0, _ => by simp [Jm, Cq]
 | k + 1, h => by
  obtain ⟨a, b, c⟩ := Ij y k (by omega)
  have h1 := tm_ok (x := (Jm y k).1) (k := k) (by rw [a]; omega)
  have e : Jm y (k + 1) = ((Ak (Jm y k).1 (tmS k)).1, (Jm y k).2 ++ (Ak (Jm y k).1 (tmS k)).2.1) := by
   unfold Jm at h1 ⊢; rw [List.range_succ, List.map_append]; exact Hm _ _ _ h1.1
  rw [e]; simp only
  exact ⟨by rw [h1.2.2.1, a], by rw [h1.2.2.2, b], by rw [c, h1.2.1]; rfl⟩
theorem Qm {y : Chip} {k : Nat} (h : k ≤ y.cores.length) : (Ak (Jm y k).1 (tmS k)).2.2 = 0 ∧ Jm y (k + 1) = ((Ak (Jm y k).1 (tmS k)).1, []) := by
 obtain ⟨a, b, c⟩ := Ij y k (by omega)
 have h1 := tm_ok (x := (Jm y k).1) (k := k) (by rw [a]; omega)
 refine ⟨h1.1, ?_⟩
 have e : Jm y (k + 1) = ((Ak (Jm y k).1 (tmS k)).1, (Jm y k).2 ++ (Ak (Jm y k).1 (tmS k)).2.1) := by
  unfold Jm at h1 ⊢; rw [List.range_succ, List.map_append]; exact Hm _ _ _ h1.1
 rw [e, c, h1.2.1]; rfl
def A3 (x : Chip) : Chip × List Done := ((Jm (En x x.frames.length).1 ((En x x.frames.length).1.cores.length + 1)).1, (En x x.frames.length).2)
theorem Mw (x : Chip) : A3 x = Cq x (List.replicate x.frames.length goS ++ (List.range ((En x x.frames.length).1.cores.length + 1)).map tmS) := by
 rw [I2]
 have h := (Ij (En x x.frames.length).1 ((En x x.frames.length).1.cores.length + 1) (Nat.le_refl _)).2.2
 show _ = ((Jm (En x x.frames.length).1 _).1, (En x x.frames.length).2 ++ (Jm (En x x.frames.length).1 _).2)
 rw [h, List.append_nil]; rfl
section
variable {n nl : Nat} {x : Chip} {M : List Int}
theorem Pp (h : Inv n nl x M) (k : Nat) : ∃ M', Inv n nl (En x k).1 M' ∧ Dg M (En x k).2 M' := Fs _ h
theorem Pn (h : Inv n nl x M) (k : Nat) : ∃ M', Inv n nl (Jm x k).1 M' := by
 obtain ⟨M', h', _⟩ := Fs ((List.range k).map tmS) h; exact ⟨M', h'⟩
theorem Rj (h : Inv n nl x M) : ∃ M', Inv n nl (A3 x).1 M' ∧ Dg M (A3 x).2 M' := by
 rw [Mw]; exact Fs _ h
theorem Mv (h : Inv n nl x M) : (A3 x).2.length ≤ 40 := Nat.le_trans (Uz x _) h.fr
theorem calmR_iff : E9 x = true ↔ (∀ i, i < x.home.length → (ent x i).phase = 0) ∧ ∀ p, p < x.cores.length → (cor x p).wait.kind = 0 := by
 unfold E9
 rw [Bool.and_eq_true, allN_iff, allN_iff]
 unfold Jt Ib
 simp only [beq_iff_eq]
def frW (b : List UInt8) : Nat := if 3 ≤ (b.getD 0 0).toNat ∧ (b.getD 0 0).toNat ≤ 7 then 2 else 1
def Hb : Frames → Nat
 | [] => 0
 | b :: l => frW b + Hb l
theorem Yy (b : List UInt8) : 1 ≤ frW b ∧ frW b ≤ 2 := by unfold frW; split <;> omega
theorem Mb : ∀ (a b : Frames), Hb (a ++ b) = Hb a + Hb b
 | [], b => by simp [Hb]
 | c :: a, b => by rw [List.cons_append]; simp only [Hb]; rw [Mb a b]; omega
theorem P0 : ∀ (a : Frames), Hb a ≤ 2 * a.length
 | [] => by simp [Hb]
 | c :: a => by have := P0 a; have := Yy c; simp only [Hb, List.length_cons]; omega
theorem Yx (m : Msg) (h : 8 ≤ m.kind ∧ m.kind ≤ 11) : frW (msgBytes m) = 1 := by
 have e : (msgBytes m).getD 0 0 = u8 m.kind := rfl
 unfold frW; rw [e]
 have : m.kind = 8 ∨ m.kind = 9 ∨ m.kind = 10 ∨ m.kind = 11 := by omega
 rcases this with h | h | h | h <;> rw [h] <;> decide
theorem Hl {c : Config} {b : List UInt8} {m : Msg} (h : Af c b = (m, 0)) (h3 : 3 ≤ m.kind ∧ m.kind ≤ 7) : frW b = 2 := by
 have e : m.kind = ((b.getD 0 0).toNat : Int) := by
  rw [(Fg h).2.2.2.2.2]; rfl
 unfold frW; rw [if_pos (by omega)]
theorem Yo {e : Entry} {id : Int} {m : Msg} (h0 : e.phase = 0) (hg : m.kind = 1 ∨ m.kind = 2 → m.serial ≤ Dt e m.src) : (Ag e id m).1.phase = 0 ∧ ((Ag e id m).2 = [] ∨ (m.kind = 3 ∧ ∃ m', (Ag e id m).2 = [m'] ∧ m'.kind = 11)) := by
 unfold Ag
 split
 ·rename_i hk
  rw [if_pos (.inr (.inl (hg hk)))]; exact ⟨h0, .inl rfl⟩
 split
 ·rename_i hk
  rw [if_neg (fun h => h h0)]
  refine ⟨?_, .inr ⟨hk, _, rfl, rfl⟩⟩
  simp only; unfold Fl
  split
  ·split <;> exact h0
  ·exact h0
 split
 ·exact Zgk
 split
 ·exact Zgk
 split
 ·exact Zgk
 ·exact ⟨h0, .inl rfl⟩
theorem Zk {c : Core} {id home : Int} {m : Msg} (hw : ¬ (m.line < 0 ∨ (c.lines.length : Int) ≤ m.line) → (Ac c m.line).want = 0) (hf : m.kind = 5 ∨ m.kind = 6 → m.turn ≤ (Ac c m.line).seen) : (Ae c id home m).1.wait = c.wait ∧ (Ae c id home m).2.2 = [] ∧ ((Ae c id home m).2.1 = [] ∨ ((3 ≤ m.kind ∧ m.kind ≤ 7) ∧ ∃ m', (Ae c id home m).2.1 = [m'] ∧ 8 ≤ m'.kind ∧ m'.kind ≤ 11)) := by
 unfold Ae
 split
 ·exact ⟨rfl, rfl, .inl rfl⟩
 rename_i h0
 have hw := hw h0
 split
 ·rename_i hk; exact ⟨rfl, rfl, .inr ⟨by omega, _, rfl, by unfold A8; simp only; omega⟩⟩
 split
 ·rename_i hk
  rw [if_neg (show ¬ D1 (Ac c m.line) m.turn from fun h => by have := h.2.1; have := hf hk; omega)]
  split
  ·exact ⟨by trivial, by trivial, .inr ⟨by omega, _, rfl, by unfold A8; simp only; omega⟩⟩
  ·exact ⟨by trivial, by trivial, .inl rfl⟩
 split
 ·split
  ·exact ⟨rfl, rfl, .inl rfl⟩
  rw [if_neg (show ¬ Gp (Ac c m.line) m from fun h => by have := h.2; omega)]
  exact ⟨rfl, rfl, .inr ⟨by omega, _, rfl, by unfold A8; simp only; omega⟩⟩
 split
 ·rename_i h; exact absurd h.2.1 (by omega)
 ·exact ⟨rfl, rfl, .inl rfl⟩
theorem Y9 (l : Frames) (m : Msg) (h : 8 ≤ m.kind ∧ m.kind ≤ 11) : Hb (Cy l (msgBytes m)) ≤ Hb l + 1 := by
 unfold Cy; split
 ·rw [Mb]; simp only [Hb]; rw [Yx m h]; omega
 ·omega
theorem Pz {l : Frames} {ms : List Msg} {b : List UInt8} (h : ms = [] ∨ (frW b = 2 ∧ ∃ m', ms = [m'] ∧ 8 ≤ m'.kind ∧ m'.kind ≤ 11)) : Hb (way l ms) + 1 ≤ frW b + Hb l := by
 rcases h with rfl | ⟨h1, m', rfl, h2⟩
 ·have := Yy b; simp only [way]; omega
 ·simp only [way]; have := Y9 l m' h2; omega
theorem P9 (h : Inv n nl x M) (hc : E9 x = true) (hf : 0 < x.frames.length) : E9 (Ak x goS).1 = true ∧ (Ak x goS).2.1 = [] ∧ Hb (Ak x goS).1.frames + 1 ≤ Hb x.frames := by
 have hc0 := calmR_iff.1 hc
 obtain ⟨b, fs, hfr⟩ : ∃ b fs, x.frames = b :: fs := by
  cases e : x.frames with
  | nil => rw [e] at hf; exact absurd hf (by simp)
  | cons b fs => exact ⟨b, fs, rfl⟩
 rw [Acs hf]
 have hb : Av x.frames 0 = b := by rw [hfr]; rfl
 have he : x.frames.eraseIdx 0 = fs := by rw [hfr]; rfl
 have hd : Hb x.frames = frW b + Hb fs := by rw [hfr]; rfl
 rw [hb, he, hd]
 have hcf : Ap ⟨x.cores, x.home, fs⟩ = Ef n nl := by
  exact ZfM
 have hmi := (h.mi b (by rw [hfr]; exact List.mem_cons_self ..)).2
 have hwant : ∀ p i, p < n → i < nl → (lin x i p).want = 0 := fun p i hp hi => ((h.cw p hp).free (hc0.2 p (by rw [h.nc]; exact hp))).2 i hi
 unfold Be
 rw [hcf]
 split
 ·exact ⟨hc, rfl, by have := Yy b; simp only; omega⟩
 rename_i hp0
 have hpar : Af (Ef n nl) b = ((Af (Ef n nl) b).1, 0) := by rw [← Decidable.not_not.1 hp0]
 have hMX := hmi _ hpar
 have hw := Ey (Fg hpar).2.2.2.2.1
 have hfw := fun h3 => Hl hpar h3
 generalize (Af (Ef n nl) b).1 = m at *
 refine Zen ?_;intro hnx hcn hln
 rw [hcn, hln] at hw
 have hli : m.line.toNat < nl := by omega
 split
 ·rename_i hdst
  have hpe : J1 n m = m.src.toNat := by unfold J1; rw [if_pos hdst]
  unfold MX at hMX; rw [hpe] at hMX
  have hsrc : m.src.toNat < n := by omega
  have hw0 := hwant m.src.toNat m.line.toNat hsrc hli
  have hg : m.kind = 1 ∨ m.kind = 2 → m.serial ≤ Dt (Ad x.home m.line) m.src := fun hk => by
   have h1 := (hMX.get hk).2
   refine Int.not_lt.1 fun hlt => ?_
   have h2 := (h1 hlt).2
   rw [hw0] at h2; omega
  have h00 : (Ad x.home m.line).phase = 0 := hc0.1 m.line.toNat (by rw [h.nh]; exact hli)
  have hr := Yo (e := Ad x.home m.line) (id := (n : Int)) (m := m) h00 hg
  simp only
  unfold Al
  split
  ·exact ⟨calmR_iff.2 hc0, trivial, Pz (.inl rfl)⟩
  ·refine ⟨calmR_iff.2 ⟨fun i hi => ?_, hc0.2⟩, trivial, Pz ?_⟩
   ·simp only [List.length_set] at hi
    show ((x.home.set m.line.toNat _).getD i A1).phase = 0
    rw [Ch _ _ _ _ _ (by rw [h.nh]; exact hli)]
    split
    ·exact hr.1
    ·exact hc0.1 i hi
   ·simp only
    rcases hr.2 with e | ⟨h3, m', e1, e2⟩
    ·exact .inl e
    ·exact .inr ⟨hfw (by omega), m', e1, by omega⟩
 ·rename_i hdst
  have hpe : J1 n m = m.dst.toNat := by unfold J1; rw [if_neg hdst]
  unfold MX at hMX; rw [hpe] at hMX
  have hdn : m.dst.toNat < n := by omega
  have hw0 := hwant m.dst.toNat m.line.toNat hdn hli
  have h00 : (ent x m.line.toNat).phase = 0 := hc0.1 m.line.toNat (by rw [h.nh]; exact hli)
  have hr := Zk (c := Aq ⟨x.cores, x.home, fs⟩ m.dst) (id := m.dst) (home := (n : Int)) (m := m) (fun _ => hw0) (fun hk => by
   have h1 := (hMX.fet hk).2
   refine Int.not_lt.1 fun hlt => ?_
   have h2 := (h1 hlt).2.1
   have h3 : (ab (ent x m.line.toNat)).phase = 0 := h00
   omega)
  simp only
  refine ⟨calmR_iff.2 ⟨hc0.1, fun p hp => ?_⟩, hr.2.1, ?_⟩
  ·simp only [C1, List.length_set] at hp
   show ((x.cores.set m.dst.toNat _).getD p E4).wait.kind = 0
   rw [Ch _ _ _ _ _ (by rw [h.nc]; exact hdn)]
   split
   ·rw [hr.1]; exact hc0.2 m.dst.toNat (by rw [h.nc]; exact hdn)
   ·exact hc0.2 p hp
  ·show Hb (way fs _) + 1 ≤ _
   have := Pz (l := fs) (b := b) (ms := (Ae (Aq ⟨x.cores, x.home, fs⟩ m.dst) m.dst (n : Int) m).2.1) (by
    rcases hr.2.2 with e | ⟨h3, m', e1, e2⟩
    ·exact .inl e
    ·exact .inr ⟨hfw h3, m', e1, e2⟩)
   omega
def drN : Nat → Chip → Chip
 | 0, x => x
 | k + 1, x => if x.frames.length = 0 then x else drN k (Ak x goS).1
def Rz (x : Chip) : Chip := drN (Hb x.frames) x
theorem U5 {l : Frames} (h : 0 < l.length) : 0 < Hb l := by
 cases l with
 | nil => exact absurd h (by simp)
 | cons b l => have := Yy b; simp only [Hb]; omega
theorem P1 (x : Chip) (h : x.frames.length = 0) : ∀ j, drN j x = x
 | 0 => rfl
 | j + 1 => by simp only [drN]; rw [if_pos h]
theorem Ns {l : Frames} (h : Hb l = 0) : l.length = 0 := by
 refine Classical.byContradiction fun c => ?_
 have := U5 (l := l) (by omega); omega
theorem U6 : ∀ (k j : Nat) {x : Chip} {M : List Int}, Inv n nl x M → E9 x = true → Hb x.frames ≤ k → Hb x.frames ≤ j → drN k x = drN j x
 | 0, j, x, M, _, _, hk, _ => (P1 x (Ns (by omega)) j).symm
 | k + 1, 0, x, M, _, _, _, hj => P1 x (Ns (by omega)) (k + 1)
 | k + 1, j + 1, x, M, h, hc, hk, hj => by
  simp only [drN]
  by_cases hz : x.frames.length = 0
  ·rw [if_pos hz, if_pos hz]
  ·rw [if_neg hz, if_neg hz]
   obtain ⟨c1, c2, c3⟩ := P9 h hc (by omega)
   obtain ⟨M', h', _⟩ := Ix h (Ru (x := x) (by omega)).1
   exact U6 k j h' c1 (by omega) (by omega)
theorem Y8 {x : Chip} (h : x.frames.length = 0) : Rz x = x := P1 x h _
theorem Adm (h : Inv n nl x M) (hc : E9 x = true) (hf : 0 < x.frames.length) : Rz x = Rz (Ak x goS).1 := by
 obtain ⟨c1, c2, c3⟩ := P9 h hc hf
 obtain ⟨M', h', _⟩ := Ix h (Ru hf).1
 obtain ⟨d, hd⟩ : ∃ d, Hb x.frames = d + 1 := ⟨Hb x.frames - 1, by have := U5 hf; omega⟩
 unfold Rz
 rw [hd]; simp only [drN]; rw [if_neg (by omega)]
 exact U6 _ _ h' c1 (by omega) (Nat.le_refl _)
end
def Cb : Nat → Chip → Chip × List Done × Nat
 | 0, x => (x, [], 0)
 | k + 1, x => if E9 x = true then (x, [], 0) else ((Cb k (A3 x).1).1, (A3 x).2 ++ (Cb k (A3 x).1).2.1, (Cb k (A3 x).1).2.2 + 1)
def Lb (k n0 : Nat) (x : Chip) (d : List Done) : Chip × List Done × Nat :=
 if (Cb k x).2.2 = k then ((Cb k x).1, d ++ (Cb k x).2.1, n0 + k) else (Rz (Cb k x).1, d ++ (Cb k x).2.1, n0 + (Cb k x).2.2)
theorem fin_0 {n0 : Nat} {x : Chip} {d : List Done} : Lb 0 n0 x d = (x, d, n0) := by unfold Lb; rw [if_pos (show (Cb 0 x).2.2 = 0 from rfl)]; simp [Cb]
theorem Mn {k : Nat} {x : Chip} (hc : E9 x = true) : Cb (k + 1) x = (x, [], 0) := by simp only [Cb]; rw [if_pos hc]
theorem Pw {k n0 : Nat} {x : Chip} {d : List Done} (hc : E9 x = true) : Lb (k + 1) n0 x d = (Rz x, d, n0) := by
 unfold Lb; rw [Mn hc, if_neg (by simp)]; simp
theorem Y0 {k n0 : Nat} {x : Chip} {d : List Done} (hc : ¬ E9 x = true) : Lb (k + 1) n0 x d = Lb k (n0 + 1) (A3 x).1 (d ++ (A3 x).2) := by
 have e : Cb (k + 1) x = ((Cb k (A3 x).1).1, (A3 x).2 ++ (Cb k (A3 x).1).2.1, (Cb k (A3 x).1).2.2 + 1) := by simp only [Cb]; rw [if_neg hc]
 unfold Lb; rw [e]; simp only
 by_cases h : (Cb k (A3 x).1).2.2 = k
 ·rw [if_pos (by omega), if_pos h]; simp; omega
 ·rw [if_neg (by omega), if_neg h]; simp; omega
def Hy (x : Chip) : Nat := 12 * x.cores.length + 12
def Au (x : Chip) : Chip × List Done × Nat := Lb (Hy x) 0 x []
theorem Qs {a b : Nat} {q : Bool} (h : a ≤ b) : a = b ∨ (a < b ∧ q = true) ∨ (a < b ∧ q = false) := by
 rcases Nat.lt_or_ge a b with h1 | h1
 ·cases q
  ·exact .inr (.inr ⟨h1, rfl⟩)
  ·exact .inr (.inl ⟨h1, rfl⟩)
 ·exact .inl (by omega)
def V6 (p : Nat → Bool) : Nat → Int
 | 0 => -1
 | k + 1 => if 0 ≤ V6 p k then V6 p k else if p k = true then (k : Int) else -1
theorem Up {p : Nat → Bool} : ∀ {k : Nat}, (∀ i, i < k → p i = false) → V6 p k = -1
 | 0, _ => rfl
 | k + 1, h => by
  simp only [V6]
  rw [Up (k := k) fun i hi => h i (by omega), if_neg (by decide), if_neg (by rw [h k (by omega)]; decide)]
theorem Yl {p : Nat → Bool} {k : Nat} (h : ∀ i, i < k → p i = false) (hk : p k = true) : ∀ {n : Nat}, k < n → V6 p n = (k : Int)
 | 0, hn => absurd hn (by omega)
 | n + 1, hn => by
  simp only [V6]
  by_cases e : k = n
  ·rw [← e, Up h, if_neg (by decide), if_pos hk]
  ·rw [Yl h hk (n := n) (by omega), if_pos (by omega)]
theorem Yk {p : Nat → Bool} : ∀ {n : Nat}, N2 (fun k => !p k) n = false → 0 ≤ V6 p n
 | 0, e => by cases e
 | n + 1, e => by
  simp only [N2, Bool.and_eq_false_iff] at e
  simp only [V6]
  by_cases h : 0 ≤ V6 p n
  ·rw [if_pos h]; exact h
  ·rw [if_neg h]
   rcases e with e | e
   ·exact absurd (Yk e) h
   ·rw [if_pos (by simpa using e)]; omega
theorem Ahl {p : Nat → Bool} {n : Nat} : decide (0 ≤ V6 p n) = !N2 (fun k => !p k) n := by
 cases e : N2 (fun k => !p k) n with
 | true => rw [Up fun i hi => by have := allN_iff.1 e i hi; simpa using this]; rfl
 | false => rw [decide_eq_true (Yk e)]; rfl
theorem Ahm {cv : Value} {x : Chip} {ff : Nat} {caps : List Value} {p : Nat → Bool} (hs : St (L) R w) (hv : sl cv x.cores ∈ R) (hf : ∀ args w, (callFunc ff args).run Try.prog w = .ok (.enter ff args) w) (hc : ∀ k, k < x.cores.length → (cor x k).wait.wf → ∀ uk, uk.oneCell' = true → ∀ R' w, sl uk (cor x k).lines ∈ R' → St L R' w → Calls Try.prog ff ([Value.agg (Core.cells uk (cor x k)).toArray] ++ caps).toArray w (Bw (fun _ : Unit => .bool (p k)) (fun _ => L) (fun _ => R'))) : Calls Try.prog 109 [cv, .func (.func ff) #[] caps.toArray].toArray w (Bw (fun _ : Unit => vi (V6 p x.cores.length)) (fun _ => L) (fun _ => R)) := by
 have hlen := Bg hv hs
 refine Aj Try.func109 rfl Try.ntmps109 rfl hs ?_
 clear hs
 refine ZL ?_
 refine Ga3 ?_
 refine Bx (γ := Nat) (fun k => k ≤ x.cores.length ∧ ∀ i, i < k → p i = false) (fun _ => L) (fun _ => R) (fun k => [(0, cv), (1, .func (.func ff) #[] caps.toArray), (7, vi (x.cores.length : Int)), (8, vi (k : Int))]) (fun k => x.cores.length - k) 0 ⟨Nat.zero_le _, fun i hi => absurd hi (by omega)⟩ alT (fun w hs => hs) ?_
 rintro k ⟨hk, hp0⟩
 refine ZE ?_
 refine cdy ?_ ?_
 ·intro ht9
  refine ZD ?_
  refine L6 k (v := cv) mm (by omega) (fun hwk uk honek => ?_)
  refine Zax ?_
  refine Bz (γ := Unit) (val := fun _ => .bool (p k)) (caps := caps) (vs := [.agg (Core.cells uk (cor x k)).toArray]) rfl hf rfl (fun w hs => hc k (by omega) hwk uk honek _ w mm hs) ?_; intro _
  refine Gl ?_
  first | (refine cdx (p := ?p2) (hd := ?d2) ?e2 ?_ ?_; case e2 => exact rfl) | (refine Bk (b := ?b2) ?e2 ?_ ?_; case e2 => exact rfl)
  ·intro ht16
   refine ZD ?_
   have er : V6 p x.cores.length = (k : Int) := Yl hp0 ht16 (by omega)
   exact Zfs
  ·intro ht16
   refine ZD ?_
   refine Bb (k + 1) ⟨by omega, fun i hi => ?_⟩ (by omega) alT (fun w hs => Ai hs)
   by_cases e : i = k
   ·rw [e]; exact ht16
   ·exact hp0 i (by omega)
 ·intro ht9
  refine ZE ?_
  have er : V6 p x.cores.length = -1 := Up fun i hi => hp0 i (by omega)
  exact Zfs
theorem Ajp {cv : Value} {x : Chip} {ff : Nat} {caps : List Value} {p : Nat → Bool} (hs : St (L) R w) (hv : sl cv x.cores ∈ R) (hf : ∀ args w, (callFunc ff args).run Try.prog w = .ok (.enter ff args) w) (hc : ∀ k, k < x.cores.length → (cor x k).wait.wf → ∀ uk, uk.oneCell' = true → ∀ R' w, sl uk (cor x k).lines ∈ R' → St L R' w → Calls Try.prog ff ([Value.agg (Core.cells uk (cor x k)).toArray] ++ caps).toArray w (Bw (fun _ : Unit => .bool (p k)) (fun _ => L) (fun _ => R'))) : Calls Try.prog 94 [cv, .func (.func ff) #[] caps.toArray].toArray w (Bw (fun _ : Unit => .bool (!N2 (fun k => !p k) x.cores.length)) (fun _ => L) (fun _ => R)) := by
 refine Aj Try.func94 rfl Try.ntmps94 rfl hs ?_
 clear hs
 refine ZL ?_
 refine rn2 ?_
 refine Ao Try.call109 rfl (fun w hs => Ahm (ff := ff) (caps := caps) (p := p) hs hv hf hc) ?_; intro _
 refine Ga2 ?_
 rw [← Ahl]
 exact Co ()
theorem Adv {up : Value} {x : Chip} {p : Nat} (hs : St (L) R w) (honeu : up.oneCell' = true) : Calls Try.prog 95 [.agg (Core.cells up (cor x p)).toArray].toArray w (Bw (fun _ : Unit => .bool (!Ib x p)) (fun _ => L) (fun _ => R)) := by
 refine Aj Try.func95 rfl Try.ntmps95 rfl hs ?_
 clear hs
 refine Gm ?_
 refine bx ?_; intro b1
 refine Gb1 ?_
 refine Ga5 ?_
 have er : (!Ib x p) = decide ((cor x p).wait.kind ≠ 0) := by unfold Ib; by_cases h : (cor x p).wait.kind = 0 <;> simp [h]
 rw [er]
 exact Co ()
theorem P8 {cv hv fv : Value} {x : Chip} (hs : St (L) R w) (hcv : sl cv x.cores ∈ R) (hhv : sl hv x.home ∈ R) (hx : CX x) (hfv : sl fv x.frames ∈ R) (honef : fv.oneCell' = true) : Calls Try.prog 67 [.agg #[cv, hv, fv]].toArray w (Bw (fun _ : Unit => .bool (Gf x)) (fun _ => L) (fun _ => R)) := by
 refine Zc1 ?_;intro honec honeh
 have hn4 := hx.n4
 have hh4 := hx.h4
 refine Aj Try.func67 rfl Try.ntmps67 rfl hs ?_
 clear hs
 refine Gm ?_
 refine bx ?_; intro b1
 refine Gb1 ?_
 refine Ga4 ?_
 refine Bx (γ := Nat) (fun i => i ≤ x.home.length ∧ N2 (Jt x) i = true) (fun _ => blk b1 33 [cv, hv, fv] :: L) (fun _ => R) (fun i => [(1, bp b1 0), (6, hv), (7, vi (x.home.length : Int)), (8, vi (i : Int))]) (fun i => x.home.length - i) 0 ⟨Nat.zero_le _, rfl⟩ alT (fun w hs => Ai hs) ?_
 rintro i ⟨hi, hal⟩
 refine ZE ?_
 refine cdy ?_ ?_
 ·intro ht9
  refine Gl ?_
  refine ZdS ?_;intro hwe ue honeu b4
  refine cdy ?_ ?_
  ·intro ht14
   refine ZE ?_
   have er : Gf x = false := by unfold Gf; rw [Tv (show i < x.home.length by omega) (by unfold Jt; simpa using ht14)]; rfl
   exact Zfs
  ·intro ht14
   refine ZD ?_
   refine Bb (i + 1) ⟨by omega, N1 hal (by unfold Jt; simpa using ht14)⟩ (by omega) alT (fun w hs => Ai hs)
 ·intro ht9
  refine Gl ?_
  rcases (show ((x.frames.length : Int) ≠ 0) ∨ ((x.frames.length : Int) = 0) from by omega) with hc | hc
  ·refine ZI ?_
   refine As ?_
   refine Ga7 ?_
   have er : Gf x = false := by unfold Gf; rw [decide_eq_false (show ¬ x.frames.length = 0 by omega)]; simp
   exact Zfs
  ·refine ZI ?_
   refine Cs ?_
   refine ZQ ?_
   refine Ao Try.call94 rfl (fun w hs => Ajp (x := x) (ff := 95) (caps := []) (p := fun p => !Ib x p) hs hcv Try.call95 (fun k hk hwk uk honek R1 w1 hu1 hs1 => Adv hs1 honek)) ?_; intro _
   refine Ga3 ?_
   have er : Gf x = N2 (Ib x) x.cores.length := by unfold Gf; rw [decide_eq_true (show x.frames.length = 0 by omega), show x.home.length = i by omega, hal]; simp
   rw [er]
   refine Co () (hv := ?_)
   simp
theorem Agn {cv hv fv : Value} {x : Chip} (hs : St (L) R w) (hcv : sl cv x.cores ∈ R) (hhv : sl hv x.home ∈ R) (hn4 : x.cores.length ≤ 4) (hh4 : x.home.length ≤ 4) (honef : fv.oneCell' = true) : Calls Try.prog 37 [.agg #[cv, hv, fv]].toArray w (Bw (fun _ : Unit => .bool (E9 x)) (fun _ => L) (fun _ => R)) := by
 refine Zc1 ?_;intro honec honeh
 refine Aj Try.func37 rfl Try.ntmps37 rfl hs ?_
 clear hs
 refine Gm ?_
 refine bx ?_; intro b1
 refine Gb1 ?_
 refine Ga4 ?_
 refine Bx (γ := Nat) (fun i => i ≤ x.home.length ∧ N2 (Jt x) i = true) (fun _ => blk b1 33 [cv, hv, fv] :: L) (fun _ => R) (fun i => [(1, bp b1 0), (8, hv), (9, vi (x.home.length : Int)), (10, vi (i : Int))]) (fun i => x.home.length - i) 0 ⟨Nat.zero_le _, rfl⟩ alT (fun w hs => Ai hs) ?_
 rintro i ⟨hi, hal⟩
 refine ZE ?_
 refine cdy ?_ ?_
 ·intro ht11
  refine Gl ?_
  refine ZdS ?_;intro hwe ue honeu b4
  refine cdy ?_ ?_
  ·intro ht16
   refine ZE ?_
   have er : E9 x = false := by unfold E9; rw [Tv (show i < x.home.length by omega) (by unfold Jt; simpa using ht16)]; rfl
   exact Zfs
  ·intro ht16
   refine ZD ?_
   refine Bb (i + 1) ⟨by omega, N1 hal (by unfold Jt; simpa using ht16)⟩ (by omega) alT (fun w hs => Ai hs)
 ·intro ht11
  refine Gm ?_
  refine Ga4 ?_
  refine Bx (γ := Nat) (fun p => p ≤ x.cores.length ∧ N2 (Ib x) p = true) (fun _ => blk b1 33 [cv, hv, fv] :: L) (fun _ => R) (fun p => [(19, cv), (20, vi (x.cores.length : Int)), (21, vi (p : Int))]) (fun p => x.cores.length - p) 0 ⟨Nat.zero_le _, rfl⟩ alT (fun w hs => Ai hs) ?_
  rintro p ⟨hp, hfr⟩
  refine ZE ?_
  refine cdy ?_ ?_
  ·intro ht22
   refine Gl ?_
   refine L6 p (v := cv) mm (by omega) (fun hwp up honep => ?_)
   refine ZA ?_
   refine al_ (cs := [.slice none 0 0, vi 0, vi 0, vi 0]) Try.zeroValue57 ?_; intro b6
   refine s_B (cs := Core.cells up (cor x p)) Try.sizeOf57 ?_
   refine Gm ?_
   refine Ga4 ?_
   refine cdy ?_ ?_
   ·intro ht28
    refine ZE ?_
    have er : E9 x = false := by unfold E9; rw [Tv (f := Ib x) (show p < x.cores.length by omega) (by unfold Ib; simpa using ht28)]; simp
    exact Zfs
   ·intro ht28
    refine ZD ?_
    refine Bb (p + 1) ⟨by omega, N1 hfr (by unfold Ib; simpa using ht28)⟩ (by omega) alT (fun w hs => Ai hs)
  ·intro ht22
   refine ZE ?_
   have er : E9 x = true := by unfold E9; rw [show x.home.length = i by omega, show x.cores.length = p by omega, hal, hfr]; rfl
   exact Zfs
theorem M0 {c : Int} (hs : St (L) R w) (hc : 0 ≤ c ∧ c ≤ 1000) : Calls Try.prog 33 [vi c].toArray w (Bw (fun _ : Unit => vi (12 * c + 12)) (fun _ => L) (fun _ => R)) := by
 refine Aj Try.func33 rfl Try.ntmps33 rfl hs ?_
 clear hs
 refine ZL ?_
 refine Ga4 ?_
 exact Co ()
theorem Agj {cv hv fv : Value} {x : Chip} {n nl : Nat} {M : List Int} {b0 : Nat} (hs : St (blk b0 33 [cv, hv, fv] :: L) R w) (hcv : sl cv x.cores ∈ R) (hhv : sl hv x.home ∈ R) (hfv : sl fv x.frames ∈ R) (h : Inv n nl x M) : Calls Try.prog 68 [bp b0 0].toArray w (Bw (fun _ : Unit => .bool (E9 x)) (fun _ => blk b0 33 [cv, hv, fv] :: L) (fun _ => R)) := by
 have hn := h.nc
 have hn4 := h.n1
 have hf40 := h.fr
 refine Zbr ?_;intro honec honeh honef
 have hcx : CX (⟨x.cores, x.home, []⟩ : Chip) := (h.frames (f := []) (by simp) (fun b hb => absurd hb (by simp))).cx
 refine Aj Try.func68 rfl Try.ntmps68 rfl hs ?_
 clear hs
 refine ZL ?_
 refine rn3 ?_
 refine al_ (cs := [.slice none 0 0, .slice none 0 0, .slice none 0 0]) Try.zeroValue33 ?_; intro b3
 refine Zbj ?_
 refine Gl ?_
 refine JC.slNil (List UInt8) ?_
 refine ZB ?_
 refine sc ?_
 refine ZJ ?_
 refine Ao Try.call67 rfl (fun w hs => P8 (x := ⟨x.cores, x.home, []⟩) hs mm mm hcx mm rfl) ?_; intro _
 refine Ga1 ?_
 have er : E9 x = Gf ⟨x.cores, x.home, []⟩ := by rw [Tl]; simp only [List.length_nil, decide_true, Bool.true_and]; rfl
 rw [er]
 exact Co ()
theorem Aez {cv hv fv : Value} {x : Chip} {n nl : Nat} {M : List Int} (hs : St (L) R w) (hcv : sl cv x.cores ∈ R) (hhv : sl hv x.home ∈ R) (hfv : sl fv x.frames ∈ R) (h : Inv n nl x M) : Calls Try.prog 31 [.agg #[cv, hv, fv]].toArray w (Bw (fun v : Value × Value × Value × Value => .tuple #[.agg #[v.1, v.2.1, v.2.2.1], v.2.2.2]) (fun v => L) (fun v => sl v.1 (A3 x).1.cores :: sl v.2.1 (A3 x).1.home :: sl v.2.2.1 (A3 x).1.frames :: sl v.2.2.2 (A3 x).2 :: R)) := by
 have hn := h.nc
 have hn4 := h.n1
 have hf40 := h.fr
 refine Zbr ?_;intro honec honeh honef
 refine Aj Try.func31 rfl Try.ntmps31 rfl hs ?_
 clear hs
 refine ZbE ?_;intro b1 b2
 refine Gb1 ?_
 refine Gb1 ?_
 refine Ga4 ?_
 have e0 : En x 0 = (x, []) := by unfold En; simp [Cq]
 refine ZaB ?_
 refine Bx (γ := Nat × Value × Value × Value × Value) (fun g => g.1 ≤ x.frames.length) (fun g => row 66 g.2.2.2.2 (En x g.1).2 :: blk b1 33 [g.2.1, g.2.2.1, g.2.2.2.1] :: blk b2 33 [.slice none 0 0, .slice none 0 0, .slice none 0 0] :: L) (fun g => sl g.2.1 (En x g.1).1.cores :: sl g.2.2.1 (En x g.1).1.home :: sl g.2.2.2.1 (En x g.1).1.frames :: R) (fun g => [(1, bp b1 0), (2, bp b2 0), (4, g.2.2.2.2), (14, vi (x.frames.length : Int)), (15, vi (g.1 : Int))]) (fun g => x.frames.length - g.1) (0, cv, hv, fv, .slice none 0 0) (Nat.zero_le _) alT (fun w hs => by rw [e0]; exact Ai hs) ?_
 rintro ⟨k, cv, hv, fv, dv⟩ hk
 try simp only at hk ⊢
 have hdl := Uz x k
 refine ZE ?_
 refine cdy ?_ ?_
 ·intro ht16
  refine ZK ?_
  obtain ⟨Mk, hIk, _⟩ := Pp h k
  have gok := Ahr (x := x) (k := k) (by omega)
  have h9 := Nu (En x k).1 goS
  refine Ao Try.call19 rfl (fun w hs => Jh (x := (En x k).1) (s := goS) hs mm mm mm (by unfold Step.wf An goS zOp; decide) hIk) ?_; intro v20
  refine ZcJ ?_;intro h12
  obtain ⟨honev201, honev202, honev203⟩ := h12
  refine rn4 ?_
  refine al_ (cs := [.slice none 0 0, .slice none 0 0, .slice none 0 0]) Try.zeroValue33 ?_; intro b5
  refine Zcx ?_
  refine Gb2 ?_
  refine rn1 ?_
  refine ob (Am rfl rfl (De gok)) ?_
  refine Gmc ?_
  refine rn1 ?_
  refine Zcx ?_
  refine ZK ?_
  refine ap F4 (hb := fun w hs => by have : maxN = 16777216 := rfl; (try simp only [List.length_cons, List.length_nil]); omega) (k := ?_); intro v29
  refine ZH ?_
  have e1 := Rw gok
  refine Bb (k + 1, v20.1, v20.2.1, v20.2.2.1, v29) (by show k + 1 ≤ x.frames.length; omega) (by show x.frames.length - (k + 1) < x.frames.length - k; omega) alT (fun w hs => ?_)
  try simp only
  rw [e1]; exact Ai hs
 ·intro ht16
  refine Gl ?_
  have hkf : k = x.frames.length := by omega
  subst hkf
  obtain ⟨My, hIy, _⟩ := Pp h x.frames.length
  have hny := hIy.nc
  refine Aa ?_
  refine Ga5 ?_
  have f0 : Jm (En x x.frames.length).1 0 = ((En x x.frames.length).1, []) := by unfold Jm; simp [Cq]
  refine Bx (γ := Nat × Value × Value × Value) (fun g => g.1 ≤ (En x x.frames.length).1.cores.length + 1) (fun g => row 66 dv (En x x.frames.length).2 :: blk b1 33 [g.2.1, g.2.2.1, g.2.2.2] :: blk b2 33 [.slice none 0 0, .slice none 0 0, .slice none 0 0] :: L) (fun g => sl g.2.1 (Jm (En x x.frames.length).1 g.1).1.cores :: sl g.2.2.1 (Jm (En x x.frames.length).1 g.1).1.home :: sl g.2.2.2 (Jm (En x x.frames.length).1 g.1).1.frames :: R) (fun g => [(1, bp b1 0), (2, bp b2 0), (4, dv), (34, vi ((((En x x.frames.length).1.cores.length + 1 : Nat)) : Int)), (35, vi (g.1 : Int))]) (fun g => (En x x.frames.length).1.cores.length + 1 - g.1) (0, cv, hv, fv) (Nat.zero_le _) alT (fun w hs => by rw [f0]; exact Ai hs) ?_
  rintro ⟨k, cv, hv, fv⟩ hk
  try simp only at hk ⊢
  refine ZE ?_
  refine cdy ?_ ?_
  ·intro ht36
   refine ZaQ ?_
   refine rn3 ?_
   obtain ⟨Mk, hIk⟩ := Pn hIy k
   have tok := Qm (y := (En x x.frames.length).1) (k := k) (by omega)
   refine Ao Try.call19 rfl (fun w hs => Jh (x := (Jm (En x x.frames.length).1 k).1) (s := tmS k) hs mm mm mm (by unfold Step.wf An tmS zOp; simp only; omega) hIk) ?_; intro v42
   refine J.know (p := v42.1.oneCell' = true ∧ v42.2.1.oneCell' = true ∧ v42.2.2.1.oneCell' = true) (fun w hs => ⟨isSlice.one (hs.fact (.head _)), isSlice.one (hs.fact (.tail _ (.head _))), isSlice.one (hs.fact (.tail _ (.tail _ (.head _))))⟩) (fun h12 => ?_)
   obtain ⟨honev421, honev422, honev423⟩ := h12
   refine rn4 ?_
   refine al_ (cs := [.slice none 0 0, .slice none 0 0, .slice none 0 0]) Try.zeroValue33 ?_; intro b9
   refine s_B (cs := [v42.1, v42.2.1, v42.2.2.1]) Try.sizeOf33 ?_
   refine Gb2 ?_
   refine rn1 ?_
   refine ob (Am rfl rfl (Bh tok.1)) ?_
   refine Glc ?_
   refine kp [1, 2, 3, 4, 8, 9, 11, 34, 35, 36, 37, 38, 39, 40, 41, 42, 43, 44, 45, 46, 47, 48] ?_
   refine ZB ?_
   refine s_B (cs := [v42.1, v42.2.1, v42.2.2.1]) Try.sizeOf33 ?_
   refine ZD ?_
   refine Bb (k + 1, v42.1, v42.2.1, v42.2.2.1) (by show k + 1 ≤ (En x x.frames.length).1.cores.length + 1; omega) (by show (En x x.frames.length).1.cores.length + 1 - (k + 1) < (En x x.frames.length).1.cores.length + 1 - k; omega) alT (fun w hs => ?_)
   try simp only
   rw [tok.2]; exact Ai hs
  ·intro ht36
   refine Gl ?_
   have hkl : k = (En x x.frames.length).1.cores.length + 1 := by omega
   subst hkl
   refine JC.shut (v := dv) pkk ?_
   refine JC.know (p := cv.oneCell' = true ∧ hv.oneCell' = true ∧ fv.oneCell' = true) (fun w hs => ⟨isSlice.one (hs.fact (mm (f := sl cv (A3 x).1.cores))), isSlice.one (hs.fact (mm (f := sl hv (A3 x).1.home))), isSlice.one (hs.fact (mm (f := sl fv (A3 x).1.frames)))⟩) (fun h12 => ?_)
   obtain ⟨hone1, hone2, hone3⟩ := h12
   refine ZA ?_
   refine Zbj ?_
   refine Ga1 ?_
   exact G2 (cv, hv, fv, dv) Try.isAgg33 Try.sizeOf33
theorem Om {cv hv fv : Value} {x : Chip} {n nl : Nat} {M : List Int} (hs : St (L) R w) (hcv : sl cv x.cores ∈ R) (hhv : sl hv x.home ∈ R) (hfv : sl fv x.frames ∈ R) (h : Inv n nl x M) : Calls Try.prog 34 [.agg #[cv, hv, fv]].toArray w (Bw (fun v : Value × Value × Value × Value => .tuple #[.agg #[v.1, v.2.1, v.2.2.1], v.2.2.2, vi ((Au x).2.2 : Int)]) (fun v => row 66 v.2.2.2 (Au x).2.1 :: L) (fun v => sl v.1 (Au x).1.cores :: sl v.2.1 (Au x).1.home :: sl v.2.2.1 (Au x).1.frames :: R)) := by
 have hn := h.nc
 have hn4 := h.n1
 have hf40 := h.fr
 refine Zbr ?_;intro honec honeh honef
 refine Aj Try.func34 rfl Try.ntmps34 rfl hs ?_
 clear hs
 refine ZbE ?_;intro b1 b2
 refine Gb2 ?_
 refine Gb1 ?_
 refine Ga1 ?_
 refine ZaB ?_
 refine Bx (γ := Nat × Chip × List Done × Value × Value × Value × Value) (fun g => ∃ Mk, Inv n nl g.2.1 Mk ∧ g.1 ≤ Hy x ∧ Lb (Hy x - g.1) g.1 g.2.1 g.2.2.1 = Au x ∧ g.2.2.1.length ≤ 40 * g.1) (fun g => row 66 g.2.2.2.2.2.2 g.2.2.1 :: blk b1 33 [g.2.2.2.1, g.2.2.2.2.1, g.2.2.2.2.2.1] :: blk b2 33 [.slice none 0 0, .slice none 0 0, .slice none 0 0] :: L) (fun g => sl g.2.2.2.1 g.2.1.cores :: sl g.2.2.2.2.1 g.2.1.home :: sl g.2.2.2.2.2.1 g.2.1.frames :: R) (fun g => [(1, bp b1 0), (2, bp b2 0), (5, g.2.2.2.2.2.2), (6, vi (g.1 : Int))]) (fun g => (Hy x - g.1) * 100 + Hb g.2.1.frames) (0, x, [], cv, hv, fv, .slice none 0 0) ⟨M, h, Nat.zero_le _, rfl, by show 0 ≤ 40 * 0; omega⟩ alT (fun w hs => Ai hs) ?_
 rintro ⟨k, X, D, cv, hv, fv, dv⟩ ⟨Mk, hI, hkm, hfin, hDl⟩
 try simp only at hI hkm hfin hDl ⊢
 have hXn := hI.nc
 have hX4 := hI.n1
 have hXh := hI.nh
 have hXl := hI.l1
 have hX40 := hI.fr
 have hdw := P0 X.frames
 have hmo : Hy x = 12 * n + 12 := by unfold Hy; rw [hn]
 refine JC.know (p := cv.oneCell' = true ∧ hv.oneCell' = true ∧ fv.oneCell' = true) (fun w hs => ⟨isSlice.one (hs.fact (mm (f := sl cv X.cores))), isSlice.one (hs.fact (mm (f := sl hv X.home))), isSlice.one (hs.fact (mm (f := sl fv X.frames)))⟩) (fun h12 => ?_)
 obtain ⟨hone1, hone2, hone3⟩ := h12
 refine Gl ?_
 rcases (show (k = Hy x) ∨ (k < Hy x ∧ Gf X = true) ∨ (k < Hy x ∧ Gf X = false) from by exact Qs hkm) with hc | hc | hc
 ·refine ZC ?_
  refine Ao Try.call33 rfl (fun w hs => M0 hs (by omega)) ?_; intro _
  refine Bc ?_
  refine Gd5 ?_
  refine rn3 ?_
  refine Zbj ?_
  refine Ga2 ?_
  rw [← hfin, show Hy x - k = 0 by omega, fin_0]
  exact Cf (cv, hv, fv, dv) Try.isAgg33 Try.sizeOf33
 ·have hcm : X.frames.length = 0 ∧ E9 X = true := by have h8 := hc.2; rw [Tl, Bool.and_eq_true, decide_eq_true_eq] at h8; exact h8
  refine ZC ?_
  refine Ao Try.call33 rfl (fun w hs => M0 hs (by omega)) ?_; intro _
  refine Ei ?_
  refine Zay ?_
  refine Ao Try.call67 rfl (fun w hs => by have h8 := P8 (x := X) hs mm mm hI.cx mm hone3; rw [hc.2] at h8; exact h8) ?_; intro _
  refine Gd2 ?_
  refine rn3 ?_
  refine Zbj ?_
  refine Ga2 ?_
  rw [← hfin, show Hy x - k = (Hy x - k - 1) + 1 by omega, Pw hcm.2, Y8 hcm.1]
  exact Cf (cv, hv, fv, dv) Try.isAgg33 Try.sizeOf33
 ·refine ZC ?_
  refine Ao Try.call33 rfl (fun w hs => M0 hs (by omega)) ?_; intro _
  refine Ei ?_
  refine Zay ?_
  refine Ao Try.call67 rfl (fun w hs => by have h8 := P8 (x := X) hs mm mm hI.cx mm hone3; rw [hc.2] at h8; exact h8) ?_; intro _
  refine Gd2 ?_
  refine Ao Try.call68 rfl (fun w hs => Agj (x := X) (cv := cv) (hv := hv) (fv := fv) (b0 := b1) (Ai (L' := blk b1 33 [cv, hv, fv] :: row 66 dv D :: blk b2 33 [.slice none 0 0, .slice none 0 0, .slice none 0 0] :: L) hs) mm mm mm hI) ?_; intro _
  refine Gl ?_
  refine Bk (b := ?b1) ?e1 ?_ ?_; case e1 => exact rfl
  ·intro ht23
   have hfp : 0 < X.frames.length := by
    refine Nat.pos_of_ne_zero fun h8 => ?_
    have h9 := hc.2
    rw [Tl, ht23, decide_eq_true h8] at h9
    exact absurd h9 (by decide)
   have gok := (Ru hfp).1
   refine ZK ?_
   refine Ao Try.call19 rfl (fun w hs => Jh (x := X) (s := goS) hs mm mm mm (by unfold Step.wf An goS zOp; decide) hI) ?_; intro v27
   refine J.know (p := v27.1.oneCell' = true ∧ v27.2.1.oneCell' = true ∧ v27.2.2.1.oneCell' = true) (fun w hs => ⟨isSlice.one (hs.fact (.head _)), isSlice.one (hs.fact (.tail _ (.head _))), isSlice.one (hs.fact (.tail _ (.tail _ (.head _))))⟩) (fun h12 => ?_)
   obtain ⟨honev271, honev272, honev273⟩ := h12
   refine rn4 ?_
   refine Zc7 ?_;intro b7
   refine s_B (cs := [v27.1, v27.2.1, v27.2.2.1]) Try.sizeOf33 ?_
   refine Gb2 ?_
   refine rn1 ?_
   refine ob (Am rfl rfl (De gok)) ?_
   refine Glc ?_
   refine kp [1, 2, 3, 4, 5, 6, 7, 8, 9, 12, 13, 14, 15, 16, 17, 18, 19, 20, 21, 22, 23, 24, 25, 26, 27, 28, 29, 30, 31, 32, 33] ?_
   refine ZB ?_
   refine s_B (cs := [v27.1, v27.2.1, v27.2.2.1]) Try.sizeOf33 ?_
   refine Gl ?_
   have h9 := Nu X goS
   refine ZA ?_
   refine ap F4 (hb := fun w hs => by have : maxN = 16777216 := rfl; omega) (k := ?_); intro v36
   refine Ga1 ?_
   have hcg := P9 hI ht23 hfp
   have e1 : Lb (Hy x - k) k (Ak X goS).1 D = Au x := by
    rw [← hfin, show Hy x - k = (Hy x - k - 1) + 1 by omega, Pw hcg.1, Pw ht23, Adm hI ht23 hfp]
   obtain ⟨M2, hI2, _⟩ := Ix hI gok
   refine Bb (k, (Ak X goS).1, D, v27.1, v27.2.1, v27.2.2.1, v36) ⟨M2, hI2, hkm, e1, hDl⟩ (by show (Hy x - k) * 100 + Hb (Ak X goS).1.frames < (Hy x - k) * 100 + Hb X.frames; omega) alT (fun w hs => ?_)
   try simp only
   rw [hcg.2.1, List.append_nil] at hs; exact Ai hs
  ·intro ht23
   refine ZJ ?_
   refine Ao Try.call31 rfl (fun w hs => Aez (x := X) hs mm mm mm hI) ?_; intro v39
   refine J.know (p := v39.1.oneCell' = true ∧ v39.2.1.oneCell' = true ∧ v39.2.2.1.oneCell' = true) (fun w hs => ⟨isSlice.one (hs.fact (.head _)), isSlice.one (hs.fact (.tail _ (.head _))), isSlice.one (hs.fact (.tail _ (.tail _ (.head _))))⟩) (fun h12 => ?_)
   obtain ⟨honev391, honev392, honev393⟩ := h12
   refine rn3 ?_
   refine al_ (cs := [.slice none 0 0, .slice none 0 0, .slice none 0 0]) Try.zeroValue33 ?_; intro b10
   refine s_B (cs := [v39.1, v39.2.1, v39.2.2.1]) Try.sizeOf33 ?_
   refine Zar ?_
   refine s_B (cs := [v39.1, v39.2.1, v39.2.2.1]) Try.sizeOf33 ?_
   refine Gl ?_
   have h9 := Mv hI
   refine ZA ?_
   refine ap F4 (hb := fun w hs => by have : maxN = 16777216 := rfl; omega) (k := ?_); intro v45
   refine Ga1 ?_
   refine kp [1, 2, 3, 4, 5, 6, 7, 8, 9, 10, 11, 12, 13, 14, 15, 16, 17, 18, 19, 20, 21, 22, 23, 24, 25, 26, 27, 28, 29, 30, 31, 32, 33, 34, 35, 36, 37, 38, 39, 40, 41, 42, 43, 44, 45, 46, 47] ?_
   refine Aa ?_
   refine Ga3 ?_
   have hrl := Mv hI
   obtain ⟨M2, hI2, _⟩ := Rj hI
   have hdw2 := P0 (A3 X).1.frames
   have hI240 := hI2.fr
   have e1 : Lb (Hy x - (k + 1)) (k + 1) (A3 X).1 (D ++ (A3 X).2) = Au x := by
    rw [← hfin, show Hy x - k = (Hy x - (k + 1)) + 1 by omega, Y0 (by rw [ht23]; decide)]
   refine Bb (k + 1, (A3 X).1, D ++ (A3 X).2, v39.1, v39.2.1, v39.2.2.1, v45) ⟨M2, hI2, by show k + 1 ≤ Hy x; omega, e1, by show (D ++ (A3 X).2).length ≤ 40 * (k + 1); rw [List.length_append]; omega⟩ (by show (Hy x - (k + 1)) * 100 + Hb (A3 X).1.frames < (Hy x - k) * 100 + Hb X.frames; omega) alT (fun w hs => ?_)
   try simp only
   exact Ai hs
theorem Mx {cv hv fv : Value} {x : Chip} {n nl : Nat} {M : List Int} (hs : St L R w) (hcv : sl cv x.cores ∈ R) (hhv : sl hv x.home ∈ R) (hfv : sl fv x.frames ∈ R) (h : Inv n nl x M) : Calls Try.prog 34 [.agg #[cv, hv, fv]].toArray w (Bw (fun v : Value × Value × Value × Value => .tuple #[.agg #[v.1, v.2.1, v.2.2.1], v.2.2.2, vi ((Au x).2.2 : Int)]) (fun _ => L) (fun v => sl v.1 (Au x).1.cores :: sl v.2.1 (Au x).1.home :: sl v.2.2.1 (Au x).1.frames :: sl v.2.2.2 (Au x).2.1 :: R)) :=
 Ho (frz (Om hs hcv hhv hfv h)) (fun g w' h' => ⟨g, rfl, h'.sub .refl (fun f hf => by
  rcases List.mem_cons.1 hf with e | hf
  ·rw [e]; exact mm
  rcases List.mem_cons.1 hf with e | hf
  ·rw [e]; exact mm
  rcases List.mem_cons.1 hf with e | hf
  ·rw [e]; exact mm
  rcases List.mem_cons.1 hf with e | hf
  ·rw [e]; exact mm
  exact .tail _ (.tail _ (.tail _ (.tail _ hf))))⟩)
end Go.Proofs.Ytehpekiedfpnkaa
namespace Go.Proofs.Ytehpekiedfpnkaa
open Abs
def Gb (f : Nat → Nat) : Nat → Nat
 | 0 => 0
 | k + 1 => Gb f k + f k
theorem F2 {f g : Nat → Nat} : ∀ {k : Nat}, (∀ i, i < k → f i = g i) → Gb f k = Gb g k
 | 0, _ => rfl
 | k + 1, h => by
  have h1 := F2 (k := k) (fun i hi => h i (by omega))
  have h2 := h k (by omega)
  simp only [Gb]; omega
theorem Ky {f g : Nat → Nat} : ∀ {k : Nat}, (∀ i, i < k → f i ≤ g i) → Gb f k ≤ Gb g k
 | 0, _ => Nat.le_refl _
 | k + 1, h => by
  have h1 := Ky (k := k) (fun i hi => h i (by omega))
  have h2 := h k (by omega)
  simp only [Gb]; omega
theorem Hs {f g : Nat → Nat} {p : Nat} : ∀ {k : Nat}, p < k → (∀ i, i < k → i ≠ p → f i = g i) → Gb f k + g p = Gb g k + f p
 | 0, h, _ => absurd h (by omega)
 | k + 1, hp, h => by
  simp only [Gb]
  by_cases e : p = k
  ·subst e
   have := F2 (f := f) (g := g) (k := p) (fun i hi => h i (by omega) (by omega))
   omega
  ·have h1 := Hs (k := k) (show p < k by omega) (fun i hi hne => h i (by omega) hne)
   have h2 := h k (by omega) (by omega)
   omega
theorem Hg (c : Nat) : ∀ k, Gb (fun _ => c) k = c * k
 | 0 => rfl
 | k + 1 => by simp only [Gb]; rw [Hg c k, Nat.mul_succ]
theorem Qn {f : Nat → Nat} {k : Nat} (h : ∀ i, i < k → f i = 0) : Gb f k = 0 := by
 rw [F2 (g := fun _ => 0) h, Hg]; omega
theorem T2 {f : Nat → Nat} {p : Nat} : ∀ {k : Nat}, p < k → f p ≤ Gb f k
 | 0, h => absurd h (by omega)
 | k + 1, h => by
  simp only [Gb]
  by_cases e : p = k
  ·subst e; omega
  ·have := T2 (f := f) (p := p) (k := k) (by omega); omega
def Cu (e : Entry) (p : Nat) : Int := e.last.getD p 0
def faA (e : Entry) (p : Nat) (l : Line) : Nat :=
 if l.want = 0 then 0 else if l.want = 3 then (if Cu e p < l.serial then 2 else 1) else (if Cu e p < l.serial then 11 else 0)
def faQ (e : Entry) (p : Nat) (l : Line) : Nat := if C6 e.need p = 1 then (if l.seen = e.turn then 1 else 2) else 0
def faT (e : Entry) (l : Line) : Nat := if l.seen = e.turn then 0 else 1
def faD (n : Nat) (e : Entry) (l : Nat → Line) : Nat :=
 if e.phase = 1 then 4 + faT e (l e.owner.toNat)
 else if e.phase = 2 then 3 + Gb (fun p => faQ e p (l p)) n
 else if e.phase = 3 then 1 + faT e (l e.who.toNat) else 0
def faL (n : Nat) (e : Entry) (l : Nat → Line) : Nat := Gb (fun p => faA e p (l p)) n + faD n e l
def Phi (n nl : Nat) (x : Chip) : Nat := Gb (fun i => faL n (ent x i) (lin x i)) nl
theorem Ou (e : Entry) (l : Line) : faT e l ≤ 1 := by unfold faT; split <;> omega
theorem Afm (e : Entry) (p : Nat) (l : Line) : faQ e p l ≤ 2 := by unfold faQ; split <;> (try split) <;> omega
theorem O9 {f : Nat → Nat} {w : Nat} (hf : ∀ i, f i ≤ 2) (h0 : f w = 0) : ∀ {k : Nat}, w < k → Gb f k + 2 ≤ 2 * k
 | 0, h => absurd h (by omega)
 | k + 1, h => by
  simp only [Gb]
  by_cases e : w = k
  ·subst e
   have h1 := Ky (f := f) (g := fun _ => 2) (k := w) (fun i _ => hf i)
   rw [Hg] at h1; omega
  ·have := O9 hf h0 (k := k) (by omega); have := hf k; omega
structure SameE (n : Nat) (e e' : Entry) (l : Nat → Line) : Prop where
 ph : e'.phase = e.phase
 ow : e'.owner = e.owner
 nd : e'.need = e.need
 wh : e'.who = e.who
 se : e'.serial = e.serial
 al : e'.alone = e.alone
 tu : e'.turn = e.turn
 va : e'.value = e.value
 la : ∀ p, p < n → (l p).want ≠ 0 → (Cu e' p < (l p).serial ↔ Cu e p < (l p).serial)
theorem SameE.refl (n : Nat) (e : Entry) (l : Nat → Line) : SameE n e e l := ⟨rfl, rfl, rfl, rfl, rfl, rfl, rfl, rfl, fun _ _ _ => Iff.rfl⟩
theorem SameE.trans {n : Nat} {e e' e'' : Entry} {l : Nat → Line} (h : SameE n e e' l) (g : SameE n e' e'' l) : SameE n e e'' l :=
 ⟨g.ph.trans h.ph, g.ow.trans h.ow, g.nd.trans h.nd, g.wh.trans h.wh, g.se.trans h.se, g.al.trans h.al, g.tu.trans h.tu, g.va.trans h.va, fun p hp hw => (g.la p hp hw).trans (h.la p hp hw)⟩
theorem SameE.faA {n : Nat} {e e' : Entry} {l : Nat → Line} (h : SameE n e e' l) {p : Nat} (hp : p < n) : faA e' p (l p) = faA e p (l p) := by
 unfold Go.Proofs.Ytehpekiedfpnkaa.faA
 by_cases hw : (l p).want = 0
 ·rw [if_pos hw, if_pos hw]
 ·have := h.la p hp hw
  rw [if_neg hw, if_neg hw]
  by_cases hl : Cu e p < (l p).serial
  ·rw [if_pos hl, if_pos (this.2 hl), if_pos hl, if_pos (this.2 hl)]
  ·rw [if_neg hl, if_neg (fun h => hl (this.1 h)), if_neg hl, if_neg (fun h => hl (this.1 h))]
theorem SameE.faD {n : Nat} {e e' : Entry} {l : Nat → Line} (h : SameE n e e' l) : faD n e' l = faD n e l := by
 unfold Go.Proofs.Ytehpekiedfpnkaa.faD faT faQ
 rw [h.ph, h.ow, h.nd, h.wh, h.tu]
theorem SameE.faL {n : Nat} {e e' : Entry} {l : Nat → Line} (h : SameE n e e' l) : faL n e' l = faL n e l := by
 unfold Go.Proofs.Ytehpekiedfpnkaa.faL
 rw [h.faD, F2 (fun p hp => h.faA hp)]
def Kb (n : Nat) (m : Msg) : Msg := ⟨11, (n : Int), m.src, m.line, m.serial, 0, 0, false⟩
inductive HomeDoes (n : Nat) (e : Entry) (l : Nat → Line) (p : Nat) (m : Msg) (e' : Entry) (s : List Msg) : Prop
 | no (h : SameE n e e' l) (hs : s = []) (hk : m.kind = 3 → e.phase ≠ 0) (h12 : m.kind = 1 ∨ m.kind = 2 → e.phase = 0 → m.serial ≤ Cu e p) (h9 : m.kind = 9 → e.phase = 1 → m.turn = e.turn → e.owner ≠ p)
  (h8 : m.kind = 8 → e.phase = 2 → m.turn = e.turn → C6 e.need p ≠ 1) (h10 : m.kind = 10 → e.phase = 3 → m.turn = e.turn → e.who ≠ p) (hge : ∀ q, Cu e q ≤ Cu e' q)
 | late (hk : m.kind = 3) (h0 : e.phase = 0) (h : SameE n e e' l) (hs : s = [Kb n m]) (hl : m.serial ≤ Cu e' p) (hge : ∀ q, Cu e q ≤ Cu e' q)
 | put (hk : m.kind = 3) (h0 : e.phase = 0) (hw : (l p).want = 3) (hm : m.serial = (l p).serial) (hl : Cu e p < (l p).serial) (h0' : e'.phase = 0) (hl' : Cu e' p = (l p).serial) (ho : ∀ q, q ≠ p → Cu e' q = Cu e q) (ht : e'.turn = e.turn) (hs : s = [Kb n m])
 | get (h0 : e.phase = 0) (hw : (l p).want = m.kind) (hk : m.kind = 1 ∨ m.kind = 2) (hm : m.serial = (l p).serial) (hl : Cu e p < (l p).serial) (h0' : 1 ≤ e'.phase ∧ e'.phase ≤ 3) (hl' : Cu e' p = (l p).serial) (ho : ∀ q, q ≠ p → Cu e' q = Cu e q) (ht : e'.turn = e.turn + 1)
  (hwho : e'.who = p) (hse : e'.serial = m.serial) (hnw : C6 e'.need p = 0) (hs : s = D4 e' m.line n)
 | data (hk : m.kind = 9) (h0 : e.phase = 1) (ho : e.owner = p) (hm : m.turn = e.turn) (h0' : e'.phase = 3) (hl' : e'.last = e.last) (ht : e'.turn = e.turn) (hwho : e'.who = e.who) (hse : e'.serial = e.serial) (hs : s = D4 e' m.line n)
 | gone (hk : m.kind = 8) (h0 : e.phase = 2) (hn : C6 e.need p = 1) (hm : m.turn = e.turn) (h0' : e'.phase = 2) (hnd : ∀ q, C6 e'.need q = if q = p then 0 else C6 e.need q) (hl' : e'.last = e.last) (ht : e'.turn = e.turn) (hwho : e'.who = e.who) (hse : e'.serial = e.serial) (hs : s = [])
 | all (hk : m.kind = 8) (h0 : e.phase = 2) (hn : C6 e.need p = 1) (hm : m.turn = e.turn) (h0' : e'.phase = 3) (hl' : e'.last = e.last) (ht : e'.turn = e.turn) (hwho : e'.who = e.who) (hse : e'.serial = e.serial) (hs : s = D4 e' m.line n)
 | thanks (hk : m.kind = 10) (h0 : e.phase = 3) (hw : e.who = p) (hm : m.turn = e.turn) (h0' : e'.phase = 0) (hl' : e'.last = e.last) (ht : e'.turn = e.turn) (hs : s = [])
section
variable {n nl : Nat} {x : Chip} {M : List Int}
theorem Acg {n p : Nat} {e : Entry} {s : Int} (hla : e.last.length = n) (hp : p < n) : (e.last.set p s).getD p 0 = s ∧ ∀ q, q ≠ p → (e.last.set p s).getD q 0 = e.last.getD q 0 := by
 refine ⟨by rw [Ch _ _ _ _ _ (by rw [hla]; exact hp), if_pos rfl], fun q hq => by rw [Ch _ _ _ _ _ (by rw [hla]; exact hp), if_neg hq]⟩
theorem Nc (e : Entry) : (A9 e).turn = e.turn ∧ (A9 e).last = e.last ∧ (A9 e).who = e.who ∧ (A9 e).serial = e.serial ∧ (1 ≤ (A9 e).phase ∧ (A9 e).phase ≤ 3) := by
 unfold A9; split
 ·exact ⟨rfl, rfl, rfl, rfl, by simp⟩
 split
 ·exact ⟨rfl, rfl, rfl, rfl, by simp⟩
 ·exact ⟨rfl, rfl, rfl, rfl, by simp⟩
theorem Oa (h : Inv n nl x M) {p i : Nat} (hp : p < n) (hi : i < nl) (hop : (ent x i).owner = p) (h0 : (ent x i).phase = 1) (m : Msg) : (Ge (ent x i) m).phase = 3 := by
 have hn := h.n1
 have hb := h.bit i hi
 have hz : (ent x i).sharers = 0 := by
  refine I3 (Hz (by omega) hb.1) fun q _ => ?_
  by_cases hq : q < n
  ·have h1 := (h.ci i hi q hq).shs
   have h2 := (h.ci i hi q hq).bits
   simp only [ab] at h1 h2
   omega
  ·unfold C6
   refine Zch ?_
   rfl
 have hclr0 : ∀ w : Int, Gs 0 w = 0 := by intro w; unfold Gs Lx; simp
 have hc : ¬ ((ent x i).alone = true ∧ Gs (if (ent x i).alone = true then (ent x i).sharers else Hr (ent x i).sharers (ent x i).owner) (ent x i).who ≠ 0) := by
  rintro ⟨h1, h2⟩
  rw [if_pos h1, hz, hclr0] at h2
  exact h2 rfl
 unfold Ge A9
 simp only
 rw [if_neg (by omega), if_neg hc]
theorem N9 (h : Inv n nl x M) {p i : Nat} {m : Msg} (hp : p < n) (hi : i < nl) (hs : m.src = p) (h0 : (ent x i).phase = 2) (hnd : C6 (ent x i).need p = 1) (hz0 : (Cc (ent x i) m).need = 0) : (A9 (Cc (ent x i) m)).phase = 3 := by
 refine Zb5 ?_;intro hn hb hgi
 have hz : Gs (ent x i).need p = 0 := by unfold Cc at hz0; rw [hs] at hz0; exact hz0
 have hc1 := Ow (by omega) hb.1 (show p < 4 by omega)
 refine Zei ?_;intro hb1 hb2 hown
 have hrest : ∀ q : Nat, q ≠ p → q < n → C6 (ent x i).need q = 0 := by
  intro q hqp hq
  have := congrFun hb2 q
  exact Zf0
 have hsh : ∀ q, q < n → (ent x i).who ≠ q → q ≠ p → C6 (ent x i).sharers q = 0 := by
  exact ZfL
 have hw := hgi.whor (by show (ent x i).phase ≠ 0; omega)
 simp only [ab] at hw
 obtain ⟨w, hw'⟩ : ∃ w : Nat, (ent x i).who = w := ⟨(ent x i).who.toNat, by omega⟩
 have hcc : Gs (Gs (ent x i).sharers p) (ent x i).who = 0 := by
  exact ZeZ
 unfold Cc A9
 simp only [hs]
 rw [if_neg (by omega), if_neg (by rintro ⟨_, h2⟩; exact h2 hcc)]
theorem Yn (h : Inv n nl x M) {p i : Nat} {m : Msg} (hp : p < n) (hi : i < nl) (hs : m.src = p) (hM : MI (ab (ent x i)) p (lin x i p) m) (ht : (ent x i).turn < 65535) :
  HomeDoes n (ent x i) (lin x i) p m (Ag (ent x i) n m).1 (Ag (ent x i) n m).2 := by
 refine Zb5 ?_;intro hn hb hgi
 have hla := h.nla i hi
 have hsp : m.src.toNat = p := by omega
 have hlast : Dt (ent x i) m.src = Cu (ent x i) p := by unfold Dt Cu; rw [hsp]
 have hci := h.ci i hi p hp
 have hget := hM.get
 have hput := hM.put
 simp only [ab] at hget hput
 obtain ⟨hset, hsetq⟩ := Acg (s := m.serial) hla hp
 unfold Ag
 split
 ·rename_i hk
  split
  ·exact .no (.refl ..) rfl (by omega) (fun _ h8 => by rename_i hc; rw [← hlast]; omega) (by omega) (by omega) (by omega) (fun _ => Int.le_refl _)
  ·rename_i hc
   have h0 : (ent x i).phase = 0 := by omega
   have hl : Cu (ent x i) p < m.serial := by rw [← hlast]; omega
   obtain ⟨g1, g2⟩ := (hget hk).2 hl
   have hnx := Nc { ent x i with last := (ent x i).last.set m.src.toNat m.serial, who := m.src, serial := m.serial, alone := m.kind == 2, turn := (ent x i).turn + 1 }
   refine .get h0 g2 hk g1 (by omega) hnx.2.2.2.2 ?_ ?_ hnx.1 ?_ hnx.2.2.2.1 ?_ rfl
   ·unfold Kq Cu; rw [hnx.2.1]; simp only; rw [hsp, hset, g1]
   ·intro q hq; unfold Kq Cu; rw [hnx.2.1]; simp only; rw [hsp, hsetq q hq]
   ·unfold Kq; rw [hnx.2.2.1]; exact hs
   ·unfold Kq A9
    split
    ·exact Dr p
    split
    ·show C6 (Gs (ent x i).sharers m.src) p = 0
     rw [hs, Fw (Hz (by omega) hb.1) (show p < 4 by omega), Aak]
    ·exact Dr p
 split
 ·rename_i hk1 hk
  split
  ·rename_i h0; exact .no (.refl ..) rfl (fun _ => h0) (by omega) (by omega) (by omega) (by omega) (fun _ => Int.le_refl _)
  ·rename_i h0
   have h0 : (ent x i).phase = 0 := Decidable.not_not.1 h0
   have htk : (⟨11, (n : Int), m.src, m.line, m.serial, 0, 0, false⟩ : Msg) = Kb n m := rfl
   by_cases hl : Cu (ent x i) p < m.serial
   ·have hpe : (Fl (ent x i) m).phase = 0 ∧ (Fl (ent x i) m).last = (ent x i).last.set p m.serial ∧ (Fl (ent x i) m).turn = (ent x i).turn ∧ ((ent x i).owner ≠ p → Fl (ent x i) m = { ent x i with last := (ent x i).last.set p m.serial }) := by
     unfold Fl
     rw [hlast, if_pos hl, hsp]
     split
     ·rename_i ho; exact ⟨h0, rfl, rfl, fun h => absurd (ho.trans hs) h⟩
     ·exact ⟨h0, rfl, rfl, fun _ => rfl⟩
    rcases (hput hk).2 hl with ⟨g1, g2, _⟩ | ⟨g1, g2, g3⟩
    ·refine .put hk h0 g2 g1 (by omega) hpe.1 ?_ ?_ hpe.2.2.1 rfl
     ·unfold Cu; rw [hpe.2.1, hset, g1]
     ·intro q hq; unfold Cu; rw [hpe.2.1, hsetq q hq]
    ·have ho : (ent x i).owner ≠ p := by
      rcases g2 with g2 | g2
      ·exact g2
      ·omega
     have e := hpe.2.2.2 ho
     refine .late hk h0 ?_ rfl (by unfold Cu; rw [hpe.2.1, hset]; exact Int.le_refl _) (fun q => by
      unfold Cu at hl ⊢; rw [hpe.2.1]
      by_cases e2 : q = p
      ·subst e2; rw [hset]; omega
      ·rw [hsetq q e2]; exact Int.le_refl _)
     rw [e]
     refine ⟨rfl, rfl, rfl, rfl, rfl, rfl, rfl, rfl, fun q hq hw => ?_⟩
     unfold Cu at hl ⊢; simp only
     by_cases e2 : q = p
     ·subst e2
      rw [hset]
      constructor
      ·intro h8; omega
      ·intro _; rcases g1 with g1 | g1
       ·exact g1
       ·exact absurd g1 hw
     ·rw [hsetq q e2]
   ·have e : Fl (ent x i) m = ent x i := by unfold Fl; rw [hlast, if_neg hl]
    refine .late hk h0 (by rw [e]; exact .refl ..) rfl (by simp only [e]; omega) (fun q => by simp only [e]; exact Int.le_refl _)
 split
 ·rename_i hk1 hk2 hk
  obtain ⟨k1, k2, k3, k4⟩ := hk
  have hop : (ent x i).owner = p := by rw [← k4]; exact hs
  have hnx := Nc { ent x i with value := m.value, sharers := if (ent x i).alone then (ent x i).sharers else Hr (ent x i).sharers (ent x i).owner, owner := -1 }
  have hI := Oa h hp hi hop k3 m
  exact .data k1 k3 hop k2 hI hnx.2.1 hnx.1 hnx.2.2.1 hnx.2.2.2.1 rfl
 split
 ·rename_i hk1 hk2 hk3 hk
  obtain ⟨k1, k2, k3, k4⟩ := hk
  have hnd : C6 (ent x i).need p = 1 := by rw [hs] at k4; exact (Iz _ _).1 k4
  have hb2 := Fw (Hz (by omega) hb.2) (show p < 4 by omega)
  have hgn : (Cc (ent x i) m).need = Gs (ent x i).need p := by unfold Cc; rw [hs]
  split
  ·rename_i hz
   have hnx := Nc (Cc (ent x i) m)
   exact .all k1 k3 hnd k2 (N9 h hp hi hs k3 hnd hz) hnx.2.1 hnx.1 hnx.2.2.1 hnx.2.2.2.1 rfl
  ·refine .gone k1 k3 hnd k2 k3 (fun q => ?_) rfl rfl rfl rfl rfl
   rw [hgn, hb2]; unfold upd; rfl
 split
 ·rename_i hk1 hk2 hk3 hk4 hk
  obtain ⟨k1, k2, k3, k4⟩ := hk
  refine .thanks k1 k3 (by rw [← k4]; exact hs) k2 ?_ ?_ ?_ rfl
  ·unfold Df; split <;> rfl
  ·unfold Df; split <;> rfl
  ·unfold Df; split <;> rfl
 ·rename_i k12 k3 k9 k8 k10
  refine .no (.refl ..) rfl (fun hk => absurd hk k3) (fun hk => absurd hk k12) (fun a b c d => k9 ⟨a, c, b, by rw [hs]; exact d.symm⟩) (fun a b c d => k8 ⟨a, c, b, by rw [hs]; exact (Iz _ _).2 d⟩) (fun a b c d => k10 ⟨a, c, b, by rw [hs]; exact d.symm⟩) (fun _ => Int.le_refl _)
end
inductive CoreDoes (n : Nat) (e : Entry) (p : Nat) (l : Line) (m : Msg) (l' : Line) (s : List Msg) : Prop
 | no (hl : l' = l) (h4 : m.kind = 4 → m.turn ≤ l.seen ∧ s = [A8 8 p n m.line m.turn 0]) (h5 : m.kind = 5 ∨ m.kind = 6 → (m.turn = e.turn → e.phase = 1 → e.owner = p → l.seen = e.turn) ∧ (m.turn = l.gave → 0 < m.turn → s = [A8 9 p n m.line l.gave l.given]))
  (h7 : m.kind = 7 → m.serial ≤ l.serial → s = [A8 10 p n m.line m.turn 0]) (h7' : m.kind = 7 → m.serial = l.serial → l.want = 0 ∨ l.want = 3 ∨ l.seen = e.turn) (hs : s = [] ∨ ((4 ≤ m.kind ∧ m.kind ≤ 7) ∧ ∃ m', s = [m'] ∧ 8 ≤ m'.kind ∧ m'.kind ≤ 10)) (h11 : m.kind = 11 → ¬ (l.want = 3 ∧ m.serial = l.serial))
 | inv (hk : m.kind = 4) (h0 : e.phase = 2) (hn : C6 e.need p = 1) (hm : m.turn = e.turn) (hl : l.seen < e.turn) (hl' : l'.seen = e.turn) (hw : l'.want = l.want) (hse : l'.serial = l.serial) (hs : s = [A8 8 p n m.line m.turn 0])
 | fet (hk : m.kind = 5 ∨ m.kind = 6) (h0 : e.phase = 1) (ho : e.owner = p) (hm : m.turn = e.turn) (hl : l.seen < e.turn) (hl' : l'.seen = e.turn) (hw : l'.want = l.want ∨ (l.want = 3 ∧ l'.want = 0)) (hse : l'.serial = l.serial) (hs : s = [A8 9 p n m.line m.turn l.value])
 | grant (hk : m.kind = 7) (h0 : e.phase = 3) (ho : e.who = p) (hm : m.turn = e.turn) (hl : l.seen < e.turn) (hw0 : l.want = 1 ∨ l.want = 2) (hla : Cu e p = l.serial) (hms : m.serial = l.serial) (hl' : l'.seen = e.turn) (hw : l'.want = 0) (hse : l'.serial = l.serial) (hs : s = [A8 10 p n m.line m.turn 0])
 | tak (hk : m.kind = 11) (hw0 : l.want = 3) (hm : m.serial = l.serial) (hl' : l'.seen = l.seen) (hw : l'.want = 0) (hse : l'.serial = l.serial) (hs : s = [])
section
variable {n nl : Nat} {x : Chip} {M : List Int}
theorem Zj (h : Inv n nl x M) {p i : Nat} {m : Msg} (hp : p < n) (hi : i < nl) (hmi : m.line = i) (hM : MI (ab (ent x i)) p (lin x i p) m) :
  ∃ l', (∀ j, (Ae (cor x p) p n m).1.lines.getD j zLine = if j = i then l' else (cor x p).lines.getD j zLine) ∧ CoreDoes n (ent x i) p (lin x i p) m l' (Ae (cor x p) p n m).2.1 := by
 have hci := h.ci i hi p hp
 have hcw := h.cw p hp
 have hgi := h.gi i hi
 have hcl := h.ncl p hp
 have hinv := hM.inv
 have hfet := hM.fet
 have hgra := hM.gra
 have hcur := hci.cur
 have hown := hci.own
 have hga := hci.ga
 have hla := hci.la
 have hwa := hci.wa
 have hst := hci.st
 have htu := hgi.tu
 simp only [ab] at hinv hfet hgra hcur hown hga hla htu
 have hat : Ac (cor x p) m.line = lin x i p := by unfold Ac lin; rw [hmi, Int.toNat_natCast]
 have hg : ¬ (m.line < 0 ∨ ((cor x p).lines.length : Int) ≤ m.line) := by rw [hcl]; omega
 have hset : ∀ (l : Line) (w : Op), ∀ j, (A2 (cor x p) m.line l w).lines.getD j zLine = if j = i then l else (cor x p).lines.getD j zLine := fun l w j => by
  unfold A2; rw [hmi, Int.toNat_natCast]; exact Ch _ _ _ _ _ (by rw [hcl]; exact hi)
 have hsame : ∀ j, (cor x p).lines.getD j zLine = if j = i then lin x i p else (cor x p).lines.getD j zLine := fun j => by
  split
  ·rename_i e; rw [e]; rfl
  ·rfl
 have hlast : Cu (ent x i) p = (ent x i).last.getD p 0 := rfl
 unfold Ae
 rw [if_neg hg, hat]
 split
 ·rename_i hk
  refine ⟨_, hset _ _, ?_⟩
  by_cases hs : (lin x i p).seen < m.turn
  ·obtain ⟨g1, g2, g3⟩ := (hinv hk).2 hs
   refine .inv hk g2 g3 g1 (by omega) ?_ ?_ ?_ rfl
   ·unfold C5; rw [if_pos hs]; split <;> exact g1
   ·unfold C5; rw [if_pos hs]; split <;> rfl
   ·unfold C5; rw [if_pos hs]; split <;> rfl
  ·refine .no (by unfold C5; rw [if_neg hs]) (fun _ => ⟨by omega, rfl⟩) (by omega) (by omega) (by omega) (.inr ⟨by omega, _, rfl, by unfold A8; simp only; omega⟩) (by omega)
 split
 ·rename_i hk4 hk
  split
  ·rename_i hf
   obtain ⟨f1, f2, f3⟩ := hf
   obtain ⟨g1, g2, g3, g4⟩ := (hfet hk).2 f2
   refine ⟨_, hset _ _, .fet hk g2 g3 g1 (by omega) ?_ ?_ ?_ rfl⟩
   ·unfold Cv; split
    ·exact g1
    ·split <;> exact g1
   ·unfold Cv; split
    ·rename_i w; exact .inr ⟨w, rfl⟩
    ·split <;> exact .inl rfl
   ·unfold Cv; split
    ·rfl
    ·split <;> rfl
  ·rename_i hf
   have hseen : m.turn = (ent x i).turn → (ent x i).phase = 1 → (ent x i).owner = p → (lin x i p).seen = (ent x i).turn := fun h1 h2 h3 => by
    rcases hown h3 with ⟨a, b⟩ | ⟨a, b, c, d⟩
    ·exfalso; apply hf
     have := b h2
     exact ⟨by omega, by omega, by omega⟩
    ·omega
   split
   ·exact ⟨_, hsame, .no rfl (by omega) (fun _ => ⟨hseen, fun _ _ => rfl⟩) (by omega) (by omega) (.inr ⟨by omega, _, rfl, by unfold A8; simp only; omega⟩) (by omega)⟩
   ·rename_i hg2
    exact ⟨_, hsame, .no rfl (by omega) (fun _ => ⟨hseen, fun a b => absurd ⟨a, b⟩ hg2⟩) (by omega) (by omega) (.inl rfl) (by omega)⟩
 split
 ·rename_i hk4 hk5 hk
  split
  ·exact ⟨_, hsame, .no rfl (by omega) (by omega) (fun _ h8 => by omega) (fun _ h8 => by omega) (.inl rfl) (by omega)⟩
  split
  ·rename_i h1 ha
   obtain ⟨a1, a2⟩ := ha
   obtain ⟨g0, g1, g2⟩ := hgra hk
   obtain ⟨b1, b2, b3, b4, b5⟩ := g1 a1 (by omega)
   have hc := hcur (by omega) b2
   have h9 : (lin x i p).serial = (ent x i).serial := by omega
   have h10 : (lin x i p).seen < (ent x i).turn := by
    rcases hc.2 with ⟨_, _, c3⟩ | ⟨c1, _⟩
    ·exact c3
    ·omega
   refine ⟨_, hset _ _, .grant hk b1 b2 b3 h10 (by omega) (by omega) a1 ?_ rfl rfl rfl⟩
   unfold Gw; simp only; exact b3
  ·rename_i h1 ha
   refine ⟨_, hsame, .no rfl (by omega) (by omega) (fun _ _ => rfl) (fun _ h8 => ?_) (.inr ⟨by omega, _, rfl, by unfold A8; simp only; omega⟩) (by omega)⟩
   obtain ⟨g0, g1, g2⟩ := hgra hk
   by_cases hw : (lin x i p).want = 0
   ·exact .inl hw
   ·obtain ⟨b1, b2, b3, b4, b5⟩ := g1 h8 hw
    have hc := hcur (by omega) b2
    rcases hc.2 with ⟨c1, c2, c3⟩ | ⟨c1, c2, c3, _⟩
    ·exfalso; apply ha
     refine ⟨h8, ?_⟩
     cases hal : m.alone with
     | true =>
      have := b4.1 hal
      exact .inr ⟨by omega, rfl⟩
     | false =>
      have : ¬ (if (ent x i).alone then (1 : Int) else 0) = 1 := fun h => by rw [b4.2 h] at hal; exact absurd hal (by decide)
      have h01 := hgi.al
      simp only [ab] at h01
      exact .inl ⟨by omega, rfl⟩
    ·exact .inr (.inr c3)
 split
 ·rename_i hk4 hk5 hk7 hk
  exact ⟨_, hset _ _, .tak hk.1 hk.2.1 hk.2.2 rfl rfl rfl rfl⟩
 ·rename_i hk4 hk5 hk7 hk
  exact ⟨_, hsame, .no rfl (by omega) (by omega) (by omega) (by omega) (.inl rfl) (fun h8 h9 => hk ⟨h8, h9⟩)⟩
end
end Go.Proofs.Ytehpekiedfpnkaa
namespace Go.Proofs.Ytehpekiedfpnkaa
open Abs
section
variable {n nl : Nat} {x : Chip} {M : List Int}
theorem Py {e e' : Entry} {p : Nat} {l : Line} (h : Cu e' p = Cu e p) : faA e' p l = faA e p l := by unfold faA; rw [h]
theorem Vl (e : Entry) (i n : Int) : ∀ m ∈ D4 e i n, 4 ≤ m.kind ∧ m.kind ≤ 7 := by
 unfold D4
 split
 ·intro m hm; rw [List.mem_singleton.1 hm]; simp only; split <;> omega
 split
 ·intro m hm
  obtain ⟨q, _, rfl⟩ := List.mem_map.1 hm
  simp
 split
 ·intro m hm; rw [List.mem_singleton.1 hm]; simp
 ·intro m hm; exact absurd hm (by simp)
theorem Xm (e : Entry) (i n : Int) : (D4 e i n).length ≤ 4 := by
 unfold D4
 split
 ·simp
 split
 ·rw [List.length_map]; exact Nat.le_trans (List.length_filter_le _ _) (by decide)
 split <;> simp
theorem Adg (h : Inv n nl x M) {p i : Nat} {m : Msg} {e' : Entry} {s : List Msg} (hp : p < n) (hi : i < nl) (hd : HomeDoes n (ent x i) (lin x i) p m e' s) :
  (SameE n (ent x i) e' (lin x i) ∧ (s = [] ∨ (m.kind = 3 ∧ s = [Kb n m]))) ∨ (faL n e' (lin x i) + 1 ≤ faL n (ent x i) (lin x i) ∧ (s = [] ∨ (m.kind = 3 ∧ s = [Kb n m]))) ∨ (faL n e' (lin x i) + 2 ≤ faL n (ent x i) (lin x i) ∧ s = D4 e' m.line n ∧ 1 ≤ e'.phase ∧ e'.phase ≤ 3) := by
 have hci := fun q hq => h.ci i hi q hq
 have hgi := h.gi i hi
 have sumL : ∀ (hl : e'.last = (ent x i).last), Gb (fun q => faA e' q (lin x i q)) n = Gb (fun q => faA (ent x i) q (lin x i q)) n := fun hl => F2 fun q _ => Py (by unfold Cu; rw [hl])
 cases hd with
 | no h1 h2 => exact .inl ⟨h1, .inl h2⟩
 | late hk h0 h1 h2 h3 hge => exact .inl ⟨h1, .inr ⟨hk, h2⟩⟩
 | put hk h0 hw hm hl h0' hl' ho ht hs =>
  refine .inr (.inl ⟨?_, .inr ⟨hk, hs⟩⟩)
  have h1 := Hs (f := fun q => faA e' q (lin x i q)) (g := fun q => faA (ent x i) q (lin x i q)) hp (fun q _ hq => Py (ho q hq))
  have h2 : faA (ent x i) p (lin x i p) = 2 := by unfold faA; rw [if_neg (by omega), if_pos hw, if_pos hl]
  have h3 : faA e' p (lin x i p) = 1 := by unfold faA; rw [if_neg (by omega), if_pos hw, if_neg (by omega)]
  have h4 : faD n e' (lin x i) = 0 := by unfold faD; rw [if_neg (by omega), if_neg (by omega), if_neg (by omega)]
  simp only [h2, h3] at h1
  unfold faL; omega
 | get h0 hw hk hm hl h0' hl' ho ht hwho hse hnw hs =>
  refine .inr (.inr ⟨?_, hs, h0'⟩)
  have h1 := Hs (f := fun q => faA e' q (lin x i q)) (g := fun q => faA (ent x i) q (lin x i q)) hp (fun q _ hq => Py (ho q hq))
  have h2 : faA (ent x i) p (lin x i p) = 11 := by unfold faA; rw [if_neg (by omega), if_neg (by omega), if_pos hl]
  have h3 : faA e' p (lin x i p) = 0 := by unfold faA; rw [if_neg (by omega), if_neg (by omega), if_neg (by omega)]
  have hn := h.n1
  have h4 : faD n e' (lin x i) ≤ 9 := by
   unfold faD
   split
   ·have := Ou e' (lin x i e'.owner.toNat); omega
   split
   ·have h5 := O9 (f := fun q => faQ e' q (lin x i q)) (w := p) (fun q => Afm _ _ _) (by unfold faQ; rw [if_neg (by omega)]) hp
    omega
   split
   ·have := Ou e' (lin x i e'.who.toNat); omega
   ·omega
  simp only [h2, h3] at h1
  unfold faL; omega
 | data hk h0 ho hm h0' hl' ht hwho hse hs =>
  refine .inr (.inr ⟨?_, hs, by omega⟩)
  have h1 := sumL hl'
  have h4 : faD n e' (lin x i) ≤ 2 := by
   unfold faD; rw [if_neg (by omega), if_neg (by omega), if_pos h0']; have := Ou e' (lin x i e'.who.toNat); omega
  have h5 : 4 ≤ faD n (ent x i) (lin x i) := by unfold faD; rw [if_pos h0]; omega
  unfold faL; omega
 | gone hk h0 hn hm h0' hnd hl' ht hwho hse hs =>
  refine .inr (.inl ⟨?_, .inl hs⟩)
  have h1 := sumL hl'
  have h2 := Hs (f := fun q => faQ e' q (lin x i q)) (g := fun q => faQ (ent x i) q (lin x i q)) hp (fun q _ hq => by unfold faQ; rw [hnd, if_neg hq, ht])
  have h3 : faQ e' p (lin x i p) = 0 := by unfold faQ; rw [hnd, if_pos rfl, if_neg (by omega)]
  have h4 : 1 ≤ faQ (ent x i) p (lin x i p) := by unfold faQ; rw [if_pos hn]; split <;> omega
  have h5 : faD n e' (lin x i) = 3 + Gb (fun q => faQ e' q (lin x i q)) n := by unfold faD; rw [if_neg (by omega), if_pos h0']
  have h6 : faD n (ent x i) (lin x i) = 3 + Gb (fun q => faQ (ent x i) q (lin x i q)) n := by unfold faD; rw [if_neg (by omega), if_pos h0]
  simp only [h3] at h2
  unfold faL; omega
 | all hk h0 hn hm h0' hl' ht hwho hse hs =>
  refine .inr (.inr ⟨?_, hs, by omega⟩)
  have h1 := sumL hl'
  have h2 := T2 (f := fun q => faQ (ent x i) q (lin x i q)) hp
  have h4 : 1 ≤ faQ (ent x i) p (lin x i p) := by unfold faQ; rw [if_pos hn]; split <;> omega
  have h5 : faD n e' (lin x i) ≤ 2 := by
   unfold faD; rw [if_neg (by omega), if_neg (by omega), if_pos h0']; have := Ou e' (lin x i e'.who.toNat); omega
  have h6 : faD n (ent x i) (lin x i) = 3 + Gb (fun q => faQ (ent x i) q (lin x i q)) n := by unfold faD; rw [if_neg (by omega), if_pos h0]
  unfold faL; omega
 | thanks hk h0 hw hm h0' hl' ht hs =>
  refine .inr (.inl ⟨?_, .inl hs⟩)
  have h1 := sumL hl'
  have h4 : faD n e' (lin x i) = 0 := by unfold faD; rw [if_neg (by omega), if_neg (by omega), if_neg (by omega)]
  have h5 : 1 ≤ faD n (ent x i) (lin x i) := by unfold faD; rw [if_neg (by omega), if_neg (by omega), if_pos h0]; omega
  unfold faL; omega
def Vk (l : Nat → Line) (p : Nat) (l' : Line) : Nat → Line := fun q => if q = p then l' else l q
theorem Adh (h : Inv n nl x M) {p i : Nat} {m : Msg} {l' : Line} {s : List Msg} (hp : p < n) (hi : i < nl) (hd : CoreDoes n (ent x i) p (lin x i p) m l' s) :
  l' = lin x i p ∨ faL n (ent x i) (Vk (lin x i) p l') + 1 ≤ faL n (ent x i) (lin x i) := by
 have hgi := h.gi i hi
 have hown := hgi.own
 have hwho := hgi.whor
 simp only [ab] at hown hwho
 have sA := Hs (f := fun q => faA (ent x i) q (Vk (lin x i) p l' q)) (g := fun q => faA (ent x i) q (lin x i q)) hp (fun q _ hq => by simp only [Vk]; rw [if_neg hq])
 have sQ := Hs (f := fun q => faQ (ent x i) q (Vk (lin x i) p l' q)) (g := fun q => faQ (ent x i) q (lin x i q)) hp (fun q _ hq => by simp only [Vk]; rw [if_neg hq])
 have e1 : Vk (lin x i) p l' p = l' := if_pos rfl
 simp only [e1] at sA sQ
 cases hd with
 | no hl => exact .inl hl
 | inv hk h0 hn hm hl hl' hw hse hs =>
  right
  have a1 : faA (ent x i) p l' = faA (ent x i) p (lin x i p) := by unfold faA; rw [hw, hse]
  have q1 : faQ (ent x i) p l' = 1 := by unfold faQ; rw [if_pos hn, if_pos hl']
  have q2 : faQ (ent x i) p (lin x i p) = 2 := by unfold faQ; rw [if_pos hn, if_neg (by omega)]
  have d1 : ∀ l, faD n (ent x i) l = 3 + Gb (fun q => faQ (ent x i) q (l q)) n := fun l => by unfold faD; rw [if_neg (by omega), if_pos h0]
  unfold faL; rw [d1, d1]; omega
 | fet hk h0 ho hm hl hl' hw hse hs =>
  right
  have a1 : faA (ent x i) p l' ≤ faA (ent x i) p (lin x i p) := by
   rcases hw with hw | ⟨_, hw⟩
   ·unfold faA; rw [hw, hse]; omega
   ·unfold faA; rw [if_pos hw]; omega
  have ht : (ent x i).owner.toNat = p := by omega
  have d1 : faD n (ent x i) (Vk (lin x i) p l') = 4 := by unfold faD faT; rw [if_pos h0, ht, e1, if_pos hl']
  have d2 : faD n (ent x i) (lin x i) = 5 := by unfold faD faT; rw [if_pos h0, ht, if_neg (by omega)]
  unfold faL; rw [d1, d2]; omega
 | grant hk h0 ho hm hl hw0 hla hms hl' hw hse hs =>
  right
  have a1 : faA (ent x i) p l' = 0 := by unfold faA; rw [if_pos hw]
  have ht : (ent x i).who.toNat = p := by omega
  have d1 : faD n (ent x i) (Vk (lin x i) p l') = 1 := by unfold faD faT; rw [if_neg (by omega), if_neg (by omega), if_pos h0, ht, e1, if_pos hl']
  have d2 : faD n (ent x i) (lin x i) = 2 := by unfold faD faT; rw [if_neg (by omega), if_neg (by omega), if_pos h0, ht, if_neg (by omega)]
  unfold faL; rw [d1, d2]; omega
 | tak hk hw0 hm hl' hw hse hs =>
  right
  have a1 : faA (ent x i) p l' = 0 := by unfold faA; rw [if_pos hw]
  have a2 : 1 ≤ faA (ent x i) p (lin x i p) := by unfold faA; rw [if_neg (by omega), if_pos hw0]; split <;> omega
  have d1 : faD n (ent x i) (Vk (lin x i) p l') = faD n (ent x i) (lin x i) := by
   have e2 : ∀ q, (Vk (lin x i) p l' q).seen = (lin x i q).seen := fun q => by
    unfold Vk; split
    ·rename_i e; rw [e]; exact hl'
    ·rfl
   unfold faD faT faQ
   simp only [e2]
  unfold faL; rw [d1]; omega
inductive GoDoes (n nl : Nat) (x y : Chip) (b : List UInt8) (fs : Frames) : Prop
 | bad (hp : (Af (Ef n nl) b).2 ≠ 0) (hc : ∀ j q, lin y j q = lin x j q) (hh : ∀ j, ent y j = ent x j) (hf : y.frames = fs)
 | home (m : Msg) (p i : Nat) (e' : Entry) (s : List Msg) (hm : Af (Ef n nl) b = (m, 0)) (hp : p < n) (hi : i < nl) (h1 : m.src = p) (h2 : m.dst = n) (h3 : m.line = i) (hc : ∀ j q, lin y j q = lin x j q) (hh : ∀ j, ent y j = if j = i then e' else ent x j) (hf : y.frames = way fs s)
  (hd : HomeDoes n (ent x i) (lin x i) p m e' s)
 | core (m : Msg) (p i : Nat) (l' : Line) (s : List Msg) (hm : Af (Ef n nl) b = (m, 0)) (hp : p < n) (hi : i < nl) (h1 : m.src = n) (h2 : m.dst = p) (h3 : m.line = i) (hc : ∀ j q, lin y j q = if q = p ∧ j = i then l' else lin x j q) (hh : ∀ j, ent y j = ent x j) (hf : y.frames = way fs s)
  (hd : CoreDoes n (ent x i) p (lin x i p) m l' s)
theorem Yu (h : Inv n nl x M) (hT : ∀ i, i < nl → (ent x i).turn < 65535) {b : List UInt8} {fs : Frames} (hfr : x.frames = b :: fs) : GoDoes n nl x (Ak x goS).1 b fs := by
 have hf : 0 < x.frames.length := by rw [hfr]; simp
 rw [Acs hf]
 have hb : Av x.frames 0 = b := by rw [hfr]; rfl
 have he : x.frames.eraseIdx 0 = fs := by rw [hfr]; rfl
 rw [hb, he]
 have hcf : Ap ⟨x.cores, x.home, fs⟩ = Ef n nl := by
  exact ZfM
 have hmi := (h.mi b (by rw [hfr]; exact List.mem_cons_self ..)).2
 unfold Be
 rw [hcf]
 split
 ·rename_i hp0; exact .bad hp0 (fun _ _ => rfl) (fun _ => rfl) rfl
 rename_i hp0
 have hpar : Af (Ef n nl) b = ((Af (Ef n nl) b).1, 0) := by rw [← Decidable.not_not.1 hp0]
 have hMX := hmi _ hpar
 have hw := Ey (Fg hpar).2.2.2.2.1
 generalize (Af (Ef n nl) b).1 = m at *
 refine Zen ?_;intro hnx hcn hln
 rw [hcn, hln] at hw
 have hli : m.line.toNat < nl := by omega
 have hle : m.line = (m.line.toNat : Int) := by omega
 split
 ·rename_i hdst
  have hpe : J1 n m = m.src.toNat := by unfold J1; rw [if_pos hdst]
  unfold MX at hMX; rw [hpe] at hMX
  have hsrc : m.src.toNat < n := by omega
  have hse : m.src = (m.src.toNat : Int) := by omega
  have hat : Ad x.home m.line = ent x m.line.toNat := rfl
  have hla := h.nla m.line.toNat hli
  have hgd : ¬ (m.line < 0 ∨ (x.home.length : Int) ≤ m.line ∨ m.src < 0 ∨ ((Ad x.home m.line).last.length : Int) ≤ m.src) := by
   rw [hat, hla, h.nh]; omega
  simp only
  have hhd : Al x.home (n : Int) m = (x.home.set m.line.toNat (Ag (ent x m.line.toNat) n m).1, (Ag (ent x m.line.toNat) n m).2) := by
   unfold Al; rw [if_neg hgd, hat]
  rw [hhd]
  refine .home m m.src.toNat m.line.toNat _ _ hpar hsrc hli hse hdst hle (fun _ _ => rfl) (fun j => ?_) rfl (Yn h hsrc hli hse hMX (hT _ hli))
  show (x.home.set m.line.toNat _).getD j A1 = _
  rw [Ch _ _ _ _ _ (by rw [h.nh]; exact hli)]; rfl
 ·rename_i hdst
  have hpe : J1 n m = m.dst.toNat := by unfold J1; rw [if_neg hdst]
  unfold MX at hMX; rw [hpe] at hMX
  have hdn : m.dst.toNat < n := by omega
  have hde : m.dst = (m.dst.toNat : Int) := by omega
  obtain ⟨l', hl1, hl2⟩ := Zj h hdn hli hle hMX
  have hca : Aq ⟨x.cores, x.home, fs⟩ m.dst = cor x m.dst.toNat := rfl
  simp only
  rw [hca]
  rw [← hde] at hl1 hl2
  refine .core m m.dst.toNat m.line.toNat l' _ hpar hdn hli (by omega) hde hle (fun j q => ?_) (fun _ => rfl) rfl hl2
  show ((x.cores.set m.dst.toNat _).getD q E4).lines.getD j zLine = _
  rw [Ch _ _ _ _ _ (by rw [h.nc]; exact hdn)]
  by_cases hq : q = m.dst.toNat
  ·rw [if_pos hq, hl1]
   by_cases hj : j = m.line.toNat
   ·rw [if_pos hj, if_pos ⟨hq, hj⟩]
   ·rw [if_neg hj, if_neg (fun h => hj h.2), hq]; rfl
  ·rw [if_neg hq, if_neg (fun h => hq h.1)]; rfl
end
end Go.Proofs.Ytehpekiedfpnkaa
namespace Go.Proofs.Ytehpekiedfpnkaa
open Abs
def Has (n nl : Nat) (fs : Frames) (P : Msg → Prop) : Prop := ∃ b ∈ fs, ∃ m, Af (Ef n nl) b = (m, 0) ∧ P m
theorem Has.mono {n nl : Nat} {fs gs : Frames} {P : Msg → Prop} (h : Has n nl fs P) (hs : ∀ b ∈ fs, b ∈ gs) : Has n nl gs P := by
 obtain ⟨b, h1, m, h2, h3⟩ := h; exact ⟨b, hs b h1, m, h2, h3⟩
theorem Has.imp {n nl : Nat} {fs : Frames} {P Q : Msg → Prop} (h : Has n nl fs P) (hs : ∀ m, P m → Q m) : Has n nl fs Q := by
 obtain ⟨b, h1, m, h2, h3⟩ := h; exact ⟨b, h1, m, h2, hs m h3⟩
def upM (k : Int) (n i p : Nat) (t : Int) (m : Msg) : Prop := m.kind = k ∧ m.src = p ∧ m.dst = n ∧ m.line = i ∧ m.turn = t
def dnM (k : Int) (n i p : Nat) (t : Int) (m : Msg) : Prop := m.kind = k ∧ m.src = n ∧ m.dst = p ∧ m.line = i ∧ m.turn = t
def tkM (n i p : Nat) (s : Int) (m : Msg) : Prop := m.kind = 11 ∧ m.src = n ∧ m.dst = p ∧ m.line = i ∧ m.serial = s
def ptM (n i p : Nat) (s : Int) (m : Msg) : Prop := m.kind = 3 ∧ m.src = p ∧ m.dst = n ∧ m.line = i ∧ m.serial = s
def K3 (n nl : Nat) (x : Chip) (O : Frames) : Prop := ∀ i p, i < nl → p < n →
 ((ent x i).phase = 1 → (ent x i).owner = p → (lin x i p).seen = (ent x i).turn → Has n nl x.frames (upM 9 n i p (ent x i).turn) ∨ Has n nl O (fun m => dnM 5 n i p (ent x i).turn m ∨ dnM 6 n i p (ent x i).turn m)) ∧
 ((ent x i).phase = 2 → C6 (ent x i).need p = 1 → (lin x i p).seen = (ent x i).turn → Has n nl x.frames (upM 8 n i p (ent x i).turn) ∨ Has n nl O (dnM 4 n i p (ent x i).turn)) ∧
 ((ent x i).phase = 3 → (ent x i).who = p → (lin x i p).seen = (ent x i).turn → Has n nl x.frames (upM 10 n i p (ent x i).turn) ∨ Has n nl O (dnM 7 n i p (ent x i).turn))
def K4 (n nl : Nat) (x : Chip) (O : Frames) : Prop := ∀ i p, i < nl → p < n → (lin x i p).want = 3 → Cu (ent x i) p = (lin x i p).serial → Has n nl x.frames (tkM n i p (lin x i p).serial) ∨ Has n nl O (ptM n i p (lin x i p).serial)
theorem Ii : ∀ (s : List Msg) (l : Frames), ∃ t, way l s = l ++ t ∧ t.length ≤ s.length ∧ (∀ b ∈ t, ∃ m ∈ s, b = msgBytes m) ∧ (∀ m r, s = m :: r → l.length < 40 → msgBytes m ∈ t) ∧ (l.length + s.length ≤ 40 → t = s.map msgBytes)
 | [], l => ⟨[], by simp [way], Nat.le_refl _, by simp, by simp, fun _ => rfl⟩
 | m :: r, l => by
  obtain ⟨t, h1, h2, h3, h4, h5⟩ := Ii r (Cy l (msgBytes m))
  by_cases hl : l.length < 40
  ·have e : Cy l (msgBytes m) = l ++ [msgBytes m] := by unfold Cy; rw [if_pos hl]
   refine ⟨msgBytes m :: t, ?_, by simp; omega, ?_, ?_, ?_⟩
   ·simp only [way]; rw [h1, e]; simp
   ·intro b hb
    rcases List.mem_cons.1 hb with hb | hb
    ·exact ⟨m, List.mem_cons_self .., hb⟩
    ·obtain ⟨m', h6, h7⟩ := h3 b hb; exact ⟨m', List.mem_cons_of_mem _ h6, h7⟩
   ·intro m' r' he _
    cases he; exact List.mem_cons_self ..
   ·intro h6
    rw [e] at h5
    rw [h5 (by simp at h6 ⊢; omega)]; rfl
  ·have e : Cy l (msgBytes m) = l := by unfold Cy; rw [if_neg hl]
   rw [e] at h1 h5
   refine ⟨t, by simp only [way]; rw [e]; exact h1, by simp; omega, ?_, fun _ _ _ h => absurd h hl, fun h => absurd h (by simp; omega)⟩
   intro b hb
   obtain ⟨m', h6, h7⟩ := h3 b hb; exact ⟨m', List.mem_cons_of_mem _ h6, h7⟩
section
variable {n nl : Nat} {x y : Chip} {M : List Int}
theorem Fv (h : Inv n nl x M) {l : Frames} {m : Msg} {P : Msg → Prop} (hm : msgBytes m ∈ l) (hw : Bd (Ef n nl) m = 0) (hP : P m) : Has n nl l P :=
 ⟨_, hm, m, M9 hw (by have := h.n1; simp only [Ef]; omega) (by have := h.l1; simp only [Ef]; omega), hP⟩
theorem O4 (s : List Msg) (l : Frames) {b : List UInt8} (hb : b ∈ l) : b ∈ way l s := by
 obtain ⟨t, h1, _⟩ := Ii s l
 rw [h1]; exact List.mem_append.2 (.inl hb)
theorem Xa {l : Frames} {m : Msg} (hl : l.length < 40) : msgBytes m ∈ way l [m] := by
 obtain ⟨t, h1, _, _, h4, _⟩ := Ii [m] l
 rw [h1]; exact List.mem_append.2 (.inr (h4 m [] rfl hl))
theorem Aal (h : Inv n nl x M) {i : Nat} (hi : i < nl) (h0 : (ent x i).phase ≠ 0) (h3 : (ent x i).phase ≠ 3) : 0 < (ent x i).turn := by
 have hgi := h.gi i hi
 have hw := hgi.whor h0
 simp only [ab] at hw
 have hc := h.ci i hi (ent x i).who.toNat (by omega)
 have hcur := hc.cur h0 (by show (ent x i).who = _; omega)
 have hga := hc.ga
 simp only [ab] at hcur hga
 omega
theorem Vm (h : Inv n nl x M) {p i : Nat} (hp : p < n) (hi : i < nl) {k t v : Int} (hk : 1 ≤ k ∧ k ≤ 11) (ht : 0 ≤ t ∧ t ≤ 65535) (hv : 0 ≤ v ∧ v ≤ 255) {line : Int} (hl : line = i) : Bd (Ef n nl) (A8 k p n line t v) = 0 := by
 subst hl; exact Hv h hp hi hk ⟨by omega, by omega⟩ ht hv
theorem Yh (h : Inv n nl x M) {b : List UInt8} {fs O O' : Frames} (hfr : x.frames = b :: fs) (hd : GoDoes n nl x y b fs) (hO : ∀ P : Msg → Prop, Has n nl O P → Has n nl O' P ∨ ∃ m, Af (Ef n nl) b = (m, 0) ∧ P m) (hk : K3 n nl x O) : K3 n nl y O' := by
 have hfl : fs.length < 40 := by have := h.fr; rw [hfr] at this; simp at this; omega
 have hfm : ∀ P : Msg → Prop, Has n nl x.frames P → Has n nl fs P ∨ ∃ m, Af (Ef n nl) b = (m, 0) ∧ P m := by
  intro P ⟨c, h1, m, h2, h3⟩
  rw [hfr] at h1
  exact Zfp
 cases hd with
 | bad hp hc hh hf =>
  have hno : ∀ P : Msg → Prop, ¬ ∃ m, Af (Ef n nl) b = (m, 0) ∧ P m := fun P ⟨m, h1, _⟩ => hp (by rw [h1])
  have tr : ∀ P Q : Msg → Prop, Has n nl x.frames P ∨ Has n nl O Q → Has n nl y.frames P ∨ Has n nl O' Q := by
   intro P Q h1
   rcases h1 with h1 | h1
   ·rcases hfm P h1 with h2 | h2
    ·rw [hf]; exact .inl h2
    ·exact absurd h2 (hno P)
   ·rcases hO Q h1 with h2 | h2
    ·exact .inr h2
    ·exact absurd h2 (hno Q)
  intro i p hi hp'
  obtain ⟨k1, k2, k3⟩ := hk i p hi hp'
  rw [hh, hc]
  exact ⟨fun a b c => tr _ _ (k1 a b c), fun a b c => tr _ _ (k2 a b c), fun a b c => tr _ _ (k3 a b c)⟩
 | home m p0 i0 e' s hm hp0 hi0 h1 h2 h3 hc hh hf hd =>
  have tr : ∀ P Q : Msg → Prop, ¬ P m → ¬ Q m → Has n nl x.frames P ∨ Has n nl O Q → Has n nl y.frames P ∨ Has n nl O' Q := by
   intro P Q hP hQ h1
   rcases h1 with h1 | h1
   ·rcases hfm P h1 with h2 | ⟨m', h2, h3⟩
    ·left; rw [hf]; exact h2.mono fun c hc => O4 s fs hc
    ·rw [hm] at h2; cases h2; exact absurd h3 hP
   ·rcases hO Q h1 with h2 | ⟨m', h2, h3⟩
    ·exact .inr h2
    ·rw [hm] at h2; cases h2; exact absurd h3 hQ
  have hQd : ∀ i p t k, ¬ dnM k n i p t m := fun i p t k hq => by unfold dnM at hq; omega
  intro i p hi hp
  obtain ⟨k1, k2, k3⟩ := hk i p hi hp
  rw [hh, hc]
  by_cases hii : i = i0
  ·subst hii
   rw [if_pos rfl]
   have hci := h.ci i hi p hp
   have hga := hci.ga
   simp only [ab] at hga
   cases hd with
   | no hS hs hk3 h12 h9 h8 h10 hge =>
    rw [hS.ph, hS.ow, hS.nd, hS.wh, hS.tu]
    refine ⟨fun a b c => tr _ _ (fun hP => ?_) (fun hq => ?_) (k1 a b c), fun a b c => tr _ _ (fun hP => ?_) (hQd _ _ _ _) (k2 a b c), fun a b c => tr _ _ (fun hP => ?_) (hQd _ _ _ _) (k3 a b c)⟩
    ·unfold upM at hP; exact h9 hP.1 a hP.2.2.2.2 (by omega)
    ·rcases hq with hq | hq <;> exact hQd _ _ _ _ hq
    ·unfold upM at hP; obtain ⟨q1, q2, q3, q4, q5⟩ := hP; have e : p = p0 := by omega
     subst e; exact h8 q1 a q5 b
    ·unfold upM at hP; exact h10 hP.1 a hP.2.2.2.2 (by omega)
   | late hkk h0 hS hs hl hge =>
    rw [hS.ph]
    exact ⟨fun a => absurd a (by omega), fun a => absurd a (by omega), fun a => absurd a (by omega)⟩
   | put hkk h0 hw hmm hl h0' hl' ho ht hs => exact ⟨fun a => absurd a (by omega), fun a => absurd a (by omega), fun a => absurd a (by omega)⟩
   | get h0 hw hkk hmm hl h0' hl' ho ht hwho hse hnw hs => rw [ht]; exact ⟨fun _ _ c => absurd c (by omega), fun _ _ c => absurd c (by omega), fun _ _ c => absurd c (by omega)⟩
   | data hkk h0 ho hmm h0' hl' ht hwho hse hs =>
    refine ⟨fun a => absurd a (by omega), fun a => absurd a (by omega), fun a b c => ?_⟩
    exfalso
    rw [hwho] at b; rw [ht] at c
    have hcur := hci.cur (by show (ent x i).phase ≠ 0; omega) b
    simp only [ab] at hcur
    omega
   | gone hkk h0 hnn hmm h0' hnd hl' ht hwho hse hs =>
    rw [ht]
    refine ⟨fun a => absurd a (by omega), fun a b c => ?_, fun a => absurd a (by omega)⟩
    rw [hnd] at b
    by_cases e : p = p0
    ·rw [if_pos e] at b; omega
    ·rw [if_neg e] at b
     exact tr _ _ (fun hP => by unfold upM at hP; omega) (hQd _ _ _ _) (k2 h0 b c)
   | all hkk h0 hnn hmm h0' hl' ht hwho hse hs =>
    refine ⟨fun a => absurd a (by omega), fun a => absurd a (by omega), fun a b c => ?_⟩
    exfalso
    rw [hwho] at b; rw [ht] at c
    have hcur := hci.cur (by show (ent x i).phase ≠ 0; omega) b
    simp only [ab] at hcur
    omega
   | thanks hkk h0 hw hmm h0' hl' ht hs => exact ⟨fun a => absurd a (by omega), fun a => absurd a (by omega), fun a => absurd a (by omega)⟩
  ·rw [if_neg hii]
   have hP : ∀ k t, ¬ upM k n i p t m := fun k t hq => by unfold upM at hq; omega
   exact ⟨fun a b c => tr _ _ (hP _ _) (fun hq => by rcases hq with hq | hq <;> exact hQd _ _ _ _ hq) (k1 a b c), fun a b c => tr _ _ (hP _ _) (hQd _ _ _ _) (k2 a b c), fun a b c => tr _ _ (hP _ _) (hQd _ _ _ _) (k3 a b c)⟩
 | core m p0 i0 l' s hm hp0 hi0 h1 h2 h3 hc hh hf hd =>
  have trP : ∀ P : Msg → Prop, ¬ P m → Has n nl x.frames P → Has n nl y.frames P := by
   intro P hP h1
   rcases hfm P h1 with h2 | ⟨m', h2, h3⟩
   ·rw [hf]; exact h2.mono fun c hc => O4 s fs hc
   ·rw [hm] at h2; cases h2; exact absurd h3 hP
  have hPu : ∀ i p t k, ¬ upM k n i p t m := fun i p t k hq => by unfold upM at hq; omega
  have tr : ∀ P Q : Msg → Prop, ¬ P m → ¬ Q m → Has n nl x.frames P ∨ Has n nl O Q → Has n nl y.frames P ∨ Has n nl O' Q := by
   intro P Q hP hQ h1
   rcases h1 with h1 | h1
   ·exact .inl (trP P hP h1)
   ·rcases hO Q h1 with h2 | ⟨m', h2, h3⟩
    ·exact .inr h2
    ·rw [hm] at h2; cases h2; exact absurd h3 hQ
  have tr2 : ∀ P Q : Msg → Prop, ¬ P m → (Q m → Has n nl y.frames P) → Has n nl x.frames P ∨ Has n nl O Q → Has n nl y.frames P ∨ Has n nl O' Q := by
   intro P Q hP hQ h1
   rcases h1 with h1 | h1
   ·exact .inl (trP P hP h1)
   ·rcases hO Q h1 with h2 | ⟨m', h2, h3⟩
    ·exact .inr h2
    ·rw [hm] at h2; cases h2; exact .inl (hQ h3)
  intro i p hi hp
  obtain ⟨k1, k2, k3⟩ := hk i p hi hp
  rw [hh, hc]
  by_cases hpi : p = p0 ∧ i = i0
  ·obtain ⟨e1, e2⟩ := hpi
   subst e1 e2
   rw [if_pos ⟨rfl, rfl⟩]
   have hci := h.ci i hi p hp
   have hga := hci.ga
   have hown := hci.own
   have hgi' := hci.gi
   have hva := hci.va
   have htu := (h.gi i hi).tu
   have hmw := Ey (Fg hm).2.2.2.2.1
   have hmiB := (h.mi b (by rw [hfr]; exact List.mem_cons_self ..)).2 m hm
   simp only [ab] at hga hown htu
   have new : ∀ (k t v : Int), 8 ≤ k ∧ k ≤ 10 → 0 ≤ t ∧ t ≤ 65535 → 0 ≤ v ∧ v ≤ 255 → s = [A8 k p n m.line t v] → Has n nl y.frames (upM k n i p t) := by
    intro k t v hk' ht hv hs
    rw [hf, hs]
    exact Fv h (Xa hfl) (Vm h hp hi (by omega) ht hv h3) ⟨rfl, rfl, rfl, h3, rfl⟩
   cases hd with
   | no hl h4 h5 h7 h7' hs h11 =>
    subst hl
    refine ⟨fun a b c => tr2 _ _ (hPu _ _ _ _) (fun hq => ?_) (k1 a b c), fun a b c => tr2 _ _ (hPu _ _ _ _) (fun hq => ?_) (k2 a b c), fun a b c => tr2 _ _ (hPu _ _ _ _) (fun hq => ?_) (k3 a b c)⟩
    ·have hk5 : m.kind = 5 ∨ m.kind = 6 := by
      rcases hq with hq | hq
      ·exact .inl hq.1
      ·exact .inr hq.1
     have hmt : m.turn = (ent x i).turn := by
      rcases hq with hq | hq <;> exact hq.2.2.2.2
     have hgv : (lin x i p).gave = (ent x i).turn := by
      rcases hown b with ⟨q1, q2⟩ | ⟨q1, q2, q3, _⟩
      ·have := q2 a; omega
      ·exact q3
     have htp := Aal h hi (by omega) (by omega)
     have := new 9 _ _ (by omega) (by omega) hgi' ((h5 hk5).2 (by omega) (by omega))
     rw [hgv] at this; exact this
    ·have := new 8 _ _ (by omega) (by omega) (by omega) (h4 hq.1).2
     rw [hq.2.2.2.2] at this; exact this
    ·have hmi := hmiB
     have hpe : J1 n m = p := by unfold J1; rw [if_neg (by omega)]; omega
     unfold MX at hmi
     rw [hpe, show m.line.toNat = i by omega] at hmi
     have hgr := (hmi.gra hq.1).1
     have hla := hci.la
     simp only [ab] at hgr hla
     have := new 10 _ _ (by omega) (by omega) (by omega) (h7 hq.1 (by omega))
     rw [hq.2.2.2.2] at this; exact this
   | inv hkk h0 hnn hmm hl hl' hw hse hs =>
    refine ⟨fun a => absurd a (by omega), fun a b c => .inl ?_, fun a => absurd a (by omega)⟩
    have := new 8 _ _ (by omega) (by omega) (by omega) hs
    rw [hmm] at this; exact this
   | fet hkk h0 ho hmm hl hl' hw hse hs =>
    refine ⟨fun a b c => .inl ?_, fun a => absurd a (by omega), fun a => absurd a (by omega)⟩
    have := new 9 _ _ (by omega) (by omega) hva hs
    rw [hmm] at this; exact this
   | grant hkk h0 ho hmm hl hw0 hla hms hl' hw hse hs =>
    refine ⟨fun a => absurd a (by omega), fun a => absurd a (by omega), fun a b c => .inl ?_⟩
    have := new 10 _ _ (by omega) (by omega) (by omega) hs
    rw [hmm] at this; exact this
   | tak hkk hw0 hmm hl' hw hse hs =>
    rw [hl']
    exact ⟨fun a b c => tr _ _ (hPu _ _ _ _) (fun hq => by rcases hq with hq | hq <;> (unfold dnM at hq; omega)) (k1 a b c), fun a b c => tr _ _ (hPu _ _ _ _) (fun hq => by unfold dnM at hq; omega) (k2 a b c), fun a b c => tr _ _ (hPu _ _ _ _) (fun hq => by unfold dnM at hq; omega) (k3 a b c)⟩
  ·rw [if_neg hpi]
   have hQ : ∀ k t, ¬ dnM k n i p t m := fun k t hq => by
    unfold dnM at hq; exact hpi ⟨by omega, by omega⟩
   exact ⟨fun a b c => tr _ _ (hPu _ _ _ _) (fun hq => by rcases hq with hq | hq <;> exact hQ _ _ hq) (k1 a b c), fun a b c => tr _ _ (hPu _ _ _ _) (hQ _ _) (k2 a b c), fun a b c => tr _ _ (hPu _ _ _ _) (hQ _ _) (k3 a b c)⟩
theorem Yg (h : Inv n nl x M) {b : List UInt8} {fs O O' : Frames} (hfr : x.frames = b :: fs) (hd : GoDoes n nl x y b fs) (hO : ∀ P : Msg → Prop, Has n nl O P → Has n nl O' P ∨ ∃ m, Af (Ef n nl) b = (m, 0) ∧ P m) (hz : O = [] ∨ ∀ i, i < nl → (ent x i).phase = 0) (hk : K4 n nl x O) : K4 n nl y O' := by
 have hfl : fs.length < 40 := by have := h.fr; rw [hfr] at this; simp at this; omega
 have hfm : ∀ P : Msg → Prop, Has n nl x.frames P → Has n nl fs P ∨ ∃ m, Af (Ef n nl) b = (m, 0) ∧ P m := by
  intro P ⟨c, h1, m, h2, h3⟩
  rw [hfr] at h1
  exact Zfp
 have hO0 : O = [] → ∀ P : Msg → Prop, ¬ Has n nl O P := fun e P ⟨c, h1, _⟩ => by rw [e] at h1; exact absurd h1 (by simp)
 cases hd with
 | bad hp hc hh hf =>
  have hno : ∀ P : Msg → Prop, ¬ ∃ m, Af (Ef n nl) b = (m, 0) ∧ P m := fun P ⟨m, h1, _⟩ => hp (by rw [h1])
  intro i p hi hp' a c
  rw [hh, hc] at *
  rcases hk i p hi hp' a c with h1 | h1
  ·rcases hfm _ h1 with h2 | h2
   ·rw [hf]; exact .inl h2
   ·exact absurd h2 (hno _)
  ·rcases hO _ h1 with h2 | h2
   ·exact .inr h2
   ·exact absurd h2 (hno _)
 | home m p0 i0 e' s hm hp0 hi0 h1 h2 h3 hc hh hf hd =>
  intro i p hi hp a c
  rw [hh, hc] at *
  have tkp : Has n nl x.frames (tkM n i p (lin x i p).serial) → Has n nl y.frames (tkM n i p (lin x i p).serial) := by
   intro h4
   rcases hfm _ h4 with h5 | ⟨m', h5, h6⟩
   ·rw [hf]; exact h5.mono fun c hc => O4 s fs hc
   ·rw [hm] at h5; cases h5; unfold tkM at h6; omega
  have told : ∀ (hs : s = [Kb n m]) (hl : m.serial = (lin x i p).serial) (e : p = p0) (e2 : i = i0), Has n nl y.frames (tkM n i p (lin x i p).serial) := by
   intro hs hl e e2
   subst e e2
   have hmw := Ey (Fg hm).2.2.2.2.1
   rw [hf, hs]
   refine Fv h (Xa hfl) ?_ ⟨rfl, rfl, h1, h3, hl⟩
   unfold Kb; rw [h1, h3]
   exact Me h hp hi (by omega) (by omega) (by omega) (by omega)
  have tr : ∀ (hq : ptM n i p (lin x i p).serial m → Has n nl y.frames (tkM n i p (lin x i p).serial)), Has n nl x.frames (tkM n i p (lin x i p).serial) ∨ Has n nl O (ptM n i p (lin x i p).serial) → Has n nl y.frames (tkM n i p (lin x i p).serial) ∨ Has n nl O' (ptM n i p (lin x i p).serial) := by
   intro hq h4
   rcases h4 with h4 | h4
   ·exact .inl (tkp h4)
   ·rcases hO _ h4 with h5 | ⟨m', h5, h6⟩
    ·exact .inr h5
    ·rw [hm] at h5; cases h5; exact .inl (hq h6)
  have hla := (h.ci i hi p hp).la
  have hlaE : Cu (ent x i) p = (ab (ent x i)).last p := rfl
  by_cases hii : i = i0
  ·subst hii
   rw [if_pos rfl] at c
   cases hd with
   | no hS hs hk3 h12 h9 h8 h10 hge =>
    have hl := hS.la p hp (by omega)
    have hx := hk i p hi hp a (by omega)
    rcases hz with hz | hz
    ·rcases hx with hx | hx
     ·exact .inl (tkp hx)
     ·exact absurd hx (hO0 hz _)
    ·exact tr (fun hq => absurd (hz i hi) (hk3 hq.1)) hx
   | late hkk h0 hS hs hl hge =>
    have hl := hS.la p hp (by omega)
    have hx := hk i p hi hp a (by omega)
    exact tr (fun hq => told hs hq.2.2.2.2 (by unfold ptM at hq; omega) rfl) hx
   | put hkk h0 hw hmm hl h0' hl' ho ht hs =>
    by_cases e : p = p0
    ·subst e; exact .inl (told hs hmm rfl rfl)
    ·rw [ho p e] at c
     exact tr (fun hq => absurd (show p = p0 by unfold ptM at hq; omega) e) (hk i p hi hp a c)
   | get h0 hw hkk hmm hl h0' hl' ho ht hwho hse hnw hs =>
    by_cases e : p = p0
    ·subst e; omega
    ·rw [ho p e] at c
     exact tr (fun hq => absurd (show p = p0 by unfold ptM at hq; omega) e) (hk i p hi hp a c)
   | data hkk h0 ho hmm h0' hl' ht hwho hse hs => unfold Cu at c; rw [hl'] at c; exact tr (fun hq => by unfold ptM at hq; omega) (hk i p hi hp a c)
   | gone hkk h0 hnn hmm h0' hnd hl' ht hwho hse hs => unfold Cu at c; rw [hl'] at c; exact tr (fun hq => by unfold ptM at hq; omega) (hk i p hi hp a c)
   | all hkk h0 hnn hmm h0' hl' ht hwho hse hs => unfold Cu at c; rw [hl'] at c; exact tr (fun hq => by unfold ptM at hq; omega) (hk i p hi hp a c)
   | thanks hkk h0 hw hmm h0' hl' ht hs => unfold Cu at c; rw [hl'] at c; exact tr (fun hq => by unfold ptM at hq; omega) (hk i p hi hp a c)
  ·rw [if_neg hii] at c
   exact tr (fun hq => by unfold ptM at hq; omega) (hk i p hi hp a c)
 | core m p0 i0 l' s hm hp0 hi0 h1 h2 h3 hc hh hf hd =>
  intro i p hi hp a c
  rw [hh] at *
  have tr : ∀ t : Int, (¬ tkM n i p t m) → Has n nl x.frames (tkM n i p t) ∨ Has n nl O (ptM n i p t) → Has n nl y.frames (tkM n i p t) ∨ Has n nl O' (ptM n i p t) := by
   intro t hq h4
   rcases h4 with h4 | h4
   ·rcases hfm _ h4 with h5 | ⟨m', h5, h6⟩
    ·left; rw [hf]; exact h5.mono fun c hc => O4 s fs hc
    ·rw [hm] at h5; cases h5; exact absurd h6 hq
   ·rcases hO _ h4 with h5 | ⟨m', h5, h6⟩
    ·exact .inr h5
    ·rw [hm] at h5; cases h5; unfold ptM at h6; omega
  rw [hc] at *
  by_cases hpi : p = p0 ∧ i = i0
  ·obtain ⟨e1, e2⟩ := hpi
   subst e1 e2
   rw [if_pos ⟨rfl, rfl⟩] at *
   cases hd with
   | no hl h4 h5 h7 h7' hs h11 =>
    subst hl
    exact tr _ (fun hq => h11 hq.1 ⟨a, hq.2.2.2.2⟩) (hk i p hi hp a c)
   | inv hkk h0 hnn hmm hl hl' hw hse hs =>
    rw [hse] at c ⊢; exact tr _ (fun hq => by unfold tkM at hq; omega) (hk i p hi hp (by omega) c)
   | fet hkk h0 ho hmm hl hl' hw hse hs =>
    rw [hse] at c ⊢; exact tr _ (fun hq => by unfold tkM at hq; omega) (hk i p hi hp (by omega) c)
   | grant hkk h0 ho hmm hl hw0 hla hms hl' hw hse hs => omega
   | tak hkk hw0 hmm hl' hw hse hs => omega
  ·rw [if_neg hpi] at *
   exact tr _ (fun hq => by unfold tkM at hq; exact hpi ⟨by omega, by omega⟩) (hk i p hi hp a c)
end
end Go.Proofs.Ytehpekiedfpnkaa
namespace Go.Proofs.Ytehpekiedfpnkaa
open Abs
structure SameR (n nl : Nat) (x y : Chip) : Prop where
 li : ∀ j q, lin y j q = lin x j q
 en : ∀ j, j < nl → SameE n (ent x j) (ent y j) (lin x j)
theorem SameR.lin' {n nl : Nat} {x y : Chip} (h : SameR n nl x y) (j : Nat) : lin y j = lin x j := funext (h.li j)
theorem SameR.refl (n nl : Nat) (x : Chip) : SameR n nl x x := ⟨fun _ _ => rfl, fun _ _ => .refl ..⟩
theorem SameR.trans {n nl : Nat} {x y z : Chip} (h : SameR n nl x y) (g : SameR n nl y z) : SameR n nl x z :=
 ⟨fun j q => (g.li j q).trans (h.li j q), fun j hj => (h.en j hj).trans (by have := g.en j hj; rw [h.lin' j] at this; exact this)⟩
theorem SameR.phi {n nl : Nat} {x y : Chip} (h : SameR n nl x y) : Phi n nl y = Phi n nl x := by
 unfold Phi
 exact F2 fun i hi => by rw [h.lin' i]; exact (h.en i hi).faL
def Said (b : List UInt8) (fs gs : Frames) : Prop := ∃ s, gs = way fs s ∧ (s = [] ∨ (frW b = 2 ∧ ∃ m', s = [m'] ∧ 8 ≤ m'.kind ∧ m'.kind ≤ 11))
section
variable {n nl : Nat} {x y : Chip} {M : List Int}
theorem Xw {i : Nat} (hi : i < nl) (ho : ∀ j, j ≠ i → faL n (ent y j) (lin y j) = faL n (ent x j) (lin x j)) : Phi n nl y + faL n (ent x i) (lin x i) = Phi n nl x + faL n (ent y i) (lin y i) :=
 Hs (f := fun j => faL n (ent y j) (lin y j)) (g := fun j => faL n (ent x j) (lin x j)) hi (fun j _ hj => ho j hj)
theorem Ux (h : Inv n nl x M) {b : List UInt8} {fs : Frames} (hd : GoDoes n nl x y b fs) :
  (SameR n nl x y ∧ Said b fs y.frames) ∨ (Phi n nl y + 1 ≤ Phi n nl x ∧ Said b fs y.frames) ∨ (Phi n nl y + 2 ≤ Phi n nl x ∧ ∃ m p i e' s, Af (Ef n nl) b = (m, 0) ∧ p < n ∧ i < nl ∧ m.src = p ∧ m.dst = n ∧ m.line = i ∧ (∀ j q, lin y j q = lin x j q) ∧ (∀ j, ent y j = if j = i then e' else ent x j) ∧ y.frames = way fs s ∧ s = D4 e' m.line n ∧ (1 ≤ e'.phase ∧ e'.phase ≤ 3) ∧ HomeDoes n (ent x i) (lin x i) p m e' s) := by
 cases hd with
 | bad hp hc hh hf => exact .inl ⟨⟨hc, fun j _ => by rw [hh]; exact .refl ..⟩, [], hf, .inl rfl⟩
 | home m p i e' s hm hp hi h1 h2 h3 hc hh hf hd =>
  have hlf : ∀ j, lin y j = lin x j := fun j => funext (hc j)
  have hph := Xw (n := n) (nl := nl) (x := x) (y := y) hi (fun j hj => by rw [hh, if_neg hj, hlf])
  rw [hh, if_pos rfl, hlf] at hph
  have hsd : (s = [] ∨ (m.kind = 3 ∧ s = [Kb n m])) → Said b fs y.frames := fun hs => ⟨s, hf, by
   rcases hs with hs | ⟨hk, hs⟩
   ·exact .inl hs
   ·exact .inr ⟨Hl hm (by omega), _, hs, by unfold Kb; simp only; omega⟩⟩
  rcases Adg h hp hi hd with ⟨g1, g2⟩ | ⟨g1, g2⟩ | ⟨g1, g2, g3⟩
  ·refine .inl ⟨⟨hc, fun j hj => ?_⟩, hsd g2⟩
   rw [hh]; split
   ·rename_i e; rw [e]; exact g1
   ·exact .refl ..
  ·exact .inr (.inl ⟨by omega, hsd g2⟩)
  ·exact .inr (.inr ⟨by omega, m, p, i, e', s, hm, hp, hi, h1, h2, h3, hc, hh, hf, g2, g3, hd⟩)
 | core m p i l' s hm hp hi h1 h2 h3 hc hh hf hd =>
  have hsd : Said b fs y.frames := ⟨s, hf, by
   cases hd with
   | no hl h4 h5 h7 h7' hs h11 =>
    rcases hs with hs | ⟨hk, m', e, hk'⟩
    ·exact .inl hs
    ·exact .inr ⟨Hl hm (by omega), m', e, by omega⟩
   | inv hk h0 hn hmm hl hl' hw hse hs => exact .inr ⟨Hl hm (by omega), _, hs, by unfold A8; simp only; omega⟩
   | fet hk h0 ho hmm hl hl' hw hse hs => exact .inr ⟨Hl hm (by omega), _, hs, by unfold A8; simp only; omega⟩
   | grant hk h0 ho hmm hl hw0 hla hms hl' hw hse hs => exact .inr ⟨Hl hm (by omega), _, hs, by unfold A8; simp only; omega⟩
   | tak hk hw0 hmm hl' hw hse hs => exact .inl hs⟩
  have hly : lin y i = Vk (lin x i) p l' := funext fun q => by
   rw [hc]; unfold Vk
   by_cases e : q = p
   ·rw [if_pos ⟨e, rfl⟩, if_pos e]
   ·rw [if_neg (fun h => e h.1), if_neg e]
  have hlo : ∀ j, j ≠ i → lin y j = lin x j := fun j hj => funext fun q => by rw [hc, if_neg (fun h => hj h.2)]
  rcases Adh h hp hi hd with g | g
  ·refine .inl ⟨⟨fun j q => ?_, fun j _ => by rw [hh]; exact .refl ..⟩, hsd⟩
   rw [hc]; split
   ·rename_i e; rw [g, e.1, e.2]
   ·rfl
  ·have hph := Xw (n := n) (nl := nl) (x := x) (y := y) hi (fun j hj => by rw [hh, hlo j hj])
   rw [hh, hly] at hph
   exact .inr (.inl ⟨by omega, hsd⟩)
theorem Pv (h : Inv n nl x M) {b : List UInt8} {fs : Frames} (hd : GoDoes n nl x y b fs) : SameR n nl x y ∨ Phi n nl y + 1 ≤ Phi n nl x := by
 rcases Ux h hd with ⟨g, _⟩ | ⟨g, _⟩ | ⟨g, _⟩
 ·exact .inl g
 ·exact .inr g
 ·exact .inr (by omega)
def I6 (n nl : Nat) (x : Chip) (m : Msg) : Prop := ∃ i p : Nat, i < nl ∧ p < n ∧ m.line = i ∧
 ((m.src = p ∧ m.dst = n ∧ (((m.kind = 1 ∨ m.kind = 2) ∧ (ent x i).phase = 0 ∧ (lin x i p).want ≠ 0 ∧ m.serial = (lin x i p).serial ∧ Cu (ent x i) p < (lin x i p).serial) ∨
   (m.kind = 3 ∧ (ent x i).phase = 0 ∧ (lin x i p).want ≠ 0 ∧ m.serial = (lin x i p).serial ∧ Cu (ent x i) p < (lin x i p).serial) ∨
   (m.kind = 9 ∧ (ent x i).phase = 1 ∧ m.turn = (ent x i).turn ∧ (ent x i).owner = p) ∨ (m.kind = 8 ∧ (ent x i).phase = 2 ∧ m.turn = (ent x i).turn ∧ C6 (ent x i).need p = 1) ∨ (m.kind = 10 ∧ (ent x i).phase = 3 ∧ m.turn = (ent x i).turn ∧ (ent x i).who = p))) ∨
  (m.src = n ∧ m.dst = p ∧ ((m.kind = 4 ∧ (lin x i p).seen < m.turn) ∨ ((m.kind = 5 ∨ m.kind = 6) ∧ m.turn = (ent x i).turn ∧ (ent x i).phase = 1 ∧ (ent x i).owner = p ∧ (lin x i p).seen ≠ (ent x i).turn) ∨
   (m.kind = 7 ∧ m.serial = (lin x i p).serial ∧ ((lin x i p).want = 1 ∨ (lin x i p).want = 2) ∧ (lin x i p).seen ≠ (ent x i).turn) ∨ (m.kind = 11 ∧ (lin x i p).want = 3 ∧ m.serial = (lin x i p).serial))))
theorem Re (h : SameR n nl x y) {m : Msg} (hl : I6 n nl x m) : I6 n nl y m := by
 obtain ⟨i, p, hi, hp, h1, h2⟩ := hl
 have hE := h.en i hi
 refine ⟨i, p, hi, hp, h1, ?_⟩
 rw [h.li i p, hE.ph, hE.tu, hE.ow, hE.wh, hE.nd]
 have hla := hE.la p hp
 rcases h2 with ⟨a, b, c⟩ | h2
 ·refine .inl ⟨a, b, ?_⟩
  rcases c with ⟨c1, c2, c3, c4, c5⟩ | ⟨c1, c2, c3, c4, c5⟩ | c
  ·exact .inl ⟨c1, c2, c3, c4, (hla c3).2 c5⟩
  ·exact .inr (.inl ⟨c1, c2, c3, c4, (hla c3).2 c5⟩)
  ·exact .inr (.inr c)
 ·exact .inr h2
theorem Acc (h : Inv n nl x M) {b : List UInt8} {fs : Frames} (hd : GoDoes n nl x y b fs) {m : Msg} (hm : Af (Ef n nl) b = (m, 0)) (hl : I6 n nl x m) : Phi n nl y + 1 ≤ Phi n nl x := by
 rcases Pv h hd with hs | hs
 ·exfalso
  obtain ⟨i, p, hi, hp, l1, l2⟩ := hl
  have hE := hs.en i hi
  have hly := hs.li i p
  cases hd with
  | bad hp0 hc hh hf => rw [hm] at hp0; exact hp0 rfl
  | home m0 p0 i0 e' s hm0 hp0 hi0 h1 h2 h3 hc hh hf hd =>
   rw [hm] at hm0; cases hm0
   have e : i = i0 := by omega
   subst e
   rw [hh, if_pos rfl] at hE
   have hla := hE.la p hp
   rcases l2 with ⟨a, b', c⟩ | ⟨a, b', c⟩
   ·have e : p = p0 := by omega
    subst e
    have hci := (h.ci i hi p hp).la
    cases hd with
    | no hS hs hk3 h12 h9 h8 h10 hge =>
     rcases c with ⟨c1, c2, c3, c4, c5⟩ | ⟨c1, c2, c3, c4, c5⟩ | ⟨c1, c2, c3, c4⟩ | ⟨c1, c2, c3, c4⟩ | ⟨c1, c2, c3, c4⟩
     ·have := h12 c1 c2; omega
     ·exact hk3 c1 c2
     ·exact h9 c1 c2 c3 c4
     ·exact h8 c1 c2 c3 c4
     ·exact h10 c1 c2 c3 c4
    | late hkk h0 hS hs hl hge =>
     rcases c with ⟨c1, c2, c3, c4, c5⟩ | ⟨c1, c2, c3, c4, c5⟩ | ⟨c1, c2, c3, c4⟩ | ⟨c1, c2, c3, c4⟩ | ⟨c1, c2, c3, c4⟩
     ·omega
     ·have := (hla c3).2 c5; omega
     ·omega
     ·omega
     ·omega
    | put hkk h0 hw hmm hl h0' hl' ho ht hs => have := (hla (by omega)).2 hl; omega
    | get h0 hw hkk hmm hl h0' hl' ho ht hwho hse hnw hs => have := hE.ph; omega
    | data hkk h0 ho hmm h0' hl' ht hwho hse hs => have := hE.ph; omega
    | gone hkk h0 hnn hmm h0' hnd hl' ht hwho hse hs => have := hnd p; rw [hE.nd, if_pos rfl] at this; omega
    | all hkk h0 hnn hmm h0' hl' ht hwho hse hs => have := hE.ph; omega
    | thanks hkk h0 hw hmm h0' hl' ht hs => have := hE.ph; omega
   ·omega
  | core m0 p0 i0 l' s hm0 hp0 hi0 h1 h2 h3 hc hh hf hd =>
   rw [hm] at hm0; cases hm0
   have e : i = i0 := by omega
   subst e
   rcases l2 with ⟨a, b', c⟩ | ⟨a, b', c⟩
   ·omega
   ·have e : p = p0 := by omega
    subst e
    rw [hc, if_pos ⟨rfl, rfl⟩] at hly
    subst hly
    cases hd with
    | no hl h4 h5 h7 h7' hs h11 =>
     rcases c with ⟨c1, c2⟩ | ⟨c1, c2, c3, c4, c5⟩ | ⟨c1, c2, c3, c4⟩ | ⟨c1, c2, c3⟩
     ·have := (h4 c1).1; omega
     ·exact c5 ((h5 c1).1 c2 c3 c4)
     ·rcases h7' c1 c2 with g | g | g
      ·omega
      ·omega
      ·exact c4 g
     ·exact h11 c1 ⟨c2, c3⟩
    | inv hk h0 hn hmm hl hl' hw hse hs => omega
    | fet hk h0 ho hmm hl hl' hw hse hs => omega
    | grant hk h0 ho hmm hl hw0 hla hms hl' hw hse hs => omega
    | tak hk hw0 hmm hl' hw hse hs => omega
 ·exact hs
def Aga (n nl : Nat) (x : Chip) : Prop := (∀ i, i < nl → ∀ m ∈ D4 (ent x i) i n, msgBytes m ∈ x.frames) ∧ ∀ i p, i < nl → p < n → (lin x i p).want ≠ 0 → msgBytes (By (lin x i p) p n i) ∈ x.frames
theorem S9 (h : Inv n nl x M) (hT : Aga n nl x) (hk : K3 n nl x []) {i : Nat} (hi : i < nl) (h0 : (ent x i).phase ≠ 0) : Has n nl x.frames (I6 n nl x) := by
 have hgi := h.gi i hi
 have hph := hgi.ph
 have hwh := hgi.whor h0
 have hown := hgi.own
 have hf1 := hgi.f1
 simp only [ab] at hph hwh hown hf1
 have no : ∀ P : Msg → Prop, ¬ Has n nl [] P := fun P ⟨b, h1, _⟩ => absurd h1 (by simp)
 have said : ∀ m ∈ D4 (ent x i) i n, I6 n nl x m → Has n nl x.frames (I6 n nl x) := fun m hm hl => Fv h (hT.1 i hi m hm) (Kz h hi m hm).1 hl
 rcases (show (ent x i).phase = 1 ∨ (ent x i).phase = 2 ∨ (ent x i).phase = 3 by omega) with h1 | h1 | h1
 ·obtain ⟨p, hp⟩ : ∃ p : Nat, (ent x i).owner = p := ⟨(ent x i).owner.toNat, by have := hf1 h1; omega⟩
  have hpn : p < n := by omega
  by_cases hs : (lin x i p).seen = (ent x i).turn
  ·rcases (hk i p hi hpn).1 h1 hp hs with g | g
   ·exact g.imp fun m hm => ⟨i, p, hi, hpn, hm.2.2.2.1, .inl ⟨hm.2.1, hm.2.2.1, .inr (.inr (.inl ⟨hm.1, h1, hm.2.2.2.2, hp⟩))⟩⟩
   ·exact absurd g (no _)
  ·refine said _ (by unfold D4; rw [if_pos h1]; exact List.mem_singleton.2 rfl) ⟨i, p, hi, hpn, rfl, .inr ⟨rfl, hp, .inr (.inl ⟨?_, rfl, h1, hp, hs⟩)⟩⟩
   simp only; split
   ·exact .inr rfl
   ·exact .inl rfl
 ·obtain ⟨_, p, hpn, hnd⟩ := hgi.c2 h1
  have hnd : C6 (ent x i).need p = 1 := hnd
  by_cases hs : (lin x i p).seen = (ent x i).turn
  ·rcases (hk i p hi hpn).2.1 h1 hnd hs with g | g
   ·exact g.imp fun m hm => ⟨i, p, hi, hpn, hm.2.2.2.1, .inl ⟨hm.2.1, hm.2.2.1, .inr (.inr (.inr (.inl ⟨hm.1, h1, hm.2.2.2.2, hnd⟩)))⟩⟩
   ·exact absurd g (no _)
  ·have hga := (h.ci i hi p hpn).ga
   simp only [ab] at hga
   have hn := h.n1
   refine said ⟨4, n, (p : Int), i, 0, (ent x i).turn, 0, false⟩ ?_ ⟨i, p, hi, hpn, rfl, .inr ⟨rfl, rfl, .inl ⟨rfl, by simp only; omega⟩⟩⟩
   unfold D4; rw [if_neg (by omega), if_pos h1]
   refine List.mem_map.2 ⟨(p : Int), List.mem_filter.2 ⟨?_, (Iz _ _).2 hnd⟩, rfl⟩
   have : p = 0 ∨ p = 1 ∨ p = 2 ∨ p = 3 := by omega
   rcases this with e | e | e | e <;> subst e <;> simp
 ·obtain ⟨p, hp⟩ : ∃ p : Nat, (ent x i).who = p := ⟨(ent x i).who.toNat, by omega⟩
  have hpn : p < n := by omega
  by_cases hs : (lin x i p).seen = (ent x i).turn
  ·rcases (hk i p hi hpn).2.2 h1 hp hs with g | g
   ·exact g.imp fun m hm => ⟨i, p, hi, hpn, hm.2.2.2.1, .inl ⟨hm.2.1, hm.2.2.1, .inr (.inr (.inr (.inr ⟨hm.1, h1, hm.2.2.2.2, hp⟩)))⟩⟩
   ·exact absurd g (no _)
  ·have hcur := (h.ci i hi p hpn).cur h0 hp
   have hal := hgi.al
   simp only [ab] at hcur hal
   refine said ⟨7, n, (ent x i).who, i, (ent x i).serial, (ent x i).turn, (ent x i).value, (ent x i).alone⟩ (by unfold D4; rw [if_neg (by omega), if_neg (by omega), if_pos h1]; exact List.mem_singleton.2 rfl) ⟨i, p, hi, hpn, rfl, .inr ⟨rfl, hp, .inr (.inr (.inl ⟨rfl, ?_, ?_, hs⟩))⟩⟩
   ·simp only; omega
   ·omega
theorem X9 (h : Inv n nl x M) (hT : Aga n nl x) (hk : K4 n nl x []) (hz : ∀ i, i < nl → (ent x i).phase = 0) {i p : Nat} (hi : i < nl) (hp : p < n) (hw : (lin x i p).want ≠ 0) : Has n nl x.frames (I6 n nl x) := by
 have hci := h.ci i hi p hp
 have hla := hci.la
 have hwa := hci.wa
 have htk := hci.taken
 simp only [ab] at hla htk
 have hlE : Cu (ent x i) p = (ent x i).last.getD p 0 := rfl
 have ask : I6 n nl x (By (lin x i p) p n i) → Has n nl x.frames (I6 n nl x) := fun hl => Fv h (hT.2 i p hi hp hw) (Z9 h hp hi hw).1 hl
 have h0 := hz i hi
 by_cases h3 : (lin x i p).want = 3
 ·by_cases hl : Cu (ent x i) p < (lin x i p).serial
  ·exact ask ⟨i, p, hi, hp, rfl, .inl ⟨rfl, rfl, .inr (.inl ⟨h3, h0, hw, rfl, hl⟩)⟩⟩
  ·rcases hk i p hi hp h3 (by omega) with g | ⟨b, g, _⟩
   ·exact g.imp fun m hm => ⟨i, p, hi, hp, hm.2.2.2.1, .inr ⟨hm.2.1, hm.2.2.1, .inr (.inr (.inr ⟨hm.1, h3, hm.2.2.2.2⟩))⟩⟩
   ·exact absurd g (by simp)
 ·have hl : Cu (ent x i) p < (lin x i p).serial := by
   refine Int.not_le.1 fun hc => ?_
   exact (htk (by omega) (by omega)).1 h0
  exact ask ⟨i, p, hi, hp, rfl, .inl ⟨rfl, rfl, .inl ⟨by unfold By; simp only; omega, h0, hw, rfl, hl⟩⟩⟩
end
end Go.Proofs.Ytehpekiedfpnkaa
namespace Go.Proofs.Ytehpekiedfpnkaa
open Abs
def Sq (f : Nat → Int) : Nat → Int
 | 0 => 0
 | k + 1 => Sq f k + f k
theorem Kv {f g : Nat → Int} : ∀ {k : Nat}, (∀ i, i < k → f i ≤ g i) → Sq f k ≤ Sq g k
 | 0, _ => Int.le_refl _
 | k + 1, h => by
  have h1 := Kv (k := k) (fun i hi => h i (by omega))
  have h2 := h k (by omega)
  simp only [Sq]; omega
theorem Xe {f g : Nat → Int} {p : Nat} : ∀ {k : Nat}, p < k → (∀ i, i < k → f i ≤ g i) → f p < g p → Sq f k + 1 ≤ Sq g k
 | 0, h, _, _ => absurd h (by omega)
 | k + 1, hp, h, hl => by
  have h2 := h k (by omega)
  simp only [Sq]
  by_cases e : p = k
  ·subst e
   have h1 := Kv (k := p) (fun i hi => h i (by omega)); omega
  ·have := Xe (k := k) (show p < k by omega) (fun i hi => h i (by omega)) hl; omega
def TI (n nl : Nat) (B : Int) (x : Chip) : Prop := ∀ i, i < nl → (ent x i).turn ≤ Sq (fun p => Cu (ent x i) p) n ∧ Sq (fun p => (lin x i p).serial) n ≤ B
section
variable {n nl : Nat} {x y : Chip} {M : List Int} {B : Int}
theorem TI.turn (h : Inv n nl x M) (hB : B < 65535) (ht : TI n nl B x) : ∀ i, i < nl → (ent x i).turn < 65535 := by
 intro i hi
 obtain ⟨h1, h2⟩ := ht i hi
 have h3 := Kv (f := fun p => Cu (ent x i) p) (g := fun p => (lin x i p).serial) (k := n) (fun p hp => (h.ci i hi p hp).la.2)
 omega
theorem Ym {e e' : Entry} {l : Nat → Line} {p : Nat} {m : Msg} {s : List Msg} (hd : HomeDoes n e l p m e' s) : (e'.turn = e.turn ∧ ∀ q, Cu e q ≤ Cu e' q) ∨ (e'.turn = e.turn + 1 ∧ (∀ q, Cu e q ≤ Cu e' q) ∧ Cu e p < Cu e' p) := by
 cases hd with
 | no hS hs hk3 h12 h9 h8 h10 hge => exact .inl ⟨hS.tu, hge⟩
 | late hkk h0 hS hs hl hge => exact .inl ⟨hS.tu, hge⟩
 | put hkk h0 hw hmm hl h0' hl' ho ht hs =>
  refine .inl ⟨ht, fun q => ?_⟩
  by_cases e : q = p
  ·subst e; omega
  ·rw [ho q e]; exact Int.le_refl _
 | get h0 hw hkk hmm hl h0' hl' ho ht hwho hse hnw hs =>
  refine .inr ⟨ht, fun q => ?_, by omega⟩
  by_cases e : q = p
  ·subst e; omega
  ·rw [ho q e]; exact Int.le_refl _
 | data hkk h0 ho hmm h0' hl' ht hwho hse hs => exact .inl ⟨ht, fun q => by unfold Cu; rw [hl']; exact Int.le_refl _⟩
 | gone hkk h0 hnn hmm h0' hnd hl' ht hwho hse hs => exact .inl ⟨ht, fun q => by unfold Cu; rw [hl']; exact Int.le_refl _⟩
 | all hkk h0 hnn hmm h0' hl' ht hwho hse hs => exact .inl ⟨ht, fun q => by unfold Cu; rw [hl']; exact Int.le_refl _⟩
 | thanks hkk h0 hw hmm h0' hl' ht hs => exact .inl ⟨ht, fun q => by unfold Cu; rw [hl']; exact Int.le_refl _⟩
theorem Ti {e : Entry} {p : Nat} {l l' : Line} {m : Msg} {s : List Msg} (hd : CoreDoes n e p l m l' s) : l'.serial = l.serial := by
 cases hd with
 | no hl => rw [hl]
 | inv hk h0 hn hmm hl hl' hw hse hs => exact hse
 | fet hk h0 ho hmm hl hl' hw hse hs => exact hse
 | grant hk h0 ho hmm hl hw0 hla hms hl' hw hse hs => exact hse
 | tak hk hw0 hmm hl' hw hse hs => exact hse
theorem Xd {b : List UInt8} {fs : Frames} (hd : GoDoes n nl x y b fs) (ht : TI n nl B x) : TI n nl B y := by
 intro i hi
 obtain ⟨h1, h2⟩ := ht i hi
 cases hd with
 | bad hp hc hh hf => rw [hh]; simp only [hc]; exact ⟨h1, h2⟩
 | home m p0 i0 e' s hm hp0 hi0 g1 g2 g3 hc hh hf hd =>
  simp only [hc]; rw [hh]
  refine ⟨?_, h2⟩
  split
  ·rename_i e; subst e
   rcases Ym hd with ⟨a, b'⟩ | ⟨a, b', c⟩
   ·have := Kv (f := fun p => Cu (ent x i) p) (g := fun p => Cu e' p) (k := n) (fun q _ => b' q); omega
   ·have := Xe (f := fun p => Cu (ent x i) p) (g := fun p => Cu e' p) (k := n) hp0 (fun q _ => b' q) c; omega
  ·exact h1
 | core m p0 i0 l' s hm hp0 hi0 g1 g2 g3 hc hh hf hd =>
  rw [hh]
  refine ⟨h1, ?_⟩
  have := Kv (f := fun p => (lin y i p).serial) (g := fun p => (lin x i p).serial) (k := n) (fun q _ => by
   rw [hc]; split
   ·rename_i e; rw [Ti hd, e.1, e.2]; exact Int.le_refl _
   ·exact Int.le_refl _)
  omega
theorem H1 {b : List UInt8} {fs : Frames} (hfr : x.frames = b :: fs) (k : Nat) : (En x (k + 1)).1 = (En (Ak x goS).1 k).1 := by
 unfold En
 rw [List.replicate_succ, E2 (Ru (x := x) (by rw [hfr]; simp)).1]
theorem J2 (h : Inv n nl x M) (hB : B < 65535) (ht : TI n nl B x) {b : List UInt8} {fs : Frames} (hfr : x.frames = b :: fs) : ∃ M', Inv n nl (Ak x goS).1 M' ∧ TI n nl B (Ak x goS).1 ∧ GoDoes n nl x (Ak x goS).1 b fs := by
 have hd := Yu h (ht.turn h hB) hfr
 obtain ⟨M', h', _⟩ := Ix h (Ru (x := x) (by rw [hfr]; simp)).1
 exact ⟨M', h', Xd hd ht, hd⟩
theorem Ex {b : List UInt8} {fs : Frames} (hd : GoDoes n nl x y b fs) : ∃ t, y.frames = fs ++ t := by
 cases hd with
 | bad hp hc hh hf => exact ⟨[], by rw [hf]; simp⟩
 | home m p0 i0 e' s hm hp0 hi0 g1 g2 g3 hc hh hf hd => obtain ⟨t, e, _⟩ := Ii s fs; exact ⟨t, by rw [hf, e]⟩
 | core m p0 i0 l' s hm hp0 hi0 g1 g2 g3 hc hh hf hd => obtain ⟨t, e, _⟩ := Ii s fs; exact ⟨t, by rw [hf, e]⟩
theorem Afi (hB : B < 65535) : ∀ (O N : Frames) {x : Chip} {M : List Int}, Inv n nl x M → TI n nl B x → x.frames = O ++ N → TI n nl B (En x O.length).1
 | [], N, x, M, h, ht, hfr => by simpa [En, Cq] using ht
 | b :: O, N, x, M, h, ht, hfr => by
  obtain ⟨M', h', ht', hd⟩ := J2 h hB ht (hfr.trans (List.cons_append ..))
  obtain ⟨t, e⟩ := Ex hd
  rw [List.length_cons, H1 (hfr.trans (List.cons_append ..))]
  exact Afi hB O (N ++ t) h' ht' (by rw [e, List.append_assoc])
theorem Uu (hB : B < 65535) : ∀ (O N : Frames) {x : Chip} {M : List Int}, Inv n nl x M → TI n nl B x → x.frames = O ++ N → SameR n nl x (En x O.length).1 ∨ Phi n nl (En x O.length).1 + 1 ≤ Phi n nl x
 | [], N, x, M, h, ht, hfr => .inl (by simpa [En, Cq] using SameR.refl n nl x)
 | b :: O, N, x, M, h, ht, hfr => by
  obtain ⟨M', h', ht', hd⟩ := J2 h hB ht (hfr.trans (List.cons_append ..))
  obtain ⟨t, e⟩ := Ex hd
  rw [List.length_cons, H1 (hfr.trans (List.cons_append ..))]
  have ih := Uu hB O (N ++ t) h' ht' (by rw [e, List.append_assoc])
  rcases Pv h hd with g | g
  ·have := g.phi
   rcases ih with k | k
   ·exact .inl (g.trans k)
   ·exact .inr (by omega)
  ·rcases ih with k | k
   ·have := k.phi; exact .inr (by omega)
   ·exact .inr (by omega)
theorem Uw (hB : B < 65535) (O N : Frames) (h : Inv n nl x M) (ht : TI n nl B x) (hfr : x.frames = O ++ N) : Phi n nl (En x O.length).1 ≤ Phi n nl x := by
 rcases Uu hB O N h ht hfr with g | g
 ·have := g.phi; omega
 ·omega
theorem Uv (hB : B < 65535) : ∀ (O N : Frames) {x : Chip} {M : List Int}, Inv n nl x M → TI n nl B x → x.frames = O ++ N → Has n nl O (I6 n nl x) → Phi n nl (En x O.length).1 + 1 ≤ Phi n nl x
 | [], N, x, M, h, ht, hfr, ⟨b, hb, _⟩ => absurd hb (by simp)
 | b :: O, N, x, M, h, ht, hfr, hl => by
  obtain ⟨M', h', ht', hd⟩ := J2 h hB ht (hfr.trans (List.cons_append ..))
  obtain ⟨t, e⟩ := Ex hd
  rw [List.length_cons, H1 (hfr.trans (List.cons_append ..))]
  have le := Uw hB O (N ++ t) h' ht' (by rw [e, List.append_assoc])
  rcases Pv h hd with g | g
  ·obtain ⟨c, hc, m, hm, hlm⟩ := hl
   rcases List.mem_cons.1 hc with e2 | e2
   ·subst e2
    have := Acc h hd hm hlm; omega
   ·have ih := Uv hB O (N ++ t) h' ht' (by rw [e, List.append_assoc]) ⟨c, e2, m, hm, Re g hlm⟩
    have := g.phi; omega
  ·omega
theorem Ur {b : List UInt8} {O : Frames} : ∀ P : Msg → Prop, Has n nl (b :: O) P → Has n nl O P ∨ ∃ m, Af (Ef n nl) b = (m, 0) ∧ P m := by
 intro P ⟨c, h1, m, h2, h3⟩
 exact Zfp
theorem Yr {b : List UInt8} : ∀ P : Msg → Prop, Has n nl [] P → Has n nl [] P ∨ ∃ m, Af (Ef n nl) b = (m, 0) ∧ P m := fun P h => .inl h
theorem Afk (hB : B < 65535) : ∀ (O N : Frames) {x : Chip} {M : List Int}, Inv n nl x M → TI n nl B x → x.frames = O ++ N → (K3 n nl x O → K3 n nl (En x O.length).1 []) ∧ (K3 n nl x [] → K3 n nl (En x O.length).1 [])
 | [], N, x, M, h, ht, hfr => by simp [En, Cq]
 | b :: O, N, x, M, h, ht, hfr => by
  obtain ⟨M', h', ht', hd⟩ := J2 h hB ht (hfr.trans (List.cons_append ..))
  obtain ⟨t, e⟩ := Ex hd
  rw [List.length_cons, H1 (hfr.trans (List.cons_append ..))]
  have ih := Afk hB O (N ++ t) h' ht' (by rw [e, List.append_assoc])
  exact ⟨fun hk => ih.1 (Yh h (hfr.trans (List.cons_append ..)) hd Ur hk), fun hk => ih.2 (Yh h (hfr.trans (List.cons_append ..)) hd Yr hk)⟩
theorem Afj (hB : B < 65535) : ∀ (O N : Frames) {x : Chip} {M : List Int}, Inv n nl x M → TI n nl B x → x.frames = O ++ N → ((∀ i, i < nl → (ent x i).phase = 0) → Phi n nl (En x O.length).1 = Phi n nl x → K4 n nl x O → K4 n nl (En x O.length).1 []) ∧ (K4 n nl x [] → K4 n nl (En x O.length).1 [])
 | [], N, x, M, h, ht, hfr => by simp [En, Cq]
 | b :: O, N, x, M, h, ht, hfr => by
  obtain ⟨M', h', ht', hd⟩ := J2 h hB ht (hfr.trans (List.cons_append ..))
  obtain ⟨t, e⟩ := Ex hd
  rw [List.length_cons, H1 (hfr.trans (List.cons_append ..))]
  have ih := Afj hB O (N ++ t) h' ht' (by rw [e, List.append_assoc])
  have le := Uw hB O (N ++ t) h' ht' (by rw [e, List.append_assoc])
  refine ⟨fun hz hq hk => ?_, fun hk => ih.2 (Yg h (hfr.trans (List.cons_append ..)) hd Yr (.inl rfl) hk)⟩
  rcases Pv h hd with g | g
  ·refine ih.1 (fun i hi => by rw [(g.en i hi).ph]; exact hz i hi) (by rw [g.phi]; exact hq) (Yg h (hfr.trans (List.cons_append ..)) hd Ur (.inr hz) hk)
  ·omega
def Qg (n nl : Nat) (x : Chip) (i : Nat) (O : Frames) : Prop := ∃ p, p < n ∧
 (((ent x i).phase = 1 ∧ (ent x i).owner = p ∧ (lin x i p).seen < (ent x i).turn ∧ Has n nl x.frames (fun m => dnM 5 n i p (ent x i).turn m ∨ dnM 6 n i p (ent x i).turn m) ∧ ¬ Has n nl O (fun m => (m.kind = 5 ∨ m.kind = 6) ∧ m.line = i ∧ m.turn = (ent x i).turn)) ∨
  ((ent x i).phase = 2 ∧ C6 (ent x i).need p = 1 ∧ (∀ q, q < n → (lin x i q).seen < (ent x i).turn) ∧ Has n nl x.frames (dnM 4 n i p (ent x i).turn) ∧ ¬ Has n nl O (fun m => m.kind = 4 ∧ m.line = i ∧ m.turn = (ent x i).turn)) ∨
  ((ent x i).phase = 3 ∧ (ent x i).who = p ∧ (lin x i p).seen < (ent x i).turn ∧ ((lin x i p).want = 1 ∨ (lin x i p).want = 2) ∧ Has n nl x.frames (fun m => dnM 7 n i p (ent x i).turn m ∧ m.serial = (lin x i p).serial) ∧ ¬ Has n nl O (fun m => m.kind = 7 ∧ m.line = i ∧ m.dst = p ∧ m.serial = (lin x i p).serial)))
theorem Wi (h : Inv n nl x M) {i : Nat} (hi : i < nl) {O : Frames} (hf : Qg n nl x i O) : Has n nl x.frames (I6 n nl x) := by
 obtain ⟨p, hp, hf⟩ := hf
 rcases hf with ⟨a, b, c, d, _⟩ | ⟨a, b, c, d, _⟩ | ⟨a, b, c, c2, d, _⟩
 ·exact d.imp fun m hm => by
   rcases hm with hm | hm
   ·exact ⟨i, p, hi, hp, hm.2.2.2.1, .inr ⟨hm.2.1, hm.2.2.1, .inr (.inl ⟨.inl hm.1, hm.2.2.2.2, a, b, by omega⟩)⟩⟩
   ·exact ⟨i, p, hi, hp, hm.2.2.2.1, .inr ⟨hm.2.1, hm.2.2.1, .inr (.inl ⟨.inr hm.1, hm.2.2.2.2, a, b, by omega⟩)⟩⟩
 ·exact d.imp fun m hm => ⟨i, p, hi, hp, hm.2.2.2.1, .inr ⟨hm.2.1, hm.2.2.1, .inl ⟨hm.1, by have := c p hp; have := hm.2.2.2.2; omega⟩⟩⟩
 ·exact d.imp fun m hm => ⟨i, p, hi, hp, hm.1.2.2.2.1, .inr ⟨hm.1.2.1, hm.1.2.2.1, .inr (.inr (.inl ⟨hm.1.1, hm.2, c2, by omega⟩))⟩⟩
theorem Wh (h : Inv n nl x M) {b : List UInt8} {fs O : Frames} (hfr : x.frames = b :: fs) (hd : GoDoes n nl x y b fs) {i : Nat} (hi : i < nl) (hf : Qg n nl x i (b :: O)) : Qg n nl y i O := by
 have noO : ∀ P : Msg → Prop, ¬ Has n nl (b :: O) P → ¬ Has n nl O P := fun P hn ho => hn (ho.mono fun c hc => List.mem_cons_of_mem _ hc)
 have nob : ∀ P : Msg → Prop, ¬ Has n nl (b :: O) P → ∀ m, Af (Ef n nl) b = (m, 0) → ¬ P m := fun P hn m hm hp => hn ⟨b, List.mem_cons_self .., m, hm, hp⟩
 have keep : ∀ P Q : Msg → Prop, (∀ m, P m → Q m) → ¬ Has n nl (b :: O) Q → Has n nl x.frames P → Has n nl y.frames P := by
  intro P Q hPQ hn ⟨c, h1, m, h2, h3⟩
  rw [hfr] at h1
  obtain ⟨t, e⟩ := Ex hd
  rcases List.mem_cons.1 h1 with e2 | e2
  ·rw [e2] at h2; exact absurd (hPQ m h3) (nob Q hn m h2)
  ·exact ⟨c, by rw [e]; exact List.mem_append.2 (.inl e2), m, h2, h3⟩
 have mk : (ent y i).phase = (ent x i).phase → (ent y i).owner = (ent x i).owner → (ent y i).need = (ent x i).need → (ent y i).who = (ent x i).who → (ent y i).turn = (ent x i).turn → (∀ q, (lin y i q).seen = (lin x i q).seen) → (∀ q, ((lin x i q).want = 1 ∨ (lin x i q).want = 2) → (lin y i q).want = (lin x i q).want) → (∀ q, (lin y i q).serial = (lin x i q).serial) → Qg n nl y i O := by
  intro e1 e2 e3 e4 e5 e6 e7 e8
  obtain ⟨p, hp, hf⟩ := hf
  refine ⟨p, hp, ?_⟩
  rw [e1, e2, e3, e4, e5, e6, e8]
  simp only [e6]
  rcases hf with ⟨a, b', c, d, f⟩ | ⟨a, b', c, d, f⟩ | ⟨a, b', c, c2, d, f⟩
  ·exact .inl ⟨a, b', c, keep _ _ (fun m hm => by rcases hm with hm | hm <;> (unfold dnM at hm; omega)) f d, noO _ f⟩
  ·exact .inr (.inl ⟨a, b', c, keep _ _ (fun m hm => by unfold dnM at hm; omega) f d, noO _ f⟩)
  ·exact .inr (.inr ⟨a, b', c, by rw [e7 p c2]; exact c2, keep _ _ (fun m hm => by unfold dnM at hm; omega) f d, noO _ f⟩)
 cases hd with
 | bad hp hc hh hf' => exact mk (by rw [hh]) (by rw [hh]) (by rw [hh]) (by rw [hh]) (by rw [hh]) (fun q => by rw [hc]) (fun q _ => by rw [hc]) (fun q => by rw [hc])
 | home m p0 i0 e' s hm hp0 hi0 h1 h2 h3 hc hh hf' hd' =>
  by_cases hii : i = i0
  ·subst hii
   have hmi := (h.mi b (by rw [hfr]; exact List.mem_cons_self ..)).2 m hm
   have hpe : J1 n m = p0 := by unfold J1; rw [if_pos h2]; omega
   unfold MX at hmi
   rw [hpe, show m.line.toNat = i by omega] at hmi
   have hda := hmi.dat; have hgo := hmi.gon; have hth := hmi.tha
   simp only [ab] at hda
   have same : SameE n (ent x i) e' (lin x i) → Qg n nl y i O := fun hS =>
    mk (by rw [hh, if_pos rfl, hS.ph]) (by rw [hh, if_pos rfl, hS.ow]) (by rw [hh, if_pos rfl, hS.nd]) (by rw [hh, if_pos rfl, hS.wh]) (by rw [hh, if_pos rfl, hS.tu]) (fun q => by rw [hc]) (fun q _ => by rw [hc]) (fun q => by rw [hc])
   cases hd' with
   | no hS hs hk3 h12 h9 h8 h10 hge => exact same hS
   | late hkk h0 hS hs hl hge => exact same hS
   | put hkk h0 hw hmm hl h0' hl' ho ht hs => exfalso; obtain ⟨p, hp, hf⟩ := hf; omega
   | get h0 hw hkk hmm hl h0' hl' ho ht hwho hse hnw hs => exfalso; obtain ⟨p, hp, hf⟩ := hf; omega
   | data hkk h0 ho hmm h0' hl' ht hwho hse hs =>
    exfalso; obtain ⟨p, hp, hf⟩ := hf
    have := (hda hkk).1
    rcases hf with ⟨a, b', c, d, f⟩ | ⟨a, b', c, d, f⟩ | ⟨a, b', c, c2, d, f⟩
    ·have e : p = p0 := by omega
     subst e; omega
    ·omega
    ·omega
   | gone hkk h0 hnn hmm h0' hnd hl' ht hwho hse hs =>
    exfalso; obtain ⟨p, hp, hf⟩ := hf
    have := hgo hkk
    rcases hf with ⟨a, b', c, d, f⟩ | ⟨a, b', c, d, f⟩ | ⟨a, b', c, c2, d, f⟩
    ·omega
    ·have := c p0 hp0; omega
    ·omega
   | all hkk h0 hnn hmm h0' hl' ht hwho hse hs =>
    exfalso; obtain ⟨p, hp, hf⟩ := hf
    have := hgo hkk
    rcases hf with ⟨a, b', c, d, f⟩ | ⟨a, b', c, d, f⟩ | ⟨a, b', c, c2, d, f⟩
    ·omega
    ·have := c p0 hp0; omega
    ·omega
   | thanks hkk h0 hw hmm h0' hl' ht hs =>
    exfalso; obtain ⟨p, hp, hf⟩ := hf
    have := hth hkk
    rcases hf with ⟨a, b', c, d, f⟩ | ⟨a, b', c, d, f⟩ | ⟨a, b', c, c2, d, f⟩
    ·omega
    ·omega
    ·have e : p = p0 := by omega
     subst e; omega
  ·exact mk (by rw [hh, if_neg hii]) (by rw [hh, if_neg hii]) (by rw [hh, if_neg hii]) (by rw [hh, if_neg hii]) (by rw [hh, if_neg hii]) (fun q => by rw [hc]) (fun q _ => by rw [hc]) (fun q => by rw [hc])
 | core m p0 i0 l' s hm hp0 hi0 h1 h2 h3 hc hh hf' hd' =>
  by_cases hii : i = i0
  ·subst hii
   have upd : l'.seen = (lin x i p0).seen → (((lin x i p0).want = 1 ∨ (lin x i p0).want = 2) → l'.want = (lin x i p0).want) → l'.serial = (lin x i p0).serial → Qg n nl y i O := fun a1 a2 a3 => by
    refine mk (by rw [hh]) (by rw [hh]) (by rw [hh]) (by rw [hh]) (by rw [hh]) (fun q => ?_) (fun q => ?_) (fun q => ?_)
    ·rw [hc]; split
     ·rename_i e; rw [e.1]; exact a1
     ·rfl
    ·rw [hc]; split
     ·rename_i e; rw [e.1]; exact a2
     ·exact fun _ => rfl
    ·rw [hc]; split
     ·rename_i e; rw [e.1]; exact a3
     ·rfl
   cases hd' with
   | no hl => exact upd (by rw [hl]) (fun _ => by rw [hl]) (by rw [hl])
   | inv hkk h0 hnn hmm hl hl' hw hse hs =>
    exfalso; obtain ⟨p, hp, hf⟩ := hf
    rcases hf with ⟨a, b', c, d, f⟩ | ⟨a, b', c, d, f⟩ | ⟨a, b', c, c2, d, f⟩
    ·omega
    ·exact nob _ f m hm ⟨hkk, h3, hmm⟩
    ·omega
   | fet hkk h0 ho hmm hl hl' hw hse hs =>
    exfalso; obtain ⟨p, hp, hf⟩ := hf
    rcases hf with ⟨a, b', c, d, f⟩ | ⟨a, b', c, d, f⟩ | ⟨a, b', c, c2, d, f⟩
    ·exact nob _ f m hm ⟨hkk, h3, hmm⟩
    ·omega
    ·omega
   | grant hkk h0 ho hmm hl hw0 hla hms hl' hw hse hs =>
    exfalso; obtain ⟨p, hp, hf⟩ := hf
    rcases hf with ⟨a, b', c, d, f⟩ | ⟨a, b', c, d, f⟩ | ⟨a, b', c, c2, d, f⟩
    ·omega
    ·omega
    ·have e : p = p0 := by omega
     subst e
     exact nob _ f m hm ⟨hkk, h3, h2, hms⟩
   | tak hkk hw0 hmm hl' hw hse hs => exact upd hl' (fun hw1 => by omega) hse
  ·exact mk (by rw [hh]) (by rw [hh]) (by rw [hh]) (by rw [hh]) (by rw [hh]) (fun q => by rw [hc, if_neg (fun e => hii e.2)]) (fun q _ => by rw [hc, if_neg (fun e => hii e.2)]) (fun q => by rw [hc, if_neg (fun e => hii e.2)])
theorem Rs (hB : B < 65535) {i : Nat} (hi : i < nl) : ∀ (O N : Frames) {x : Chip} {M : List Int}, Inv n nl x M → TI n nl B x → x.frames = O ++ N → Qg n nl x i O → Has n nl (En x O.length).1.frames (I6 n nl (En x O.length).1)
 | [], N, x, M, h, ht, hfr, hf => by simpa [En, Cq] using Wi h hi hf
 | b :: O, N, x, M, h, ht, hfr, hf => by
  obtain ⟨M', h', ht', hd⟩ := J2 h hB ht (hfr.trans (List.cons_append ..))
  obtain ⟨t, e⟩ := Ex hd
  rw [List.length_cons, H1 (hfr.trans (List.cons_append ..))]
  exact Rs hB hi O (N ++ t) h' ht' (by rw [e, List.append_assoc]) (Wh h (hfr.trans (List.cons_append ..)) hd hi hf)
end
end Go.Proofs.Ytehpekiedfpnkaa
namespace Go.Proofs.Ytehpekiedfpnkaa
open Abs
section
variable {n nl : Nat} {x y : Chip} {M M' : List Int} {B : Int}
theorem Kf (e : Entry) (i n : Int) (h0 : e.phase = 1 ∨ e.phase = 3 ∨ (e.phase = 2 ∧ ∃ q : Nat, q < 4 ∧ C6 e.need q = 1)) : ∃ m r, D4 e i n = m :: r := by
 unfold D4
 rcases h0 with h | h | ⟨h, q, hq, hb⟩
 ·rw [if_pos h]; exact ⟨_, _, rfl⟩
 ·rw [if_neg (by omega), if_neg (by omega), if_pos h]; exact ⟨_, _, rfl⟩
 ·rw [if_neg (by omega), if_pos h]
  have hm : (q : Int) ∈ ([0, 1, 2, 3] : List Int).filter (fun p => Lx e.need p) := by
   refine List.mem_filter.2 ⟨?_, (Iz _ _).2 hb⟩
   have : q = 0 ∨ q = 1 ∨ q = 2 ∨ q = 3 := by omega
   rcases this with e | e | e | e <;> subst e <;> simp
  cases hf : ([0, 1, 2, 3] : List Int).filter (fun p => Lx e.need p) with
  | nil => rw [hf] at hm; exact absurd hm (by simp)
  | cons a r => exact ⟨_, _, rfl⟩
theorem Yw (h : Inv n nl x M) (h' : Inv n nl y M') {b : List UInt8} {fs O : Frames} (hfr : x.frames = b :: fs) (hO : ∀ c ∈ O, c ∈ x.frames) {m : Msg} {p i : Nat} {e' : Entry} {s : List Msg} (hm : Af (Ef n nl) b = (m, 0)) (hp : p < n) (hi : i < nl) (h1 : m.src = p) (h2 : m.dst = n) (h3 : m.line = i) (hc : ∀ j q, lin y j q = lin x j q) (hh : ∀ j, ent y j = if j = i then e' else ent x j) (hf : y.frames = way fs s) (hs : s = D4 e' m.line n)
  (hd : HomeDoes n (ent x i) (lin x i) p m e' s) : s = [] ∨ (∃ m', s = [m'] ∧ m'.kind = 11) ∨ Qg n nl y i O := by
 have hfl : fs.length < 40 := by have := h.fr; rw [hfr] at this; simp at this; omega
 have hey : ent y i = e' := by rw [hh, if_pos rfl]
 have hsay : ∀ m' r, s = m' :: r → msgBytes m' ∈ y.frames ∧ Bd (Ef n nl) m' = 0 := by
  intro m' r e
  obtain ⟨t, t1, _, _, t4, _⟩ := Ii s fs
  refine ⟨by rw [hf, t1]; exact List.mem_append.2 (.inr (t4 m' r e hfl)), ?_⟩
  refine (Kz h' hi m' ?_).1
  rw [hey, ← h3, ← hs, e]; exact List.mem_cons_self ..
 have hmi : ∀ c ∈ O, ∀ m', Af (Ef n nl) c = (m', 0) → MX n x m' := fun c hc' m' hm' => (h.mi c (hO c hc')).2 m' hm'
 have hgi := h'.gi i hi
 rw [hey] at hgi
 have hn := h.n1
 have hga : ∀ q, q < n → (lin x i q).seen ≤ (ent x i).turn := fun q hq => (h.ci i hi q hq).ga.2.2
 have g3 : ∀ w : Nat, w < n → e'.phase = 3 → e'.who = w → (lin x i w).seen < e'.turn → ((lin x i w).want = 1 ∨ (lin x i w).want = 2) → e'.serial = (lin x i w).serial → (¬ ∃ c ∈ O, ∃ m', Af (Ef n nl) c = (m', 0) ∧ (m'.kind = 7 ∧ m'.line = i ∧ m'.dst = w ∧ m'.serial = (lin x i w).serial)) → Qg n nl y i O := by
  intro w hw a1 a2 a3 a4 a5 a6
  refine ⟨w, hw, .inr (.inr ⟨by rw [hey]; exact a1, by rw [hey]; exact a2, by rw [hc, hey]; exact a3, by rw [hc]; exact a4, ?_, ?_⟩)⟩
  ·have es : s = [⟨7, n, e'.who, m.line, e'.serial, e'.turn, e'.value, e'.alone⟩] := by rw [hs]; unfold D4; rw [if_neg (by omega), if_neg (by omega), if_pos a1]
   obtain ⟨b1, b2⟩ := hsay _ _ es
   exact Fv h b1 b2 ⟨⟨rfl, rfl, a2, h3, by rw [hey]⟩, by rw [hc]; exact a5⟩
  ·rw [hc]; exact a6
 cases hd with
 | no hS hs' => exact .inl hs'
 | late hkk h0 hS hs' hl hge => exact .inr (.inl ⟨_, hs', rfl⟩)
 | put hkk h0 hw hmm hl h0' hl' ho ht hs' => exact .inr (.inl ⟨_, hs', rfl⟩)
 | gone hkk h0 hnn hmm h0' hnd hl' ht hwho hse hs' => exact .inl hs'
 | thanks hkk h0 hw hmm h0' hl' ht hs' => exact .inl hs'
 | get h0 hw hkk hmm hl h0' hl' ho ht hwho hse hnw hs' =>
  refine .inr (.inr ?_)
  rcases (show e'.phase = 1 ∨ e'.phase = 2 ∨ e'.phase = 3 by omega) with q1 | q1 | q1
  ·have hf1 := hgi.f1 q1; have how := hgi.own
   simp only [ab] at hf1 how
   obtain ⟨w, hw'⟩ : ∃ w : Nat, e'.owner = w := ⟨e'.owner.toNat, by omega⟩
   have hwn : w < n := by omega
   refine ⟨w, hwn, .inl ⟨by rw [hey]; exact q1, by rw [hey]; exact hw', by rw [hc, hey]; have := hga w hwn; omega, ?_, ?_⟩⟩
   ·have es : s = [⟨if e'.alone then 6 else 5, n, e'.owner, m.line, 0, e'.turn, 0, false⟩] := by rw [hs]; unfold D4; rw [if_pos q1]
    obtain ⟨b1, b2⟩ := hsay _ _ es
    refine Fv h b1 b2 ?_
    rw [hey]
    by_cases hal : e'.alone = true
    ·exact .inr ⟨by simp only [hal, if_true], rfl, hw', h3, rfl⟩
    ·exact .inl ⟨by simp only [hal]; rfl, rfl, hw', h3, rfl⟩
   ·rintro ⟨c, hc', m', hm', k1, k2, k3⟩
    have := ((hmi c hc' m' hm').fet k1).1
    rw [show m'.line.toNat = i by omega] at this
    rw [hey] at k3
    simp only [ab] at this; omega
  ·have hc2 := (hgi.c2 q1).2
   obtain ⟨q0, hq0, hb0⟩ := hc2
   have hb0 : C6 e'.need q0 = 1 := hb0
   obtain ⟨m1, r, es⟩ := Kf e' m.line n (.inr (.inr ⟨q1, q0, by omega, hb0⟩))
   have hm1 : m1 ∈ D4 e' m.line n := by rw [es]; exact List.mem_cons_self ..
   obtain ⟨b1, b2⟩ := hsay m1 r (by rw [hs, es])
   have hmw := Ey b2
   unfold D4 at hm1
   rw [if_neg (by omega), if_pos q1] at hm1
   obtain ⟨qq, hqq, rfl⟩ := List.mem_map.1 hm1
   simp only [Ef] at hmw
   obtain ⟨w, hw'⟩ : ∃ w : Nat, qq = w := ⟨qq.toNat, by omega⟩
   subst hw'
   have hwn : w < n := by
    refine Classical.byContradiction fun hc9 => ?_
    have e9 : (w : Int) = n := by omega
    apply hmw.2.2.2.2.2.2
    simp [e9]
   have hbw : C6 e'.need w = 1 := (Iz _ _).1 (List.mem_filter.1 hqq).2
   refine ⟨w, hwn, .inr (.inl ⟨by rw [hey]; exact q1, by rw [hey]; exact hbw, fun q hq => by rw [hc, hey]; have := hga q hq; omega, Fv h b1 b2 ⟨rfl, rfl, rfl, h3, by rw [hey]⟩, ?_⟩)⟩
   rintro ⟨c, hc', m', hm', k1, k2, k3⟩
   have := ((hmi c hc' m' hm').inv k1).1
   rw [show m'.line.toNat = i by omega] at this
   rw [hey] at k3
   simp only [ab] at this; omega
  ·refine g3 p hp q1 hwho (by have := hga p hp; omega) (by omega) (by omega) ?_
   rintro ⟨c, hc', m', hm', k1, k2, k3, k4⟩
   have hx := hmi c hc' m' hm'
   have hpe : J1 n m' = p := by unfold J1; rw [if_neg (by omega)]; omega
   unfold MX at hx
   rw [hpe, show m'.line.toNat = i by omega] at hx
   have := (hx.gra k1).1
   have hlE : Cu (ent x i) p = (ab (ent x i)).last p := rfl
   omega
 | data hkk h0 ho hmm h0' hl' ht hwho hse hs' =>
  refine .inr (.inr ?_)
  have hwr := (h.gi i hi).whor (by show (ent x i).phase ≠ 0; omega)
  simp only [ab] at hwr
  obtain ⟨w, hw'⟩ : ∃ w : Nat, (ent x i).who = w := ⟨(ent x i).who.toNat, by omega⟩
  have hwn : w < n := by omega
  have hcur := (h.ci i hi w hwn).cur (by show (ent x i).phase ≠ 0; omega) hw'
  have hal := (h.gi i hi).al
  simp only [ab] at hcur hal
  refine g3 w hwn h0' (by rw [hwho]; exact hw') (by omega) (by omega) (by omega) ?_
  rintro ⟨c, hc', m', hm', k1, k2, k3, k4⟩
  have hx := hmi c hc' m' hm'
  have hpe : J1 n m' = w := by unfold J1; rw [if_neg (by omega)]; omega
  unfold MX at hx
  rw [hpe, show m'.line.toNat = i by omega] at hx
  have := ((hx.gra k1).2.1 k4 (by omega)).1
  simp only [ab] at this; omega
 | all hkk h0 hnn hmm h0' hl' ht hwho hse hs' =>
  refine .inr (.inr ?_)
  have hwr := (h.gi i hi).whor (by show (ent x i).phase ≠ 0; omega)
  simp only [ab] at hwr
  obtain ⟨w, hw'⟩ : ∃ w : Nat, (ent x i).who = w := ⟨(ent x i).who.toNat, by omega⟩
  have hwn : w < n := by omega
  have hcur := (h.ci i hi w hwn).cur (by show (ent x i).phase ≠ 0; omega) hw'
  have hal := (h.gi i hi).al
  simp only [ab] at hcur hal
  refine g3 w hwn h0' (by rw [hwho]; exact hw') (by omega) (by omega) (by omega) ?_
  rintro ⟨c, hc', m', hm', k1, k2, k3, k4⟩
  have hx := hmi c hc' m' hm'
  have hpe : J1 n m' = w := by unfold J1; rw [if_neg (by omega)]; omega
  unfold MX at hx
  rw [hpe, show m'.line.toNat = i by omega] at hx
  have := ((hx.gra k1).2.1 k4 (by omega)).1
  simp only [ab] at this; omega
theorem R3 : ∀ (t : Frames), (∀ b ∈ t, frW b = 1) → Hb t = t.length
 | [], _ => rfl
 | b :: t, h => by
  have h1 := h b (List.mem_cons_self ..)
  have h2 := R3 t (fun c hc => h c (List.mem_cons_of_mem _ hc))
  simp only [Hb, List.length_cons]; omega
theorem Rt (hB : B < 65535) : ∀ (O N : Frames) {x : Chip} {M : List Int}, Inv n nl x M → TI n nl B x → x.frames = O ++ N →
  (Phi n nl (En x O.length).1 + 2 ≤ Phi n nl x ∧ Has n nl (En x O.length).1.frames (I6 n nl (En x O.length).1)) ∨ (∃ N', (En x O.length).1.frames = N ++ N' ∧ N'.length + O.length ≤ Hb O ∧ Hb N' = N'.length)
 | [], N, x, M, h, ht, hfr => .inr ⟨[], by simpa [En, Cq] using hfr, by simp [Hb], rfl⟩
 | b :: O, N, x, M, h, ht, hfr => by
  have hfr' := hfr.trans (List.cons_append ..)
  obtain ⟨M', h', ht', hd⟩ := J2 h hB ht hfr'
  rw [List.length_cons, H1 hfr']
  have more : Said b (O ++ N) (Ak x goS).1.frames → Phi n nl (Ak x goS).1 ≤ Phi n nl x → (Phi n nl (En (Ak x goS).1 O.length).1 + 2 ≤ Phi n nl x ∧ Has n nl (En (Ak x goS).1 O.length).1.frames (I6 n nl (En (Ak x goS).1 O.length).1)) ∨ (∃ N', (En (Ak x goS).1 O.length).1.frames = N ++ N' ∧ N'.length + (O.length + 1) ≤ Hb (b :: O) ∧ Hb N' = N'.length) := by
   rintro ⟨s, hs, hk⟩ hle
   obtain ⟨t, t1, t2, t3, _⟩ := Ii s (O ++ N)
   have hfy : (Ak x goS).1.frames = O ++ (N ++ t) := by rw [hs, t1, List.append_assoc]
   have htw : t.length + 1 ≤ frW b ∧ ∀ c ∈ t, frW c = 1 := by
    rcases hk with hk | ⟨k1, m', k2, k3⟩
    ·subst hk
     have : t = [] := List.length_eq_zero_iff.1 (by simpa using t2)
     subst this
     have := Yy b
     exact ⟨by simpa using this.1, by simp⟩
    ·subst k2
     refine ⟨by simp at t2; omega, fun c hc => ?_⟩
     obtain ⟨m2, e1, e2⟩ := t3 c hc
     rw [List.mem_singleton.1 e1] at e2
     rw [e2]; exact Yx _ k3
   rcases Rt hB O (N ++ t) h' ht' hfy with ⟨c1, c2⟩ | ⟨N', c1, c2, c3⟩
   ·exact .inl ⟨by omega, c2⟩
   ·refine .inr ⟨t ++ N', by rw [c1, List.append_assoc], ?_, ?_⟩
    ·simp only [List.length_append, Hb]; omega
    ·rw [Mb, R3 t htw.2, c3, List.length_append]
  rcases Ux h hd with ⟨g1, g2⟩ | ⟨g1, g2⟩ | ⟨g1, m, p, i, e', s, hm, hp, hi, h1, h2, h3, hc, hh, hf, hs, hps, hd'⟩
  ·exact more g2 (by rw [g1.phi]; exact Nat.le_refl _)
  ·exact more g2 (by omega)
  ·obtain ⟨t, e⟩ := Ex hd
   have hfy : (Ak x goS).1.frames = O ++ (N ++ t) := by rw [e, List.append_assoc]
   have hsaid : (s = [] ∨ ∃ m', s = [m'] ∧ m'.kind = 11) → False := by
    intro hh'
    have hgi := h'.gi i hi
    rw [hh, if_pos rfl] at hgi
    have hn := h.n1
    have : ∃ m1 r, D4 e' m.line n = m1 :: r := by
     rcases (show e'.phase = 1 ∨ e'.phase = 2 ∨ e'.phase = 3 by omega) with q1 | q1 | q1
     ·exact Kf _ _ _ (.inl q1)
     ·obtain ⟨_, q, hq, hb⟩ := hgi.c2 q1
      exact Kf _ _ _ (.inr (.inr ⟨q1, q, by omega, hb⟩))
     ·exact Kf _ _ _ (.inr (.inl q1))
    obtain ⟨m1, r, es⟩ := this
    rcases hh' with e1 | ⟨m', e1, e2⟩
    ·rw [hs, es] at e1; exact absurd e1 (by simp)
    ·have := Vl e' m.line n m' (by rw [← hs, e1]; exact List.mem_singleton.2 rfl); omega
   rcases Yw h h' hfr' (O := O) (fun c hc' => by rw [hfr]; exact List.mem_append.2 (.inl (List.mem_cons_of_mem _ hc'))) hm hp hi h1 h2 h3 hc hh hf hs hd' with f | f | f
   ·exact absurd (.inl f) hsaid
   ·exact absurd (.inr f) hsaid
   ·refine .inl ⟨?_, Rs hB hi O (N ++ t) h' ht' hfy f⟩
    have := Uw hB O (N ++ t) h' ht' hfy; omega
end
end Go.Proofs.Ytehpekiedfpnkaa
namespace Go.Proofs.Ytehpekiedfpnkaa
open Abs
theorem Qj (id home : Int) : ∀ (l : List Line) (i : Int), (∀ k, k < l.length → (l.getD k zLine).want = 0) → Br id home i l = []
 | [], _, _ => rfl
 | a :: l, i, h => by
  have h0 : a.want = 0 := h 0 (by simp)
  have h1 := Qj id home l (i + 1) (fun k hk => h (k + 1) (by simpa using hk))
  simp only [Br]; rw [if_neg (fun c => c h0), h1]
theorem Qi (id home : Int) : ∀ (l : List Line) (i : Int), (∀ a b, a < l.length → b < l.length → (l.getD a zLine).want ≠ 0 → (l.getD b zLine).want ≠ 0 → a = b) → (Br id home i l).length ≤ 1
 | [], _, _ => by simp [Br]
 | a :: l, i, h => by
  simp only [Br]
  by_cases h0 : a.want ≠ 0
  ·rw [if_pos h0, Qj id home l (i + 1) (fun k hk => by
    refine Classical.byContradiction fun hc => ?_
    have := h 0 (k + 1) (by simp) (by simpa using hk) h0 hc
    omega)]
   simp
  ·rw [if_neg h0]
   exact Qi id home l (i + 1) (fun a' b' ha hb h1 h2 => by
    have := h (a' + 1) (b' + 1) (by simpa using ha) (by simpa using hb) h1 h2; omega)
theorem Qk (id home : Int) : ∀ (l : List Line) (i : Int) (k : Nat), k < l.length → (l.getD k zLine).want ≠ 0 → By (l.getD k zLine) id home (i + k) ∈ Br id home i l
 | [], _, _, h, _ => absurd h (by simp)
 | a :: l, i, 0, _, h => by
  have h0 : a.want ≠ 0 := h
  simp only [Br]; rw [if_pos h0]
  have : i + ((0 : Nat) : Int) = i := by omega
  rw [this]; exact List.mem_cons_self ..
 | a :: l, i, k + 1, hk, h => by
  have ih := Qk id home l (i + 1) k (by simpa using hk) h
  have e : i + 1 + (k : Int) = i + ((k + 1 : Nat) : Int) := by omega
  rw [e] at ih
  simp only [Br]; split
  ·exact List.mem_cons_of_mem _ ih
  ·exact ih
theorem T7 (id : Int) : ∀ (l : List Entry) (i : Int), (Cm id i l).length ≤ 4 * l.length
 | [], _ => by simp [Cm]
 | e :: l, i => by
  have := T7 id l (i + 1); have := Xm e i id
  simp only [Cm, List.length_append, List.length_cons]; omega
theorem T6 (id : Int) : ∀ (l : List Entry) (i : Int) (k : Nat), k < l.length → ∀ m ∈ D4 (l.getD k A1) (i + k) id, m ∈ Cm id i l
 | [], _, _, h, _, _ => absurd h (by simp)
 | e :: l, i, 0, _, m, hm => by
  have : i + ((0 : Nat) : Int) = i := by omega
  rw [this] at hm
  simp only [Cm]; exact List.mem_append.2 (.inl hm)
 | e :: l, i, k + 1, hk, m, hm => by
  have e2 : i + ((k + 1 : Nat) : Int) = i + 1 + (k : Int) := by omega
  rw [e2] at hm
  simp only [Cm]; exact List.mem_append.2 (.inr (T6 id l (i + 1) k (by simpa using hk) m hm))
theorem Pa (f g : Nat → Nat) : ∀ k, Gb (fun i => f i + g i) k = Gb f k + Gb g k
 | 0 => rfl
 | k + 1 => by simp only [Gb]; rw [Pa f g k]; omega
theorem Qo (f : Nat → Nat → Nat) (n : Nat) : ∀ k, Gb (fun i => Gb (fun p => f i p) n) k = Gb (fun p => Gb (fun i => f i p) k) n
 | 0 => by simp only [Gb]; exact (Qn fun _ _ => rfl).symm
 | k + 1 => by simp only [Gb]; rw [Qo f n k, ← Pa]
theorem L4 (c : Nat) (f : Nat → Nat) : ∀ k, Gb (fun i => c * f i) k = c * Gb f k
 | 0 => rfl
 | k + 1 => by simp only [Gb]; rw [L4 c f k, Nat.mul_add]
theorem T3 {f : Nat → Nat} : ∀ {k : Nat}, (∀ i, i < k → f i ≤ 1) → (∀ a b, a < k → b < k → f a ≠ 0 → f b ≠ 0 → a = b) → Gb f k ≤ 1
 | 0, _, _ => by simp [Gb]
 | k + 1, h1, h2 => by
  simp only [Gb]
  by_cases h : f k = 0
  ·have := T3 (f := f) (k := k) (fun i hi => h1 i (by omega)) (fun a b ha hb => h2 a b (by omega) (by omega)); omega
  ·have := Qn (f := f) (k := k) (fun i hi => Classical.byContradiction fun hc => by have := h2 i k (by omega) (by omega) hc h; omega)
   have := h1 k (by omega); omega
theorem Qp {f g : Nat → Nat} {w d : Nat} : ∀ {k : Nat}, w < k → (∀ i, i < k → f i ≤ g i) → f w + d ≤ g w → Gb f k + d ≤ Gb g k
 | 0, h, _, _ => absurd h (by omega)
 | k + 1, hw, h, hd => by
  have h2 := h k (by omega)
  simp only [Gb]
  by_cases e : w = k
  ·subst e
   have := Ky (f := f) (g := g) (k := w) (fun i hi => h i (by omega)); omega
  ·have := Qp (k := k) (show w < k by omega) (fun i hi => h i (by omega)) hd; omega
section
variable {n nl : Nat} {x y : Chip} {M M' : List Int} {B : Int}
theorem Ug (h : Inv n nl x M) {p : Nat} (hp : p < n) : ∀ a b, a < nl → b < nl → (lin x a p).want ≠ 0 → (lin x b p).want ≠ 0 → a = b := by
 intro a b ha hb h1 h2
 have w1 := (Ld (h.cw p hp) ha h1).2.1
 have w2 := (Ld (h.cw p hp) hb h2).2.1
 omega
theorem Xx (h : Inv n nl x M) : Phi n nl x ≤ 11 * n + nl := by
 let c : Nat → Nat → Nat := fun i p => if (lin x i p).want = 0 then 0 else 1
 have hA : ∀ i p, faA (ent x i) p (lin x i p) ≤ 11 * c i p := fun i p => by
  simp only [c]; unfold faA; split
  ·omega
  ·split <;> split <;> omega
 have h1 : ∀ i, i < nl → faL n (ent x i) (lin x i) ≤ 11 * Gb (c i) n + 1 := by
  intro i hi
  have hs := Ky (f := fun p => faA (ent x i) p (lin x i p)) (g := fun p => 11 * c i p) (k := n) (fun p _ => hA i p)
  rw [L4] at hs
  by_cases h0 : (ent x i).phase = 0
  ·have : faD n (ent x i) (lin x i) = 0 := by unfold faD; rw [if_neg (by omega), if_neg (by omega), if_neg (by omega)]
   unfold faL; omega
  ·have hgi := h.gi i hi
   have hw := hgi.whor h0
   have hph := hgi.ph
   have hal := hgi.al
   simp only [ab] at hw hph hal
   obtain ⟨w, hw'⟩ : ∃ w : Nat, (ent x i).who = w := ⟨(ent x i).who.toNat, by omega⟩
   have hwn : w < n := by omega
   have hci := h.ci i hi w hwn
   have hcur := hci.cur h0 hw'
   simp only [ab] at hcur
   have hned := hci.ned
   simp only [ab] at hned
   have hlE : Cu (ent x i) w = (ent x i).last.getD w 0 := rfl
   rcases hcur.2 with ⟨k1, k2, k3⟩ | ⟨k1, k2, k3, _⟩
   ·have hf0 : faA (ent x i) w (lin x i w) = 0 := by unfold faA; rw [if_neg (by omega), if_neg (by omega), if_neg (by omega)]
    have hc1 : c i w = 1 := by simp only [c]; rw [if_neg (by omega)]
    have hd := Qp (f := fun p => faA (ent x i) p (lin x i p)) (g := fun p => 11 * c i p) (d := 11) hwn (fun p _ => hA i p) (by simp only [hf0, hc1]; omega)
    rw [L4] at hd
    have hn := h.n1
    have hD : faD n (ent x i) (lin x i) ≤ 9 := by
     unfold faD
     split
     ·have := Ou (ent x i) (lin x i (ent x i).owner.toNat); omega
     split
     ·have h5 := O9 (f := fun q => faQ (ent x i) q (lin x i q)) (w := w) (fun q => Afm _ _ _) (by
       unfold faQ; rw [if_neg]; intro hb; exact (hned hb).2.1 hw') hwn
      omega
     split
     ·have := Ou (ent x i) (lin x i (ent x i).who.toNat); omega
     ·omega
    unfold faL; omega
   ·have hD : faD n (ent x i) (lin x i) = 1 := by
     unfold faD faT; rw [if_neg (by omega), if_neg (by omega), if_pos k2, show (ent x i).who.toNat = w by omega, if_pos k3]
    unfold faL; omega
 have h2 := Ky (f := fun i => faL n (ent x i) (lin x i)) (g := fun i => 11 * Gb (c i) n + 1) (k := nl) h1
 rw [Pa (fun i => 11 * Gb (c i) n) (fun _ => 1), L4, Hg] at h2
 have h3 : Gb (fun i => Gb (c i) n) nl ≤ n := by
  have e := Qo c n nl
  rw [show (fun i => Gb (c i) n) = (fun i => Gb (fun p => c i p) n) from rfl, e]
  have := Ky (f := fun p => Gb (fun i => c i p) nl) (g := fun _ => 1) (k := n) (fun p hp => T3 (fun i _ => by simp only [c]; split <;> omega) (fun a b ha hb h1 h2 => Ug h hp a b ha hb (fun e => h1 (by simp only [c]; rw [if_pos e])) (fun e => h2 (by simp only [c]; rw [if_pos e]))))
  rw [Hg] at this; omega
 unfold Phi; omega
def Ia (n : Nat) (x : Chip) (k : Nat) : List Msg := if k = n then Fe x.home n else C9 (cor x k) k n
theorem tm_eq (h : Inv n nl x M) {k : Nat} (hk : k ≤ n) : (Ak x (tmS k)).1 = ⟨x.cores, x.home, way x.frames (Ia n x k)⟩ := by
 have hn := h.nc
 have hnx : A7 x = (n : Int) := by unfold A7; rw [hn]
 unfold Ak tmS
 rw [if_neg (by simp), if_neg (by simp), if_neg (by simp), if_neg (by simp), if_neg (by simp), if_pos rfl, if_neg (by simp only; rw [hnx]; omega)]
 unfold Ia
 simp only
 rw [hnx]
 by_cases e : k = n
 ·rw [if_pos (by omega), if_pos e, e]
 ·rw [if_neg (by omega), if_neg e]; rfl
theorem tm_len (h : Inv n nl x M) {k : Nat} (hk : k ≤ n) : (Ia n x k).length ≤ if k = n then 16 else 1 := by
 unfold Ia
 split
 ·have := T7 n x.home 0
  have := h.l1; have := h.nh
  unfold Fe; omega
 ·have hp : k < n := by omega
  unfold C9
  refine Qi _ _ _ _ fun a b ha hb h1 h2 => ?_
  have hl := h.ncl k hp
  exact Ug h hp a b (by rw [← hl]; exact ha) (by rw [← hl]; exact hb) h1 h2
theorem tms (h : Inv n nl y M) : ∀ k, k ≤ n + 1 → ∃ t, (Jm y k).1.frames = y.frames ++ t ∧ t.length ≤ (if k ≤ n then k else n + 16) ∧ (y.frames.length + (n + 16) ≤ 40 → ∀ j, j < k → ∀ m ∈ Ia n y j, msgBytes m ∈ t)
 | 0, _ => ⟨[], by simp [Jm, Cq], by simp, fun _ j hj => absurd hj (by omega)⟩
 | k + 1, hk => by
  obtain ⟨t, t1, t2, t3⟩ := tms h k (by omega)
  have hs := Ij y k (by rw [h.nc]; omega)
  obtain ⟨Mk, hIk⟩ := Pn h k
  have hnx := (Qm (y := y) (k := k) (by rw [h.nc]; omega)).2
  have he := tm_eq hIk (k := k) (by omega)
  have hsame : Ia n (Jm y k).1 k = Ia n y k := by unfold Ia cor; rw [hs.1, hs.2.1]
  obtain ⟨u, u1, u2, u3, u4, u5⟩ := Ii (Ia n y k) (y.frames ++ t)
  have hl := tm_len h (k := k) (by omega)
  refine ⟨t ++ u, ?_, ?_, ?_⟩
  ·rw [hnx]; simp only; rw [he]; simp only; rw [hsame, t1, u1, List.append_assoc]
  ·rw [List.length_append]
   by_cases e : k = n
   ·rw [if_pos e] at hl; rw [if_neg (by omega)]; rw [if_pos (by omega)] at t2; omega
   ·rw [if_neg e] at hl; rw [if_pos (by omega)]; rw [if_pos (by omega)] at t2; omega
  ·intro hc j hj m hm
   rcases Nat.lt_or_ge j k with h1 | h1
   ·exact List.mem_append.2 (.inl (t3 hc j h1 m hm))
   ·have e : j = k := by omega
    subst e
    have hu : u = (Ia n y j).map msgBytes := u5 (by
     rw [List.length_append]
     by_cases e : j = n
     ·rw [if_pos e] at hl; rw [if_pos (by omega)] at t2; omega
     ·rw [if_neg e] at hl; rw [if_pos (by omega)] at t2; omega)
    refine List.mem_append.2 (.inr ?_)
    rw [hu]; exact List.mem_map.2 ⟨m, hm, rfl⟩
def C20 (x : Chip) : Prop := Hb x.frames ≤ x.frames.length + 20
theorem Afg {x y : Chip} (h : y.cores = x.cores) (j q : Nat) : lin y j q = lin x j q := by unfold lin cor; rw [h]
theorem Y3 {x y : Chip} (h : y.home = x.home) (j : Nat) : ent y j = ent x j := by unfold ent; rw [h]
theorem Akk (h : Inv n nl x M) (ha : Aga n nl x) : K3 n nl x x.frames := by
 intro i p hi hp
 have said : ∀ P : Msg → Prop, ∀ m ∈ D4 (ent x i) i n, P m → Has n nl x.frames P := fun P m hm hP => Fv h (ha.1 i hi m hm) (Kz h hi m hm).1 hP
 refine ⟨fun a b c => .inr ?_, fun a b c => .inr ?_, fun a b c => .inr ?_⟩
 ·refine said _ _ (by unfold D4; rw [if_pos a]; exact List.mem_singleton.2 rfl) ?_
  by_cases hal : (ent x i).alone = true
  ·exact .inr ⟨by simp only [hal, if_true], rfl, b, rfl, rfl⟩
  ·exact .inl ⟨by simp only [hal]; rfl, rfl, b, rfl, rfl⟩
 ·have hn := h.n1
  refine said _ ⟨4, n, (p : Int), i, 0, (ent x i).turn, 0, false⟩ ?_ ⟨rfl, rfl, rfl, rfl, rfl⟩
  unfold D4; rw [if_neg (by omega), if_pos a]
  refine List.mem_map.2 ⟨(p : Int), List.mem_filter.2 ⟨?_, (Iz _ _).2 b⟩, rfl⟩
  have : p = 0 ∨ p = 1 ∨ p = 2 ∨ p = 3 := by omega
  rcases this with e | e | e | e <;> subst e <;> simp
 ·exact said _ _ (by unfold D4; rw [if_neg (by omega), if_neg (by omega), if_pos a]; exact List.mem_singleton.2 rfl) ⟨rfl, rfl, b, rfl, rfl⟩
theorem Akj (h : Inv n nl x M) (ha : Aga n nl x) : K4 n nl x x.frames := by
 intro i p hi hp a b
 refine .inr (Fv h (ha.2 i p hi hp (by omega)) (Z9 h hp hi (by omega)).1 ⟨a, rfl, rfl, rfl, rfl⟩)
theorem Jz (h : Inv n nl x M) (hB : B < 65535) (ht : TI n nl B x) :
  (∃ M', Inv n nl (A3 x).1 M') ∧ TI n nl B (A3 x).1 ∧ Phi n nl (A3 x).1 ≤ Phi n nl x ∧
  ((Phi n nl (A3 x).1 + 2 ≤ Phi n nl x ∧ Has n nl (A3 x).1.frames (I6 n nl (A3 x).1)) ∨ (C20 (A3 x).1 ∧ (C20 x → Aga n nl (A3 x).1))) ∧
  (Has n nl x.frames (I6 n nl x) → Phi n nl (A3 x).1 + 1 ≤ Phi n nl x) ∧ (K3 n nl x [] → K3 n nl (A3 x).1 []) ∧ (Aga n nl x → K3 n nl (A3 x).1 []) ∧ (K4 n nl x [] → K4 n nl (A3 x).1 []) ∧
  ((∀ i, i < nl → (ent x i).phase = 0) → Phi n nl (A3 x).1 = Phi n nl x → Aga n nl x → K4 n nl (A3 x).1 []) := by
 obtain ⟨My, hy, _⟩ := Pp h x.frames.length
 have hyc := hy.nc
 have hti := Afi hB x.frames [] h ht (by simp)
 have hle := Uw hB x.frames [] h ht (by simp)
 have hct := Rt hB x.frames [] h ht (by simp)
 have hlv := Uv hB x.frames [] h ht (by simp)
 have hk3 := Afk hB x.frames [] h ht (by simp)
 have hk4 := Afj hB x.frames [] h ht (by simp)
 generalize hY : (En x x.frames.length).1 = Y at *
 have hz : (A3 x).1 = (Jm Y (n + 1)).1 := by unfold A3; simp only; rw [hY, hyc]
 obtain ⟨Mz, hzI⟩ := Pn hy (n + 1)
 have hs := Ij Y (n + 1) (by omega)
 obtain ⟨t, t1, t2, t3⟩ := tms hy (n + 1) (Nat.le_refl _)
 rw [← hz] at hzI hs t1
 generalize (A3 x).1 = Z at *
 have hli := Afg hs.1
 have hen := Y3 hs.2.1
 have hphi : Phi n nl Z = Phi n nl Y := by unfold Phi; exact F2 fun i _ => by rw [hen, show lin Z i = lin Y i from funext (hli i)]
 have hsame : SameR n nl Y Z := ⟨hli, fun j _ => by rw [hen]; exact .refl ..⟩
 have hsub : ∀ b ∈ Y.frames, b ∈ Z.frames := fun b hb => by rw [t1]; exact List.mem_append.2 (.inl hb)
 have no : ∀ P : Msg → Prop, ¬ Has n nl [] P := fun P ⟨b, h1, _⟩ => absurd h1 (by simp)
 have k3Z : K3 n nl Y [] → K3 n nl Z [] := fun hk i p hi hp => by
  obtain ⟨a, b, c⟩ := hk i p hi hp
  rw [hen, hli]
  exact ⟨fun u v w => (a u v w).imp (fun q => q.mono hsub) id, fun u v w => (b u v w).imp (fun q => q.mono hsub) id, fun u v w => (c u v w).imp (fun q => q.mono hsub) id⟩
 have k4Z : K4 n nl Y [] → K4 n nl Z [] := fun hk i p hi hp a b => by
  rw [hen, hli] at *
  exact (hk i p hi hp a b).imp (fun q => q.mono hsub) id
 rw [if_neg (by omega)] at t2
 have hn := h.n1
 refine ⟨⟨_, hzI⟩, ?_, by omega, ?_, fun hl => by have := hlv hl; omega, fun hk => k3Z (hk3.2 hk), fun ha => k3Z (hk3.1 (Akk h ha)), fun hk => k4Z (hk4.2 hk), fun hz0 hq ha => k4Z (hk4.1 hz0 (by omega) (Akj h ha))⟩
 ·intro i hi
  obtain ⟨a, b⟩ := hti i hi
  rw [hen]; simp only [hli]; exact ⟨a, b⟩
 ·rcases hct with ⟨c1, c2⟩ | ⟨N', c1, c2, c3⟩
  ·exact .inl ⟨by omega, by
    obtain ⟨b, h1, m, h2, h3⟩ := c2
    exact ⟨b, hsub b h1, m, h2, Re hsame h3⟩⟩
  ·rw [List.nil_append] at c1
   refine .inr ⟨?_, fun hc => ?_⟩
   ·unfold C20
    rw [t1, Mb, List.length_append, c1, c3]
    have := P0 t; omega
   ·unfold C20 at hc
    have hcap : Y.frames.length + (n + 16) ≤ 40 := by rw [c1]; omega
    refine ⟨fun i hi m hm => ?_, fun i p hi hp hw => ?_⟩
    ·rw [t1]
     refine List.mem_append.2 (.inr (t3 hcap n (by omega) m ?_))
     rw [hen] at hm
     unfold Ia Fe; rw [if_pos rfl]
     refine T6 n Y.home 0 i (by rw [hy.nh]; exact hi) m ?_
     rw [show (0 : Int) + (i : Int) = i by omega]; exact hm
    ·rw [t1]
     refine List.mem_append.2 (.inr (t3 hcap p (by omega) _ ?_))
     rw [hli] at hw ⊢
     unfold Ia C9; rw [if_neg (by omega)]
     have := Qk p n (cor Y p).lines 0 i (by rw [hy.ncl p hp]; exact hi) hw
     rw [show (0 : Int) + (i : Int) = i by omega] at this; exact this
theorem Abx (h : Inv n nl x M) (hc : ¬ E9 x = true) : (∃ i, i < nl ∧ (ent x i).phase ≠ 0) ∨ ((∀ i, i < nl → (ent x i).phase = 0) ∧ ∃ i p, i < nl ∧ p < n ∧ (lin x i p).want ≠ 0) := by
 by_cases hz : ∀ i, i < nl → (ent x i).phase = 0
 ·right
  refine ⟨hz, Classical.byContradiction fun hno => hc (calmR_iff.2 ⟨fun i hi => hz i (by rw [← h.nh]; exact hi), fun p hp => ?_⟩)⟩
  have hp' : p < n := by rw [← h.nc]; exact hp
  refine Classical.byContradiction fun hk => hno ?_
  obtain ⟨b1, b2, _, b4⟩ := (h.cw p hp').busy hk
  refine ⟨(cor x p).wait.line.toNat, p, by omega, hp', ?_⟩
  have := b4 (cor x p).wait.line.toNat (by omega)
  rw [if_pos (by omega)] at this
  show ((cor x p).lines.getD _ zLine).want ≠ 0
  rw [this]; unfold Gg; split
  ·omega
  ·split <;> omega
 ·left
  refine Classical.byContradiction fun hno => hz fun i hi => Classical.byContradiction fun h0 => hno ⟨i, hi, h0⟩
open Classical in
noncomputable def kap (p : Prop) : Nat := if p then 0 else 1
theorem Ahg {p : Prop} (h : p) : kap p = 0 := if_pos h
theorem Ahh {p : Prop} (h : ¬ p) : kap p = 1 := if_neg h
theorem Ye (p : Prop) : kap p ≤ 1 := by unfold kap; split <;> omega
theorem Yf {p q : Prop} (h : p → q) : kap q ≤ kap p := by
 by_cases hp : p
 ·rw [Ahg (h hp)]; exact Nat.zero_le _
 ·rw [Ahh hp]; exact Ye q
noncomputable def X6 (n nl : Nat) (x : Chip) (g : Nat) : Nat := Phi n nl x + g + kap (K3 n nl x []) + kap (K4 n nl x [])
def Aer (n nl : Nat) (x : Chip) (g : Nat) : Prop := (g = 1 ∧ (Has n nl x.frames (I6 n nl x) ∨ C20 x)) ∨ (g = 0 ∧ C20 x ∧ Aga n nl x)
theorem Vj (h : Inv n nl x M) (hB : B < 65535) (ht : TI n nl B x) (hc : ¬ E9 x = true) {g : Nat} (hs : Aer n nl x g) : ∃ g', Aer n nl (A3 x).1 g' ∧ X6 n nl (A3 x).1 g' + 1 ≤ X6 n nl x g := by
 obtain ⟨_, _, hle, hem, hlv, k3a, k3b, k4a, k4b⟩ := Jz h hB ht
 generalize (A3 x).1 = Z at *
 have e3 := Yf k3a
 have e4 := Yf k4a
 have hg : g ≤ 1 := by rcases hs with ⟨a, _⟩ | ⟨a, _⟩ <;> omega
 rcases hem with ⟨m1, m2⟩ | ⟨m1, m2⟩
 ·exact ⟨1, .inl ⟨rfl, .inl m2⟩, by unfold X6; omega⟩
 ·rcases hs with ⟨a, b | b⟩ | ⟨a, b, c⟩
  ·have := hlv b
   exact ⟨1, .inl ⟨rfl, .inr m1⟩, by unfold X6; omega⟩
  ·exact ⟨0, .inr ⟨rfl, m1, m2 b⟩, by unfold X6; omega⟩
  ·refine ⟨0, .inr ⟨rfl, m1, m2 b⟩, ?_⟩
   rcases Nat.lt_or_ge (Phi n nl Z) (Phi n nl x) with q | q
   ·unfold X6; omega
   ·have hq : Phi n nl Z = Phi n nl x := by omega
    have k3z := k3b c
    by_cases hk : K3 n nl x []
    ·have hz : ∀ i, i < nl → (ent x i).phase = 0 := fun i hi => Classical.byContradiction fun h0 => by
      have := hlv (S9 h c hk hi h0); omega
     rcases Abx h hc with ⟨i, hi, h0⟩ | ⟨_, i, p, hi, hp, hw⟩
     ·exact absurd (hz i hi) h0
     ·have hk4 : ¬ K4 n nl x [] := fun hk4 => by have := hlv (X9 h c hk4 hz hi hp hw); omega
      have k4z := k4b hz hq c
      have := Ahg k4z; have := Ahh hk4; unfold X6; omega
    ·have := Ahg k3z; have := Ahh hk; unfold X6; omega
theorem Xj (hB : B < 65535) : ∀ (w : Nat) {x : Chip} {M : List Int} {g : Nat}, Inv n nl x M → TI n nl B x → Aer n nl x g → X6 n nl x g ≤ w → ∀ k, w < k → (Cb k x).2.2 ≤ w
 | w, x, M, g, h, ht, hs, hm, 0, hk => absurd hk (by omega)
 | w, x, M, g, h, ht, hs, hm, k + 1, hk => by
  simp only [Cb]
  by_cases hc : E9 x = true
  ·rw [if_pos hc]; exact Nat.zero_le _
  ·rw [if_neg hc]
   obtain ⟨g', hs', hm'⟩ := Vj h hB ht hc hs
   obtain ⟨⟨M', h'⟩, ht', _⟩ := Jz h hB ht
   match w, hm, hk with
   | 0, hm, hk => omega
   | w + 1, hm, hk =>
    have := Xj hB w h' ht' hs' (by omega) k (by omega)
    simp only; omega
theorem Ss (h : Inv n nl x M) (hB : B < 65535) (ht : TI n nl B x) : (Cb (Hy x) x).2.2 < Hy x := by
 obtain ⟨k, hk⟩ : ∃ k, k = 12 * n + 11 := ⟨_, rfl⟩
 have hmo : Hy x = k + 1 := by unfold Hy; rw [h.nc]; omega
 have hn := h.n1; have hl := h.l1
 rw [hmo]
 by_cases hc : E9 x = true
 ·rw [Mn hc]; simp
 ·simp only [Cb]; rw [if_neg hc]
  obtain ⟨⟨M', h'⟩, ht', _, hem, _⟩ := Jz h hB ht
  have hs : Aer n nl (A3 x).1 1 := by
   rcases hem with ⟨_, m2⟩ | ⟨m1, _⟩
   ·exact .inl ⟨rfl, .inl m2⟩
   ·exact .inl ⟨rfl, .inr m1⟩
  have hp := Xx h'
  have hm : X6 n nl (A3 x).1 1 ≤ 11 * n + nl + 3 := by
   unfold X6
   have := Ye (K3 n nl (A3 x).1 [])
   have := Ye (K4 n nl (A3 x).1 [])
   omega
  have := Xj hB (11 * n + nl + 3) h' ht' hs hm k (by omega)
  simp only; omega
end
end Go.Proofs.Ytehpekiedfpnkaa
namespace Go.Proofs.Ytehpekiedfpnkaa
open Abs
theorem T1 {f g : Nat → Int} {p : Nat} : ∀ {k : Nat}, (∀ q, q ≠ p → f q = g q) → f p ≤ g p + 1 → Sq f k ≤ Sq g k + 1
 | 0, _, _ => by simp [Sq]
 | k + 1, h, hp => by
  simp only [Sq]
  by_cases e : p = k
  ·subst e
   have := Kv (f := f) (g := g) (k := p) (fun q hq => by rw [h q (by omega)]; exact Int.le_refl _); omega
  ·have := T1 (k := k) h hp; have := h k (by omega); omega
section
variable {n nl : Nat} {x y : Chip} {M M' : List Int} {B B' : Int}
theorem TI.same (hc : y.cores = x.cores) (hh : y.home = x.home) (ht : TI n nl B x) : TI n nl B y := by
 intro i hi
 obtain ⟨a, b⟩ := ht i hi
 rw [Y3 hh]; simp only [Afg hc]; exact ⟨a, b⟩
theorem TI.mono (hB : B ≤ B') (ht : TI n nl B x) : TI n nl B' x := fun i hi => ⟨(ht i hi).1, by have := (ht i hi).2; omega⟩
theorem W2 (l : Line) (o : Op) : (Ax l o).serial ≤ l.serial + 1 := by
 unfold Ax
 repeat' split
 all_goals simp only; omega
theorem Tq (c : Core) (id home : Int) (o : Op) (hok : (Ah c id home o).2.2.2 = 0) : (0 ≤ o.line ∧ o.line < c.lines.length) ∧ ∃ w, (Ah c id home o).1 = A2 c o.line (Ax (Ac c o.line) o) w := by
 revert hok; unfold Ah
 split
 ·exact Zfx
 split
 ·exact Zfx
 split
 ·exact Zfx
 split
 ·intro _; exact ⟨by omega, _, rfl⟩
 ·intro _; exact ⟨by omega, _, rfl⟩
theorem Zy (h : Inv n nl x M) {s : Step} (hk : s.kind = 1) (hok : (Ak x s).2.2 = 0) : ∃ p i : Nat, p < n ∧ i < nl ∧ s.node = p ∧ s.op.line = i ∧ (Ak x s).1.home = x.home ∧ (Ak x s).1.cores.length = x.cores.length ∧ ∀ j q, lin (Ak x s).1 j q = if q = p ∧ j = i then Ax (lin x i p) s.op else lin x j q := by
 revert hok
 unfold Ak
 rw [if_pos hk]
 split
 ·exact Zfx
 split
 ·intro h; exact absurd h (by assumption)
 rename_i h1 h2
 intro _
 have hnc : A7 x = (n : Int) := by unfold A7; rw [h.nc]
 rw [hnc] at h1
 obtain ⟨hl, w, hw⟩ := Tq _ _ _ _ (Decidable.not_not.1 h2)
 have hp : s.node.toNat < n := by omega
 have hcl := h.ncl s.node.toNat hp
 have hca : Aq x s.node = cor x s.node.toNat := rfl
 rw [hca, hcl] at hl
 refine ⟨s.node.toNat, s.op.line.toNat, hp, by omega, by omega, by omega, rfl, by simp [C1], fun j q => ?_⟩
 simp only
 rw [hw, hca]
 show ((x.cores.set s.node.toNat _).getD q E4).lines.getD j zLine = _
 rw [Ch _ _ _ _ _ (by rw [h.nc]; exact hp)]
 by_cases hq : q = s.node.toNat
 ·rw [if_pos hq]
  show ((cor x s.node.toNat).lines.set s.op.line.toNat _).getD j zLine = _
  rw [Ch _ _ _ _ _ (by rw [hcl]; omega)]
  by_cases hj : j = s.op.line.toNat
  ·rw [if_pos hj, if_pos ⟨hq, hj⟩]; rfl
  ·rw [if_neg hj, if_neg (fun c => hj c.2), hq]; rfl
 ·rw [if_neg hq, if_neg (fun c => hq c.1)]; rfl
theorem Adq {x : Chip} {s : Step} (h1 : s.kind ≠ 1) (h2 : s.kind ≠ 2) (hok : (Ak x s).2.2 = 0) : (Ak x s).1.cores = x.cores ∧ (Ak x s).1.home = x.home := by
 revert hok
 unfold Ak
 rw [if_neg h1, if_neg h2]
 exact ZfG
theorem go_any (h : Inv n nl x M) {s : Step} (hk : s.kind = 2) (hok : (Ak x s).2.2 = 0) : ∃ b, Inv n nl ⟨x.cores, x.home, [b]⟩ M ∧ (Ak x s).1.cores = (Ak ⟨x.cores, x.home, [b]⟩ goS).1.cores ∧ (Ak x s).1.home = (Ak ⟨x.cores, x.home, [b]⟩ goS).1.home := by
 revert hok
 unfold Ak
 rw [if_neg (by omega), if_pos hk]
 split
 ·exact Zfx
 rename_i hn
 intro _
 have hm := h.mi _ (Iv (l := x.frames) (k := s.n) hn)
 refine ⟨Av x.frames s.n, h.frames (by simp) (fun c hc => by rw [List.mem_singleton.1 hc]; exact hm), ?_⟩
 have e := Acs (x := ⟨x.cores, x.home, [Av x.frames s.n]⟩) (by simp)
 unfold Ak at e
 rw [e]
 have hc := Aef x (Av x.frames s.n) (x.frames.eraseIdx s.n.toNat) []
 exact ⟨hc.1, hc.2.1⟩
theorem Agb (h : Inv n nl x M) (hB : B < 65535) (ht : TI n nl B x) {s : Step} (hok : (Ak x s).2.2 = 0) : TI n nl (if s.kind = 1 then B + 1 else B) (Ak x s).1 := by
 by_cases h1 : s.kind = 1
 ·rw [if_pos h1]
  obtain ⟨p, i, hp, hi, _, _, e1, _, e2⟩ := Zy h h1 hok
  intro j hj
  obtain ⟨a, b⟩ := ht j hj
  rw [Y3 e1]
  refine ⟨a, ?_⟩
  have := T1 (f := fun q => (lin (Ak x s).1 j q).serial) (g := fun q => (lin x j q).serial) (p := p) (k := n) (fun q hq => by rw [e2, if_neg (fun c => hq c.1)]) (by
   rw [e2]; split
   ·rename_i c; rw [c.2]; exact W2 _ _
   ·omega)
  omega
 ·rw [if_neg h1]
  by_cases h2 : s.kind = 2
  ·obtain ⟨b, hI, e1, e2⟩ := go_any h h2 hok
   have ht' : TI n nl B ⟨x.cores, x.home, [b]⟩ := ht.same rfl rfl
   exact (Xd (Yu hI (ht'.turn hI hB) rfl) ht').same e1 e2
  ·obtain ⟨e1, e2⟩ := Adq h1 h2 hok
   exact ht.same e1 e2
theorem O8 : ∀ (l : List Step) {x : Chip} {M : List Int} {B : Int}, Inv n nl x M → B + l.length < 65535 → TI n nl B x → TI n nl (B + l.length) (Cq x l).1
 | [], x, M, B, h, hB, ht => by simpa [Cq] using ht
 | s :: l, x, M, B, h, hB, ht => by
  simp only [List.length_cons] at hB ⊢
  by_cases hok : (Ak x s).2.2 = 0
  ·obtain ⟨M', h', _⟩ := Ix h hok
   rw [E2 hok]
   have h1 := Agb h (by omega) ht hok
   have h2 := O8 l h' (B := B + 1) (by omega) (h1.mono (by split <;> omega))
   exact h2.mono (by omega)
  ·rw [Ft hok]
   exact (O8 l h (by omega) ht).mono (by omega)
theorem O7 : ∀ (l : List Step) {x : Chip} {M : List Int}, (∀ s ∈ l, s.kind ≠ 1) → Inv n nl x M → B < 65535 → TI n nl B x → TI n nl B (Cq x l).1
 | [], x, M, _, h, hB, ht => by simpa [Cq] using ht
 | s :: l, x, M, hs, h, hB, ht => by
  have hk := hs s (List.mem_cons_self ..)
  have hr := fun t ht => hs t (List.mem_cons_of_mem _ ht)
  by_cases hok : (Ak x s).2.2 = 0
  ·obtain ⟨M', h', _⟩ := Ix h hok
   rw [E2 hok]
   have h1 := Agb h hB ht hok
   rw [if_neg hk] at h1
   exact O7 l hr h' hB h1
  ·rw [Ft hok]; exact O7 l hr h hB ht
theorem Pd {α : Type} (k i : Nat) (a d : α) (h : i < k) : (List.replicate k a).getD i d = a := by
 rw [List.getD_eq_getElem?_getD, List.getElem?_replicate, if_pos h]; rfl
theorem Mj {f : Nat → Int} : ∀ {k : Nat}, (∀ i, i < k → f i = 0) → Sq f k = 0
 | 0, _ => rfl
 | k + 1, h => by
  have h1 := Mj (k := k) (fun i hi => h i (by omega))
  have h2 := h k (by omega)
  simp only [Sq]; omega
theorem ti_new : TI n nl 0 (Fr n nl) := by
 intro i hi
 have he : ent (Fr n nl) i = { A1 with last := List.replicate n 0 } := Pd _ _ _ _ hi
 have hl : ∀ p, p < n → lin (Fr n nl) i p = zLine := fun p hp => by
  unfold lin cor Fr; rw [Pd _ _ _ _ hp]; exact Pd _ _ _ _ hi
 rw [he, Mj (f := fun p => Cu { A1 with last := List.replicate n 0 } p) (fun p hp => Pd _ _ _ _ hp), Mj (f := fun p => (lin (Fr n nl) i p).serial) (fun p hp => by rw [hl p hp]; rfl)]
 exact ⟨Int.le_refl _, Int.le_refl _⟩
theorem O0 (p : Int) : ∀ (l : List Step) (x : Chip), (∀ s ∈ l, s.kind ≠ 1) → Jj x l p = []
 | [], _, _ => rfl
 | s :: l, x, h => by
  unfold Jj
  have h1 : I4 x s p = [] := by unfold I4; rw [if_neg (fun c => h s (List.mem_cons_self ..) c.1)]
  rw [h1, List.nil_append]; exact O0 p l _ (fun t ht => h t (List.mem_cons_of_mem _ ht))
theorem Sw (x : Chip) : ∃ ls : List Step, (∀ s ∈ ls, s.kind ≠ 1) ∧ Cq x ls = A3 x := by
 refine ⟨_, fun s hs => ?_, (Mw x).symm⟩
 rcases List.mem_append.1 hs with h | h
 ·rw [(List.mem_replicate.1 h).2]; decide
 ·obtain ⟨k, _, rfl⟩ := List.mem_map.1 h
  unfold tmS; simp
theorem Kd : ∀ (k : Nat) (x : Chip), ∃ ls : List Step, (∀ s ∈ ls, s.kind ≠ 1) ∧ Cq x ls = ((Cb k x).1, (Cb k x).2.1)
 | 0, x => ⟨[], by simp, by simp [Cq, Cb]⟩
 | k + 1, x => by
  simp only [Cb]
  by_cases hc : E9 x = true
  ·rw [if_pos hc]; exact ⟨[], by simp, by simp [Cq]⟩
  ·rw [if_neg hc]
   obtain ⟨a, a1, a2⟩ := Sw x
   obtain ⟨b, b1, b2⟩ := Kd k (A3 x).1
   refine ⟨a ++ b, fun s hs => ?_, ?_⟩
   ·rcases List.mem_append.1 hs with h | h
    ·exact a1 s h
    ·exact b1 s h
   ·rw [I2, a2, b2]
theorem Ll : ∀ (k : Nat) (x : Chip), (Cb k x).2.2 < k → E9 (Cb k x).1 = true
 | 0, x, h => absurd h (by omega)
 | k + 1, x, h => by
  simp only [Cb] at h ⊢
  by_cases hc : E9 x = true
  ·rw [if_pos hc]; exact hc
  ·rw [if_neg hc] at h ⊢
   exact Ll k _ (by simp only at h; omega)
theorem Nr : ∀ (k : Nat) {x : Chip} {M : List Int}, Inv n nl x M → E9 x = true → Hb x.frames ≤ k → (∃ ls : List Step, (∀ s ∈ ls, s.kind ≠ 1) ∧ Cq x ls = (drN k x, [])) ∧ E9 (drN k x) = true ∧ (drN k x).frames.length = 0
 | 0, x, M, h, hc, hk => ⟨⟨[], by simp, by simp [Cq, drN]⟩, hc, by show x.frames.length = 0; exact Ns (by omega)⟩
 | k + 1, x, M, h, hc, hk => by
  simp only [drN]
  by_cases hz : x.frames.length = 0
  ·rw [if_pos hz]; exact ⟨⟨[], by simp, by simp [Cq]⟩, hc, hz⟩
  ·rw [if_neg hz]
   obtain ⟨c1, c2, c3⟩ := P9 h hc (by omega)
   have hg := (Ru (x := x) (by omega)).1
   obtain ⟨M', h', _⟩ := Ix h hg
   obtain ⟨⟨ls, l1, l2⟩, l3, l4⟩ := Nr k h' c1 (by omega)
   refine ⟨⟨goS :: ls, fun s hs => ?_, ?_⟩, l3, l4⟩
   ·rcases List.mem_cons.1 hs with e | e
    ·rw [e]; decide
    ·exact l1 s e
   ·rw [E2 hg, l2, c2]; rfl
theorem Il (h : Inv n nl x M) (hB : B < 65535) (ht : TI n nl B x) : (∃ ls : List Step, (∀ s ∈ ls, s.kind ≠ 1) ∧ Cq x ls = ((Au x).1, (Au x).2.1)) ∧ E9 (Au x).1 = true ∧ (Au x).1.frames.length = 0 ∧ (Au x).2.2 < Hy x := by
 have he := Ss h hB ht
 obtain ⟨ls, l1, l2⟩ := Kd (Hy x) x
 have hc := Ll _ _ he
 obtain ⟨M1, h1, _⟩ := Fs ls h
 rw [l2] at h1
 obtain ⟨⟨ks, k1, k2⟩, k3, k4⟩ := Nr (Hb (Cb (Hy x) x).1.frames) h1 hc (Nat.le_refl _)
 have hs : Au x = (Rz (Cb (Hy x) x).1, (Cb (Hy x) x).2.1, (Cb (Hy x) x).2.2) := by
  unfold Au Lb; rw [if_neg (by omega)]; simp
 rw [hs]
 refine ⟨⟨ls ++ ks, fun s hs => ?_, ?_⟩, k3, k4, he⟩
 ·rcases List.mem_append.1 hs with e | e
  ·exact l1 s e
  ·exact k1 s e
 ·rw [I2, l2]; simp only; rw [k2]; simp [Rz]
theorem Jb (h : Inv n nl x M) (hB : B < 65535) (ht : TI n nl B x) : ∃ M', Inv n nl (Au x).1 M' ∧ Dg M (Au x).2.1 M' ∧ TI n nl B (Au x).1 := by
 obtain ⟨⟨ls, l1, l2⟩, _⟩ := Il h hB ht
 obtain ⟨M', h1, h2⟩ := Fs ls h
 have h3 := O7 ls l1 h hB ht
 rw [l2] at h1 h2 h3
 exact ⟨M', h1, h2, h3⟩
theorem Xz (hc : E9 x = true) (p : Int) : L5 x p = [] := by
 unfold L5; rw [if_neg]
 rintro ⟨h1, h2, h3⟩
 exact h3 ((calmR_iff.1 hc).2 p.toNat (by unfold A7 at h2; omega))
theorem Mm (h : Inv n nl x M) (hB : B < 65535) (ht : TI n nl B x) (p : Int) : (Ej (Au x).2.1 p).map Done.op = L5 x p := by
 obtain ⟨⟨ls, l1, l2⟩, hc, _⟩ := Il h hB ht
 have := Tu p ls h
 rw [O0 p ls x l1, l2, List.append_nil] at this
 simp only at this
 rw [Xz hc, List.append_nil] at this
 exact this.symm
end
end Go.Proofs.Ytehpekiedfpnkaa
namespace Go.Proofs.Ytehpekiedfpnkaa
open Abs
def evS (p i : Nat) : Step := ⟨1, (p : Int), 0, 0, ⟨4, (i : Int), 0⟩⟩
def E1 (x : Chip) (p i : Nat) : Chip × List Done :=
 if (Ak x (evS p i)).2.2 = 0 then ((Au (Ak x (evS p i)).1).1, (Ak x (evS p i)).2.1 ++ (Au (Ak x (evS p i)).1).2.1) else (x, [])
def Ie (x : Chip) (p : Nat) : Nat → Chip × List Done
 | 0 => (x, [])
 | i + 1 => ((E1 (Ie x p i).1 p i).1, (Ie x p i).2 ++ (E1 (Ie x p i).1 p i).2)
def Gj (x : Chip) (nl : Nat) : Nat → Chip × List Done
 | 0 => (x, [])
 | p + 1 => ((Ie (Gj x nl p).1 p nl).1, (Gj x nl p).2 ++ (Ie (Gj x nl p).1 p nl).2)
def Fb (x : Chip) : Chip × List Done := ((Gj (Au x).1 (Au x).1.home.length (Au x).1.cores.length).1, (Au x).2.1 ++ (Gj (Au x).1 (Au x).1.home.length (Au x).1.cores.length).2)
section
variable {n nl : Nat} {x y : Chip} {M M' : List Int} {B B' : Int}
theorem Mo : ∀ (k : Nat) {x : Chip} {M : List Int}, Inv n nl x M → (Cb k x).2.1.length ≤ 40 * k
 | 0, x, M, h => by simp [Cb]
 | k + 1, x, M, h => by
  simp only [Cb]
  split
  ·simp
  ·obtain ⟨M', h', _⟩ := Rj h
   have := Mo k h'; have := Mv h
   simp only [List.length_append]; omega
theorem Ja (h : Inv n nl x M) : (Au x).2.1.length ≤ 2400 := by
 have := Mo (Hy x) h
 have hm : Hy x = 12 * n + 12 := by unfold Hy; rw [h.nc]
 have := h.n1
 unfold Au Lb
 split <;> simp only [List.nil_append] <;> omega
theorem Nt {M M' M'' : List Int} {a b : List Done} (h : Dg M a M') (g : Dg M' b M'') : Dg M (a ++ b) M'' := H5 h g
theorem Rm (h : Inv n nl x M) (hB : B + 1 < 65535) (ht : TI n nl B x) (p i : Nat) : ∃ M', Inv n nl (E1 x p i).1 M' ∧ TI n nl (B + 1) (E1 x p i).1 ∧ Dg M (E1 x p i).2 M' ∧ (E1 x p i).2.length ≤ 2401 := by
 unfold E1
 by_cases hok : (Ak x (evS p i)).2.2 = 0
 ·rw [if_pos hok]
  obtain ⟨M1, h1, d1⟩ := Ix h hok
  have t1 := Agb h (by omega) ht hok
  rw [if_pos (show (evS p i).kind = 1 from rfl)] at t1
  obtain ⟨M2, h2, d2, t2⟩ := Jb h1 hB t1
  have := Ja h1; have := Nu x (evS p i)
  exact ⟨M2, h2, t2, Nt d1 d2, by simp only [List.length_append]; omega⟩
 ·rw [if_neg hok]
  exact ⟨M, h, ht.mono (by omega), by simp [Dg], by simp⟩
theorem Pt (p : Nat) : ∀ (i : Nat) {x : Chip} {M : List Int} {B : Int}, Inv n nl x M → B + i < 65535 → TI n nl B x → ∃ M', Inv n nl (Ie x p i).1 M' ∧ TI n nl (B + i) (Ie x p i).1 ∧ Dg M (Ie x p i).2 M' ∧ (Ie x p i).2.length ≤ 2401 * i
 | 0, x, M, B, h, hB, ht => ⟨M, h, by simpa [Ie] using ht, by simp [Ie, Dg], by simp [Ie]⟩
 | i + 1, x, M, B, h, hB, ht => by
  obtain ⟨M1, h1, t1, d1, l1⟩ := Pt p i h (by omega) ht
  obtain ⟨M2, h2, t2, d2, l2⟩ := Rm h1 (by omega) t1 p i
  exact ⟨M2, h2, t2.mono (by omega), Nt d1 d2, by simp only [Ie, List.length_append]; omega⟩
theorem Ut : ∀ (p : Nat) {x : Chip} {M : List Int} {B : Int}, Inv n nl x M → B + (p * nl : Nat) < 65535 → TI n nl B x → ∃ M', Inv n nl (Gj x nl p).1 M' ∧ TI n nl (B + (p * nl : Nat)) (Gj x nl p).1 ∧ Dg M (Gj x nl p).2 M' ∧ (Gj x nl p).2.length ≤ 2401 * (p * nl)
 | 0, x, M, B, h, hB, ht => ⟨M, h, by simpa [Gj] using ht, by simp [Gj, Dg], by simp [Gj]⟩
 | p + 1, x, M, B, h, hB, ht => by
  rw [Nat.succ_mul] at hB ⊢
  obtain ⟨M1, h1, t1, d1, l1⟩ := Ut p h (by omega) ht
  obtain ⟨M2, h2, t2, d2, l2⟩ := Pt p nl h1 (by omega) t1
  exact ⟨M2, h2, t2.mono (by omega), Nt d1 d2, by simp only [Gj, List.length_append]; omega⟩
end
set_option maxHeartbeats 1000000
set_option maxRecDepth 8000
variable {L : List Chunk} {R : List Fact} {w : World}
theorem Agi {cv hv fv : Value} {x : Chip} {n nl : Nat} {M : List Int} {B : Int} (hs : St (L) R w) (hcv : sl cv x.cores ∈ R) (hhv : sl hv x.home ∈ R) (hfv : sl fv x.frames ∈ R) (h : Inv n nl x M) (hT : TI n nl B x) (hB : B + 20 < 65535) : Calls Try.prog 38 [.agg #[cv, hv, fv]].toArray w (Bw (fun v : Value × Value × Value × Value => .tuple #[.agg #[v.1, v.2.1, v.2.2.1], v.2.2.2]) (fun v => L) (fun v => sl v.1 (Fb x).1.cores :: sl v.2.1 (Fb x).1.home :: sl v.2.2.1 (Fb x).1.frames :: sl v.2.2.2 (Fb x).2 :: R)) := by
 have hn := h.nc
 have hn4 := h.n1
 have hf40 := h.fr
 refine Zbr ?_;intro honec honeh honef
 refine Aj Try.func38 rfl Try.ntmps38 rfl hs ?_
 clear hs
 refine ZbE ?_;intro b1 b2
 refine Zar ?_
 obtain ⟨MS, hIS, _, tIS⟩ := Jb h (by omega) hT
 have hsl := Ja h
 have e1 := hIS.nc
 have e2 := hIS.nh
 have hl4 := h.l1
 refine Ao Try.call34 rfl (fun w hs => Om (x := x) hs mm mm mm h) ?_; intro v13
 refine J.know (p := v13.1.oneCell' = true ∧ v13.2.1.oneCell' = true ∧ v13.2.2.1.oneCell' = true) (fun w hs => ⟨isSlice.one (hs.fact (.head _)), isSlice.one (hs.fact (.tail _ (.head _))), isSlice.one (hs.fact (.tail _ (.tail _ (.head _))))⟩) (fun h12 => ?_)
 obtain ⟨honev131, honev132, honev133⟩ := h12
 refine rn4 ?_
 refine s_B (cs := [v13.1, v13.2.1, v13.2.2.1]) Try.sizeOf33 ?_
 refine Gb2 ?_
 refine Ga4 ?_
 refine Bx (γ := Nat × Value × Value × Value × Value) (fun g => g.1 ≤ n) (fun g => row 66 g.2.2.2.2 ((Au x).2.1 ++ (Gj (Au x).1 nl g.1).2) :: blk b1 33 [g.2.1, g.2.2.1, g.2.2.2.1] :: blk b2 33 [.slice none 0 0, .slice none 0 0, .slice none 0 0] :: L) (fun g => sl g.2.1 (Gj (Au x).1 nl g.1).1.cores :: sl g.2.2.1 (Gj (Au x).1 nl g.1).1.home :: sl g.2.2.2.1 (Gj (Au x).1 nl g.1).1.frames :: R) (fun g => [(1, bp b1 0), (2, bp b2 0), (4, g.2.2.2.2), (19, vi (n : Int)), (20, vi (g.1 : Int))]) (fun g => n - g.1) (0, v13.1, v13.2.1, v13.2.2.1, v13.2.2.2) (Nat.zero_le _) ⟨rfl, rfl, rfl, congrArg (fun z : Nat => some (vi (z : Int))) e1, alT⟩ (fun w hs => by rw [show (Gj (Au x).1 nl (0, v13.1, v13.2.1, v13.2.2.1, v13.2.2.2).1) = ((Au x).1, []) from rfl, List.append_nil]; exact Ai hs) ?_
 rintro ⟨p, cv, hv, fv, dv⟩ hp
 try simp only at hp ⊢
 refine ZE ?_
 refine cdy ?_ ?_
 ·intro ht21
  refine ZaQ ?_
  refine Ga4 ?_
  have hpn : p < n := by omega
  have hpm : p * nl + nl ≤ 16 := by
   have h8 : (p + 1) * nl ≤ 4 * 4 := Nat.mul_le_mul (by omega) hl4.2
   rw [Nat.succ_mul] at h8; omega
  obtain ⟨Mp, hIp, tIp, _, lp⟩ := Ut p hIS (by omega) tIS
  refine Bx (γ := Nat × Value × Value × Value × Value) (fun g => g.1 ≤ nl) (fun g => row 66 g.2.2.2.2 ((Au x).2.1 ++ (Gj (Au x).1 nl p).2 ++ (Ie (Gj (Au x).1 nl p).1 p g.1).2) :: blk b1 33 [g.2.1, g.2.2.1, g.2.2.2.1] :: blk b2 33 [.slice none 0 0, .slice none 0 0, .slice none 0 0] :: L) (fun g => sl g.2.1 (Ie (Gj (Au x).1 nl p).1 p g.1).1.cores :: sl g.2.2.1 (Ie (Gj (Au x).1 nl p).1 p g.1).1.home :: sl g.2.2.2.1 (Ie (Gj (Au x).1 nl p).1 p g.1).1.frames :: R) (fun g => [(1, bp b1 0), (2, bp b2 0), (4, g.2.2.2.2), (6, vi (p : Int)), (19, vi (n : Int)), (20, vi (p : Int)), (25, vi (nl : Int)), (26, vi (g.1 : Int))]) (fun g => nl - g.1) (0, cv, hv, fv, dv) (Nat.zero_le _) ⟨rfl, rfl, rfl, rfl, rfl, rfl, congrArg (fun z : Nat => some (vi (z : Int))) hIp.nh, alT⟩ (fun w hs => by rw [show (Ie (Gj (Au x).1 nl p).1 p (0, cv, hv, fv, dv).1) = ((Gj (Au x).1 nl p).1, []) from rfl, List.append_nil]; exact Ai hs) ?_
  rintro ⟨i, cv, hv, fv, dv⟩ hi
  try simp only at hi ⊢
  refine ZE ?_
  refine cdy ?_ ?_
  ·intro ht27
   refine ZaQ ?_
   refine rn5 ?_
   obtain ⟨Mi, hIi, tIi, _, li⟩ := Pt p i hIp (by omega) tIp
   have h9 := Nu (Ie (Gj (Au x).1 nl p).1 p i).1 (evS p i)
   refine Ao Try.call19 rfl (fun w hs => Jh (x := (Ie (Gj (Au x).1 nl p).1 p i).1) (s := evS p i) hs mm mm mm (by unfold Step.wf An evS; simp only; omega) hIi) ?_; intro v35
   refine J.know (p := v35.1.oneCell' = true ∧ v35.2.1.oneCell' = true ∧ v35.2.2.1.oneCell' = true) (fun w hs => ⟨isSlice.one (hs.fact (.head _)), isSlice.one (hs.fact (.tail _ (.head _))), isSlice.one (hs.fact (.tail _ (.tail _ (.head _))))⟩) (fun h12 => ?_)
   obtain ⟨honev351, honev352, honev353⟩ := h12
   refine rn4 ?_
   refine al_ (cs := [.slice none 0 0, .slice none 0 0, .slice none 0 0]) Try.zeroValue33 ?_; intro b8
   refine s_B (cs := [v35.1, v35.2.1, v35.2.2.1]) Try.sizeOf33 ?_
   refine Ga2 ?_
   refine kp [1, 2, 3, 4, 6, 7, 8, 9, 10, 19, 20, 21, 22, 23, 24, 25, 26, 27, 28, 29, 30, 31, 32, 33, 34, 35, 36, 37, 38, 39, 40] ?_
   refine ZW ?_
   refine cdy ?_ ?_
   ·intro ht40
    refine ZD ?_
    have e8 : (Ie (Gj (Au x).1 nl p).1 p (i + 1)) = ((Ie (Gj (Au x).1 nl p).1 p i).1, (Ie (Gj (Au x).1 nl p).1 p i).2) := by
     show ((E1 (Ie (Gj (Au x).1 nl p).1 p i).1 p i).1, (Ie (Gj (Au x).1 nl p).1 p i).2 ++ (E1 (Ie (Gj (Au x).1 nl p).1 p i).1 p i).2) = _
     unfold E1; rw [if_neg ht40, List.append_nil]
    refine Bb (i + 1, cv, hv, fv, dv) (by show i + 1 ≤ nl; omega) (by show nl - (i + 1) < nl - i; omega) alT (fun w hs => ?_)
    try simp only
    rw [e8]; exact Ai hs
   ·intro ht40
    have hok : (Ak (Ie (Gj (Au x).1 nl p).1 p i).1 (evS p i)).2.2 = 0 := Decidable.not_not.1 ht40
    obtain ⟨MY, hIY, _⟩ := Ix hIi hok
    obtain ⟨Y, eY⟩ : ∃ Y, (Ak (Ie (Gj (Au x).1 nl p).1 p i).1 (evS p i)).1 = Y := ⟨_, rfl⟩
    have hlY := Ja hIY
    rw [eY] at hIY hlY
    refine ZK ?_
    refine ap F4 (hb := fun w hs => by have : maxN = 16777216 := rfl; (try simp only [List.length_append]); omega) (k := ?_); intro v43
    refine Zar ?_
    refine Ao Try.call34 rfl (fun w hs => Mx (x := Y) (cv := v35.1) (hv := v35.2.1) (fv := v35.2.2.1) hs (by rw [← eY]; exact mm) (by rw [← eY]; exact mm) (by rw [← eY]; exact mm) hIY) ?_; intro v46
    refine J.know (p := v46.1.oneCell' = true ∧ v46.2.1.oneCell' = true ∧ v46.2.2.1.oneCell' = true) (fun w hs => ⟨isSlice.one (hs.fact (.head _)), isSlice.one (hs.fact (.tail _ (.head _))), isSlice.one (hs.fact (.tail _ (.tail _ (.head _))))⟩) (fun h12 => ?_)
    obtain ⟨honev461, honev462, honev463⟩ := h12
    refine rn4 ?_
    refine s_B (cs := [v46.1, v46.2.1, v46.2.2.1]) Try.sizeOf33 ?_
    refine Zar ?_
    refine s_B (cs := [v46.1, v46.2.1, v46.2.2.1]) Try.sizeOf33 ?_
    refine ZK ?_
    refine ap F4 (hb := fun w hs => by have : maxN = 16777216 := rfl; (try simp only [List.length_append]); omega) (k := ?_); intro v53
    refine ZH ?_
    have e8 : (Ie (Gj (Au x).1 nl p).1 p (i + 1)) = ((Au Y).1, (Ie (Gj (Au x).1 nl p).1 p i).2 ++ ((Ak (Ie (Gj (Au x).1 nl p).1 p i).1 (evS p i)).2.1 ++ (Au Y).2.1)) := by
     show ((E1 (Ie (Gj (Au x).1 nl p).1 p i).1 p i).1, (Ie (Gj (Au x).1 nl p).1 p i).2 ++ (E1 (Ie (Gj (Au x).1 nl p).1 p i).1 p i).2) = _
     unfold E1; rw [if_pos hok, eY]
    refine Bb (i + 1, v46.1, v46.2.1, v46.2.2.1, v53) (by show i + 1 ≤ nl; omega) (by show nl - (i + 1) < nl - i; omega) alT (fun w hs => ?_)
    try simp only
    rw [e8]; simp only [← List.append_assoc]; exact Ai hs
  ·intro ht27
   refine ZD ?_
   have hil : i = nl := by omega
   have e8 : (Gj (Au x).1 nl (p + 1)) = ((Ie (Gj (Au x).1 nl p).1 p nl).1, (Gj (Au x).1 nl p).2 ++ (Ie (Gj (Au x).1 nl p).1 p nl).2) := rfl
   refine Bb (p + 1, cv, hv, fv, dv) (by show p + 1 ≤ n; omega) (by show n - (p + 1) < n - p; omega) alT (fun w hs => ?_)
   try simp only
   rw [hil] at hs
   rw [e8, ← List.append_assoc]; exact Ai hs
 ·intro ht21
  refine Gl ?_
  have hpe : n = p := by omega
  subst hpe
  refine JC.shut (v := dv) pkk ?_
  refine JC.know (p := cv.oneCell' = true ∧ hv.oneCell' = true ∧ fv.oneCell' = true) (fun w hs => ⟨isSlice.one (hs.fact (mm (f := sl cv (Gj (Au x).1 nl n).1.cores))), isSlice.one (hs.fact (mm (f := sl hv (Gj (Au x).1 nl n).1.home))), isSlice.one (hs.fact (mm (f := sl fv (Gj (Au x).1 nl n).1.frames)))⟩) (fun h12 => ?_)
  obtain ⟨hone1, hone2, hone3⟩ := h12
  refine ZA ?_
  refine Zbj ?_
  refine Ga1 ?_
  have er : Fb x = ((Gj (Au x).1 nl n).1, (Au x).2.1 ++ (Gj (Au x).1 nl n).2) := by unfold Fb; rw [e1, e2]
  rw [er]
  exact G2 (cv, hv, fv, dv) Try.isAgg33 Try.sizeOf33
end Go.Proofs.Ytehpekiedfpnkaa
namespace Go.Proofs.Ytehpekiedfpnkaa
open Go Go.MapKept
structure MapIs {κ : Type} (kv : κ → Value) (d : TypeDesc) (es : List MapEntry) (f : κ → Option Value) : Prop where
 key : ∀ e ∈ es, IsKey d e.key
 uni : ∀ (i j : Nat) (e e' : MapEntry), es[i]? = some e → es[j]? = some e' → e.key = e'.key → i = j
 val : ∀ e ∈ es, ∀ k, e.key = kv k → f k = some e.val
 non : ∀ k, (∀ e ∈ es, e.key ≠ kv k) → f k = none
def Aff {κ : Type} (kv : κ → Value) (d : TypeDesc) (b : Nat) (f : κ → Option Value) : Chunk :=
 ⟨fun m _ => ∃ es clock, m (b + 1) = some (.ob (.map es clock)) ∧ MapIs kv d es.toList f, fun _ _ _ _ h => h⟩
def Aeu {κ : Type} [DecidableEq κ] (f : κ → Option Value) (k : κ) (v : Value) : κ → Option Value := fun q => if q = k then some v else f q
section
variable {P : Program} {n : Nat} {ops : Array Oper} {Q : Exit → Act → World → Prop} {rest : List Oper} {L L' : List Chunk} {R : List Fact} {al : List (Nat × Value)} {d0 : Nat} {x y z : Operand} {T ty : TypeId} {pos : String} {aft : Array Edge} {κ : Type} {kv : κ → Value} {d : TypeDesc} {b : Nat} {f : κ → Option Value}
theorem St.map_get {w : World} (hs : St (Aff kv d b f :: L) R w) : ∃ es clock, w.heap[b]? = some (.map es clock) ∧ MapIs kv d es.toList f ∧ ∀ (w' : World) (o' : Obj) (c' : Chunk), w'.heap[b]? = some o' → (∀ x, x ≠ b → w'.heap[x]? = w.heap[x]?) → w'.os = w.os → w'.output = w.output → (∀ i, c'.p (one b o') i) → St (c' :: L) R w' := by
 obtain ⟨m, i, hd, hm, hi, ⟨m1, m2, hd', h1, h2, ⟨es, clock, hc, hM⟩, hst⟩, hr⟩ := hs
 exact ⟨es, clock, Km (hm _ _ (h1 _ _ hc)), hM, fun w' o' c' hb hrest ho hu hn => St.put hd hm hi hd' h1 h2 hst hr hc hb hrest ho hu (hn i)⟩
theorem MapIs.nil : MapIs kv d [] (fun _ => none) := ⟨by simp, by simp, by simp, fun _ _ => rfl⟩
theorem Ago (kv : κ → Value) (d : TypeDesc) (k : ∀ b, J P n ops Q rest (Aff kv d b (fun _ => none) :: L) R ((d0, .map (some b)) :: al)) : J P n ops Q (⟨some d0, .makeMap T none, ty, pos, aft, none⟩ :: rest) L R al :=
 J.yieldEx (v := fun b => .map (some b)) (L' := fun b => Aff kv d b (fun _ => none) :: L) (R' := fun _ => R) rfl rfl (fun B w hs => by
  refine ⟨w.heap.size, w.alloc (.map #[] 0), ?_, ?_⟩
  ·show (Instr.makeMap T (Option.map _ none) >>= fun v => Pure.pure (Next.value v)).run P w = _
   rw [Sem.run_bind]; rfl
  ·obtain ⟨m, i, hd, hm, hi, hst, hr⟩ := hs
   exact St.newC (o := .map #[] 0) hd hm hi hst hr rfl rfl rfl ⟨#[], 0, E0 _ _, MapIs.nil⟩) k
theorem Vp {kt et : TypeId} {w : World} {zv : Value} {es : Array MapEntry} {clock : Nat} {k : κ} (hm : P.underlying T = some (.map kt et)) (hd : P.underlying kt = some d) (hz : (zeroValue et).run P w = .ok zv w) (hk : IsKey d (kv k)) (hb : w.heap[b]? = some (.map es clock)) (hM : MapIs kv d es.toList f) :
  (Instr.lookup T (.map (some b)) (kv k) false).run P w = .ok ((f k).getD zv) w := by
 rcases findNow_spec hk es.toList 0 hM.key with ⟨h1, h2⟩ | ⟨j, e, h1, h2, h3⟩
 ·have hn := hM.non k h2
  simp [Instr.lookup, run_underlying hm, _root_.Go.MapKept.run_getObj_map hb, run_checkKey hd hk, run_findKey hd h1, Result.andThen, hz, hn]
 ·have hv := hM.val e (List.mem_of_getElem? h2) k h3
  simp [Instr.lookup, run_underlying hm, _root_.Go.MapKept.run_getObj_map hb, run_checkKey hd hk, run_findKey hd h1, Result.andThen, hz, hv]
theorem Ph {kt et : TypeId} {zv : Value} (k0 : κ) (hm : P.underlying T = some (.map kt et)) (hd : P.underlying kt = some d) (hz : ∀ w, (zeroValue et).run P w = .ok zv w) (hk : IsKey d (kv k0)) (hx : ev n al x = some (.map (some b))) (hy : ev n al y = some (kv k0)) (hp : Pick L (Aff kv d b f) L')
  (k : J P n ops Q rest L R ((d0, (f k0).getD zv) :: al)) : J P n ops Q (⟨some d0, .lookup T x y false, ty, pos, aft, none⟩ :: rest) L R al :=
 J.pure rfl rfl (fun B w hs => by
  obtain ⟨es, clock, hb, hM, _⟩ := (hs.pick hp).map_get
  show (Instr.lookup T ((mkA n al B).eval x) ((mkA n al B).eval y) false >>= fun v => Pure.pure (Next.value v)).run P w = _
  rw [Bo hx, Bo hy, Sem.run_bind, Vp hm hd (hz w) hk hb hM]; rfl) k
theorem Abp [DecidableEq κ] {kt et : TypeId} {v : Value} (k0 : κ) (inj : ∀ a b, kv a = kv b → a = b) (hm : P.underlying T = some (.map kt et)) (hd : P.underlying kt = some d) (hk : IsKey d (kv k0)) (hx : ev n al x = some (.map (some b))) (hy : ev n al y = some (kv k0)) (hz : ev n al z = some v) (hp : Pick L (Aff kv d b f) L')
  (k : J P n ops Q rest (Aff kv d b (Aeu f k0 v) :: L') R al) : J P n ops Q (⟨none, .mapUpdate T x y z, ty, pos, aft, none⟩ :: rest) L R al :=
 J.skip rfl rfl (fun B w hs => by
  obtain ⟨es, clock, hb, hM, put⟩ := (hs.pick hp).map_get
  have hev : (execOp (mkA n al B).eval ⟨none, .mapUpdate T x y z, ty, pos, aft, none⟩).run P w = (Instr.mapUpdate T (.map (some b)) (kv k0) v >>= fun _ => Pure.pure Next.skip).run P w := by
   show (Instr.mapUpdate T ((mkA n al B).eval x) ((mkA n al B).eval y) ((mkA n al B).eval z) >>= fun _ => Pure.pure Next.skip).run P w = _
   rw [Bo hx, Bo hy, Bo hz]
  rcases findNow_spec hk es.toList 0 hM.key with ⟨h1, h2⟩ | ⟨j, e, h1, h2, h3⟩
  ·refine ⟨{ w with heap := w.heap.setIfInBounds b (.map (es.push { key := kv k0, val := v, born := clock }) (clock + 1)) }, ?_, ?_⟩
   ·rw [hev]
    simp [Instr.mapUpdate, run_underlying hm, _root_.Go.MapKept.run_getObj_map hb, run_checkKey hd hk, run_findKey hd h1, _root_.Go.MapKept.run_setObj_map _ hb, Result.andThen]
   ·refine put _ _ _ (heap_set hb).1 (fun r hr => (heap_set hb).2 r hr) rfl rfl (fun i => ⟨_, _, E0 _ _, ?_⟩)
    rw [Array.toList_push]
    refine ⟨fun a ha => ?_, fun i j a a' hi hj he => ?_, fun a ha q hq => ?_, fun q hq => ?_⟩
    ·rcases List.mem_append.1 ha with ha | ha
     ·exact hM.key a ha
     ·rw [List.mem_singleton.1 ha]; exact hk
    ·have gi : ∀ (i : Nat) (a : MapEntry), (es.toList ++ [{ key := kv k0, val := v, born := clock }])[i]? = some a → (i < es.toList.length ∧ es.toList[i]? = some a) ∨ (i = es.toList.length ∧ a.key = kv k0) := by
      intro i a h
      rcases Nat.lt_or_ge i es.toList.length with hl | hl
      ·rw [List.getElem?_append_left hl] at h; exact .inl ⟨hl, h⟩
      ·rw [List.getElem?_append_right hl] at h
       obtain ⟨t, ht⟩ : ∃ t, i - es.toList.length = t := ⟨_, rfl⟩
       rw [ht] at h
       cases t with
       | zero => simp at h; exact .inr ⟨by omega, by rw [← h]⟩
       | succ t => simp at h
     rcases gi i a hi with ⟨a1, a2⟩ | ⟨a1, a2⟩ <;> rcases gi j a' hj with ⟨b1, b2⟩ | ⟨b1, b2⟩
     ·exact hM.uni i j a a' a2 b2 he
     ·exact absurd (he.trans b2) (h2 a (List.mem_of_getElem? a2))
     ·exact absurd (he.symm.trans a2) (h2 a' (List.mem_of_getElem? b2))
     ·omega
    ·unfold Aeu
     rcases List.mem_append.1 ha with ha | ha
     ·rw [if_neg (fun e => h2 a ha (by rw [hq, e]))]; exact hM.val a ha q hq
     ·rw [List.mem_singleton.1 ha] at hq ⊢
      rw [if_pos (inj _ _ hq).symm]
    ·unfold Aeu
     rw [if_neg (fun e => hq _ (List.mem_append.2 (.inr (List.mem_singleton.2 rfl))) (by rw [e]))]
     exact hM.non q fun a ha => hq a (List.mem_append.2 (.inl ha))
  ·have hj : es[j]? = some e := by simpa using h2
   refine ⟨{ w with heap := w.heap.setIfInBounds b (.map (es.modify j fun e => { e with key := kv k0, val := v }) clock) }, ?_, ?_⟩
   ·rw [hev]
    simp [Instr.mapUpdate, run_underlying hm, _root_.Go.MapKept.run_getObj_map hb, run_checkKey hd hk, run_findKey hd h1, hj, h3, run_keyThatStays hk, _root_.Go.MapKept.run_setObj_map _ hb, Result.andThen]
   ·refine put _ _ _ (heap_set hb).1 (fun r hr => (heap_set hb).2 r hr) rfl rfl (fun i => ⟨_, _, E0 _ _, ?_⟩)
    have gi : ∀ (i : Nat) (a : MapEntry), (es.modify j fun e => { e with key := kv k0, val := v }).toList[i]? = some a → ∃ a0, es.toList[i]? = some a0 ∧ a.key = a0.key ∧ (i = j → a.val = v) ∧ (i ≠ j → a = a0) := by
     intro i a h
     rw [Array.getElem?_toList, Array.getElem?_modify] at h
     by_cases e0 : j = i
     ·subst e0
      rw [if_pos rfl, hj] at h
      simp only [Option.map_some, Option.some.injEq] at h
      exact ⟨e, h2, by rw [← h, h3], fun _ => by rw [← h], fun hne => absurd rfl hne⟩
     ·rw [if_neg e0] at h
      exact ⟨a, by rw [Array.getElem?_toList]; exact h, rfl, fun e1 => absurd e1.symm e0, fun _ => rfl⟩
    have gm : ∀ a ∈ (es.modify j fun e => { e with key := kv k0, val := v }).toList, ∃ i : Nat, ∃ a0, es.toList[i]? = some a0 ∧ a.key = a0.key ∧ (i = j → a.val = v) ∧ (i ≠ j → a = a0) := by
     intro a ha
     obtain ⟨i, hi⟩ := List.mem_iff_getElem?.1 ha
     exact ⟨i, gi i a hi⟩
    refine ⟨fun a ha => ?_, fun i i' a a' hi hi' he => ?_, fun a ha q hq => ?_, fun q hq => ?_⟩
    ·obtain ⟨i, a0, g1, g2, _⟩ := gm a ha
     rw [g2]; exact hM.key a0 (List.mem_of_getElem? g1)
    ·obtain ⟨a0, g1, g2, _⟩ := gi i a hi
     obtain ⟨b0, k1, k2, _⟩ := gi i' a' hi'
     exact hM.uni i i' a0 b0 g1 k1 (by rw [← g2, ← k2]; exact he)
    ·obtain ⟨i, a0, g1, g2, g3, g4⟩ := gm a ha
     unfold Aeu
     by_cases e0 : i = j
     ·have : q = k0 := by
       subst e0; rw [h2] at g1; cases g1
       exact inj _ _ (by rw [← hq, g2, h3])
      rw [if_pos this, g3 e0]
     ·rw [if_neg]
      ·rw [g4 e0]; exact hM.val a0 (List.mem_of_getElem? g1) q (by rw [← g2]; exact hq)
      ·intro e1
       exact e0 (hM.uni i j a0 e g1 h2 (by rw [← g2, hq, e1, h3]))
    ·unfold Aeu
     have hmem : ∃ a ∈ (es.modify j fun e => { e with key := kv k0, val := v }).toList, a.key = kv k0 := by
      refine ⟨{ e with key := kv k0, val := v }, List.mem_iff_getElem?.2 ⟨j, ?_⟩, rfl⟩
      rw [Array.getElem?_toList, Array.getElem?_modify, if_pos rfl, hj]; rfl
     rw [if_neg (fun e1 => by
      obtain ⟨a, ha, hk1⟩ := hmem
      exact hq a ha (by rw [hk1, e1]))]
     refine hM.non q fun a ha hk1 => ?_
     obtain ⟨i, hi⟩ := List.mem_iff_getElem?.1 ha
     have : ∃ a', (es.modify j fun e => { e with key := kv k0, val := v }).toList[i]? = some a' ∧ a'.key = a.key := by
      rw [Array.getElem?_toList, Array.getElem?_modify]
      rw [Array.getElem?_toList] at hi
      by_cases e0 : j = i
      ·subst e0
       rw [if_pos rfl, hi]
       rw [hj] at hi; cases hi
       exact ⟨_, rfl, h3.symm⟩
      ·rw [if_neg e0, hi]; exact ⟨a, rfl, rfl⟩
     obtain ⟨a', h8, h9⟩ := this
     exact hq a' (List.mem_iff_getElem?.2 ⟨i, h8⟩) (h9.trans hk1)) k
end
set_option maxHeartbeats 1000000
set_option maxRecDepth 8000
variable {L : List Chunk} {R : List Fact} {w : World}
def rL : List Step := [⟨1, 0, 0, 0, ⟨2, 0, 3⟩⟩]
def rX : Chip := (build ⟨1, 1⟩ rL).1
def rD : List Done := (build ⟨1, 1⟩ rL).2
theorem r_bd : build ⟨1, 1⟩ rL = (rX, rD) := rfl
theorem r_1 : ((Au rX).2.1.length : Int) = 1 := by decide +kernel
theorem r_2 : (0 : Int) < ((Au rX).2.2 : Int) := by decide +kernel
theorem r_3 : ((Au rX).1.cores.length : Int) = 1 := by decide +kernel
theorem r_4 : ((Au rX).1.frames.length : Int) = 0 := by decide +kernel
theorem r_5 : ((Fb (Au rX).1).2.length : Int) = 1 := by decide +kernel
theorem r_6 : ((Fb (Au rX).1).1.home.length : Int) = 1 := by decide +kernel
theorem r_7 : ((Fb (Au rX).1).1.home.getD 0 A1).value = 3 := by decide +kernel
theorem r_8 : ((A3 rX).1.cores.length : Int) = 1 := by decide +kernel
theorem Tz {c : Config} {l : List Step} (h : (Cw c).2 = 0) : ∃ n nl : Nat, c = Ef n nl ∧ ∃ M, Inv n nl (build c l).1 M ∧ Dg (List.replicate nl 0) (build c l).2 M ∧ TI n nl 300 (build c l).1 := by
 obtain ⟨n, nl, h1, h2, h3, h4⟩ := Oz h
 obtain ⟨M, g1, g2⟩ := Fs (l.take 300) (Tc h1 h2)
 have hb : build c l = Cq (Fr n nl) (l.take 300) := by unfold build; rw [if_neg (by rw [h]; decide), h4]
 have hl : (l.take 300).length ≤ 300 := by rw [List.length_take]; omega
 have ht := O8 (l.take 300) (Tc h1 h2) (B := 0) (by omega) ti_new
 refine ⟨n, nl, h3, M, by rw [hb]; exact g1, by rw [hb]; exact g2, by rw [hb]; exact ht.mono (by omega)⟩
theorem Sc (c : Config) (l : List Step) : (build c l).1.cores = [] ∨ ∃ n nl : Nat, c = Ef n nl ∧ ∃ M, Inv n nl (build c l).1 M ∧ Dg (List.replicate nl 0) (build c l).2 M ∧ TI n nl 300 (build c l).1 := by
 by_cases h : (Cw c).2 = 0
 ·exact .inr (Tz h)
 ·left; rw [U9 h, Lr h]; rfl
theorem r_inv : ∃ M, Inv 1 1 rX M ∧ TI 1 1 300 rX := by
 obtain ⟨n, nl, h1, M, h2, _, h3⟩ := Tz (c := ⟨1, 1⟩) (l := rL) (by decide)
 have e1 : (1 : Int) = n := congrArg Config.cores h1
 have e2 : (1 : Int) = nl := congrArg Config.lines h1
 have f1 : n = 1 := by omega
 have f2 : nl = 1 := by omega
 subst f1 f2
 exact ⟨M, h2, h3⟩
theorem Ajk {n nl : Nat} {x : Chip} {M : List Int} {B : Int} (h : Inv n nl x M) (hB : B < 65535) (ht : TI n nl B x) {j : Nat} (hj : j < (Au x).2.1.length) : (0 ≤ ((Au x).2.1.getD j zDone).core ∧ ((Au x).2.1.getD j zDone).core < (x.cores.length : Int)) ∧ ((Au x).2.1.getD j zDone).op = (Aq x ((Au x).2.1.getD j zDone).core).wait := by
 generalize hd : (Au x).2.1.getD j zDone = d
 have hm : d ∈ (Au x).2.1 := by
  rw [← hd, List.getD_eq_getElem?_getD, List.getElem?_eq_getElem hj]; exact List.getElem_mem _
 have h1 := Mm h hB ht d.core
 have h2 : d.op ∈ L5 x d.core := by
  rw [← h1]; exact List.mem_map.2 ⟨d, List.mem_filter.2 ⟨hm, by simp⟩, rfl⟩
 unfold L5 at h2
 split at h2
 ·rename_i h3; exact ⟨⟨h3.1, h3.2.1⟩, List.mem_singleton.1 h2⟩
 ·exact absurd h2 (by simp)
theorem Adn {n nl : Nat} {x : Chip} {M : List Int} {B : Int} (h : Inv n nl x M) (hB : B < 65535) (ht : TI n nl B x) {p : Nat} (hp : p < n) : (Ej (Au x).2.1 p).length = if (cor x p).wait.kind ≠ 0 then 1 else 0 := by
 have h1 := congrArg List.length (Mm h hB ht p)
 rw [List.length_map] at h1
 rw [h1]; unfold L5
 have hc : Aq x (p : Int) = cor x p := by unfold Aq cor; rw [Int.toNat_natCast]
 rw [hc]
 by_cases hk : (cor x p).wait.kind ≠ 0
 ·rw [if_pos ⟨by omega, by unfold A7; rw [h.nc]; omega, hk⟩, if_pos hk]; rfl
 ·rw [if_neg (fun c => hk c.2.2), if_neg hk]; rfl
theorem vi_inj : ∀ a b : Int, vi a = vi b → a = b := fun a b h => by cases h; rfl
theorem Adt {D : List Done} {f : Int → Option Value} {j : Nat} (hj : j < D.length) (hf : ∀ q, (f q).getD (vi 0) = vi ((Ej (D.take j) q).length : Int)) : ∀ q, (Aeu f (D.getD j zDone).core (vi (((Ej (D.take j) (D.getD j zDone).core).length : Int) + 1)) q).getD (vi 0) = vi ((Ej (D.take (j + 1)) q).length : Int) := by
 intro q
 unfold Aeu
 by_cases e : q = (D.getD j zDone).core
 ·rw [if_pos e, e, Ado hj rfl, List.length_append]; simp
 ·rw [if_neg e, Adp hj (fun h => e h.symm)]; exact hf q
theorem W7  (hs : St (L) R w) : Calls Try.prog 36 [].toArray w (Bw (fun _ : Unit => .bool true) (fun _ => L) (fun _ => R)) := by
 obtain ⟨M, hI, hTI⟩ := r_inv
 obtain ⟨MS, hIS, _, tIS⟩ := Jb hI (by decide) hTI
 refine Aj Try.func36 rfl Try.ntmps36 rfl hs ?_
 clear hs
 refine ZL ?_
 refine rn3 ?_
 refine li (α := Step) rL eo_24 rfl (fun j hj => ⟨⟨_, rfl, rfl, by unfold Step.wf An; decide⟩, trivial⟩) ?_; intro v14
 refine Ao Try.call14 rfl (fun w hs => by have h := Ua (c := ⟨1, 1⟩) (l := rL) hs mm (by unfold Config.wf An; decide); rw [r_bd] at h; exact h) ?_; intro v15
 refine J.know (p := v15.1.oneCell' = true ∧ v15.2.1.oneCell' = true ∧ v15.2.2.1.oneCell' = true) (fun w hs => ⟨isSlice.one (hs.fact (.head _)), isSlice.one (hs.fact (.tail _ (.head _))), isSlice.one (hs.fact (.tail _ (.tail _ (.head _))))⟩) (fun h12 => ?_)
 obtain ⟨honev151, honev152, honev153⟩ := h12
 refine rn3 ?_
 refine al_ (cs := [.slice none 0 0, .slice none 0 0, .slice none 0 0]) Try.zeroValue33 ?_; intro b1
 refine s_B (cs := [v15.1, v15.2.1, v15.2.2.1]) Try.sizeOf33 ?_
 refine Zar ?_
 refine Ao Try.call34 rfl (fun w hs => Mx (x := rX) hs mm mm mm hI) ?_; intro v20
 refine ZcJ ?_;intro h12
 obtain ⟨honev201, honev202, honev203⟩ := h12
 refine rn4 ?_
 refine al_ (cs := [.slice none 0 0, .slice none 0 0, .slice none 0 0]) Try.zeroValue33 ?_; intro b3
 refine Zcx ?_
 refine Gb2 ?_
 refine rn1 ?_
 refine Ao Try.call38 rfl (fun w hs => Agi (x := (Au rX).1) (cv := v20.1) (hv := v20.2.1) (fv := v20.2.2.1) hs mm mm mm hIS tIS (by decide)) ?_; intro v26
 refine J.know (p := v26.1.oneCell' = true ∧ v26.2.1.oneCell' = true ∧ v26.2.2.1.oneCell' = true) (fun w hs => ⟨isSlice.one (hs.fact (.head _)), isSlice.one (hs.fact (.tail _ (.head _))), isSlice.one (hs.fact (.tail _ (.tail _ (.head _))))⟩) (fun h12 => ?_)
 obtain ⟨honev261, honev262, honev263⟩ := h12
 refine rn3 ?_
 refine Zdj ?_;intro b6
 refine s_B (cs := [v26.1, v26.2.1, v26.2.2.1]) Try.sizeOf33 ?_
 refine Zar ?_
 refine Ao Try.call31 rfl (fun w hs => Aez (x := rX) (cv := v15.1) (hv := v15.2.1) (fv := v15.2.2.1) hs mm mm mm hI) ?_; intro v31
 refine J.know (p := v31.1.oneCell' = true ∧ v31.2.1.oneCell' = true ∧ v31.2.2.1.oneCell' = true) (fun w hs => ⟨isSlice.one (hs.fact (.head _)), isSlice.one (hs.fact (.tail _ (.head _))), isSlice.one (hs.fact (.tail _ (.tail _ (.head _))))⟩) (fun h12 => ?_)
 obtain ⟨honev311, honev312, honev313⟩ := h12
 refine rn3 ?_
 refine al_ (cs := [.slice none 0 0, .slice none 0 0, .slice none 0 0]) Try.zeroValue33 ?_; intro b8
 refine s_B (cs := [v31.1, v31.2.1, v31.2.2.1]) Try.sizeOf33 ?_
 refine Ga1 ?_
 refine JC.open1 (xs := (Fb (Au rX).1).1.home) (v := v26.2.1) 0 mm (by have := r_6; omega) (fun _ ue => ?_)
 refine kp [0, 3, 4, 5, 6, 7, 8, 34, 35, 36, 37, 38, 39, 40, 41, 42, 43, 44, 45, 46, 47, 48, 49, 50, 51, 52, 53, 54, 55, 56, 57, 58, 59, 60, 61, 62, 63, 64, 65, 66, 67, 68, 69, 70, 71, 72, 73, 74, 75, 76, 77, 78, 79, 80, 81] ?_
 refine ZA ?_
 refine ob (Am rfl rfl (Bh r_1)) ?_
 refine Zay ?_
 refine ob (Am rfl rfl (Li r_2)) ?_
 refine ZR ?_
 refine ob (Am rfl rfl (Bh r_3)) ?_
 refine ZR ?_
 refine ob (Am rfl rfl (Bh r_4)) ?_
 refine ZN ?_
 refine ob (Am rfl rfl (Bh r_5)) ?_
 refine ZR ?_
 refine ob (Am rfl rfl (Bh r_6)) ?_
 refine ZN ?_
 refine ob (Fx (i := 0) N5) ?_
 refine Zay ?_
 refine ob (Am rfl rfl (Bh r_7)) ?_
 refine ZR ?_
 refine ob (Am rfl rfl (Bh r_8)) ?_
 refine Zay ?_
 refine Ao Try.call33 rfl (fun w hs => M0 (c := 1) hs (by decide)) ?_; intro _
 refine gy ?_
 refine ob (Am rfl rfl (Bh rfl)) ?_
 refine Ga2 ?_
 exact Co ()
theorem N6 {vl : Value} {c : Config} {l : List Step} (hs : St (L) R w) (hl : sl vl l ∈ R) (hcw : c.wf) : Calls Try.prog 12 [.agg c.cells.toArray, vl].toArray w (Bw (fun _ : Unit => .bool true) (fun _ => L) (fun _ => R)) := by
 refine Aj Try.func12 rfl Try.ntmps12 rfl hs ?_
 clear hs
 refine Gm ?_
 refine bx ?_; intro b2
 refine Gb1 ?_
 refine Ao Try.call36 rfl (fun w hs => W7 hs) ?_; intro _
 refine Gd1 ?_
 refine rn2 ?_
 refine Ao Try.call14 rfl (fun w hs => Ua (c := c) (l := l) hs mm hcw) ?_; intro v20
 refine ZcJ ?_;intro h12
 obtain ⟨hone1, hone2, hone3⟩ := h12
 refine rn3 ?_
 refine al_ (cs := [.slice none 0 0, .slice none 0 0, .slice none 0 0]) Try.zeroValue33 ?_; intro b5
 refine Zcx ?_
 refine Ga1 ?_
 rcases (show (((build c l).1.cores.length : Int) = 0) ∨ (((build c l).1.cores.length : Int) ≠ 0) from by omega) with hc | hc
 ·refine ZI ?_
  refine Cs ?_
  refine Gmc ?_
  refine Ga1 ?_
  exact Co ()
 ·obtain ⟨n, nl, hcc, M, hI, _, hTI⟩ := (Sc c l).resolve_left (fun h => by rw [h, List.length_nil] at hc; omega)
  have hc4 : c.cores = (n : Int) := by rw [hcc]; rfl
  generalize (build c l).1 = X at hI hc hTI ⊢
  have hn := hI.nc
  have hn1 := hI.n1
  obtain ⟨_, hsc, hsf, hse⟩ := Il hI (by decide) hTI
  obtain ⟨MS, hIS, _, tIS⟩ := Jb hI (by decide) hTI
  have hsn := hIS.nc
  have hsh := hIS.nh
  have hsl := hIS.l1
  have hmo : Hy X = 12 * n + 12 := by unfold Hy; rw [hn]
  have hdl := Ja hI
  refine ZI ?_
  refine ZaR ?_
  refine rn1 ?_
  refine Ao Try.call34 rfl (fun w hs => Mx (x := X) hs mm mm mm hI) ?_; intro v29
  refine J.know (p := v29.1.oneCell' = true ∧ v29.2.1.oneCell' = true ∧ v29.2.2.1.oneCell' = true) (fun w hs => ⟨isSlice.one (hs.fact (.head _)), isSlice.one (hs.fact (.tail _ (.head _))), isSlice.one (hs.fact (.tail _ (.tail _ (.head _))))⟩) (fun h12 => ?_)
  obtain ⟨honev291, honev292, honev293⟩ := h12
  refine rn4 ?_
  refine Zc7 ?_;intro b7
  refine s_B (cs := [v29.1, v29.2.1, v29.2.2.1]) Try.sizeOf33 ?_
  refine Gb2 ?_
  refine rn3 ?_
  refine Fd ?_
  refine Zay ?_
  refine Ao Try.call37 rfl (fun w hs => by have h8 := Agn (x := (Au X).1) hs mm mm (by omega) (by omega) honev293; rw [hsc] at h8; exact h8) ?_; intro _
  refine rn6 ?_
  refine gy ?_
  refine Ao Try.call33 rfl (fun w hs => M0 hs (by omega)) ?_; intro _
  refine gy ?_
  refine Dm ?_
  refine Gc1 ?_
  refine kp [4, 5, 8, 10, 49] ?_
  refine Aa ?_
  refine Ago vi (.int .i64) ?_; intro bm
  refine ZaA ?_
  refine Bx (γ := Nat × (Int → Option Value)) (fun g => g.1 ≤ (Au X).2.1.length ∧ ∀ q, (g.2 q).getD (vi 0) = vi ((Ej ((Au X).2.1.take g.1) q).length : Int)) (fun g => Aff vi (.int .i64) bm g.2 :: blk b5 33 [v20.1, v20.2.1, v20.2.2.1] :: L) (fun _ => sl v29.2.2.2 (Au X).2.1 :: sl v20.1 X.cores :: sl v20.2.1 X.home :: sl v20.2.2.1 X.frames :: R) (fun g => [(5, bp b5 0), (10, .map (some bm)), (50, v29.2.2.2), (51, vi ((Au X).2.1.length : Int)), (52, vi (g.1 : Int))]) (fun g => (Au X).2.1.length - g.1) (0, fun _ => none) ⟨Nat.zero_le _, fun q => rfl⟩ alT (fun w hs => Ai hs) ?_
  rintro ⟨j, f⟩ ⟨hj, hf⟩
  try simp only at hj hf ⊢
  refine ZE ?_
  refine cdy ?_ ?_
  ·intro ht53
   refine Gl ?_
   have hdi := Ajk hI (by decide) hTI (j := j) (by omega)
   refine JC.open0 (xs := (Au X).2.1) (v := v29.2.2.2) j mm (by omega) (fun hdw => ?_)
   refine ZA ?_
   refine al_ (cs := zDone.cells) Try.zeroValue66 ?_; intro b12
   refine s_B (cs := ((Au X).2.1.getD j zDone).cells) Try.sizeOf66 ?_
   refine Gl ?_
   refine Kj (x := X) (v := v20.1) ((Au X).2.1.getD j zDone).core mm hdi.1.1 hdi.1.2 (fun hwt ue => ?_)
   refine Zbn ?_
   refine dn5 ?_
   refine dj (dgy ?_)
   refine ZbW ?_
   refine Zae ?_
   refine dn9 ?_
   refine dj (dgy ?_)
   refine dc (fun _ _ => X1 rfl rfl (ag_Op ((Au X).2.1.getD j zDone).op (Aq X ((Au X).2.1.getD j zDone).core).wait _) (Akb (x := ((Au X).2.1.getD j zDone).op) (y := (Aq X ((Au X).2.1.getD j zDone).core).wait) hdi.2)) ?_
   refine djf ?_
   refine dnl ?_; intro ρ
   refine Glc ?_
   have hdn := Wo (Au X).2.1 ((Au X).2.1.getD j zDone).core j
   refine kp [4, 5, 10, 12, 50, 51, 52, 53, 54, 55, 56, 57, 58, 59, 60, 61, 62, 63, 64, 65, 66, 67, 68, 69, 70, 71, 72, 73, 74, 75, 76, 77, 78, 79, 80, 81, 82, 83] ?_
   refine ZI ?_
   refine Ph (kv := vi) (d := (.int .i64)) ((Au X).2.1.getD j zDone).core Try.underlying78 Try.underlying3 Try.zeroValue3 rfl rfl rfl pkk ?_
   rw [hf ((Au X).2.1.getD j zDone).core]
   refine rn1 ?_
   refine Abp (kv := vi) (d := (.int .i64)) ((Au X).2.1.getD j zDone).core vi_inj Try.underlying78 Try.underlying3 rfl rfl rfl rfl pkk ?_
   refine ZD ?_
   refine Bb (j + 1, Aeu f ((Au X).2.1.getD j zDone).core (vi (((Ej ((Au X).2.1.take j) ((Au X).2.1.getD j zDone).core).length : Int) + 1))) ⟨by show j + 1 ≤ (Au X).2.1.length; omega, Adt (by omega) hf⟩ (by show (Au X).2.1.length - (j + 1) < (Au X).2.1.length - j; omega) alT (fun w hs => Ai hs)
  ·intro ht53
   refine Gl ?_
   have hjl : j = (Au X).2.1.length := by omega
   rw [hjl, List.take_length] at hf
   refine Aa ?_
   refine Ga4 ?_
   refine Bx (γ := Nat) (fun p => p ≤ X.cores.length) (fun _ => Aff vi (.int .i64) bm f :: L) (fun _ => sl v20.1 X.cores :: sl v20.2.1 X.home :: sl v20.2.2.1 X.frames :: R) (fun p => [(10, .map (some bm)), (86, v20.1), (87, vi (X.cores.length : Int)), (88, vi (p : Int))]) (fun p => X.cores.length - p) 0 (Nat.zero_le _) alT (fun w hs => Ai hs) ?_
   intro p hp
   refine ZE ?_
   refine cdy ?_ ?_
   ·intro ht89
    refine Gl ?_
    refine L6 p (x := X) (v := v20.1) mm (by omega) (fun hwt ue honeue => ?_)
    have hct := Adn hI (by decide) hTI (p := p) (by omega)
    refine ZI ?_
    refine al_ (cs := [.slice none 0 0, vi 0, vi 0, vi 0]) Try.zeroValue57 ?_; intro b14
    refine rn1 ?_
    refine s_B (cs := Core.cells ue (cor X p)) Try.sizeOf57 ?_
    refine Gl ?_
    rcases (show ((cor X p).wait.kind ≠ 0) ∨ ((cor X p).wait.kind = 0) from by omega) with hc | hc
    ·rw [if_pos hc] at hct
     refine ZI ?_
     refine Kk ?_
     refine ZdP ?_
     refine ZR ?_
     refine As ?_
     refine Gc7 ?_
     exact Zgi
    ·rw [if_neg (fun h => h hc)] at hct
     refine ZI ?_
     refine K5 ?_
     refine rn10 ?_
     refine gy ?_
     refine Cs ?_
     refine ZdP ?_
     refine Gc2 ?_
     exact Zgi
   ·intro ht89
    refine ZE ?_
    exact Co ()
end Go.Proofs.Ytehpekiedfpnkaa
