/- This file proves parts of what its law needs: each part is told ahead of it. No conditions. -/
import Derived.Test.YtbigiimomnfpdaaGreatKM5
import Derived.Test.YtbigiimomnfpdaaGreatKM3
import Derived.Test.YtbigiimomnfpdaaGreatKM4
set_option linter.unusedVariables false
set_option linter.unusedSimpArgs false
set_option maxHeartbeats 1000000
set_option maxRecDepth 8000
namespace Go.Proofs.YtbigiimomnfpdaaGreat
open Go
variable {L : List Chunk} {R : List Fact} {w : World}
theorem Zf {n nl : Nat} {M : List Int} {cv hv fv : Value} {x : Chip} {s : Step} (hs : St (L) R w) (hc : sl cv x.cores ∈ R) (hh : sl hv x.home ∈ R) (hf : sl fv x.frames ∈ R) (h : Inv n nl x M) (hsw : s.wf) (hk : s.kind = 1) : Calls Tryz.prog 10 [.agg #[cv, hv, fv], .agg s.cells.toArray].toArray w (Bt (fun v : Value × Value × Value × Value => .tuple #[.agg #[v.1, v.2.1, v.2.2.1], v.2.2.2, vi (Al x s).2.2]) (fun v => L) (fun v => sl v.1 (Al x s).1.cores :: sl v.2.1 (Al x s).1.home :: sl v.2.2.1 (Al x s).1.frames :: sl v.2.2.2 (Al x s).2.1 :: R)) := by
 refine ZaZ ?_;intro hn hnl hnc hnh hfr honec honeh honef hsw0 hop hsn hsN hsb hn64 hcw
 clear hs
 refine Zbm ?_;intro b2 b3 b4
 refine Za1 ?_
 rcases (show (s.node < 0) ∨ (0 ≤ s.node ∧ (x.cores.length : Int) ≤ s.node) ∨ (0 ≤ s.node ∧ s.node < (x.cores.length : Int)) from by omega) with hc | hc | hc
 ·refine ZX ?_
  refine Gc6 ?_
  exact Zfy
 ·refine Zad ?_
  refine ZO ?_
  refine G5 ?_
  refine Gc1 ?_
  exact Zfy
 ·refine Zad ?_
  refine ZO ?_
  refine Dg ?_
  refine Gc1 ?_
  refine ZcU ?_;intro hwt u hkb hlb hk4
  refine Ze1 ?_
  refine jd_ (fun ρ S => blk b2 30 [cv, hv, fv] :: blk b3 38 s.cells :: blk b4 30 [.slice none 0 0, .slice none 0 0, .slice none 0 0] :: ((bif S 17 then [blk (Gh.dec (γ := Nat) (ρ 17)) 57 (bif S 18 then [(Gh.dec (γ := Value × Value × Value) (ρ 11)).1, vi (Aj (As x s.node) s.node (x.cores.length : Int) s.op).1.wait.kind, vi (Aj (As x s.node) s.node (x.cores.length : Int) s.op).1.wait.line, vi (Aj (As x s.node) s.node (x.cores.length : Int) s.op).1.wait.value] else [.slice none 0 0, vi 0, vi 0, vi 0])] else []) ++ (L))) ?_
  refine Adg ?_
  refine Bu (γ := Value × Value × Value) (val := fun v => .tuple #[.agg (Core.cells v.1 (Aj (As x s.node) s.node (x.cores.length : Int) s.op).1).toArray, v.2.1, v.2.2, vi (Aj (As x s.node) s.node (x.cores.length : Int) s.op).2.2.2]) (F := fun v => [sl v.1 (Aj (As x s.node) s.node (x.cores.length : Int) s.op).1.lines, sl v.2.1 (Aj (As x s.node) s.node (x.cores.length : Int) s.op).2.1, sl v.2.2 (Aj (As x s.node) s.node (x.cores.length : Int) s.op).2.2.1]) Tryz.call19 (fun _ => rfl) (fun ρ L R w hd hs => Zi (c := (As x s.node)) (id := s.node) (home := (x.cores.length : Int)) (q := s.op) (u := u) hs (hd.base mm) hkb hsn hn64 hop) (fun ρ g S hS hA => by have u17 : upS S 11 17 = S 17 := rfl; have u18 : upS S 11 18 = S 18 := rfl; have r17 : Rho.set ρ 11 g 17 = ρ 17 := rfl; have h18 : S 18 = false := hA 18 ⟨0, rfl⟩; simp only [u17, u18, r17, h18, cond_false]) ?_
  refine e_p (v := fun ρ => .tuple #[.agg (Core.cells (Gh.dec (γ := Value × Value × Value) (ρ 11)).1 (Aj (As x s.node) s.node (x.cores.length : Int) s.op).1).toArray, (Gh.dec (γ := Value × Value × Value) (ρ 11)).2.1, (Gh.dec (γ := Value × Value × Value) (ρ 11)).2.2, vi (Aj (As x s.node) s.node (x.cores.length : Int) s.op).2.2.2]) (fun _ _ => Pi) (Ind.gh (h := fun g => (.tuple #[.agg (Core.cells (Gh.dec (γ := Value × Value × Value) g).1 (Aj (As x s.node) s.node (x.cores.length : Int) s.op).1).toArray, (Gh.dec (γ := Value × Value × Value) g).2.1, (Gh.dec (γ := Value × Value × Value) g).2.2, vi (Aj (As x s.node) s.node (x.cores.length : Int) s.op).2.2.2] : Value)) 11 0 rfl) (fun _ _ _ _ _ => rfl) ?_
  refine e_p (v := fun ρ => .agg (Core.cells (Gh.dec (γ := Value × Value × Value) (ρ 11)).1 (Aj (As x s.node) s.node (x.cores.length : Int) s.op).1).toArray) (fun _ _ => q_x) (Ind.gh (h := fun g => (.agg (Core.cells (Gh.dec (γ := Value × Value × Value) g).1 (Aj (As x s.node) s.node (x.cores.length : Int) s.op).1).toArray : Value)) 11 1 rfl) (fun _ _ _ _ _ => rfl) ?_
  refine e_p (v := fun ρ => (Gh.dec (γ := Value × Value × Value) (ρ 11)).2.1) (fun _ _ => q_x) (Ind.gh (h := fun g => ((Gh.dec (γ := Value × Value × Value) g).2.1 : Value)) 11 1 rfl) (fun _ _ _ _ _ => rfl) ?_
  refine e_p (v := fun ρ => (Gh.dec (γ := Value × Value × Value) (ρ 11)).2.2) (fun _ _ => q_x) (Ind.gh (h := fun g => ((Gh.dec (γ := Value × Value × Value) g).2.2 : Value)) 11 1 rfl) (fun _ _ _ _ _ => rfl) ?_
  refine Ze4 ?_
  refine Hr (cs := [.slice none 0 0, vi 0, vi 0, vi 0]) Tryz.zeroValue57 rfl (fun ρ b S hS hA => ?_) ?_
  ·have ui : upS S 17 17 = true := rfl; have u18 : upS S 17 18 = S 18 := rfl; have r11 : Rho.set ρ 17 (Gh.enc b) 11 = ρ 11 := rfl; have h18 : S 18 = false := hA 18 ⟨0, rfl⟩; have rs : (Gh.dec (γ := Nat) (Rho.set ρ 17 (Gh.enc b) 17)) = b := rfl
   simp only [ui, hS, u18, r11, h18, rs, cond_true, cond_false, List.nil_append]
   exact ZeS
  refine es_ 57 0 [17] [] (fun ρ => (Gh.dec (γ := Nat) (ρ 17))) (fun ρ => [.slice none 0 0, vi 0, vi 0, vi 0]) (fun ρ => [(Gh.dec (γ := Value × Value × Value) (ρ 11)).1, vi (Aj (As x s.node) s.node (x.cores.length : Int) s.op).1.wait.kind, vi (Aj (As x s.node) s.node (x.cores.length : Int) s.op).1.wait.line, vi (Aj (As x s.node) s.node (x.cores.length : Int) s.op).1.wait.value]) Tryz.sizeOf57 (h1 := (fun ρ R w L' hd hs => Bl (isSlice.one (hs.fact (hd.dep (it := ⟨11, _, _, _, _⟩) (by repeat (first | exact List.Mem.head _ | refine List.Mem.tail _ ?_)) ⟨9, rfl⟩ (List.Mem.head _)))) (by repeat (first | exact Dw | refine Bl rfl ?_)))) ?_
  refine e_p (v := fun ρ => (Gh.dec (γ := Value × Value × Value) (ρ 11)).2.1) (fun _ _ => Da) (Ind.gh (h := fun g => ((Gh.dec (γ := Value × Value × Value) g).2.1 : Value)) 11 0 rfl) (fun _ _ _ _ _ => rfl) ?_
  refine e_p (v := fun ρ => (Gh.dec (γ := Value × Value × Value) (ρ 11)).2.2) (fun _ _ => Da) (Ind.gh (h := fun g => ((Gh.dec (γ := Value × Value × Value) g).2.2 : Value)) 11 0 rfl) (fun _ _ _ _ _ => rfl) ?_
  refine Jr (v := vi (Aj (As x s.node) s.node (x.cores.length : Int) s.op).2.2.2) (fun _ _ => Da) (fun _ _ _ _ _ => rfl) ?_
  refine dnl ?_; intro ρ
  refine xq_ (blk b2 30 [cv, hv, fv] :: blk b3 38 s.cells :: blk b4 30 [.slice none 0 0, .slice none 0 0, .slice none 0 0] :: (blk (Gh.dec (γ := Nat) (ρ 17)) 57 [(Gh.dec (γ := Value × Value × Value) (ρ 11)).1, vi (Aj (As x s.node) s.node (x.cores.length : Int) s.op).1.wait.kind, vi (Aj (As x s.node) s.node (x.cores.length : Int) s.op).1.wait.line, vi (Aj (As x s.node) s.node (x.cores.length : Int) s.op).1.wait.value] :: L)) ?_
  generalize (Gh.dec (γ := Value × Value × Value) (ρ 11)) = v65
  generalize (Gh.dec (γ := Nat) (ρ 17)) = b9
  refine Gl ?_
  refine kp [2, 3, 4, 5, 6, 7, 8, 9, 10, 11, 12, 31, 70, 71] ?_
  refine ZQ ?_
  refine cdy ?_ ?_
  ·intro ht71
   refine Gl ?_
   refine Zaf ?_
   refine ZD ?_
   refine By (caps := []) (vs := [vi (Aj (As x s.node) s.node (x.cores.length : Int) s.op).2.2.2]) rfl Tryz.call18 rfl (fun w hs => Kk hs) ?_; intro _
   refine rn3 ?_
   refine ZaI ?_
   have er : Al x s = (zChip, [], (Aj (As x s.node) s.node (x.cores.length : Int) s.op).2.2.2) := by unfold Al Bk; rw [if_pos (by omega), if_neg (by omega), if_pos ht71]
   rw [er]
   exact Cj (.slice none 0 0, .slice none 0 0, .slice none 0 0, .slice none 0 0) Tryz.isAgg30 Tryz.sizeOf30
  ·intro ht71
   refine Zal ?_
   refine An Tryz.call20 rfl (fun w hs => Me (x := x) (i := s.node) (k := (Aj (As x s.node) s.node (x.cores.length : Int) s.op).1) (u := v65.1) hs mm honeh honef mm (N6 hop) (by omega)) ?_; intro v82
   refine J.know (p := v82.oneCell' = true) (fun w hs => isSlice.one (hs.fact (List.Mem.head _))) (fun honev82 => ?_)
   refine s_B (cs := [v82, hv, fv]) Tryz.sizeOf30 ?_
   refine Zah ?_
   refine An Tryz.call21 rfl (fun w hs => Pt (fs := x.frames) (ms := (Aj (As x s.node) s.node (x.cores.length : Int) s.op).2.1) hs mm mm (Tr (by omega) (by omega) hk4 hlb)) ?_; intro v86
   refine J.know (p := v86.oneCell' = true) (fun w hs => isSlice.one (hs.fact (List.Mem.head _))) (fun honev86 => ?_)
   refine ZG ?_
   refine ZK ?_
   refine s_B (cs := [v82, hv, v86]) Tryz.sizeOf30 ?_
   refine Ga2 ?_
   have er : Al x s = (Dd x s.node (Aj (As x s.node) s.node (x.cores.length : Int) s.op).1 (Aj (As x s.node) s.node (x.cores.length : Int) s.op).2.1, (Aj (As x s.node) s.node (x.cores.length : Int) s.op).2.2.1, 0) := by unfold Al Bk; rw [if_pos (by omega), if_neg (by omega), if_neg ht71]
   rw [er]
   exact Cj (v82, hv, v86, v65.2.2) Tryz.isAgg30 Tryz.sizeOf30
theorem Zg {n nl : Nat} {M : List Int} {cv hv fv : Value} {x : Chip} {s : Step} (hs : St (L) R w) (hc : sl cv x.cores ∈ R) (hh : sl hv x.home ∈ R) (hf : sl fv x.frames ∈ R) (h : Inv n nl x M) (hsw : s.wf) (hk : s.kind ≠ 1 ∧ s.kind ≠ 2 ∧ s.kind ≠ 3 ∧ s.kind ≠ 4 ∧ s.kind ≠ 5 ∧ s.kind ≠ 6) : Calls Tryz.prog 10 [.agg #[cv, hv, fv], .agg s.cells.toArray].toArray w (Bt (fun v : Value × Value × Value × Value => .tuple #[.agg #[v.1, v.2.1, v.2.2.1], v.2.2.2, vi (Al x s).2.2]) (fun v => L) (fun v => sl v.1 (Al x s).1.cores :: sl v.2.1 (Al x s).1.home :: sl v.2.2.1 (Al x s).1.frames :: sl v.2.2.2 (Al x s).2.1 :: R)) := by
 refine ZaZ ?_;intro hn hnl hnc hnh hfr honec honeh honef hsw0 hop hsn hsN hsb hn64 hcw
 clear hs
 refine Zbm ?_;intro b2 b3 b4
 refine ZF ?_
 refine ZF ?_
 refine Zds ?_
 refine Zaf ?_
 refine ZB ?_
 refine By (caps := []) (vs := [vi 1]) rfl Tryz.call18 rfl (fun w hs => Kk hs) ?_; intro _
 refine rn3 ?_
 refine ZaI ?_
 have er : Al x s = (zChip, [], 1) := by unfold Al; rw [if_neg (by omega), if_neg (by omega), if_neg (by omega), if_neg (by omega), if_neg (by omega), if_neg (by omega)]
 rw [er]
 exact Cj (.slice none 0 0, .slice none 0 0, .slice none 0 0, .slice none 0 0) Tryz.isAgg30 Tryz.sizeOf30
theorem Za {n nl : Nat} {M : List Int} {cv hv fv : Value} {x : Chip} {s : Step} (hs : St (L) R w) (hc : sl cv x.cores ∈ R) (hh : sl hv x.home ∈ R) (hf : sl fv x.frames ∈ R) (h : Inv n nl x M) (hsw : s.wf) (hk : s.kind = 6) : Calls Tryz.prog 10 [.agg #[cv, hv, fv], .agg s.cells.toArray].toArray w (Bt (fun v : Value × Value × Value × Value => .tuple #[.agg #[v.1, v.2.1, v.2.2.1], v.2.2.2, vi (Al x s).2.2]) (fun v => L) (fun v => sl v.1 (Al x s).1.cores :: sl v.2.1 (Al x s).1.home :: sl v.2.2.1 (Al x s).1.frames :: sl v.2.2.2 (Al x s).2.1 :: R)) := by
 refine ZaZ ?_;intro hn hnl hnc hnh hfr honec honeh honef hsw0 hop hsn hsN hsb hn64 hcw
 clear hs
 refine Zbm ?_;intro b2 b3 b4
 refine ZF ?_
 refine Za1 ?_
 rcases (show (s.node < 0) ∨ (0 ≤ s.node ∧ (x.cores.length : Int) < s.node) ∨ (0 ≤ s.node ∧ s.node < (x.cores.length : Int)) ∨ (s.node = (x.cores.length : Int)) from by omega) with hc | hc | hc | hc
 ·refine ZX ?_
  refine Gc6 ?_
  exact Zf3
 ·refine Zad ?_
  refine ZO ?_
  refine Fp ?_
  refine Gc1 ?_
  exact Zf3
 ·refine Zad ?_
  refine ZO ?_
  refine D2 ?_
  refine Gd1 ?_
  refine rn3 ?_
  refine D8 ?_
  refine Glc ?_
  refine ZcU ?_;intro hwt u hkb hlb hk4
  refine Ze1 ?_
  refine jd_ (fun ρ S => blk b2 30 (bif S 14 then [cv, hv, (Gh.dec (γ := Value) (ρ 12))] else [cv, hv, fv]) :: blk b3 38 s.cells :: blk b4 30 [.slice none 0 0, .slice none 0 0, .slice none 0 0] :: L) ?_
  refine dn1 ?_
  refine H4 (v := fv) (fun ρ S hS hB hA => by have h14 : S 14 = false := hA 14 ⟨0, rfl⟩; simp only [h14, cond_false]; exact Cx (hc := A0 pkk (by repeat (first | exact rfl | refine C4 rfl ?_))) Tryz.isAgg28) (fun _ _ _ _ _ => rfl) ?_
  refine dn1 ?_
  refine H4 (v := cv) (fun ρ S hS hB hA => by have h14 : S 14 = false := hA 14 ⟨0, rfl⟩; simp only [h14, cond_false]; exact Cx (hc := A0 pkk (by repeat (first | exact rfl | refine C4 rfl ?_))) Tryz.isAgg26) (fun _ _ _ _ _ => rfl) ?_
  refine dn2 ?_
  first | refine epc (fun _ _ => Fn Pq) ?_ | refine epc (fun _ _ => Ic Pq) ?_ | refine epp (fun _ _ => Fn Pq) ?_ | refine epp (fun _ _ => Ic Pq) ?_
  first | refine epc (fun _ _ => Yi Tryz.isAgg57 Tryz.sizeOf57) ?_ | refine epc (fun _ _ => Fb 4 Tryz.isAgg57 Tryz.sizeOf57) ?_ | refine epc (fun _ _ => q_lNc 4 Tryz.isAgg57 Tryz.sizeOf57) ?_ | refine epc (fun _ _ => q_lNf 4 Tryz.isAgg57 Tryz.sizeOf57) ?_ | refine epp (fun _ _ => Yi Tryz.isAgg57 Tryz.sizeOf57) ?_ | refine epp (fun _ _ => Fb 4 Tryz.isAgg57 Tryz.sizeOf57) ?_ | refine epp (fun _ _ => q_lNc 4 Tryz.isAgg57 Tryz.sizeOf57) ?_ | refine epp (fun _ _ => q_lNf 4 Tryz.isAgg57 Tryz.sizeOf57) ?_
  refine dn3 ?_
  refine Bu (γ := Value) (val := fun v => v) (F := fun v => [sl v (Dl (As x s.node) s.node (x.cores.length : Int))]) Tryz.call22 (fun _ => rfl) (fun ρ L R w hd hs => P1 (c := (As x s.node)) (id := s.node) (home := (x.cores.length : Int)) (u := u) hs (hd.base mm) hsn hn64) (fun _ _ _ _ _ => rfl) ?_
  refine Bu (γ := Value) (val := fun v => v) (F := fun v => [sl v (way x.frames (Dl (As x s.node) s.node (x.cores.length : Int)))]) Tryz.call21 (fun _ => rfl) (fun ρ L R w hd hs => Pt (fs := x.frames) (ms := (Dl (As x s.node) s.node (x.cores.length : Int))) hs (hd.base mm) (hd.dep (it := ⟨11, _, _, _, _⟩) (by repeat (first | exact List.Mem.head _ | refine List.Mem.tail _ ?_)) ⟨9, rfl⟩ (List.Mem.head _)) (Ob (by omega) (by omega) _ 0 (by omega) (by omega) (Te (d := zLine) hlb))) (fun ρ g S hS hA => by have u14 : upS S 12 14 = S 14 := rfl; have h14 : S 14 = false := hA 14 ⟨0, rfl⟩; simp only [u14, h14, cond_false]) ?_
  refine dn1 ?_
  refine D9 (T0 := 30) (f := 2) (vs := fun ρ => [cv, hv, fv]) (v := fun ρ => (Gh.dec (γ := Value) (ρ 12))) (fun ρ => b2) Tryz.sizeOf28 (fun _ => rfl) (fun _ => rfl) (fun ρ S R w L9 hB hd hs => isSlice.one (hs.fact (hd.dep (it := ⟨12, _, _, _, _⟩) (by repeat (first | exact List.Mem.head _ | refine List.Mem.tail _ ?_)) ⟨9, rfl⟩ (List.Mem.head _)))) (fun _ => rfl) (fun ρ g S hS hB hA => ?_) ?_
  ·have ui : upS S 14 14 = true := rfl; have r12 : Rho.set ρ 14 g 12 = ρ 12 := rfl
   simp only [ui, hS, r12, cond_true, cond_false]
   exact pex
  refine dnl ?_; intro ρ
  refine xq_ (blk b2 30 [cv, hv, (Gh.dec (γ := Value) (ρ 12))] :: blk b3 38 s.cells :: blk b4 30 [.slice none 0 0, .slice none 0 0, .slice none 0 0] :: L) ?_
  generalize (Gh.dec (γ := Value) (ρ 11)) = v121
  generalize (Gh.dec (γ := Value) (ρ 12)) = v122
  refine Gl ?_
  refine ZJ ?_
  refine JC.know (p := v122.oneCell' = true) (fun w hs => isSlice.one (hs.fact (mm (f := sl v122 (way x.frames (Dl (As x s.node) s.node (x.cores.length : Int))))))) (fun honev122 => ?_)
  refine kp [2, 3, 4, 5, 6, 7, 8, 31, 124] ?_
  refine ZB ?_
  refine s_B (cs := [cv, hv, v122]) Tryz.sizeOf30 ?_
  refine Ga2 ?_
  have er : Al x s = (⟨x.cores, x.home, way x.frames (Dl (As x s.node) s.node (x.cores.length : Int))⟩, [], 0) := by unfold Al Bk; rw [if_neg (by omega), if_neg (by omega), if_neg (by omega), if_neg (by omega), if_neg (by omega), if_pos (by omega)]; rw [if_neg (by omega), if_neg (by omega)]
  rw [er]
  exact Cj (cv, hv, v122, .slice none 0 0) Tryz.isAgg30 Tryz.sizeOf30
 ·refine Zad ?_
  refine ZO ?_
  refine D2 ?_
  refine Gd1 ?_
  refine rn3 ?_
  refine Ba ?_
  refine Glc ?_
  have hnode : s.node = (x.cores.length : Int) := by omega
  refine ZaX ?_
  refine Be (γ := Nat × Value) (fun g => g.1 ≤ x.home.length) (fun g => blk b2 30 [cv, hv, g.2] :: blk b3 38 s.cells :: blk b4 30 [.slice none 0 0, .slice none 0 0, .slice none 0 0] :: L) (fun g => sl g.2 (way x.frames (Cz (x.cores.length : Int) 0 (x.home.take g.1))) :: R) (fun g => [(2, bp b2 0), (3, bp b3 0), (4, bp b4 0), (8, vi (x.cores.length : Int)), (126, hv), (127, vi (x.home.length : Int)), (128, vi (g.1 : Int))]) (fun g => x.home.length - g.1) (0, fv) (Nat.zero_le _) alT (fun w hs => Ag (Acp hs hf)) ?_
  rintro ⟨k, vf⟩ hk
  try simp only at hk ⊢
  refine Gl ?_
  refine kp [2, 3, 4, 5, 6, 7, 8, 31, 126, 127, 128, 129] ?_
  refine ZY ?_
  refine cdy ?_ ?_
  ·intro ht129
   refine Gl ?_
   refine Lp (l := x.home) (v := hv) k mm (by omega) (fun _ ue => ?_)
   refine JC.know (p := ue.oneCell' = true) (fun w hs => isSlice.one (hs.fact (.tail _ (.head _)))) (fun honeu => ?_)
   refine ZL ?_
   refine al_ (cs := zEC) Tryz.zeroValue62 ?_; intro b14
   refine rn1 ?_
   refine s_B (cs := Entry.cells ue (x.home.getD k Az)) Tryz.sizeOf62 ?_
   refine Gl ?_
   refine cq_ (blk b2 30 [cv, hv, vf] :: blk b14 62 (Entry.cells ue (x.home.getD k Az)) :: blk b3 38 s.cells :: blk b4 30 [.slice none 0 0, .slice none 0 0, .slice none 0 0] :: L) ?_
   refine jd_ (fun ρ S => blk b2 30 (bif S 8 then [cv, hv, (Gh.dec (γ := Value) (ρ 6))] else [cv, hv, vf]) :: blk b14 62 (Entry.cells ue (x.home.getD k Az)) :: blk b3 38 s.cells :: blk b4 30 [.slice none 0 0, .slice none 0 0, .slice none 0 0] :: L) ?_
   refine dn1 ?_
   refine H4 (v := vf) (fun ρ S hS hB hA => by have h8 : S 8 = false := hA 8 ⟨0, rfl⟩; simp only [h8, cond_false]; exact Cx (hc := A0 pkk (by repeat (first | exact rfl | refine C4 rfl ?_))) Tryz.isAgg28) (fun _ _ _ _ _ => rfl) ?_
   refine dn3 ?_
   refine Bu (γ := Value) (val := fun v => v) (F := fun v => [sl v (Fk (x.home.getD k Az) (k : Int) (x.cores.length : Int))]) Tryz.call23 (fun _ => rfl) (fun ρ L R w hd hs => H9 (e := (x.home.getD k Az)) (line := (k : Int)) (id := (x.cores.length : Int)) (u := ue) hs (h.ebs k (by omega)).1 honeu (by unfold Ao; omega) hn64) (fun _ _ _ _ _ => rfl) ?_
   refine Bu (γ := Value) (val := fun v => v) (F := fun v => [sl v (way (way x.frames (Cz (x.cores.length : Int) 0 (x.home.take k))) (Fk (x.home.getD k Az) (k : Int) (x.cores.length : Int)))]) Tryz.call21 (fun _ => rfl) (fun ρ L R w hd hs => Pt (fs := way x.frames (Cz (x.cores.length : Int) 0 (x.home.take k))) (ms := Fk (x.home.getD k Az) (k : Int) (x.cores.length : Int)) hs (hd.base mm) (hd.dep (it := ⟨5, _, _, _, _⟩) (by repeat (first | exact List.Mem.head _ | refine List.Mem.tail _ ?_)) ⟨9, rfl⟩ (List.Mem.head _)) (by rw [hnc]; exact h.says_in k (by omega))) (fun ρ g S hS hA => by have u8 : upS S 6 8 = S 8 := rfl; have h8 : S 8 = false := hA 8 ⟨0, rfl⟩; simp only [u8, h8, cond_false]) ?_
   refine dn1 ?_
   refine D9 (T0 := 30) (f := 2) (vs := fun ρ => [cv, hv, vf]) (v := fun ρ => (Gh.dec (γ := Value) (ρ 6))) (fun ρ => b2) Tryz.sizeOf28 (fun _ => rfl) (fun _ => rfl) (fun ρ S R w L9 hB hd hs => isSlice.one (hs.fact (hd.dep (it := ⟨6, _, _, _, _⟩) (by repeat (first | exact List.Mem.head _ | refine List.Mem.tail _ ?_)) ⟨9, rfl⟩ (List.Mem.head _)))) (fun _ => rfl) (fun ρ g S hS hB hA => ?_) ?_
   ·have ui : upS S 8 8 = true := rfl; have r6 : Rho.set ρ 8 g 6 = ρ 6 := rfl
    simp only [ui, hS, r6, cond_true, cond_false]
    exact pex
   refine dnl ?_; intro ρ
   refine xq_ (blk b2 30 [cv, hv, (Gh.dec (γ := Value) (ρ 6))] :: blk b14 62 (Entry.cells ue (x.home.getD k Az)) :: blk b3 38 s.cells :: blk b4 30 [.slice none 0 0, .slice none 0 0, .slice none 0 0] :: L) ?_
   generalize (Gh.dec (γ := Value) (ρ 5)) = v138
   generalize (Gh.dec (γ := Value) (ρ 6)) = v139
   refine ZC ?_
   refine Aw (k + 1, v139) (by show k + 1 ≤ x.home.length; omega) (by show x.home.length - (k + 1) < x.home.length - k; omega) alT (fun w hs => ?_)
   try simp only
   rw [E1 Az (by omega), Hh, Ir, List.length_take, Nat.min_eq_left (by omega), Int.zero_add]; exact Ag hs
  ·intro ht129
   refine Gl ?_
   refine ZJ ?_
   refine JC.know (p := vf.oneCell' = true) (fun w hs => isSlice.one (hs.fact (mm (f := sl vf (way x.frames (Cz (x.cores.length : Int) 0 (x.home.take k))))))) (fun honevf => ?_)
   refine ZB ?_
   refine s_B (cs := [cv, hv, vf]) Tryz.sizeOf30 ?_
   refine Ga2 ?_
   have er : Al x s = (⟨x.cores, x.home, way x.frames (Cz (x.cores.length : Int) 0 (x.home.take k))⟩, [], 0) := by unfold Al Bk; rw [if_neg (by omega), if_neg (by omega), if_neg (by omega), if_neg (by omega), if_neg (by omega), if_pos (by omega)]; rw [if_neg (by omega), if_pos (by omega), List.take_of_length_le (by omega), hnode]; rfl
   rw [er]
   exact Cj (cv, hv, vf, .slice none 0 0) Tryz.isAgg30 Tryz.sizeOf30
theorem Zc {n nl : Nat} {M : List Int} {cv hv fv : Value} {x : Chip} {s : Step} (hs : St (L) R w) (hc : sl cv x.cores ∈ R) (hh : sl hv x.home ∈ R) (hf : sl fv x.frames ∈ R) (h : Inv n nl x M) (hsw : s.wf) (hk : s.kind = 4) : Calls Tryz.prog 10 [.agg #[cv, hv, fv], .agg s.cells.toArray].toArray w (Bt (fun v : Value × Value × Value × Value => .tuple #[.agg #[v.1, v.2.1, v.2.2.1], v.2.2.2, vi (Al x s).2.2]) (fun v => L) (fun v => sl v.1 (Al x s).1.cores :: sl v.2.1 (Al x s).1.home :: sl v.2.2.1 (Al x s).1.frames :: sl v.2.2.2 (Al x s).2.1 :: R)) := by
 refine ZaZ ?_;intro hn hnl hnc hnh hfr honec honeh honef hsw0 hop hsn hsN hsb hn64 hcw
 clear hs
 refine Zbm ?_;intro b2 b3 b4
 refine ZaR ?_
 refine Gc1 ?_
 rcases (show (Cn x s.n) ∨ (¬ Cn x s.n) from by exact Classical.em _) with hc | hc
 ·exact ZeD
 ·have hnf := hc
  unfold Cn at hc
  refine Zcm ?_;intro et
  refine An (γ := Value × Value) (val := fun v => .tuple #[v.1, v.2, vi 0]) (Rf := fun v => sl v.1 (x.frames.eraseIdx s.n.toNat) :: sl v.2 (Ay x.frames s.n) :: R) Tryz.call24 rfl (fun w hs => by have h9 := H7 (l := x.frames) (n := s.n) hs mm hsN; rw [et] at h9; exact h9) ?_; intro ⟨va, vb⟩
  refine Zdq ?_
  refine Gb2 ?_
  refine Cf ?_
  refine Gd1 ?_
  refine rn3 ?_
  refine An Tryz.call25 rfl (fun w hs => Vy (l := x.frames) (b := (Ay x.frames s.n)) hs mm mm) ?_; intro v172
  refine J.know (p := v172.oneCell' = true) (fun w hs => isSlice.one (hs.fact (List.Mem.head _))) (fun honev172 => ?_)
  refine ZG ?_
  refine Gl ?_
  refine ZJ ?_
  refine ZB ?_
  refine s_B (cs := [cv, hv, v172]) Tryz.sizeOf30 ?_
  refine Ga2 ?_
  have er : Al x s = (⟨x.cores, x.home, Dn x.frames (Ay x.frames s.n)⟩, [], 0) := by unfold Al; rw [if_neg (by omega), if_neg (by omega), if_neg (by omega), if_pos (by omega), if_neg hnf]
  rw [er]
  exact Cj (cv, hv, v172, .slice none 0 0) Tryz.isAgg30 Tryz.sizeOf30
theorem Zb {n nl : Nat} {M : List Int} {cv hv fv : Value} {x : Chip} {s : Step} (hs : St (L) R w) (hc : sl cv x.cores ∈ R) (hh : sl hv x.home ∈ R) (hf : sl fv x.frames ∈ R) (h : Inv n nl x M) (hsw : s.wf) (hk : s.kind = 5) : Calls Tryz.prog 10 [.agg #[cv, hv, fv], .agg s.cells.toArray].toArray w (Bt (fun v : Value × Value × Value × Value => .tuple #[.agg #[v.1, v.2.1, v.2.2.1], v.2.2.2, vi (Al x s).2.2]) (fun v => L) (fun v => sl v.1 (Al x s).1.cores :: sl v.2.1 (Al x s).1.home :: sl v.2.2.1 (Al x s).1.frames :: sl v.2.2.2 (Al x s).2.1 :: R)) := by
 refine ZaZ ?_;intro hn hnl hnc hnh hfr honec honeh honef hsw0 hop hsn hsN hsb hn64 hcw
 clear hs
 refine Zbm ?_;intro b2 b3 b4
 refine ZF ?_
 refine ZaR ?_
 refine Gc1 ?_
 rcases (show (Cn x s.n) ∨ (¬ Cn x s.n) from by exact Classical.em _) with hc | hc
 ·exact ZeD
 ·have hnf := hc
  unfold Cn at hc
  refine Zcm ?_;intro et
  refine An (γ := Value × Value) (val := fun v => .tuple #[v.1, v.2, vi 0]) (Rf := fun v => sl v.1 (x.frames.eraseIdx s.n.toNat) :: sl v.2 (Ay x.frames s.n) :: R) Tryz.call24 rfl (fun w hs => by have h9 := H7 (l := x.frames) (n := s.n) hs mm hsN; rw [et] at h9; exact h9) ?_; intro ⟨va, vb⟩
  refine Zdq ?_
  refine Gb2 ?_
  refine ZF ?_
  refine Cf ?_
  refine Gd1 ?_
  refine rn6 ?_
  refine An Tryz.call26 rfl (fun w hs => Sw (c := (Ap x)) (b := (Ay x.frames s.n)) hs mm hcw) ?_; intro _
  refine rn3 ?_
  refine al_ (cs := zMsg.cells) Tryz.zeroValue76 ?_; intro b18
  refine Zdj ?_
  refine cdy ?_ ?_
  ·intro ht188
   refine Gl ?_
   refine Zaf ?_
   refine ZB ?_
   refine By (caps := []) (vs := [vi 6]) rfl Tryz.call18 rfl (fun w hs => Kk hs) ?_; intro _
   refine rn3 ?_
   refine ZaI ?_
   have er : Al x s = (zChip, [], 6) := by unfold Al; rw [if_neg (by omega), if_neg (by omega), if_neg (by omega), if_neg (by omega), if_pos (by omega), if_neg hnf]; rw [if_pos ht188]
   rw [er]
   exact Cj (.slice none 0 0, .slice none 0 0, .slice none 0 0, .slice none 0 0) Tryz.isAgg30 Tryz.sizeOf30
  ·intro ht188
   refine Gl ?_
   have hb12 : (Ay x.frames s.n).length = 12 := (h.mi _ (J2 hc)).1
   rcases (show (s.bit < 0) ∨ (0 ≤ s.bit ∧ 8 * ((Ay x.frames s.n).length : Int) ≤ s.bit) ∨ (0 ≤ s.bit ∧ s.bit < 8 * ((Ay x.frames s.n).length : Int)) from by omega) with hc | hc | hc
   ·have esp : Cg x.frames s.n s.bit = ([], 3) := by unfold Cg; rw [if_neg (by omega), if_pos (by omega)]
    refine ZX ?_
    refine Gc8 ?_
    exact Zfs
   ·have esp : Cg x.frames s.n s.bit = ([], 3) := by unfold Cg; rw [if_neg (by omega), if_pos (by omega)]
    refine Zeu ?_
    refine G5 ?_
    refine Gc1 ?_
    exact Zfs
   ·have esp : Cg x.frames s.n s.bit = (x.frames.set s.n.toNat (Br (Ay x.frames s.n) s.bit), 0) := by unfold Cg; rw [if_neg (by omega), if_neg (by omega)]
    refine Zeu ?_
    refine Dg ?_
    refine Gc1 ?_
    refine kp [2, 3, 4, 5, 6, 8, 15, 16, 17, 20, 210, 211, 212, 213] ?_
    refine Aa ?_
    refine liO ([] : Frames) J8 rfl (fun j h => F9) ?_; intro v210
    refine rn2 ?_
    refine ap J8 (hb := fun w hs => by have : maxN = 16777216 := rfl; simp only [List.length_nil]; omega) (k := ?_); intro v213
    refine Ga1 ?_
    refine cq_ (row 71 v213 x.frames :: blk b2 30 [cv, hv, fv] :: blk b3 38 s.cells :: blk b4 30 [.slice none 0 0, .slice none 0 0, .slice none 0 0] :: L) ?_
    refine jd_ (fun ρ S => row 71 v213 (bif S 8 then (x.frames.set s.n.toNat (Br (Ay x.frames s.n) s.bit)) else x.frames) :: blk b2 30 [cv, hv, fv] :: blk b3 38 s.cells :: blk b4 30 [.slice none 0 0, .slice none 0 0, .slice none 0 0] :: L) ?_
    refine dn6 ?_
    refine Bu (γ := Value) (val := fun v => v) (F := fun v => [sl v (Br (Ay x.frames s.n) s.bit)]) Tryz.call27 (fun _ => rfl) (fun ρ L R w hd hs => Mf (b := (Ay x.frames s.n)) (bit := s.bit) hs (hd.base mm) hsb) (fun _ _ _ _ _ => rfl) ?_
    refine Jr (v := ep v213 1 s.n.toNat 0) (fun ρ S => Ic (v := v213) (len := (bif S 8 then (x.frames.set s.n.toNat (Br (Ay x.frames s.n) s.bit)) else x.frames).length) (i := s.n) Oc (hl := Dh .hd) (h0 := by omega) (h1 := by cases S 8 <;> simp <;> omega)) (fun _ _ _ _ _ => rfl) ?_
    refine Abb (T0 := 71) (v := v213) (xs := x.frames) (k := s.n.toNat) (e' := (Br (Ay x.frames s.n) s.bit)) (c := fun ρ => (Gh.dec (γ := Value) (ρ 6))) (cs := fun ρ => [(Gh.dec (γ := Value) (ρ 6))]) Tryz.sizeOf71 rfl (by omega) (fun _ => rfl) (fun _ => rfl) (fun _ h => Hb h) (fun ρ R w L' hd hs => isSlice.one (hs.fact (hd.dep (it := ⟨6, _, _, _, _⟩) (by repeat (first | exact List.Mem.head _ | refine List.Mem.tail _ ?_)) ⟨9, rfl⟩ (List.Mem.head _)))) (fun ρ R hd j hj => ⟨_, rfl, hj _ (hd.dep (it := ⟨6, _, _, _, _⟩) (by repeat (first | exact List.Mem.head _ | refine List.Mem.tail _ ?_)) ⟨9, rfl⟩ (List.Mem.head _))⟩) (fun ρ g S hS hB hA => ?_) ?_
    ·have ui : upS S 8 8 = true := rfl
     simp only [ui, hS, cond_true, cond_false]
     exact pex
    refine dnl ?_; intro ρ
    refine xq_ (row 71 v213 (x.frames.set s.n.toNat (Br (Ay x.frames s.n) s.bit)) :: blk b2 30 [cv, hv, fv] :: blk b3 38 s.cells :: blk b4 30 [.slice none 0 0, .slice none 0 0, .slice none 0 0] :: L) ?_
    generalize (Gh.dec (γ := Value) (ρ 6)) = v220
    refine Gl ?_
    refine JC.shut (v := v213) pkk ?_
    refine JC.know (p := v213.oneCell' = true) (fun w hs => isSlice.one (hs.fact (List.Mem.head _))) (fun honev213 => ?_)
    refine ZD ?_
    refine sc ?_
    refine Gl ?_
    refine ZJ ?_
    refine ZB ?_
    refine s_B (cs := [cv, hv, v213]) Tryz.sizeOf30 ?_
    refine Ga2 ?_
    have er : Al x s = (⟨x.cores, x.home, x.frames.set s.n.toNat (Br (Ay x.frames s.n) s.bit)⟩, [], 0) := by unfold Al; rw [if_neg (by omega), if_neg (by omega), if_neg (by omega), if_neg (by omega), if_pos (by omega), if_neg hnf]; rw [if_neg ht188, esp, if_neg (fun h => h rfl)]
    rw [er]
    exact Cj (cv, hv, v213, .slice none 0 0) Tryz.isAgg30 Tryz.sizeOf30
theorem Zd {n nl : Nat} {M : List Int} {cv hv fv : Value} {x : Chip} {s : Step} (hs : St (L) R w) (hc : sl cv x.cores ∈ R) (hh : sl hv x.home ∈ R) (hf : sl fv x.frames ∈ R) (h : Inv n nl x M) (hsw : s.wf) (hk : s.kind = 3) : Calls Tryz.prog 10 [.agg #[cv, hv, fv], .agg s.cells.toArray].toArray w (Bt (fun v : Value × Value × Value × Value => .tuple #[.agg #[v.1, v.2.1, v.2.2.1], v.2.2.2, vi (Al x s).2.2]) (fun v => L) (fun v => sl v.1 (Al x s).1.cores :: sl v.2.1 (Al x s).1.home :: sl v.2.2.1 (Al x s).1.frames :: sl v.2.2.2 (Al x s).2.1 :: R)) := by
 refine ZaZ ?_;intro hn hnl hnc hnh hfr honec honeh honef hsw0 hop hsn hsN hsb hn64 hcw
 clear hs
 refine Zbm ?_;intro b2 b3 b4
 refine ZF ?_
 refine Zax ?_
 refine Gc1 ?_
 rcases (show (Cn x s.n) ∨ (¬ Cn x s.n) from by exact Classical.em _) with hc | hc
 ·exact ZeD
 ·have hnf := hc
  unfold Cn at hc
  refine Zcm ?_;intro et
  refine An (γ := Value × Value) (val := fun v => .tuple #[v.1, v.2, vi 0]) (Rf := fun v => sl v.1 (x.frames.eraseIdx s.n.toNat) :: sl v.2 (Ay x.frames s.n) :: R) Tryz.call24 rfl (fun w hs => by have h9 := H7 (l := x.frames) (n := s.n) hs mm hsN; rw [et] at h9; exact h9) ?_; intro ⟨va, vb⟩
  refine Zdq ?_
  refine Zee ?_;intro honea
  refine Cf ?_
  refine Glc ?_
  refine ZJ ?_
  refine ZB ?_
  refine s_B (cs := [cv, hv, va]) Tryz.sizeOf30 ?_
  refine Ga2 ?_
  have er : Al x s = (⟨x.cores, x.home, (x.frames.eraseIdx s.n.toNat)⟩, [], 0) := by unfold Al; rw [if_neg (by omega), if_neg (by omega), if_pos (by omega), if_neg hnf]
  exact Zg8
theorem Ze {n nl : Nat} {M : List Int} {cv hv fv : Value} {x : Chip} {s : Step} (hs : St (L) R w) (hc : sl cv x.cores ∈ R) (hh : sl hv x.home ∈ R) (hf : sl fv x.frames ∈ R) (h : Inv n nl x M) (hsw : s.wf) (hk : s.kind = 2) : Calls Tryz.prog 10 [.agg #[cv, hv, fv], .agg s.cells.toArray].toArray w (Bt (fun v : Value × Value × Value × Value => .tuple #[.agg #[v.1, v.2.1, v.2.2.1], v.2.2.2, vi (Al x s).2.2]) (fun v => L) (fun v => sl v.1 (Al x s).1.cores :: sl v.2.1 (Al x s).1.home :: sl v.2.2.1 (Al x s).1.frames :: sl v.2.2.2 (Al x s).2.1 :: R)) := by
 refine ZaZ ?_;intro hn hnl hnc hnh hfr honec honeh honef hsw0 hop hsn hsN hsb hn64 hcw
 clear hs
 refine Zbm ?_;intro b2 b3 b4
 refine Zax ?_
 refine Gc1 ?_
 rcases (show (Cn x s.n) ∨ (¬ Cn x s.n) from by exact Classical.em _) with hc | hc
 ·have et : Bn x.frames s.n = ([], [], 5) := by unfold Bn; rw [if_pos (by unfold Cn at hc; exact hc)]
  refine ZE ?_
  refine An (γ := Value × Value) (val := fun v => .tuple #[v.1, v.2, vi 5]) (Rf := fun v => sl v.1 ([] : Frames) :: sl v.2 ([] : List UInt8) :: R) Tryz.call24 rfl (fun w hs => by have h9 := H7 (l := x.frames) (n := s.n) hs mm hsN; rw [et] at h9; exact h9) ?_; intro ⟨va, vb⟩
  refine Gb7 ?_
  refine rn1 ?_
  refine ZaM ?_
  refine kp [2, 3, 4, 5, 6, 7, 8, 15, 16, 17, 159, 160, 161, 162, 163, 164] ?_
  refine ZD ?_
  refine By (caps := []) (vs := [vi 5]) rfl Tryz.call18 rfl (fun w hs => Kk hs) ?_; intro _
  refine Zcw ?_;intro er
  exact Cj (.slice none 0 0, .slice none 0 0, .slice none 0 0, .slice none 0 0) Tryz.isAgg30 Tryz.sizeOf30
 ·have hnf := hc
  unfold Cn at hc
  refine Zcm ?_;intro et
  refine An (γ := Value × Value) (val := fun v => .tuple #[v.1, v.2, vi 0]) (Rf := fun v => sl v.1 (x.frames.eraseIdx s.n.toNat) :: sl v.2 (Ay x.frames s.n) :: R) Tryz.call24 rfl (fun w hs => by have h9 := H7 (l := x.frames) (n := s.n) hs mm hsN; rw [et] at h9; exact h9) ?_; intro ⟨va, vb⟩
  refine Gb7 ?_
  refine rn1 ?_
  refine ob (Am rfl rfl (C7 (by decide))) ?_
  refine Glc ?_
  refine kp [2, 3, 4, 5, 6, 7, 8, 15, 16, 17, 165, 166] ?_
  refine Aa ?_
  refine Zee ?_;intro honea
  refine Av ?_
  refine Gmc ?_
  refine rn6 ?_
  refine An Tryz.call26 rfl (fun w hs => Sw (c := (Ap x)) (b := (Ay x.frames s.n)) hs mm hcw) ?_; intro _
  refine rn3 ?_
  refine al_ (cs := zMsg.cells) Tryz.zeroValue76 ?_; intro b21
  refine Zdj ?_
  refine cdy ?_ ?_
  ·intro ht242
   refine Gl ?_
   refine ZJ ?_
   refine ZB ?_
   refine s_B (cs := [cv, hv, va]) Tryz.sizeOf30 ?_
   refine Ga2 ?_
   have er : Al x s = (⟨x.cores, x.home, (x.frames.eraseIdx s.n.toNat)⟩, [], 0) := by unfold Al; rw [if_neg (by omega), if_pos (by omega), if_neg hnf]; unfold Cl; rw [show Ap ⟨x.cores, x.home, (x.frames.eraseIdx s.n.toNat)⟩ = Ap x from rfl]; rw [if_pos ht242]
   exact Zg8
  ·intro ht242
   refine Gl ?_
   have hp0 : (Af (Ap x) (Ay x.frames s.n)).2 = 0 := Decidable.not_not.1 ht242
   have hpk := Jy (c := (Ap x)) (b := (Ay x.frames s.n)) (m := (Af (Ap x) (Ay x.frames s.n)).1) (by rw [← hp0])
   have hwk := Ip hpk.2.2.2.2.1
   have hpw : (Af (Ap x) (Ay x.frames s.n)).1.wf := by rw [hpk.2.2.2.2.2]; exact Ot _
   have ecn : (Ap x).cores = (x.cores.length : Int) := rfl
   rw [ecn] at hwk
   refine ZJ ?_
   refine ZaX ?_
   refine cdy ?_ ?_
   ·intro ht247
    refine Gl ?_
    refine kp [2, 4, 5, 6, 8, 21, 22, 23, 248, 249, 250, 251, 252, 253, 254, 255] ?_
    refine ZE ?_
    refine An Tryz.call28 rfl (fun w hs => Rr (l := x.home) (id := (x.cores.length : Int)) (m := (Af (Ap x) (Ay x.frames s.n)).1) hs mm (fun i hi => (h.ebs i hi).1) (fun i hi => (h.ebs i hi).2.2.2.2) hpw hn64) ?_; intro ⟨v253a, v253b⟩
    refine Ga5 ?_
    refine JC.know (p := v253a.oneCell' = true) (fun w hs => isSlice.one (hs.fact (mm (f := sl v253a (Ak x.home (x.cores.length : Int) (Af (Ap x) (Ay x.frames s.n)).1).1)))) (fun honeva => ?_)
    refine ZD ?_
    refine sc ?_
    refine Zah ?_
    refine An Tryz.call21 rfl (fun w hs => Pt (fs := (x.frames.eraseIdx s.n.toNat)) (ms := (Ak x.home (x.cores.length : Int) (Af (Ap x) (Ay x.frames s.n)).1).2) hs mm mm (Ms (by omega) (by omega) h.ebs hwk.2.2.2.1 hwk.2.2.2.2.2.1)) ?_; intro v261
    refine J.know (p := v261.oneCell' = true) (fun w hs => isSlice.one (hs.fact (List.Mem.head _))) (fun honev261 => ?_)
    refine ZG ?_
    refine ZI ?_
    refine s_B (cs := [cv, v253a, v261]) Tryz.sizeOf30 ?_
    refine Ga2 ?_
    have er : Al x s = (⟨x.cores, (Ak x.home (x.cores.length : Int) (Af (Ap x) (Ay x.frames s.n)).1).1, way (x.frames.eraseIdx s.n.toNat) (Ak x.home (x.cores.length : Int) (Af (Ap x) (Ay x.frames s.n)).1).2⟩, [], 0) := by unfold Al; rw [if_neg (by omega), if_pos (by omega), if_neg hnf]; unfold Cl; rw [show Ap ⟨x.cores, x.home, (x.frames.eraseIdx s.n.toNat)⟩ = Ap x from rfl]; rw [if_neg ht242, if_pos (show (Af (Ap x) (Ay x.frames s.n)).1.dst = Bk ⟨x.cores, x.home, (x.frames.eraseIdx s.n.toNat)⟩ from ht247)]; rfl
    rw [er]
    exact Cj (cv, v253a, v261, .slice none 0 0) Tryz.isAgg30 Tryz.sizeOf30
   ·intro ht247
    refine Gl ?_
    refine Lq (x := x) (v := cv) (Af (Ap x) (Ay x.frames s.n)).1.dst mm (by omega) (by omega) (fun hwt u => ?_)
    have hkb : KB (As x (Af (Ap x) (Ay x.frames s.n)).1.dst) := h.kb (p := (Af (Ap x) (Ay x.frames s.n)).1.dst.toNat) (by omega)
    have hlb := h.lbs (p := (Af (Ap x) (Ay x.frames s.n)).1.dst) (by omega)
    have hk4 := hkb.n
    have hpd64 : Ao (Af (Ap x) (Ay x.frames s.n)).1.dst := by unfold Ao; omega
    refine kp [2, 4, 5, 6, 8, 21, 24, 25, 26, 264, 265, 266, 267, 268, 269, 270, 271, 272, 273, 274, 275, 276, 277, 278] ?_
    refine cq_ (blk b2 30 [cv, hv, va] :: blk b21 76 (Af (Ap x) (Ay x.frames s.n)).1.cells :: blk b3 38 s.cells :: blk b4 30 [.slice none 0 0, .slice none 0 0, .slice none 0 0] :: L) ?_
    refine jd_ (fun ρ S => blk b2 30 [cv, hv, va] :: blk b21 76 (Af (Ap x) (Ay x.frames s.n)).1.cells :: blk b3 38 s.cells :: blk b4 30 [.slice none 0 0, .slice none 0 0, .slice none 0 0] :: ((bif S 15 then [blk (Gh.dec (γ := Nat) (ρ 15)) 57 (bif S 16 then [(Gh.dec (γ := Value × Value × Value) (ρ 10)).1, vi (Ae (As x (Af (Ap x) (Ay x.frames s.n)).1.dst) (Af (Ap x) (Ay x.frames s.n)).1.dst (x.cores.length : Int) (Af (Ap x) (Ay x.frames s.n)).1).1.wait.kind, vi (Ae (As x (Af (Ap x) (Ay x.frames s.n)).1.dst) (Af (Ap x) (Ay x.frames s.n)).1.dst (x.cores.length : Int) (Af (Ap x) (Ay x.frames s.n)).1).1.wait.line, vi (Ae (As x (Af (Ap x) (Ay x.frames s.n)).1.dst) (Af (Ap x) (Ay x.frames s.n)).1.dst (x.cores.length : Int) (Af (Ap x) (Ay x.frames s.n)).1).1.wait.value] else [.slice none 0 0, vi 0, vi 0, vi 0])] else []) ++ (L))) ?_
    refine W7 ?_
    refine Bu (γ := Value × Value × Value) (val := fun v => .tuple #[.agg (Core.cells v.1 (Ae (As x (Af (Ap x) (Ay x.frames s.n)).1.dst) (Af (Ap x) (Ay x.frames s.n)).1.dst (x.cores.length : Int) (Af (Ap x) (Ay x.frames s.n)).1).1).toArray, v.2.1, v.2.2]) (F := fun v => [sl v.1 (Ae (As x (Af (Ap x) (Ay x.frames s.n)).1.dst) (Af (Ap x) (Ay x.frames s.n)).1.dst (x.cores.length : Int) (Af (Ap x) (Ay x.frames s.n)).1).1.lines, sl v.2.1 (Ae (As x (Af (Ap x) (Ay x.frames s.n)).1.dst) (Af (Ap x) (Ay x.frames s.n)).1.dst (x.cores.length : Int) (Af (Ap x) (Ay x.frames s.n)).1).2.1, sl v.2.2 (Ae (As x (Af (Ap x) (Ay x.frames s.n)).1.dst) (Af (Ap x) (Ay x.frames s.n)).1.dst (x.cores.length : Int) (Af (Ap x) (Ay x.frames s.n)).1).2.2]) Tryz.call29 (fun _ => rfl) (fun ρ L R w hd hs => Aeb (c := (As x (Af (Ap x) (Ay x.frames s.n)).1.dst)) (id := (Af (Ap x) (Ay x.frames s.n)).1.dst) (home := (x.cores.length : Int)) (m := (Af (Ap x) (Ay x.frames s.n)).1) (u := u) hs (hd.base mm) hkb hpd64 hn64 hpw) (fun ρ g S hS hA => by have u15 : upS S 10 15 = S 15 := rfl; have u16 : upS S 10 16 = S 16 := rfl; have r15 : Rho.set ρ 10 g 15 = ρ 15 := rfl; have h16 : S 16 = false := hA 16 ⟨0, rfl⟩; simp only [u15, u16, r15, h16, cond_false]) ?_
    refine e_p (v := fun ρ => .tuple #[.agg (Core.cells (Gh.dec (γ := Value × Value × Value) (ρ 10)).1 (Ae (As x (Af (Ap x) (Ay x.frames s.n)).1.dst) (Af (Ap x) (Ay x.frames s.n)).1.dst (x.cores.length : Int) (Af (Ap x) (Ay x.frames s.n)).1).1).toArray, (Gh.dec (γ := Value × Value × Value) (ρ 10)).2.1, (Gh.dec (γ := Value × Value × Value) (ρ 10)).2.2]) (fun _ _ => Pi) (Ind.gh (h := fun g => (.tuple #[.agg (Core.cells (Gh.dec (γ := Value × Value × Value) g).1 (Ae (As x (Af (Ap x) (Ay x.frames s.n)).1.dst) (Af (Ap x) (Ay x.frames s.n)).1.dst (x.cores.length : Int) (Af (Ap x) (Ay x.frames s.n)).1).1).toArray, (Gh.dec (γ := Value × Value × Value) g).2.1, (Gh.dec (γ := Value × Value × Value) g).2.2] : Value)) 10 0 rfl) (fun _ _ _ _ _ => rfl) ?_
    refine e_p (v := fun ρ => .agg (Core.cells (Gh.dec (γ := Value × Value × Value) (ρ 10)).1 (Ae (As x (Af (Ap x) (Ay x.frames s.n)).1.dst) (Af (Ap x) (Ay x.frames s.n)).1.dst (x.cores.length : Int) (Af (Ap x) (Ay x.frames s.n)).1).1).toArray) (fun _ _ => q_x) (Ind.gh (h := fun g => (.agg (Core.cells (Gh.dec (γ := Value × Value × Value) g).1 (Ae (As x (Af (Ap x) (Ay x.frames s.n)).1.dst) (Af (Ap x) (Ay x.frames s.n)).1.dst (x.cores.length : Int) (Af (Ap x) (Ay x.frames s.n)).1).1).toArray : Value)) 10 1 rfl) (fun _ _ _ _ _ => rfl) ?_
    refine e_p (v := fun ρ => (Gh.dec (γ := Value × Value × Value) (ρ 10)).2.1) (fun _ _ => q_x) (Ind.gh (h := fun g => ((Gh.dec (γ := Value × Value × Value) g).2.1 : Value)) 10 1 rfl) (fun _ _ _ _ _ => rfl) ?_
    refine e_p (v := fun ρ => (Gh.dec (γ := Value × Value × Value) (ρ 10)).2.2) (fun _ _ => q_x) (Ind.gh (h := fun g => ((Gh.dec (γ := Value × Value × Value) g).2.2 : Value)) 10 1 rfl) (fun _ _ _ _ _ => rfl) ?_
    refine Hr (cs := [.slice none 0 0, vi 0, vi 0, vi 0]) Tryz.zeroValue57 rfl (fun ρ b S hS hA => ?_) ?_
    ·have ui : upS S 15 15 = true := rfl; have u16 : upS S 15 16 = S 16 := rfl; have r10 : Rho.set ρ 15 (Gh.enc b) 10 = ρ 10 := rfl; have h16 : S 16 = false := hA 16 ⟨0, rfl⟩; have rs : (Gh.dec (γ := Nat) (Rho.set ρ 15 (Gh.enc b) 15)) = b := rfl
     simp only [ui, hS, u16, r10, h16, rs, cond_true, cond_false, List.nil_append]
     exact ZeS
    refine es_ 57 0 [15] [] (fun ρ => (Gh.dec (γ := Nat) (ρ 15))) (fun ρ => [.slice none 0 0, vi 0, vi 0, vi 0]) (fun ρ => [(Gh.dec (γ := Value × Value × Value) (ρ 10)).1, vi (Ae (As x (Af (Ap x) (Ay x.frames s.n)).1.dst) (Af (Ap x) (Ay x.frames s.n)).1.dst (x.cores.length : Int) (Af (Ap x) (Ay x.frames s.n)).1).1.wait.kind, vi (Ae (As x (Af (Ap x) (Ay x.frames s.n)).1.dst) (Af (Ap x) (Ay x.frames s.n)).1.dst (x.cores.length : Int) (Af (Ap x) (Ay x.frames s.n)).1).1.wait.line, vi (Ae (As x (Af (Ap x) (Ay x.frames s.n)).1.dst) (Af (Ap x) (Ay x.frames s.n)).1.dst (x.cores.length : Int) (Af (Ap x) (Ay x.frames s.n)).1).1.wait.value]) Tryz.sizeOf57 (h1 := (fun ρ R w L' hd hs => Bl (isSlice.one (hs.fact (hd.dep (it := ⟨10, _, _, _, _⟩) (by repeat (first | exact List.Mem.head _ | refine List.Mem.tail _ ?_)) ⟨9, rfl⟩ (List.Mem.head _)))) (by repeat (first | exact Dw | refine Bl rfl ?_)))) ?_
    refine e_p (v := fun ρ => (Gh.dec (γ := Value × Value × Value) (ρ 10)).2.1) (fun _ _ => Da) (Ind.gh (h := fun g => ((Gh.dec (γ := Value × Value × Value) g).2.1 : Value)) 10 0 rfl) (fun _ _ _ _ _ => rfl) ?_
    refine e_p (v := fun ρ => (Gh.dec (γ := Value × Value × Value) (ρ 10)).2.2) (fun _ _ => Da) (Ind.gh (h := fun g => ((Gh.dec (γ := Value × Value × Value) g).2.2 : Value)) 10 0 rfl) (fun _ _ _ _ _ => rfl) ?_
    refine dnl ?_; intro ρ
    refine xq_ (blk b2 30 [cv, hv, va] :: blk b21 76 (Af (Ap x) (Ay x.frames s.n)).1.cells :: blk b3 38 s.cells :: blk b4 30 [.slice none 0 0, .slice none 0 0, .slice none 0 0] :: (blk (Gh.dec (γ := Nat) (ρ 15)) 57 [(Gh.dec (γ := Value × Value × Value) (ρ 10)).1, vi (Ae (As x (Af (Ap x) (Ay x.frames s.n)).1.dst) (Af (Ap x) (Ay x.frames s.n)).1.dst (x.cores.length : Int) (Af (Ap x) (Ay x.frames s.n)).1).1.wait.kind, vi (Ae (As x (Af (Ap x) (Ay x.frames s.n)).1.dst) (Af (Ap x) (Ay x.frames s.n)).1.dst (x.cores.length : Int) (Af (Ap x) (Ay x.frames s.n)).1).1.wait.line, vi (Ae (As x (Af (Ap x) (Ay x.frames s.n)).1.dst) (Af (Ap x) (Ay x.frames s.n)).1.dst (x.cores.length : Int) (Af (Ap x) (Ay x.frames s.n)).1).1.wait.value] :: L)) ?_
    generalize (Gh.dec (γ := Value × Value × Value) (ρ 10)) = v275
    generalize (Gh.dec (γ := Nat) (ρ 15)) = b24
    refine Zal ?_
    refine An Tryz.call20 rfl (fun w hs => Me (x := x) (i := (Af (Ap x) (Ay x.frames s.n)).1.dst) (k := (Ae (As x (Af (Ap x) (Ay x.frames s.n)).1.dst) (Af (Ap x) (Ay x.frames s.n)).1.dst (x.cores.length : Int) (Af (Ap x) (Ay x.frames s.n)).1).1) (u := v275.1) hs mm honeh honea mm (Ql hkb.wwf) (by omega)) ?_; intro v283
    refine J.know (p := v283.oneCell' = true) (fun w hs => isSlice.one (hs.fact (List.Mem.head _))) (fun honev283 => ?_)
    refine s_B (cs := [v283, hv, va]) Tryz.sizeOf30 ?_
    refine Zah ?_
    refine An Tryz.call21 rfl (fun w hs => Pt (fs := (x.frames.eraseIdx s.n.toNat)) (ms := (Ae (As x (Af (Ap x) (Ay x.frames s.n)).1.dst) (Af (Ap x) (Ay x.frames s.n)).1.dst (x.cores.length : Int) (Af (Ap x) (Ay x.frames s.n)).1).2.1) hs mm mm (Ww (by omega) (by omega) hk4 hlb hwk.2.2.2.2.1)) ?_; intro v287
    refine J.know (p := v287.oneCell' = true) (fun w hs => isSlice.one (hs.fact (List.Mem.head _))) (fun honev287 => ?_)
    refine ZG ?_
    refine Gl ?_
    refine kp [2, 4, 5, 6, 26, 289, 290] ?_
    refine ZD ?_
    refine s_B (cs := [v283, hv, v287]) Tryz.sizeOf30 ?_
    refine Ga2 ?_
    have er : Al x s = (⟨x.cores.set (Af (Ap x) (Ay x.frames s.n)).1.dst.toNat (Ae (As x (Af (Ap x) (Ay x.frames s.n)).1.dst) (Af (Ap x) (Ay x.frames s.n)).1.dst (x.cores.length : Int) (Af (Ap x) (Ay x.frames s.n)).1).1, x.home, way (x.frames.eraseIdx s.n.toNat) (Ae (As x (Af (Ap x) (Ay x.frames s.n)).1.dst) (Af (Ap x) (Ay x.frames s.n)).1.dst (x.cores.length : Int) (Af (Ap x) (Ay x.frames s.n)).1).2.1⟩, (Ae (As x (Af (Ap x) (Ay x.frames s.n)).1.dst) (Af (Ap x) (Ay x.frames s.n)).1.dst (x.cores.length : Int) (Af (Ap x) (Ay x.frames s.n)).1).2.2, 0) := by unfold Al; rw [if_neg (by omega), if_pos (by omega), if_neg hnf]; unfold Cl; rw [show Ap ⟨x.cores, x.home, (x.frames.eraseIdx s.n.toNat)⟩ = Ap x from rfl]; rw [if_neg ht242, if_neg (show ¬ (Af (Ap x) (Ay x.frames s.n)).1.dst = Bk ⟨x.cores, x.home, (x.frames.eraseIdx s.n.toNat)⟩ from ht247)]; rfl
    rw [er]
    exact Cj (v283, hv, v287, v275.2.2) Tryz.isAgg30 Tryz.sizeOf30
theorem refDo4 {n nl : Nat} {M : List Int} {cv hv fv : Value} {x : Chip} {s : Step} (hs : St (L) R w) (hc : sl cv x.cores ∈ R) (hh : sl hv x.home ∈ R) (hf : sl fv x.frames ∈ R) (h : Inv n nl x M) (hsw : s.wf) : Calls Tryz.prog 10 [.agg #[cv, hv, fv], .agg s.cells.toArray].toArray w (Bt (fun v : Value × Value × Value × Value => .tuple #[.agg #[v.1, v.2.1, v.2.2.1], v.2.2.2, vi (Al x s).2.2]) (fun v => L) (fun v => sl v.1 (Al x s).1.cores :: sl v.2.1 (Al x s).1.home :: sl v.2.2.1 (Al x s).1.frames :: sl v.2.2.2 (Al x s).2.1 :: R)) := by
 by_cases h1 : s.kind = 1
 ·exact Zf hs hc hh hf h hsw h1
 by_cases h2 : s.kind = 2
 ·exact Ze hs hc hh hf h hsw h2
 by_cases h3 : s.kind = 3
 ·exact Zd hs hc hh hf h hsw h3
 by_cases h4 : s.kind = 4
 ·exact Zc hs hc hh hf h hsw h4
 by_cases h5 : s.kind = 5
 ·exact Zb hs hc hh hf h hsw h5
 by_cases h6 : s.kind = 6
 ·exact Za hs hc hh hf h hsw h6
 exact Zg hs hc hh hf h hsw ⟨h1, h2, h3, h4, h5, h6⟩
def bAt (c : Config) (l : List Step) (k : Nat) : Chip × List Done := Fm (A6 c).1 (l.take k)
theorem Ka {x : Chip} {a : Step} {l : List Step} (h : (Al x a).2.2 = 0) : Fm x (a :: l) = ((Fm (Al x a).1 l).1, (Al x a).2.1 ++ (Fm (Al x a).1 l).2) := by simp only [Fm]; rw [if_pos h]
theorem Kb {x : Chip} {a : Step} {l : List Step} (h : ¬ (Al x a).2.2 = 0) : Fm x (a :: l) = Fm x l := by simp only [Fm]; rw [if_neg h]
theorem M6 (s : Step) : ∀ (l : List Step) (x : Chip), (Al (Fm x l).1 s).2.2 = 0 → Fm x (l ++ [s]) = ((Al (Fm x l).1 s).1, (Fm x l).2 ++ (Al (Fm x l).1 s).2.1)
 | [], x, h => by
  have h' : (Al x s).2.2 = 0 := h
  rw [List.nil_append, Ka h']; simp [Fm]
 | a :: l, x, h => by
  by_cases h1 : (Al x a).2.2 = 0
  ·rw [Ka h1] at h ⊢
   rw [List.cons_append, Ka h1, M6 s l _ h]; simp
  ·rw [Kb h1] at h ⊢
   rw [List.cons_append, Kb h1]; exact M6 s l x h
theorem O0 (s : Step) : ∀ (l : List Step) (x : Chip), ¬ (Al (Fm x l).1 s).2.2 = 0 → Fm x (l ++ [s]) = Fm x l
 | [], x, h => by
  have h' : ¬ (Al x s).2.2 = 0 := h
  rw [List.nil_append, Kb h']
 | a :: l, x, h => by
  by_cases h1 : (Al x a).2.2 = 0
  ·rw [Ka h1] at h ⊢
   rw [List.cons_append, Ka h1, O0 s l _ h]
  ·rw [Kb h1] at h ⊢
   rw [List.cons_append, Kb h1]; exact O0 s l x h
theorem Yb {c : Config} {l : List Step} {k : Nat} (h : k < l.length) (h0 : (Al (bAt c l k).1 (l.getD k zStep)).2.2 = 0) : bAt c l (k + 1) = ((Al (bAt c l k).1 (l.getD k zStep)).1, (bAt c l k).2 ++ (Al (bAt c l k).1 (l.getD k zStep)).2.1) := by
 unfold bAt at h0 ⊢; rw [E1 zStep h]; exact M6 _ _ _ h0
theorem Adq {c : Config} {l : List Step} {k : Nat} (h : k < l.length) (h0 : ¬ (Al (bAt c l k).1 (l.getD k zStep)).2.2 = 0) : bAt c l (k + 1) = bAt c l k := by
 unfold bAt at h0 ⊢; rw [E1 zStep h]; exact O0 _ _ _ h0
theorem X0 (c : Core) (id home : Int) (o : Op) : (Aj c id home o).2.2.1.length ≤ 1 := by
 unfold Aj
 split
 ·simp
 split
 ·simp
 split
 ·simp
 split <;> simp
theorem Aai (c : Core) (id home : Int) (m : Msg) : (Ae c id home m).2.2.length ≤ 1 := by
 unfold Ae
 split
 ·simp
 split
 ·simp
 split
 ·split
  ·simp only; split <;> simp
  split <;> simp
 split
 ·split
  ·simp
  split <;> simp
 split <;> simp
theorem Adf (x : Chip) (s : Step) : (Al x s).2.1.length ≤ 1 := by
 unfold Al
 split
 ·split
  ·simp
  split
  ·simp
  ·exact X0 ..
 split
 ·split
  ·simp
  ·simp only
   unfold Cl
   split
   ·simp
   split
   ·simp
   ·exact Aai ..
 split
 ·split <;> simp
 split
 ·split <;> simp
 split
 ·split
  ·simp
  split
  ·simp
  split <;> simp
 split
 ·split
  ·simp
  split <;> simp
 ·simp
theorem Yc (c : Config) (l : List Step) : ∀ k, (bAt c l k).2.length ≤ k
 | 0 => by unfold bAt; simp [Fm]
 | k + 1 => by
  have ih := Yc c l k
  by_cases h : k < l.length
  ·by_cases h0 : (Al (bAt c l k).1 (l.getD k zStep)).2.2 = 0
   ·have := Adf (bAt c l k).1 (l.getD k zStep)
    rw [Yb h h0]
    simp only [List.length_append]; omega
   ·rw [Adq h h0]; omega
  ·unfold bAt at ih ⊢
   rw [List.take_of_length_le (by omega)]
   rw [List.take_of_length_le (by omega)] at ih
   omega
theorem Aig {c : Config} (l : List Step) (h : (A6 c).2 = 0) (k : Nat) : ∃ n nl M, Inv n nl (bAt c l k).1 M := by
 obtain ⟨n, nl, h1, h2, _, h4⟩ := Ky h
 obtain ⟨M, h5, _⟩ := J3 (l.take k) (Mq h1 h2)
 exact ⟨n, nl, M, by unfold bAt; rw [h4]; exact h5⟩
theorem Q2 {c : Config} (h : (A6 c).2 ≠ 0) : A6 c = (zChip, 3) := by
 unfold A6 at h ⊢
 split
 ·rfl
 ·rename_i h1; rw [if_neg h1] at h; exact absurd rfl h
theorem Tp {c : Config} {l : List Step} {k : Nat} (h : (A6 c).2 = 0) (hk : l.take k = l.take 300) : build c l = bAt c l k := by
 unfold build bAt; rw [if_neg (by rw [h]; decide), hk]
theorem Abx {c : Config} {l : List Step} (h : (A6 c).2 ≠ 0) : build c l = ((A6 c).1, []) := by
 unfold build; rw [if_pos h, Q2 h]
theorem Sx {vl : Value} {c : Config} {l : List Step} (hs : St (L) R w) (hl : sl vl l ∈ R) (hcw : c.wf) : Calls Tryz.prog 5 [.agg c.cells.toArray, vl].toArray w (Bt (fun v : Value × Value × Value × Value => .tuple #[.agg #[v.1, v.2.1, v.2.2.1], v.2.2.2]) (fun v => L) (fun v => sl v.1 (build c l).1.cores :: sl v.2.1 (build c l).1.home :: sl v.2.2.1 (build c l).1.frames :: sl v.2.2.2 (build c l).2 :: R)) := by
 have hlen := Bd hl hs
 refine Ai Tryz.func5 rfl Tryz.ntmps5 rfl hs ?_
 clear hs
 refine Gm ?_
 refine bx ?_; intro b2
 refine Zc5 ?_;intro b4
 refine ZaW ?_
 refine An Tryz.call9 rfl (fun w hs => Acu (c := c) hs hcw) ?_; intro v16
 refine J.know (p := v16.1.oneCell' = true ∧ v16.2.oneCell' = true) (fun w hs => ⟨isSlice.one (hs.fact (.head _)), isSlice.one (hs.fact (.tail _ (.head _)))⟩) (fun h12 => ?_)
 obtain ⟨hone1, hone2⟩ := h12
 refine rn3 ?_
 refine al_ (cs := [.slice none 0 0, .slice none 0 0, .slice none 0 0]) Tryz.zeroValue30 ?_; intro b6
 refine s_B (cs := [v16.1, v16.2, .slice none 0 0]) Tryz.sizeOf30 ?_
 refine ZH ?_
 refine cdy ?_ ?_
 ·intro ht20
  refine Gl ?_
  refine ZJ ?_
  refine ZB ?_
  refine s_B (cs := [v16.1, v16.2, .slice none 0 0]) Tryz.sizeOf30 ?_
  refine Ga1 ?_
  rw [Abx ht20]
  exact Fo (v16.1, v16.2, .slice none 0 0, .slice none 0 0) Tryz.isAgg30 Tryz.sizeOf30
 ·intro ht20
  refine ZM ?_
  refine Ga3 ?_
  have hok : (A6 c).2 = 0 := Decidable.not_not.1 ht20
  have e0 : bAt c l 0 = ((A6 c).1, []) := by unfold bAt; simp [Fm]
  refine JC.rowNil 119 Done ?_
  refine Be (γ := Nat × Value × Value × Value × Value) (fun g => g.1 ≤ l.length ∧ g.1 ≤ 300) (fun g => row 119 g.2.2.2.2 (bAt c l g.1).2 :: blk b6 30 [g.2.1, g.2.2.1, g.2.2.2.1] :: blk b4 30 [.slice none 0 0, .slice none 0 0, .slice none 0 0] :: L) (fun g => sl g.2.1 (bAt c l g.1).1.cores :: sl g.2.2.1 (bAt c l g.1).1.home :: sl g.2.2.2.1 (bAt c l g.1).1.frames :: R) (fun g => [(4, bp b4 0), (6, bp b6 0), (8, g.2.2.2.2), (22, vl), (23, vi (l.length : Int)), (24, vi (g.1 : Int))]) (fun g => l.length - g.1) (0, v16.1, v16.2, .slice none 0 0, .slice none 0 0) ⟨Nat.zero_le _, by show 0 ≤ 300; omega⟩ alT (fun w hs => by rw [e0]; exact Ag hs) ?_
  rintro ⟨k, cv, hv, fv, dv⟩ ⟨hk, hk3⟩
  try simp only at hk hk3 ⊢
  refine ZA ?_
  refine cdy ?_ ?_
  ·intro ht25
   refine Gl ?_
   refine JC.open0 (xs := l) (v := vl) k mm (by omega) (fun hsw => ?_)
   refine ZL ?_
   refine al_ (cs := zStep.cells) Tryz.zeroValue38 ?_; intro b10
   refine rn1 ?_
   refine s_B (cs := (l.getD k zStep).cells) Tryz.sizeOf38 ?_
   refine ZC ?_
   refine cdy ?_ ?_
   ·intro ht30
    exact Zfk
   ·intro ht30
    refine ZK ?_
    obtain ⟨n, nl, M, hI⟩ := Aig l hok k
    refine An Tryz.call10 rfl (fun w hs => refDo4 (x := (bAt c l k).1) (s := (l.getD k zStep)) hs mm mm mm hI hsw) ?_; intro v34
    refine J.know (p := v34.1.oneCell' = true ∧ v34.2.1.oneCell' = true ∧ v34.2.2.1.oneCell' = true) (fun w hs => ⟨isSlice.one (hs.fact (.head _)), isSlice.one (hs.fact (.tail _ (.head _))), isSlice.one (hs.fact (.tail _ (.tail _ (.head _))))⟩) (fun h12 => ?_)
    obtain ⟨hone1, hone2, hone3⟩ := h12
    refine rn4 ?_
    refine al_ (cs := [.slice none 0 0, .slice none 0 0, .slice none 0 0]) Tryz.zeroValue30 ?_; intro b11
    refine s_B (cs := [v34.1, v34.2.1, v34.2.2.1]) Tryz.sizeOf30 ?_
    refine Ga2 ?_
    refine kp [4, 5, 6, 8, 9, 10, 11, 12, 13, 22, 23, 24, 25, 26, 27, 28, 29, 30, 31, 32, 33, 34, 35, 36, 37, 38, 39] ?_
    refine ZQ ?_
    refine cdy ?_ ?_
    ·intro ht39
     refine ZI ?_
     refine s_B (cs := [v34.1, v34.2.1, v34.2.2.1]) Tryz.sizeOf30 ?_
     refine ZK ?_
     refine ap Gn (hb := fun w hs => by have : maxN = 16777216 := rfl; have h8 := Yc c l k; have h9 := Adf (bAt c l k).1 (l.getD k zStep); omega) (k := ?_); intro v43
     refine ZH ?_
     have e1 := Yb (c := c) (l := l) (k := k) (by omega) ht39
     refine Aw (k + 1, v34.1, v34.2.1, v34.2.2.1, v43) ⟨by show k + 1 ≤ l.length; omega, by show k + 1 ≤ 300; omega⟩ (by show l.length - (k + 1) < l.length - k; omega) alT (fun w hs => ?_)
     try simp only
     rw [e1]; exact Ag hs
    ·intro ht39
     refine ZC ?_
     have e1 := Adq (c := c) (l := l) (k := k) (by omega) ht39
     refine Aw (k + 1, cv, hv, fv, dv) ⟨by show k + 1 ≤ l.length; omega, by show k + 1 ≤ 300; omega⟩ (by show l.length - (k + 1) < l.length - k; omega) alT (fun w hs => ?_)
     try simp only
     rw [e1]; exact Ag hs
  ·intro ht25
   exact Zfk
def hE0 : List Entry := [⟨0, -1, 0, 0, 0, 0, false, 0, 0, [0, 0]⟩]
theorem Aan {m : Msg} (hs : St (L) R w) (hin : MsgIn m) : Calls Tryz.prog 71 [.agg m.cells.toArray].toArray w (Bt (fun v : Value => v) (fun v => L) (fun v => sl v (Ck m) :: R)) := by
 obtain ⟨k0, k1, k2, k3, k4, k5, k6⟩ := hin
 refine Ai Tryz.func71 rfl Tryz.ntmps71 rfl hs ?_
 clear hs
 refine Zbq ?_;intro b1
 refine ZH ?_
 refine A8 (b := ?b1) ?e1 ?_ ?_; case e1 => exact rfl
 ·intro ht7
  refine Aa ?_
  refine Gb1 ?_
  refine rn2 ?_
  refine ZdJ ?_
  refine liO (α := UInt8) ([u8 m.kind, u8 (16 * m.src + m.dst % 16), u8 m.line, u8 (m.serial / 256), u8 m.serial, u8 (m.turn / 256), u8 m.turn, u8 m.value, 1, 0] : List UInt8) Fz rfl (fun j hj => ⟨⟨_, rfl, rfl⟩, ⟨_, rfl, rfl⟩, ⟨_, rfl, rfl⟩, ⟨_, rfl, rfl⟩, ⟨_, rfl, rfl⟩, ⟨_, rfl, rfl⟩, ⟨_, rfl, rfl⟩, ⟨_, rfl, rfl⟩, ⟨_, rfl, rfl⟩, ⟨_, rfl, rfl⟩, trivial⟩) ?_; intro v40
  have hxs : ([u8 m.kind, u8 (16 * m.src + m.dst % 16), u8 m.line, u8 (m.serial / 256), u8 m.serial, u8 (m.turn / 256), u8 m.turn, u8 m.value, 1, 0] : List UInt8) = Ci m := by unfold Ci; rw [ht7, show 16 * m.src + m.dst % 16 = 16 * m.src + m.dst by omega]; rfl
  rw [hxs]
  have hsm := Nl (Ci m)
  refine Ga1 ?_
  refine kp [2, 4, 5, 41, 42] ?_
  refine ZB ?_
  refine An (γ := Unit) (val := fun _ => vi (Hd (Ci m))) Tryz.call91 rfl (fun w hs => lend .hd (fun L R w hs hf _ => Gx hs hf) hs) ?_; intro _
  refine ZdZ ?_;intro v49
  refine ap Fz (hb := fun w hs => by have : maxN = 16777216 := rfl; rw [Ix]; simp only [List.length_cons, List.length_nil]; omega) (k := ?_); intro v50
  refine Ga1 ?_
  exact Bc v50 (hs := fun w hs => Ag (St.shut (hs.pick pkk)))
 ·intro ht7
  refine ZK ?_
  refine ZdJ ?_
  refine liO (α := UInt8) ([u8 m.kind, u8 (16 * m.src + m.dst % 16), u8 m.line, u8 (m.serial / 256), u8 m.serial, u8 (m.turn / 256), u8 m.turn, u8 m.value, 0, 0] : List UInt8) Fz rfl (fun j hj => ⟨⟨_, rfl, rfl⟩, ⟨_, rfl, rfl⟩, ⟨_, rfl, rfl⟩, ⟨_, rfl, rfl⟩, ⟨_, rfl, rfl⟩, ⟨_, rfl, rfl⟩, ⟨_, rfl, rfl⟩, ⟨_, rfl, rfl⟩, ⟨_, rfl, rfl⟩, ⟨_, rfl, rfl⟩, trivial⟩) ?_; intro v40
  have hxs : ([u8 m.kind, u8 (16 * m.src + m.dst % 16), u8 m.line, u8 (m.serial / 256), u8 m.serial, u8 (m.turn / 256), u8 m.turn, u8 m.value, 0, 0] : List UInt8) = Ci m := by unfold Ci; rw [ht7, show 16 * m.src + m.dst % 16 = 16 * m.src + m.dst by omega]; rfl
  rw [hxs]
  have hsm := Nl (Ci m)
  refine Ga1 ?_
  refine kp [2, 4, 5, 41, 42] ?_
  refine ZB ?_
  refine An (γ := Unit) (val := fun _ => vi (Hd (Ci m))) Tryz.call91 rfl (fun w hs => lend .hd (fun L R w hs hf _ => Gx hs hf) hs) ?_; intro _
  refine ZdZ ?_;intro v49
  refine ap Fz (hb := fun w hs => by have : maxN = 16777216 := rfl; rw [Ix]; simp only [List.length_cons, List.length_nil]; omega) (k := ?_); intro v50
  refine Ga1 ?_
  exact Bc v50 (hs := fun w hs => Ag (St.shut (hs.pick pkk)))
theorem Va {c : Config} (hs : St (L) R w) : Calls Tryz.prog 37 [.agg c.cells.toArray].toArray w (Bt (fun _ : Unit => vi (Eb c)) (fun _ => L) (fun _ => R)) := by
 refine Ai Tryz.func37 rfl Tryz.ntmps37 rfl hs ?_
 clear hs
 refine Gm ?_
 refine bx ?_; intro b1
 refine Ga1 ?_
 refine Zdl ?_
 refine Cu 20 (.bool (decide ((c.cores < 1) ∨ (4 < c.cores) ∨ (c.lines < 1) ∨ (4 < c.lines)))) ?_ ?_
 ·rcases (show ((c.cores < 1)) ∨ (¬ (c.cores < 1) ∧ (4 < c.cores)) ∨ (¬ (c.cores < 1) ∧ ¬ (4 < c.cores) ∧ (c.lines < 1)) ∨ (¬ (c.cores < 1) ∧ ¬ (4 < c.cores) ∧ ¬ (c.lines < 1) ∧ (4 < c.lines)) ∨ (¬ (c.cores < 1) ∧ ¬ (4 < c.cores) ∧ ¬ (c.lines < 1) ∧ ¬ (4 < c.lines)) from by omega) with hm | hm | hm | hm | hm
  ·refine ZX ?_
   refine Ga15 ?_
   exact ZeJ
  ·refine ZaT ?_
   refine Ga11 ?_
   exact ZeJ
  ·refine Zdl ?_
   refine Zav ?_
   refine Za6 ?_
   refine Ga6 ?_
   exact ZeJ
  ·refine Zav ?_
   refine ZaE ?_
   refine Ga1 ?_
   exact ZeJ
  ·refine Zdl ?_
   refine Zav ?_
   refine Zay ?_
   refine Ga1 ?_
   exact ZeP
 ·refine Au ?_
  refine Gl ?_
  first | (refine cdx (p := ?p1) (hd := ?d1) ?e1 ?_ ?_; case e1 => exact rfl) | (refine A8 (b := ?b1) ?e1 ?_ ?_; case e1 => exact rfl)
  ·intro ht20
   refine ZA ?_
   have er : Eb c = 3 := by unfold Eb; rw [if_pos ht20]
   exact Zfj
  ·intro ht20
   refine ZA ?_
   have er : Eb c = 0 := by unfold Eb; rw [if_neg ht20]
   exact Zfj
theorem Abk {c : Config} (hs : St (L) R w) (hcw : c.wf) : Calls Tryz.prog 15 [.agg c.cells.toArray].toArray w (Bt (fun v : Value × Value => .tuple #[.agg #[v.1, v.2, .slice none 0 0], vi (A6 c).2]) (fun v => L) (fun v => sl v.1 (A6 c).1.cores :: sl v.2 (A6 c).1.home :: sl (.slice none 0 0) (A6 c).1.frames :: R)) := by
 refine Ai Tryz.func15 rfl Tryz.ntmps15 rfl hs ?_
 clear hs
 refine Gm ?_
 refine bx ?_; intro b1
 refine Zcs ?_;intro b2
 refine ZaW ?_
 refine An Tryz.call37 rfl (fun w hs => Va hs) ?_; intro _
 refine ZH ?_
 refine cdy ?_ ?_
 ·intro ht9
  have h3 : Eb c = 3 := by revert ht9; unfold Eb; split <;> simp
  refine Zc3 ?_
  refine Gm ?_
  refine Zbz ?_
  refine rn1 ?_
  refine s_B Tryz.sizeOf30 ?_
  refine Ga1 ?_
  have h3 : Eb c = 3 := by revert ht9; unfold Eb; split <;> simp
  have er : A6 c = (zChip, 3) := by unfold A6; rw [if_pos ht9]
  rw [er, h3]
  exact Fo (.slice none 0 0, .slice none 0 0) Tryz.isAgg30 Tryz.sizeOf30
 ·intro ht9
  have hcg : ¬ (c.cores < 1 ∨ 4 < c.cores ∨ c.lines < 1 ∨ 4 < c.lines) := by revert ht9; unfold Eb; split <;> simp_all
  refine Zal ?_
  refine An Tryz.call38 rfl (fun w hs => Aah (cores := c.cores) (lines := c.lines) hs (by omega) (by omega)) ?_; intro v16
  refine J.know (p := v16.oneCell' = true) (fun w hs => isSlice.one (hs.fact (.head _))) (fun hone16 => ?_)
  refine rn1 ?_
  refine al_ (cs := [.slice none 0 0, .slice none 0 0, .slice none 0 0]) Tryz.zeroValue30 ?_; intro b5
  refine s_B (cs := [.slice none 0 0, v16, .slice none 0 0]) Tryz.sizeOf30 ?_
  refine ZT ?_
  refine JC.rowNil 57 Core ?_
  refine Be (γ := Nat × Value) (fun g => (g.1 : Int) ≤ c.cores) (fun g => row 57 g.2 (List.replicate g.1 (Ei c.lines)) :: blk b5 30 [g.2, v16, .slice none 0 0] :: blk b2 30 [.slice none 0 0, .slice none 0 0, .slice none 0 0] :: blk b1 23 c.cells :: L) (fun _ => sl v16 (Mr c.cores c.lines) :: R) (fun g => [(1, bp b1 0), (2, bp b2 0), (5, bp b5 0), (19, vi c.cores), (20, vi (g.1 : Int))]) (fun g => c.cores.toNat - g.1) (0, .slice none 0 0) (by show (0 : Int) ≤ c.cores; omega) alT (fun w hs => Ag hs) ?_
  rintro ⟨k, vs⟩ hk
  try simp only at hk ⊢
  refine ZA ?_
  refine cdy ?_ ?_
  ·intro ht21
   refine Gl ?_
   refine cq_ (blk b5 30 [vs, v16, .slice none 0 0] :: row 57 vs (List.replicate k (Ei c.lines)) :: blk b2 30 [.slice none 0 0, .slice none 0 0, .slice none 0 0] :: blk b1 23 c.cells :: L) ?_
   refine jd_ (fun ρ S => blk b5 30 (bif S 8 then [(Gh.dec (γ := Value) (ρ 6)), v16, .slice none 0 0] else [vs, v16, .slice none 0 0]) :: (bif S 6 then row 57 (Gh.dec (γ := Value) (ρ 6)) ((List.replicate k (Ei c.lines)) ++ [(Ei c.lines)]) else row 57 vs (List.replicate k (Ei c.lines))) :: blk b2 30 [.slice none 0 0, .slice none 0 0, .slice none 0 0] :: blk b1 23 c.cells :: L) ?_
   refine dn1 ?_
   refine H4 (v := vs) (fun ρ S hS hB hA => by have h8 : S 8 = false := hA 8 ⟨0, rfl⟩; simp only [h8, cond_false]; exact Cx (hc := A0 pkk (by repeat (first | exact rfl | refine C4 rfl ?_))) Tryz.isAgg26) (fun _ _ _ _ _ => rfl) ?_
   refine dn2 ?_
   refine Bu (γ := Value) (val := fun v => .agg (Core.cells v (Ei c.lines)).toArray) (F := fun v => [sl v (Ei c.lines).lines]) Tryz.call39 (fun _ => rfl) (fun ρ L R w hd hs => Abg (lines := c.lines) hs (by omega)) (fun _ _ _ _ _ => rfl) ?_
   refine Fd ([(Ei c.lines)] : List Core) Qs rfl (fun _ => rfl) rfl (fun _ => rfl) rfl rfl (fun ρ R hd j hj => ⟨⟨_, rfl, ⟨_, rfl, hj (sl (Gh.dec (γ := Value) (ρ 4)) (Ei c.lines).lines) (hd.dep (it := ⟨4, _, _, _, _⟩) (by repeat (first | exact List.Mem.head _ | refine List.Mem.tail _ ?_)) ⟨9, rfl⟩ (List.Mem.head _)), by unfold Ei zOp Op.wf Ao; simp only; omega⟩⟩, trivial⟩) (fun _ _ _ _ _ => rfl) ?_
   refine Fg (e := 57) (xs := (List.replicate k (Ei c.lines))) (ys := [(Ei c.lines)]) (v := vs) Qs (fun _ => rfl) (fun _ => rfl) rfl (by decide) (fun ρ R hd => (hd.dep (it := ⟨5, _, _, _, _⟩) (by repeat (first | exact List.Mem.head _ | refine List.Mem.tail _ ?_)) ⟨9, rfl⟩ (List.Mem.head _))) (by have : maxN = 16777216 := rfl; simp only [List.length_cons, List.length_nil, List.length_replicate]; omega) (fun ρ g S hS hB hA => ?_) ?_
   ·have ui : upS S 6 6 = true := rfl; have u8 : upS S 6 8 = S 8 := rfl; have h8 : S 8 = false := hA 8 ⟨0, rfl⟩; have rs : (Gh.dec (γ := Value) (Rho.set ρ 6 (Gh.enc g) 6)) = g := rfl
    simp only [ui, hS, u8, h8, rs, cond_true, cond_false]
    exact pex
   refine dn1 ?_
   refine D9 (T0 := 30) (f := 0) (vs := fun ρ => [vs, v16, .slice none 0 0]) (v := fun ρ => (Gh.dec (γ := Value) (ρ 6))) (fun ρ => b5) Tryz.sizeOf26 (fun _ => rfl) (fun _ => rfl) (fun ρ S R w L9 hB hd hs => by have h6 : S 6 = true := hB 6 ⟨9, rfl⟩; simp only [h6, cond_true] at hs; exact Bx pkk hs) (fun _ => rfl) (fun ρ g S hS hB hA => ?_) ?_
   ·have ui : upS S 8 8 = true := rfl; have u6 : upS S 8 6 = S 6 := rfl; have r6 : Rho.set ρ 8 g 6 = ρ 6 := rfl
    simp only [ui, hS, u6, r6, cond_true, cond_false]
    exact pex
   refine dnl ?_; intro ρ
   refine xq_ (blk b5 30 [(Gh.dec (γ := Value) (ρ 6)), v16, .slice none 0 0] :: row 57 (Gh.dec (γ := Value) (ρ 6)) ((List.replicate k (Ei c.lines)) ++ [(Ei c.lines)]) :: blk b2 30 [.slice none 0 0, .slice none 0 0, .slice none 0 0] :: blk b1 23 c.cells :: L) ?_
   generalize (Gh.dec (γ := Value) (ρ 4)) = v26
   generalize (Gh.dec (γ := Value) (ρ 5)) = v27
   generalize (Gh.dec (γ := Value) (ρ 6)) = v28
   refine ZC ?_
   refine Aw (k + 1, v28) (by show ((k + 1 : Nat) : Int) ≤ c.cores; omega) (by show c.cores.toNat - (k + 1) < c.cores.toNat - k; omega) alT (fun w hs => ?_)
   try simp only
   rw [Lo]; exact Ag hs
  ·intro ht21
   refine Gl ?_
   refine JC.know (p := vs.oneCell' = true) (fun w hs => Bx .hd hs) (fun hones => ?_)
   refine JC.shut (v := vs) .hd ?_
   refine JC.slNil (List UInt8) ?_
   refine ZB ?_
   refine s_B (cs := [vs, v16, .slice none 0 0]) Tryz.sizeOf30 ?_
   refine Ga1 ?_
   have er : A6 c = (⟨List.replicate k (Ei c.lines), Mr c.cores c.lines, []⟩, 0) := by unfold A6; rw [if_neg ht9, show c.cores.toNat = k by omega]
   rw [er]
   exact Fo (vs, v16) Tryz.isAgg30 Tryz.sizeOf30
theorem Ahr {b : Nat} {cv hv fv : Value} {x : Chip} (hs : St (row 57 cv x.cores :: blk b 30 [cv, hv, fv] :: L) R w) (hhv : sl hv x.home ∈ R) : Calls Tryz.prog 74 [bp b 0].toArray w (Bt (fun _ : Unit => .agg (Ap x).cells.toArray) (fun _ => row 57 cv x.cores :: blk b 30 [cv, hv, fv] :: L) (fun _ => R)) := by
 refine Ai Tryz.func74 rfl Tryz.ntmps74 rfl hs ?_
 clear hs
 refine Gm ?_
 refine al_ (cs := zConfig.cells) Tryz.zeroValue23 ?_; intro b2
 refine Gl ?_
 refine cq_ (blk b2 23 zConfig.cells :: row 57 cv x.cores :: blk b 30 [cv, hv, fv] :: L) ?_
 refine jd_ (fun ρ S => blk b2 23 (bif S 11 then [vi (x.cores.length : Int), vi (x.home.length : Int)] else zConfig.cells) :: row 57 cv x.cores :: blk b 30 [cv, hv, fv] :: L) ?_
 refine Zeq ?_;intro ρ
 refine xq_ (blk b2 23 [vi (x.cores.length : Int), vi (x.home.length : Int)] :: row 57 cv x.cores :: blk b 30 [cv, hv, fv] :: L) ?_
 refine Gl ?_
 exact Md () Tryz.isAgg23 Tryz.sizeOf23
theorem Abt {b : Nat} {cv hv fv : Value} {x : Chip} (hs : St (blk b 30 [cv, hv, fv] :: L) R w) (hcv : sl cv x.cores ∈ R) (hhv : sl hv x.home ∈ R) : Calls Tryz.prog 74 [bp b 0].toArray w (Bt (fun _ : Unit => .agg (Ap x).cells.toArray) (fun _ => blk b 30 [cv, hv, fv] :: L) (fun _ => R)) := by
 refine Ai Tryz.func74 rfl Tryz.ntmps74 rfl hs ?_
 clear hs
 refine Gm ?_
 refine al_ (cs := zConfig.cells) Tryz.zeroValue23 ?_; intro b2
 refine Gl ?_
 refine cq_ (blk b2 23 zConfig.cells :: blk b 30 [cv, hv, fv] :: L) ?_
 refine jd_ (fun ρ S => blk b2 23 (bif S 11 then [vi (x.cores.length : Int), vi (x.home.length : Int)] else zConfig.cells) :: blk b 30 [cv, hv, fv] :: L) ?_
 refine Zeq ?_;intro ρ
 refine xq_ (blk b2 23 [vi (x.cores.length : Int), vi (x.home.length : Int)] :: blk b 30 [cv, hv, fv] :: L) ?_
 refine Gl ?_
 exact Md () Tryz.isAgg23 Tryz.sizeOf23
theorem Ke {b : Nat} {cv hv fv vm : Value} {fs : Frames} {ms : List Msg} (hs : St (blk b 30 [cv, hv, fv] :: L) R w) (hfv : sl fv fs ∈ R) (hvm : sl vm ms ∈ R) (hmi : ∀ a ∈ ms, MsgIn a) : Calls Tryz.prog 42 [bp b 0, vm].toArray w (Bt (fun v : Value => .tuple #[]) (fun v => blk b 30 [cv, hv, v] :: L) (fun v => sl v (way fs ms) :: R)) := by
 have hlen := Bd hvm hs
 refine Ai Tryz.func42 rfl Tryz.ntmps42 rfl hs ?_
 clear hs
 refine ZT ?_
 refine Be (γ := Nat × Value) (fun g => g.1 ≤ ms.length) (fun g => blk b 30 [cv, hv, g.2] :: L) (fun g => sl g.2 (way fs (ms.take g.1)) :: R) (fun g => [(0, bp b 0), (6, vm), (7, vi (ms.length : Int)), (8, vi (g.1 : Int))]) (fun g => ms.length - g.1) (0, fv) (Nat.zero_le _) alT (fun w hs => hs.sub .refl (fun f hf => by rcases List.mem_cons.1 hf with e | e; rw [e]; exact hfv; exact e)) ?_
 rintro ⟨k, gv⟩ hk
 try simp only at hk ⊢
 refine ZA ?_
 refine cdy ?_ ?_
 ·intro ht9
  refine Gl ?_
  refine JC.open0 (xs := ms) (v := vm) k mm (by omega) (fun hmw => ?_)
  have hkm : (ms.getD k zMsg) ∈ ms := by rw [List.getD_eq_getElem?_getD, List.getElem?_eq_getElem (by omega)]; exact List.getElem_mem _
  refine ZD ?_
  refine al_ (cs := zMsg.cells) Tryz.zeroValue76 ?_; intro b5
  refine s_B (cs := (ms.getD k zMsg).cells) Tryz.sizeOf76 ?_
  refine Gl ?_
  refine cq_ (blk b 30 [cv, hv, gv] :: blk b5 76 (ms.getD k zMsg).cells :: L) ?_
  refine jd_ (fun ρ S => blk b 30 (bif S 10 then [cv, hv, (Gh.dec (γ := Value) (ρ 7))] else [cv, hv, gv]) :: blk b5 76 (ms.getD k zMsg).cells :: L) ?_
  refine dn4 ?_
  refine H4 (v := gv) (fun ρ S hS hB hA => by have h10 : S 10 = false := hA 10 ⟨0, rfl⟩; simp only [h10, cond_false]; exact Cx (hc := A0 pkk (by repeat (first | exact rfl | refine C4 rfl ?_))) Tryz.isAgg28) (fun _ _ _ _ _ => rfl) ?_
  refine dn1 ?_
  refine Bu (γ := Value) (val := fun v => v) (F := fun v => [sl v (Ck (ms.getD k zMsg))]) Tryz.call71 (fun _ => rfl) (fun ρ L R w hd hs => Aan hs (hmi _ hkm)) (fun _ _ _ _ _ => rfl) ?_
  refine Bu (γ := Value) (val := fun v => v) (F := fun v => [sl v (Dn (way fs (ms.take k)) (Ck (ms.getD k zMsg)))]) Tryz.call70 (fun _ => rfl) (fun ρ L R w hd hs => frz (S4 hs (hd.base mm) (hd.dep (it := ⟨6, _, _, _, _⟩) (by repeat (first | exact List.Mem.head _ | refine List.Mem.tail _ ?_)) ⟨9, rfl⟩ (List.Mem.head _)))) (fun ρ g S hS hA => by have u10 : upS S 7 10 = S 10 := rfl; have h10 : S 10 = false := hA 10 ⟨0, rfl⟩; simp only [u10, h10, cond_false]) ?_
  refine dn2 ?_
  refine D9 (T0 := 30) (f := 2) (vs := fun ρ => [cv, hv, gv]) (v := fun ρ => (Gh.dec (γ := Value) (ρ 7))) (fun ρ => b) Tryz.sizeOf28 (fun _ => rfl) (fun _ => rfl) (fun ρ S R w L9 hB hd hs => isSlice.one (hs.fact (hd.dep (it := ⟨7, _, _, _, _⟩) (by repeat (first | exact List.Mem.head _ | refine List.Mem.tail _ ?_)) ⟨9, rfl⟩ (List.Mem.head _)))) (fun _ => rfl) (fun ρ g S hS hB hA => ?_) ?_
  ·have ui : upS S 10 10 = true := rfl; have r7 : Rho.set ρ 10 g 7 = ρ 7 := rfl
   simp only [ui, hS, r7, cond_true, cond_false]
   exact pex
  refine dnl ?_; intro ρ
  refine xq_ (blk b 30 [cv, hv, (Gh.dec (γ := Value) (ρ 7))] :: blk b5 76 (ms.getD k zMsg).cells :: L) ?_
  generalize (Gh.dec (γ := Value) (ρ 6)) = v18
  generalize (Gh.dec (γ := Value) (ρ 7)) = v19
  refine ZC ?_
  refine Aw (k + 1, v19) (by show k + 1 ≤ ms.length; omega) (by show ms.length - (k + 1) < ms.length - k; omega) alT (fun w hs => ?_)
  try simp only
  rw [E1 zMsg (by omega), Ir]; exact Ag hs
 ·intro ht9
  refine Gl ?_
  have hkl : k = ms.length := by omega
  refine Bf (.inl rfl) (fun B w hs => Hz rfl _ w) (fun w hs => ⟨gv, rfl, by rw [hkl, List.take_length] at hs; exact Ag hs⟩)
def SB (x : Chip) (N : Nat) : Prop := ∀ c ∈ x.cores, ∀ l ∈ c.lines, l.serial ≤ (N : Int)
theorem SB.mono {x : Chip} {N K : Nat} (h : SB x N) (hk : N ≤ K) : SB x K := fun c hc l hl => Int.le_trans (h c hc l hl) (by omega)
theorem SB.set {x : Chip} {N : Nat} {p : Nat} {c : Core} (h : SB x N) (hc : ∀ l ∈ c.lines, l.serial ≤ (N : Int)) {hm : List Entry} {fr : Frames} : SB ⟨x.cores.set p c, hm, fr⟩ N := by
 intro d hd l hl
 rcases List.mem_or_eq_of_mem_set hd with h1 | h1
 ·exact h d h1 l hl
 ·subst h1; exact hc l hl
theorem SB.line {c : Core} {N : Int} (h : ∀ l ∈ c.lines, l.serial ≤ N) (h0 : 0 ≤ N) (i : Int) : (Ac c i).serial ≤ N := by
 unfold Ac
 rw [List.getD_eq_getElem?_getD]
 cases e : c.lines[i.toNat]? with
 | none => exact h0
 | some l => exact h l (List.mem_of_getElem? e)
theorem SB.at {x : Chip} {N : Nat} (h : SB x N) (p : Int) : ∀ l ∈ (As x p).lines, l.serial ≤ (N : Int) := by
 unfold As
 rw [List.getD_eq_getElem?_getD]
 cases e : x.cores[p.toNat]? with
 | none => intro l hl; cases hl
 | some c => exact h c (List.mem_of_getElem? e)
theorem SB.wl {c : Core} {N K : Int} (h : ∀ l ∈ c.lines, l.serial ≤ N) (hk : N ≤ K) {i : Int} {l : Line} {w : Op} (hl : l.serial ≤ K) : ∀ l' ∈ (A5 c i l w).lines, l'.serial ≤ K := by
 intro l' h'
 rcases List.mem_or_eq_of_mem_set h' with h1 | h1
 ·exact Int.le_trans (h l' h1) hk
 ·subst h1; exact hl
theorem SB.hear {c : Core} {N : Nat} (h : ∀ l ∈ c.lines, l.serial ≤ (N : Int)) {id home : Int} {m : Msg} : ∀ l ∈ (Ae c id home m).1.lines, l.serial ≤ (N : Int) := by
 have h0 := SB.line h (by omega) m.line
 unfold Ae
 split
 ·exact h
 split
 ·refine SB.wl h (Int.le_refl _) ?_
  unfold Db; split <;> (try split) <;> exact h0
 split
 ·split
  ·refine SB.wl h (Int.le_refl _) ?_
   unfold Cv; split <;> (try split) <;> exact h0
  split <;> exact h
 split
 ·split
  ·exact h
  split
  ·exact SB.wl h (Int.le_refl _) h0
  ·exact h
 split
 ·exact SB.wl h (Int.le_refl _) h0
 ·exact h
theorem SB.begin {c : Core} {N : Nat} (h : ∀ l ∈ c.lines, l.serial ≤ (N : Int)) {id home : Int} {o : Op} : ∀ l ∈ (Aj c id home o).1.lines, l.serial ≤ ((N + 1 : Nat) : Int) := by
 have h0 := SB.line h (by omega) o.line
 have h1 : (A1 (Ac c o.line) o).serial ≤ ((N + 1 : Nat) : Int) := by
  unfold A1
  split <;> (try split) <;> (simp only; omega)
 unfold Aj
 split
 ·intro l hl; cases hl
 split
 ·intro l hl; cases hl
 split
 ·intro l hl; cases hl
 split
 ·exact SB.wl h (by omega) h1
 ·exact SB.wl h (by omega) h1
theorem SB.zero {N : Nat} : SB zChip N := fun c hc => by cases hc
theorem SB.step {x : Chip} {N : Nat} (h : SB x N) (s : Step) : SB (Al x s).1 (N + 1) := by
 have hc : ∀ fr b, SB (Cl ⟨x.cores, x.home, fr⟩ b).1 N := by
  intro fr b
  unfold Cl
  split
  ·exact h
  split
  ·exact h
  ·exact SB.set h (SB.hear (SB.at h _))
 unfold Al
 split
 ·split
  ·exact SB.zero
  split
  ·exact SB.zero
  ·exact SB.set (h.mono (by omega)) (SB.begin (SB.at h _))
 split
 ·split
  ·exact SB.zero
  ·exact (hc _ _).mono (by omega)
 split
 ·split
  ·exact SB.zero
  ·exact ZfR
 split
 ·split
  ·exact SB.zero
  ·exact ZfR
 split
 ·split
  ·exact SB.zero
  split
  ·exact SB.zero
  split
  ·exact SB.zero
  ·exact ZfR
 split
 ·split
  ·exact SB.zero
  split
  ·exact ZfR
  ·exact ZfR
 ·exact SB.zero
theorem SB.all : ∀ (l : List Step) {x : Chip} {N : Nat}, SB x N → SB (Fm x l).1 (N + l.length)
 | [], _, _, h => h
 | s :: r, x, N, h => by
  unfold Fm
  split
  ·refine (SB.all r (SB.step h s)).mono ?_
   rw [List.length_cons]; omega
  ·exact (SB.all r h).mono (by rw [List.length_cons]; omega)
theorem SB.build (c : Config) (l : List Step) : SB (build c l).1 300 := by
 unfold Go.Proofs.YtbigiimomnfpdaaGreat.build
 split
 ·exact SB.zero
 ·rename_i hg
  have h0 : SB (A6 c).1 0 := by
   intro k hk l hl
   unfold A6 at hk
   split at hk
   ·cases hk
   ·have e := List.eq_of_mem_replicate hk
    subst e
    have e2 := List.eq_of_mem_replicate hl
    subst e2
    exact Int.le_refl _
  refine (SB.all (l.take 300) h0).mono ?_
  rw [List.length_take]; omega
section
variable {n nl : Nat} {x : Chip} {M : List Int}
end
section
variable {n nl : Nat} {x : Chip} {M : List Int}
def once (x : Chip) (k : Int) : Chip × List Done × Int := Al x ⟨2, 0, k, 0, zOp⟩
end
theorem Xf {v u : Value} {cs : List Core} {i : Nat} (c : Core) (hu : sl u c.lines ∈ R) (hw : c.wait.wf) (hs : St (foc 57 v cs i (Core.cells u c) :: L) R w) : St (row 57 v (cs.set i c) :: L) R w := hs.unfocus (fun j hj => ⟨u, rfl, hj _ hu, hw⟩)
theorem Qx {v u : Value} {cs : List Core} {i : Nat} (hu : sl u (cs.getD i Er).lines ∈ R) (hw : (cs.getD i Er).wait.wf) (hs : St (foc 57 v cs i (Core.cells u (cs.getD i Er)) :: L) R w) : St (row 57 v cs :: L) R w := by
 have h := Xf _ hu hw hs
 rwa [Jv] at h
theorem L7 {id : Int} : ∀ (l : List Entry) (i : Int), (∀ k, k < l.length → ∀ a ∈ Fk (l.getD k Az) (i + (k : Int)) id, MsgIn a) → ∀ a ∈ Cz id i l, MsgIn a
 | [], i, h, a, ha => by cases ha
 | e :: r, i, h, a, ha => by
  simp only [Cz, List.mem_append] at ha
  rcases ha with ha | ha
  ·exact h 0 (by simp) a (by simpa using ha)
  ·refine L7 r (i + 1) (fun k hk a ha => h (k + 1) (by simpa using hk) a ?_) a ha
   rw [show i + ((k + 1 : Nat) : Int) = i + 1 + (k : Int) by omega]; exact ha
def Ld (x : Chip) (node : Int) : Int := if node < 0 ∨ Bk x < node then 5 else 0
def Fe (x : Chip) (node : Int) : Frames := if node < 0 ∨ Bk x < node then x.frames else if node = Bk x then way x.frames (Gb x.home node) else way x.frames (Dl (As x node) node (Bk x))
def Le (x : Chip) (s : Step) : Frames × Int := if Cn x s.n then ([], 5) else if (Af (Ap x) (Ay x.frames s.n)).2 ≠ 0 then ([], 6) else Cg x.frames s.n s.bit
theorem Vb {b : Nat} {cv hv fv : Value} {x : Chip} {node : Int} {n nl : Nat} {M : List Int} (hs : St (row 57 cv x.cores :: blk b 30 [cv, hv, fv] :: L) R w) (hhv : sl hv x.home ∈ R) (hfv : sl fv x.frames ∈ R) (h : Inv n nl x M) : Calls Tryz.prog 47 [bp b 0, vi node].toArray w (Bt (fun v : Value => vi (Ld x node)) (fun v => row 57 cv x.cores :: blk b 30 [cv, hv, v] :: L) (fun v => sl v (Fe x node) :: R)) := by
 have hnc := h.nc
 have hnh := h.nh
 have hn1 := h.n1
 have hn2 := h.l1
 refine Ai Tryz.func47 rfl Tryz.ntmps47 rfl hs ?_
 clear hs
 refine ZA ?_
 rcases (show (node < 0) ∨ (0 ≤ node ∧ (x.cores.length : Int) < node) ∨ (0 ≤ node ∧ node ≤ (x.cores.length : Int)) from by omega) with hc | hc | hc
 ·refine ZB ?_
  refine D8 ?_
  refine Gd10 ?_
  exact ZfG
 ·refine ZB ?_
  refine Ba ?_
  refine rn7 ?_
  refine gy ?_
  refine Fp ?_
  refine Gd2 ?_
  exact ZfG
 ·refine ZB ?_
  refine Ba ?_
  refine rn7 ?_
  refine gy ?_
  refine D2 ?_
  refine Gd2 ?_
  refine Ga8 ?_
  refine cdy ?_ ?_
  ·intro ht33
   refine Zap ?_
   refine An Tryz.call78 rfl (fun w hs => Uj (l := x.home) (id := node) hs mm (fun i hi => (h.ebs i hi).1) (by omega) (by unfold Ao; omega)) ?_; intro vt
   refine An Tryz.call42 rfl (fun w hs => Ke (cv := cv) (hv := hv) (fv := fv) (fs := x.frames) (ms := Gb x.home node) (Ag (L' := blk b 30 [cv, hv, fv] :: row 57 cv x.cores :: L) hs) mm mm (L7 _ 0 (fun k hk a ha => h.says_in k hk a (by rw [Int.zero_add] at ha; rw [← hnc, ← ht33]; exact ha)))) ?_; intro vs
   refine ZA ?_
   have er : Ld x node = 0 ∧ Fe x node = way x.frames (Gb x.home node) := by unfold Ld Fe Bk; rw [if_neg (by omega), if_neg (by omega), if_pos ht33]; exact ⟨rfl, rfl⟩
   rw [er.1, er.2]
   exact Bc vs
  ·intro ht33
   refine JC.focus1 (T := 57) (v := cv) (xs := x.cores) node.toNat pkk (by omega) (fun hwt u => ?_)
   have hkb : KB (As x node) := h.kb (p := node.toNat) (by omega)
   have hlb := h.lbs (p := node) (by omega)
   refine Zan ?_
   refine dj ?_
   refine dc (fun _ _ => Ic (v := cv) (i := node) Pq (hl := Di (α := Core) (xs := x.cores) pkk)) ?_
   refine djc (fun _ _ => Yi (cs := Core.cells u (As x node)) Tryz.isAgg57 Tryz.sizeOf57) ?_
   refine dn5 ?_
   refine djc (fun _ _ => P6 Tryz.underlying26 rfl (Di (α := Core) (xs := x.cores) pkk)) ?_
   refine dj ?_
   refine Il (γ := Value) (val := fun v => v) (F := fun v => [sl v (Dl (As x node) node (x.cores.length : Int))]) (C := fun _ => []) Tryz.call79 (fun _ => rfl) (fun _ _ _ _ => rfl) (fun ρ L R w hd hs => U1 (c := (As x node)) (id := node) (home := (x.cores.length : Int)) (u := u) hs (hd.base mm) (by have := hkb.n; omega) (by unfold Ao; omega) (by unfold Ao; omega)) ?_
   refine dtl ?_; intro ρ
   have hkn := hkb.n
   generalize (Gh.dec (γ := Value) (ρ 14)) = vt
   refine An Tryz.call42 rfl (fun w hs => Ke (cv := cv) (hv := hv) (fv := fv) (fs := x.frames) (ms := (Dl (As x node) node (x.cores.length : Int))) (Ag (L' := blk b 30 [cv, hv, fv] :: foc 57 cv x.cores node.toNat (Core.cells u (As x node)) :: L) hs) mm mm (Ob (by omega) (by omega) _ 0 (by omega) (by omega) (Te (d := zLine) hlb))) ?_; intro vs
   refine Gl ?_
   refine kp [4] ?_
   refine ZY ?_
   have er : Ld x node = 0 ∧ Fe x node = way x.frames (Dl (As x node) node (x.cores.length : Int)) := by unfold Ld Fe Bk; rw [if_neg (by omega), if_neg (by omega), if_neg ht33]; exact ⟨rfl, rfl⟩
   rw [er.1, er.2]
   exact Bc vs (hs := fun w hs => Ag (Qx mm hwt (hs.pick pkk)))
theorem Vc {b : Nat} {cv hv fv : Value} {x : Chip} {s : Step} (hs : St (blk b 30 [cv, hv, fv] :: L) R w) (hcv : sl cv x.cores ∈ R) (hhv : sl hv x.home ∈ R) (hfv : sl fv x.frames ∈ R) (hsn : s.wf) : Calls Tryz.prog 46 [bp b 0, .agg s.cells.toArray].toArray w (Bt (fun v : Value => .tuple #[v, vi (Le x s).2]) (fun v => blk b 30 [cv, hv, fv] :: L) (fun v => sl v (Le x s).1 :: R)) := by
 refine Ai Tryz.func46 rfl Tryz.ntmps46 rfl hs ?_
 clear hs
 refine Zat ?_;intro b3
 refine Ga2 ?_
 rcases (show (Cn x s.n) ∨ (¬ Cn x s.n) from by exact Decidable.em _) with hc | hc
 ·refine Zdf ?_;intro hnt
  refine Zeo ?_
  refine Bu (γ := Value × Value) (val := fun v => .tuple #[v.1, v.2, vi 5]) (F := fun v => [sl v.1 ([] : Frames), sl v.2 ([] : List UInt8)]) Tryz.call43 (fun _ => rfl) (fun ρ L R w hd hs => by have h := Iv (l := x.frames) (n := s.n) hs (hd.base mm) hsn.2.2.1; rw [hnt] at h; exact frz h) (fun _ _ _ _ _ => rfl) ?_
  refine e_p (v := fun ρ => .tuple #[(Gh.dec (γ := Value × Value) (ρ 6)).1, (Gh.dec (γ := Value × Value) (ρ 6)).2, vi 5]) (fun _ _ => Pi) (Ind.gh (h := fun g => (.tuple #[(Gh.dec (γ := Value × Value) g).1, (Gh.dec (γ := Value × Value) g).2, vi 5] : Value)) 6 0 rfl) (fun _ _ _ _ _ => rfl) ?_
  refine ZcE ?_
  refine Jr (v := vi 5) (fun _ _ => q_x) (fun _ _ _ _ _ => rfl) ?_
  refine ZcF ?_
  refine Jr (v := vi 5) (fun _ _ => Da) (fun _ _ _ _ _ => rfl) ?_
  refine dnl ?_; intro ρ
  refine xq_ (blk b3 38 s.cells :: blk b 30 [cv, hv, fv] :: L) ?_
  generalize (Gh.dec (γ := Value × Value) (ρ 6)) = vq
  refine ZI ?_
  refine ob (Am rfl rfl (E7 (by decide))) ?_
  refine Glc ?_
  refine JC.slNil (List UInt8) ?_
  refine Aa ?_
  refine Ga3 ?_
  have er : Le x s = ([], 5) := by unfold Le; rw [if_pos hc]
  rw [er]
  exact Ce (.slice none 0 0)
 ·refine ZcW ?_;intro hnt
  refine Zeo ?_
  refine Bu (γ := Value × Value) (val := fun v => .tuple #[v.1, v.2, vi 0]) (F := fun v => [sl v.1 (x.frames.eraseIdx s.n.toNat), sl v.2 (Ay x.frames s.n)]) Tryz.call43 (fun _ => rfl) (fun ρ L R w hd hs => by have h := Iv (l := x.frames) (n := s.n) hs (hd.base mm) hsn.2.2.1; rw [hnt] at h; exact frz h) (fun _ _ _ _ _ => rfl) ?_
  refine e_p (v := fun ρ => .tuple #[(Gh.dec (γ := Value × Value) (ρ 6)).1, (Gh.dec (γ := Value × Value) (ρ 6)).2, vi 0]) (fun _ _ => Pi) (Ind.gh (h := fun g => (.tuple #[(Gh.dec (γ := Value × Value) g).1, (Gh.dec (γ := Value × Value) g).2, vi 0] : Value)) 6 0 rfl) (fun _ _ _ _ _ => rfl) ?_
  refine ZcE ?_
  refine Jr (v := vi 0) (fun _ _ => q_x) (fun _ _ _ _ _ => rfl) ?_
  refine ZcF ?_
  refine Jr (v := vi 0) (fun _ _ => Da) (fun _ _ _ _ _ => rfl) ?_
  refine dnl ?_; intro ρ
  refine xq_ (blk b3 38 s.cells :: blk b 30 [cv, hv, fv] :: L) ?_
  generalize (Gh.dec (γ := Value × Value) (ρ 6)) = vq
  refine ZI ?_
  refine ob (Am rfl rfl (C7 rfl)) ?_
  refine Gmc ?_
  refine rn1 ?_
  refine An Tryz.call74 rfl (fun w hs => Abt (x := x) (cv := cv) (hv := hv) (fv := fv) (Ag (L' := blk b 30 [cv, hv, fv] :: blk b3 38 s.cells :: L) hs) mm mm) ?_; intro _
  refine rn1 ?_
  refine An Tryz.call73 rfl (fun w hs => Tf (c := Ap x) (b := Ay x.frames s.n) hs mm) ?_; intro _
  refine rn3 ?_
  refine al_ (cs := zMsg.cells) Tryz.zeroValue76 ?_; intro b9
  refine Zdj ?_
  refine cdy ?_ ?_
  ·intro ht33
   refine Gl ?_
   refine JC.slNil (List UInt8) ?_
   refine kp [0, 3, 4, 5] ?_
   refine ZQ ?_
   have er : Le x s = ([], 6) := by unfold Le; rw [if_neg hc, if_pos ht33]
   rw [er]
   exact Ce (.slice none 0 0)
  ·intro ht33
   refine Gl ?_
   refine kp [0, 3, 4, 5, 34, 35, 36, 37, 38, 39, 40, 41, 42, 43, 44] ?_
   refine cq_ (blk b9 76 (Af (Ap x) (Ay x.frames s.n)).1.cells :: blk b3 38 s.cells :: blk b 30 [cv, hv, fv] :: L) ?_
   refine jd_ (fun ρ S => blk b9 76 (Af (Ap x) (Ay x.frames s.n)).1.cells :: blk b3 38 s.cells :: blk b 30 [cv, hv, fv] :: L) ?_
   refine dn8 ?_
   refine Bu (γ := Value) (val := fun v => .tuple #[v, vi (Cg x.frames s.n s.bit).2]) (F := fun v => [sl v (Cg x.frames s.n s.bit).1]) Tryz.call77 (fun _ => rfl) (fun ρ L R w hd hs => frz (We (l := x.frames) (n := s.n) (bit := s.bit) hs (hd.base mm) hsn.2.2.1 hsn.2.2.2.1)) (fun _ _ _ _ _ => rfl) ?_
   refine e_p (v := fun ρ => (Gh.dec (γ := Value) (ρ 8))) (fun _ _ => q_x) (Ind.gh (h := fun g => ((Gh.dec (γ := Value) g) : Value)) 8 0 rfl) (fun _ _ _ _ _ => rfl) ?_
   refine Jr (v := vi (Cg x.frames s.n s.bit).2) (fun _ _ => q_x) (fun _ _ _ _ _ => rfl) ?_
   refine epg 8 0 ?_
   refine Jr (v := vi (Cg x.frames s.n s.bit).2) (fun _ _ => Da) (fun _ _ _ _ _ => rfl) ?_
   refine dnl ?_; intro ρ
   refine xq_ (blk b9 76 (Af (Ap x) (Ay x.frames s.n)).1.cells :: blk b3 38 s.cells :: blk b 30 [cv, hv, fv] :: L) ?_
   generalize (Gh.dec (γ := Value) (ρ 8)) = vz
   refine Gl ?_
   have er : Le x s = (Cg x.frames s.n s.bit) := by unfold Le; rw [if_neg hc, if_neg ht33]
   rw [er]
   exact Ce vz
theorem fs_A {a b p : Fact} {R : List Fact} (ha : a ∈ R) (hb : b ∈ R) : ∀ f ∈ a :: b :: p :: R, f ∈ p :: R := fun f hf => by
 simp only [List.mem_cons] at hf ⊢
 rcases hf with e | e | e | e
 ·rw [e]; exact .inr ha
 ·rw [e]; exact .inr hb
 ·exact .inl e
 ·exact .inr e
theorem fs_B {a p q : Fact} {R : List Fact} (ha : a ∈ R) : ∀ f ∈ a :: p :: q :: R, f ∈ p :: q :: R := fun f hf => by
 simp only [List.mem_cons] at hf ⊢
 rcases hf with e | e | e | e
 ·rw [e]; exact .inr (.inr ha)
 ·exact .inl e
 ·exact .inr (.inl e)
 ·exact .inr (.inr e)
theorem Xx {b : Nat} {cv hv fv : Value} {x : Chip} {vb : Value} {bt : List UInt8} {n nl : Nat} {M : List Int} (hs : St (row 57 cv x.cores :: blk b 30 [cv, hv, fv] :: L) R w) (hhv : sl hv x.home ∈ R) (hfv : sl fv x.frames ∈ R) (hvb : sl vb bt ∈ R) (h : Inv n nl x M) : Calls Tryz.prog 44 [bp b 0, vb].toArray w (Bt (fun g : Value × Value × Value => g.2.2) (fun g => row 57 cv (Cl x bt).1.cores :: blk b 30 [cv, g.1, g.2.1] :: L) (fun g => sl g.1 (Cl x bt).1.home :: sl g.2.1 (Cl x bt).1.frames :: sl g.2.2 (Cl x bt).2 :: R)) := by
 have hnc := h.nc
 have hnh := h.nh
 have hn1 := h.n1
 have hn2 := h.l1
 have honec : cv.oneCell' = true := Bx .hd hs
 have honeh : hv.oneCell' = true := isSlice.one (hs.fact hhv)
 have honef : fv.oneCell' = true := isSlice.one (hs.fact hfv)
 have hn64 : Ao (x.cores.length : Int) := by unfold Ao; omega
 refine Ai Tryz.func44 rfl Tryz.ntmps44 rfl hs ?_
 clear hs
 refine ZM ?_
 refine rn1 ?_
 refine An Tryz.call74 rfl (fun w hs => Ahr (x := x) (cv := cv) (hv := hv) (fv := fv) hs mm) ?_; intro _
 refine rn1 ?_
 refine An Tryz.call73 rfl (fun w hs => Tf (c := Ap x) (b := bt) hs mm) ?_; intro _
 refine rn3 ?_
 refine al_ (cs := zMsg.cells) Tryz.zeroValue76 ?_; intro b5
 refine s_B (cs := (Af (Ap x) bt).1.cells) Tryz.sizeOf76 ?_
 refine ZH ?_
 refine cdy ?_ ?_
 ·intro ht21
  refine Gl ?_
  refine ZJ ?_
  refine ZY ?_
  have er : Cl x bt = (x, []) := by unfold Cl; rw [if_pos ht21]
  rw [er]
  exact Bc (hv, fv, .slice none 0 0) (hs := fun w hs => (Ag hs : St _ (sl (.slice none 0 0) ([] : List Done) :: R) w).sub .refl (fs_A hhv hfv))
 ·intro ht21
  refine Gl ?_
  have hp0 : (Af (Ap x) bt).2 = 0 := Decidable.not_not.1 ht21
  have hpk := Jy (c := Ap x) (b := bt) (m := (Af (Ap x) bt).1) (by rw [← hp0])
  have hwk := Ip hpk.2.2.2.2.1
  have hpw : (Af (Ap x) bt).1.wf := by rw [hpk.2.2.2.2.2]; exact Ot _
  have ecn : (Ap x).cores = (x.cores.length : Int) := rfl
  rw [ecn] at hwk
  refine Aa ?_
  refine Gb6 ?_
  refine Ga4 ?_
  refine cdy ?_ ?_
  ·intro ht30
   refine Gl ?_
   refine cq_ (blk b5 76 (Af (Ap x) bt).1.cells :: row 57 cv x.cores :: blk b 30 [cv, hv, fv] :: L) ?_
   refine jd_ (fun ρ S => blk b5 76 (Af (Ap x) bt).1.cells :: row 57 cv x.cores :: blk b 30 [cv, hv, fv] :: L) ?_
   refine dn6 ?_
   refine Bu (γ := Value × Value) (val := fun v => .tuple #[v.1, v.2]) (F := fun v => [sl v.1 (Ak x.home (x.cores.length : Int) (Af (Ap x) bt).1).1, sl v.2 (Ak x.home (x.cores.length : Int) (Af (Ap x) bt).1).2]) Tryz.call75 (fun _ => rfl) (fun ρ L R w hd hs => Qk (l := x.home) (id := (x.cores.length : Int)) (m := (Af (Ap x) bt).1) hs (hd.base mm) (fun i hi => (h.ebs i hi).1) (fun i hi => (h.ebs i hi).2.2.2.2) hpw hn64) (fun _ _ _ _ _ => rfl) ?_
   refine e_p (v := fun ρ => .tuple #[(Gh.dec (γ := Value × Value) (ρ 6)).1, (Gh.dec (γ := Value × Value) (ρ 6)).2]) (fun _ _ => Pi) (Ind.gh (h := fun g => (.tuple #[(Gh.dec (γ := Value × Value) g).1, (Gh.dec (γ := Value × Value) g).2] : Value)) 6 0 rfl) (fun _ _ _ _ _ => rfl) ?_
   refine ZcE ?_
   refine ZcF ?_
   refine dnl ?_; intro ρ
   refine xq_ (blk b5 76 (Af (Ap x) bt).1.cells :: row 57 cv x.cores :: blk b 30 [cv, hv, fv] :: L) ?_
   generalize (Gh.dec (γ := Value × Value) (ρ 6)) = vh
   refine Gl ?_
   refine JC.know (p := vh.1.oneCell' = true) (fun w hs => isSlice.one (hs.fact (mm (f := sl vh.1 (Ak x.home (x.cores.length : Int) (Af (Ap x) bt).1).1)))) (fun honeh1 => ?_)
   refine kp [0, 4, 5, 7, 8, 9, 41, 42, 43, 44] ?_
   refine ZE ?_
   refine sc ?_
   refine ZK ?_
   refine An Tryz.call42 rfl (fun w hs => Ke (cv := cv) (hv := vh.1) (fv := fv) (fs := x.frames) (ms := (Ak x.home (x.cores.length : Int) (Af (Ap x) bt).1).2) (Ag (L' := blk b 30 [cv, vh.1, fv] :: row 57 cv x.cores :: L) hs) mm mm (Ms (by omega) (by omega) h.ebs hwk.2.2.2.1 hwk.2.2.2.2.2.1)) ?_; intro vs
   refine Gl ?_
   refine ZJ ?_
   refine ZY ?_
   have er : Cl x bt = (⟨x.cores, (Ak x.home (x.cores.length : Int) (Af (Ap x) bt).1).1, way x.frames (Ak x.home (x.cores.length : Int) (Af (Ap x) bt).1).2⟩, []) := by unfold Cl Bk; rw [if_neg ht21, if_pos ht30]
   rw [er]
   exact Bc (vh.1, vs, .slice none 0 0)
  ·intro ht30
   refine Gl ?_
   refine JC.focus1 (T := 57) (v := cv) (xs := x.cores) (Af (Ap x) bt).1.dst.toNat pkk (by omega) (fun hwt u => ?_)
   have hkb : KB (As x (Af (Ap x) bt).1.dst) := h.kb (p := (Af (Ap x) bt).1.dst.toNat) (by omega)
   have hlb := h.lbs (p := (Af (Ap x) bt).1.dst) (by omega)
   have hk4 := hkb.n
   have hpd64 : Ao (Af (Ap x) bt).1.dst := by unfold Ao; omega
   refine cq_ (foc 57 cv x.cores (Af (Ap x) bt).1.dst.toNat (Core.cells u (As x (Af (Ap x) bt).1.dst)) :: blk b5 76 (Af (Ap x) bt).1.cells :: blk b 30 [cv, hv, fv] :: L) ?_
   refine jd_ (fun ρ S => foc 57 cv x.cores (Af (Ap x) bt).1.dst.toNat (Core.cells u (As x (Af (Ap x) bt).1.dst)) :: blk b5 76 (Af (Ap x) bt).1.cells :: blk b 30 [cv, hv, fv] :: ((bif S 17 then [blk (Gh.dec (γ := Nat) (ρ 17)) 57 (bif S 18 then [(Gh.dec (γ := Value × Value × Value) (ρ 12)).1, vi (Ae (As x (Af (Ap x) bt).1.dst) (Af (Ap x) bt).1.dst (x.cores.length : Int) (Af (Ap x) bt).1).1.wait.kind, vi (Ae (As x (Af (Ap x) bt).1.dst) (Af (Ap x) bt).1.dst (x.cores.length : Int) (Af (Ap x) bt).1).1.wait.line, vi (Ae (As x (Af (Ap x) bt).1.dst) (Af (Ap x) bt).1.dst (x.cores.length : Int) (Af (Ap x) bt).1).1.wait.value] else [.slice none 0 0, vi 0, vi 0, vi 0])] else []) ++ (L))) ?_
   refine dn6 ?_
   refine epc (fun _ _ => Ic (v := cv) (i := (Af (Ap x) bt).1.dst) Pq (hl := Di (α := Core) (xs := x.cores) pkk)) ?_
   refine epc (fun _ _ => Yi (cs := Core.cells u (As x (Af (Ap x) bt).1.dst)) Tryz.isAgg57 Tryz.sizeOf57) ?_
   refine dn4 ?_
   refine Bu (γ := Value × Value × Value) (val := fun v => .tuple #[.agg (Core.cells v.1 (Ae (As x (Af (Ap x) bt).1.dst) (Af (Ap x) bt).1.dst (x.cores.length : Int) (Af (Ap x) bt).1).1).toArray, v.2.1, v.2.2]) (F := fun v => [sl v.1 (Ae (As x (Af (Ap x) bt).1.dst) (Af (Ap x) bt).1.dst (x.cores.length : Int) (Af (Ap x) bt).1).1.lines, sl v.2.1 (Ae (As x (Af (Ap x) bt).1.dst) (Af (Ap x) bt).1.dst (x.cores.length : Int) (Af (Ap x) bt).1).2.1, sl v.2.2 (Ae (As x (Af (Ap x) bt).1.dst) (Af (Ap x) bt).1.dst (x.cores.length : Int) (Af (Ap x) bt).1).2.2]) Tryz.call76 (fun _ => rfl) (fun ρ L R w hd hs => Xg (c := (As x (Af (Ap x) bt).1.dst)) (id := (Af (Ap x) bt).1.dst) (home := (x.cores.length : Int)) (m := (Af (Ap x) bt).1) (u := u) hs (hd.base mm) hkb.kh hpd64 hn64 hpw) (fun ρ g S hS hA => by have u17 : upS S 12 17 = S 17 := rfl; have u18 : upS S 12 18 = S 18 := rfl; have r17 : Rho.set ρ 12 g 17 = ρ 17 := rfl; have h18 : S 18 = false := hA 18 ⟨0, rfl⟩; simp only [u17, u18, r17, h18, cond_false]) ?_
   refine e_p (v := fun ρ => .tuple #[.agg (Core.cells (Gh.dec (γ := Value × Value × Value) (ρ 12)).1 (Ae (As x (Af (Ap x) bt).1.dst) (Af (Ap x) bt).1.dst (x.cores.length : Int) (Af (Ap x) bt).1).1).toArray, (Gh.dec (γ := Value × Value × Value) (ρ 12)).2.1, (Gh.dec (γ := Value × Value × Value) (ρ 12)).2.2]) (fun _ _ => Pi) (Ind.gh (h := fun g => (.tuple #[.agg (Core.cells (Gh.dec (γ := Value × Value × Value) g).1 (Ae (As x (Af (Ap x) bt).1.dst) (Af (Ap x) bt).1.dst (x.cores.length : Int) (Af (Ap x) bt).1).1).toArray, (Gh.dec (γ := Value × Value × Value) g).2.1, (Gh.dec (γ := Value × Value × Value) g).2.2] : Value)) 12 0 rfl) (fun _ _ _ _ _ => rfl) ?_
   refine e_p (v := fun ρ => .agg (Core.cells (Gh.dec (γ := Value × Value × Value) (ρ 12)).1 (Ae (As x (Af (Ap x) bt).1.dst) (Af (Ap x) bt).1.dst (x.cores.length : Int) (Af (Ap x) bt).1).1).toArray) (fun _ _ => q_x) (Ind.gh (h := fun g => (.agg (Core.cells (Gh.dec (γ := Value × Value × Value) g).1 (Ae (As x (Af (Ap x) bt).1.dst) (Af (Ap x) bt).1.dst (x.cores.length : Int) (Af (Ap x) bt).1).1).toArray : Value)) 12 1 rfl) (fun _ _ _ _ _ => rfl) ?_
   refine e_p (v := fun ρ => (Gh.dec (γ := Value × Value × Value) (ρ 12)).2.1) (fun _ _ => q_x) (Ind.gh (h := fun g => ((Gh.dec (γ := Value × Value × Value) g).2.1 : Value)) 12 1 rfl) (fun _ _ _ _ _ => rfl) ?_
   refine e_p (v := fun ρ => (Gh.dec (γ := Value × Value × Value) (ρ 12)).2.2) (fun _ _ => q_x) (Ind.gh (h := fun g => ((Gh.dec (γ := Value × Value × Value) g).2.2 : Value)) 12 1 rfl) (fun _ _ _ _ _ => rfl) ?_
   refine Hr (cs := [.slice none 0 0, vi 0, vi 0, vi 0]) Tryz.zeroValue57 rfl (fun ρ b S hS hA => ?_) ?_
   ·have ui : upS S 17 17 = true := rfl; have u18 : upS S 17 18 = S 18 := rfl; have r12 : Rho.set ρ 17 (Gh.enc b) 12 = ρ 12 := rfl; have h18 : S 18 = false := hA 18 ⟨0, rfl⟩; have rs : (Gh.dec (γ := Nat) (Rho.set ρ 17 (Gh.enc b) 17)) = b := rfl
    simp only [ui, hS, u18, r12, h18, rs, cond_true, cond_false, List.nil_append]
    exact ZeS
   refine es_ 57 0 [17] [] (fun ρ => (Gh.dec (γ := Nat) (ρ 17))) (fun ρ => [.slice none 0 0, vi 0, vi 0, vi 0]) (fun ρ => [(Gh.dec (γ := Value × Value × Value) (ρ 12)).1, vi (Ae (As x (Af (Ap x) bt).1.dst) (Af (Ap x) bt).1.dst (x.cores.length : Int) (Af (Ap x) bt).1).1.wait.kind, vi (Ae (As x (Af (Ap x) bt).1.dst) (Af (Ap x) bt).1.dst (x.cores.length : Int) (Af (Ap x) bt).1).1.wait.line, vi (Ae (As x (Af (Ap x) bt).1.dst) (Af (Ap x) bt).1.dst (x.cores.length : Int) (Af (Ap x) bt).1).1.wait.value]) Tryz.sizeOf57 (h1 := (fun ρ R w L' hd hs => Bl (isSlice.one (hs.fact (hd.dep (it := ⟨12, _, _, _, _⟩) (by repeat (first | exact List.Mem.head _ | refine List.Mem.tail _ ?_)) ⟨9, rfl⟩ (List.Mem.head _)))) (by repeat (first | exact Dw | refine Bl rfl ?_)))) ?_
   refine e_p (v := fun ρ => (Gh.dec (γ := Value × Value × Value) (ρ 12)).2.1) (fun _ _ => Da) (Ind.gh (h := fun g => ((Gh.dec (γ := Value × Value × Value) g).2.1 : Value)) 12 0 rfl) (fun _ _ _ _ _ => rfl) ?_
   refine e_p (v := fun ρ => (Gh.dec (γ := Value × Value × Value) (ρ 12)).2.2) (fun _ _ => Da) (Ind.gh (h := fun g => ((Gh.dec (γ := Value × Value × Value) g).2.2 : Value)) 12 0 rfl) (fun _ _ _ _ _ => rfl) ?_
   refine dnl ?_; intro ρ
   refine xq_ (foc 57 cv x.cores (Af (Ap x) bt).1.dst.toNat (Core.cells u (As x (Af (Ap x) bt).1.dst)) :: blk b5 76 (Af (Ap x) bt).1.cells :: blk b 30 [cv, hv, fv] :: (blk (Gh.dec (γ := Nat) (ρ 17)) 57 [(Gh.dec (γ := Value × Value × Value) (ρ 12)).1, vi (Ae (As x (Af (Ap x) bt).1.dst) (Af (Ap x) bt).1.dst (x.cores.length : Int) (Af (Ap x) bt).1).1.wait.kind, vi (Ae (As x (Af (Ap x) bt).1.dst) (Af (Ap x) bt).1.dst (x.cores.length : Int) (Af (Ap x) bt).1).1.wait.line, vi (Ae (As x (Af (Ap x) bt).1.dst) (Af (Ap x) bt).1.dst (x.cores.length : Int) (Af (Ap x) bt).1).1.wait.value] :: L)) ?_
   generalize (Gh.dec (γ := Value × Value × Value) (ρ 12)) = vk
   generalize (Gh.dec (γ := Nat) (ρ 17)) = b10
   refine Gl ?_
   refine JC.conseq (L' := row 57 cv x.cores :: blk b10 57 (Core.cells vk.1 (Ae (As x (Af (Ap x) bt).1.dst) (Af (Ap x) bt).1.dst (x.cores.length : Int) (Af (Ap x) bt).1).1) :: blk b5 76 (Af (Ap x) bt).1.cells :: blk b 30 [cv, hv, fv] :: L) (fun w hs => Ag (Qx mm hwt (hs.pick pkk))) ?_
   refine kp [0, 4, 5, 10, 11, 12, 65, 66, 67, 68, 69, 70, 71, 72] ?_
   refine Zaj ?_
   refine dtl ?_; intro ρ
   refine s_W (α := Core) (Ae (As x (Af (Ap x) bt).1.dst) (Af (Ap x) bt).1.dst (x.cores.length : Int) (Af (Ap x) bt).1).1 Tryz.sizeOf57 rfl rfl rfl pkk (by omega) (V2 mm (Ql hkb.wwf)) ?_
   refine ZK ?_
   refine An Tryz.call42 rfl (fun w hs => Ke (cv := cv) (hv := hv) (fv := fv) (fs := x.frames) (ms := (Ae (As x (Af (Ap x) bt).1.dst) (Af (Ap x) bt).1.dst (x.cores.length : Int) (Af (Ap x) bt).1).2.1) (Ag (L' := blk b 30 [cv, hv, fv] :: row 57 cv (x.cores.set (Af (Ap x) bt).1.dst.toNat (Ae (As x (Af (Ap x) bt).1.dst) (Af (Ap x) bt).1.dst (x.cores.length : Int) (Af (Ap x) bt).1).1) :: L) hs) mm mm (Ww (by omega) (by omega) hk4 hlb hwk.2.2.2.2.1)) ?_; intro vs
   refine ZC ?_
   have er : Cl x bt = (Dd x (Af (Ap x) bt).1.dst (Ae (As x (Af (Ap x) bt).1.dst) (Af (Ap x) bt).1.dst (x.cores.length : Int) (Af (Ap x) bt).1).1 (Ae (As x (Af (Ap x) bt).1.dst) (Af (Ap x) bt).1.dst (x.cores.length : Int) (Af (Ap x) bt).1).2.1, (Ae (As x (Af (Ap x) bt).1.dst) (Af (Ap x) bt).1.dst (x.cores.length : Int) (Af (Ap x) bt).1).2.2) := by unfold Cl Bk; rw [if_neg ht21, if_neg ht30]
   rw [er]
   exact Bc (hv, vs, vk.2.2) (hs := fun w hs => (Ag hs : St _ (sl vs (way x.frames (Ae (As x (Af (Ap x) bt).1.dst) (Af (Ap x) bt).1.dst (x.cores.length : Int) (Af (Ap x) bt).1).2.1) :: sl vk.2.2 (Ae (As x (Af (Ap x) bt).1.dst) (Af (Ap x) bt).1.dst (x.cores.length : Int) (Af (Ap x) bt).1).2.2 :: R) w).sub .refl (fs_B hhv))
theorem kv_row {v : Value} {ks : List KV} {cs : List Core} (h : ks.map KV.c = cs) (hs : St (row 57 v ks :: (ks.map Ym ++ L)) R w) : St (row 57 v cs :: L) R w := by
 subst h
 have h1 : St (ks.map Ym ++ (row 57 v ks :: L)) R w := hs.perm List.perm_middle.symm
 have h2 := Qe ks h1
 have h3 := T5 (fun x hx => List.mem_append.2 (.inl (List.mem_map.2 ⟨x, hx, rfl⟩))) h2
 exact h3.sub .refl (fun f hf => List.mem_append.2 (.inr hf))
theorem Hu {cv hv fv : Value} {x : Chip} (hs : St L R w) (hcv : sl cv x.cores ∈ R) (hhv : sl hv x.home ∈ R) (hfv : sl fv x.frames ∈ R) (hn4 : x.cores.length ≤ 1000) : Calls Tryz.prog 40 [.agg #[cv, hv, fv]].toArray w (Bt (fun g : Value × Value × Value => .agg #[g.1, g.2.1, g.2.2]) (fun g => row 57 g.1 x.cores :: L) (fun g => sl g.2.2 x.frames :: sl g.2.1 x.home :: R)) :=
 I0 (Ahq hs hcv hhv hfv hn4) (fun g w' hs' => ⟨(g.1, g.2.1, g.2.2.1), rfl, by
  have h1 := G3 (.head _) hs'
  exact (kv_row h1 hs').sub .refl (fun f hf => .tail _ hf)⟩)
theorem Aad {n nl : Nat} {x : Chip} {M : List Int} (h : Inv n nl x M) (i : Nat) : Inv n nl ⟨x.cores, x.home, x.frames.eraseIdx i⟩ M :=
 ⟨h.n1, h.l1, h.nc, h.nh, h.ncl, h.nla, h.ml, h.mv, h.bit, h.gi, h.ci, h.cw, by have := h.fr; have := List.length_eraseIdx_le x.frames i; simp only; omega, fun b hb => h.mi b (List.mem_of_mem_eraseIdx hb)⟩
theorem Abq {cv hv fv : Value} {x : Chip} {s : Step} {n nl : Nat} {M : List Int} (hs : St (L) R w) (hcv : sl cv x.cores ∈ R) (hhv : sl hv x.home ∈ R) (hfv : sl fv x.frames ∈ R) (hsn : s.wf) (h : Inv n nl x M) (hk : s.kind = 1) : Calls Tryz.prog 16 [.agg #[cv, hv, fv], .agg s.cells.toArray].toArray w (Bt (fun v : Value × Value × Value × Value => .tuple #[.agg #[v.1, v.2.1, v.2.2.1], v.2.2.2, vi (Al x s).2.2]) (fun v => L) (fun v => sl v.1 (Al x s).1.cores :: sl v.2.1 (Al x s).1.home :: sl v.2.2.1 (Al x s).1.frames :: sl v.2.2.2 (Al x s).2.1 :: R)) := by
 refine Zbd ?_;intro hnc hnh hn1 hn2 honec honeh honef hn64 hop
 clear hs
 refine ZaH ?_;intro b2 b3 b4
 refine rn1 ?_
 refine An Tryz.call40 rfl (fun w hs => Hu (x := x) (cv := cv) (hv := hv) (fv := fv) hs mm mm mm (by omega)) ?_; intro ⟨cY, hY, fY⟩
 refine Zbg ?_;intro h12
 obtain ⟨honeY1, honeY2, honeY3⟩ := h12
 refine Zbh ?_;intro b7
 refine Za1 ?_
 rcases (show (s.node < 0) ∨ (0 ≤ s.node ∧ (x.cores.length : Int) ≤ s.node) ∨ (0 ≤ s.node ∧ s.node < (x.cores.length : Int)) from by omega) with hc | hc | hc
 ·refine ZX ?_
  refine Gc8 ?_
  exact Zgy
 ·refine Zad ?_
  refine Zbo ?_
  refine Gc1 ?_
  exact Zgy
 ·refine Za5 ?_
  refine Gc1 ?_
  refine ZcU ?_;intro hwt u hkb hlb hk4
  refine cq_ (row 57 cY x.cores :: blk b7 30 [cY, hY, fY] :: blk b4 30 [.slice none 0 0, .slice none 0 0, .slice none 0 0] :: blk b3 38 s.cells :: blk b2 30 [cv, hv, fv] :: L) ?_
  refine jd_ (fun ρ S => row 57 cY x.cores :: blk b7 30 [cY, hY, fY] :: blk b4 30 [.slice none 0 0, .slice none 0 0, .slice none 0 0] :: blk b3 38 s.cells :: blk b2 30 [cv, hv, fv] :: ((bif S 19 then [blk (Gh.dec (γ := Nat) (ρ 19)) 57 (bif S 20 then [(Gh.dec (γ := Value × Value × Value) (ρ 13)).1, vi (Aj (As x s.node) s.node (x.cores.length : Int) s.op).1.wait.kind, vi (Aj (As x s.node) s.node (x.cores.length : Int) s.op).1.wait.line, vi (Aj (As x s.node) s.node (x.cores.length : Int) s.op).1.wait.value] else [.slice none 0 0, vi 0, vi 0, vi 0])] else []) ++ (L))) ?_
  refine dn13 ?_
  refine Bu (γ := Value × Value × Value) (val := fun v => .tuple #[.agg (Core.cells v.1 (Aj (As x s.node) s.node (x.cores.length : Int) s.op).1).toArray, v.2.1, v.2.2, vi (Aj (As x s.node) s.node (x.cores.length : Int) s.op).2.2.2]) (F := fun v => [sl v.1 (Aj (As x s.node) s.node (x.cores.length : Int) s.op).1.lines, sl v.2.1 (Aj (As x s.node) s.node (x.cores.length : Int) s.op).2.1, sl v.2.2 (Aj (As x s.node) s.node (x.cores.length : Int) s.op).2.2.1]) Tryz.call41 (fun _ => rfl) (fun ρ L R w hd hs => U3 (c := (As x s.node)) (id := s.node) (home := (x.cores.length : Int)) (q := s.op) (u := u) hs (hd.base mm) hkb hsn.2.1 hn64 hop) (fun ρ g S hS hA => by have u19 : upS S 13 19 = S 19 := rfl; have u20 : upS S 13 20 = S 20 := rfl; have r19 : Rho.set ρ 13 g 19 = ρ 19 := rfl; have h20 : S 20 = false := hA 20 ⟨0, rfl⟩; simp only [u19, u20, r19, h20, cond_false]) ?_
  refine e_p (v := fun ρ => .tuple #[.agg (Core.cells (Gh.dec (γ := Value × Value × Value) (ρ 13)).1 (Aj (As x s.node) s.node (x.cores.length : Int) s.op).1).toArray, (Gh.dec (γ := Value × Value × Value) (ρ 13)).2.1, (Gh.dec (γ := Value × Value × Value) (ρ 13)).2.2, vi (Aj (As x s.node) s.node (x.cores.length : Int) s.op).2.2.2]) (fun _ _ => Pi) (Ind.gh (h := fun g => (.tuple #[.agg (Core.cells (Gh.dec (γ := Value × Value × Value) g).1 (Aj (As x s.node) s.node (x.cores.length : Int) s.op).1).toArray, (Gh.dec (γ := Value × Value × Value) g).2.1, (Gh.dec (γ := Value × Value × Value) g).2.2, vi (Aj (As x s.node) s.node (x.cores.length : Int) s.op).2.2.2] : Value)) 13 0 rfl) (fun _ _ _ _ _ => rfl) ?_
  refine e_p (v := fun ρ => .agg (Core.cells (Gh.dec (γ := Value × Value × Value) (ρ 13)).1 (Aj (As x s.node) s.node (x.cores.length : Int) s.op).1).toArray) (fun _ _ => q_x) (Ind.gh (h := fun g => (.agg (Core.cells (Gh.dec (γ := Value × Value × Value) g).1 (Aj (As x s.node) s.node (x.cores.length : Int) s.op).1).toArray : Value)) 13 1 rfl) (fun _ _ _ _ _ => rfl) ?_
  refine e_p (v := fun ρ => (Gh.dec (γ := Value × Value × Value) (ρ 13)).2.1) (fun _ _ => q_x) (Ind.gh (h := fun g => ((Gh.dec (γ := Value × Value × Value) g).2.1 : Value)) 13 1 rfl) (fun _ _ _ _ _ => rfl) ?_
  refine e_p (v := fun ρ => (Gh.dec (γ := Value × Value × Value) (ρ 13)).2.2) (fun _ _ => q_x) (Ind.gh (h := fun g => ((Gh.dec (γ := Value × Value × Value) g).2.2 : Value)) 13 1 rfl) (fun _ _ _ _ _ => rfl) ?_
  refine Ze4 ?_
  refine Hr (cs := [.slice none 0 0, vi 0, vi 0, vi 0]) Tryz.zeroValue57 rfl (fun ρ b S hS hA => ?_) ?_
  ·have ui : upS S 19 19 = true := rfl; have u20 : upS S 19 20 = S 20 := rfl; have r13 : Rho.set ρ 19 (Gh.enc b) 13 = ρ 13 := rfl; have h20 : S 20 = false := hA 20 ⟨0, rfl⟩; have rs : (Gh.dec (γ := Nat) (Rho.set ρ 19 (Gh.enc b) 19)) = b := rfl
   simp only [ui, hS, u20, r13, h20, rs, cond_true, cond_false, List.nil_append]
   exact ZeS
  refine es_ 57 0 [19] [] (fun ρ => (Gh.dec (γ := Nat) (ρ 19))) (fun ρ => [.slice none 0 0, vi 0, vi 0, vi 0]) (fun ρ => [(Gh.dec (γ := Value × Value × Value) (ρ 13)).1, vi (Aj (As x s.node) s.node (x.cores.length : Int) s.op).1.wait.kind, vi (Aj (As x s.node) s.node (x.cores.length : Int) s.op).1.wait.line, vi (Aj (As x s.node) s.node (x.cores.length : Int) s.op).1.wait.value]) Tryz.sizeOf57 (h1 := (fun ρ R w L' hd hs => Bl (isSlice.one (hs.fact (hd.dep (it := ⟨13, _, _, _, _⟩) (by repeat (first | exact List.Mem.head _ | refine List.Mem.tail _ ?_)) ⟨9, rfl⟩ (List.Mem.head _)))) (by repeat (first | exact Dw | refine Bl rfl ?_)))) ?_
  refine e_p (v := fun ρ => (Gh.dec (γ := Value × Value × Value) (ρ 13)).2.1) (fun _ _ => Da) (Ind.gh (h := fun g => ((Gh.dec (γ := Value × Value × Value) g).2.1 : Value)) 13 0 rfl) (fun _ _ _ _ _ => rfl) ?_
  refine e_p (v := fun ρ => (Gh.dec (γ := Value × Value × Value) (ρ 13)).2.2) (fun _ _ => Da) (Ind.gh (h := fun g => ((Gh.dec (γ := Value × Value × Value) g).2.2 : Value)) 13 0 rfl) (fun _ _ _ _ _ => rfl) ?_
  refine Jr (v := vi (Aj (As x s.node) s.node (x.cores.length : Int) s.op).2.2.2) (fun _ _ => Da) (fun _ _ _ _ _ => rfl) ?_
  refine dnl ?_; intro ρ
  refine xq_ (row 57 cY x.cores :: blk b7 30 [cY, hY, fY] :: blk b4 30 [.slice none 0 0, .slice none 0 0, .slice none 0 0] :: blk b3 38 s.cells :: blk b2 30 [cv, hv, fv] :: (blk (Gh.dec (γ := Nat) (ρ 19)) 57 [(Gh.dec (γ := Value × Value × Value) (ρ 13)).1, vi (Aj (As x s.node) s.node (x.cores.length : Int) s.op).1.wait.kind, vi (Aj (As x s.node) s.node (x.cores.length : Int) s.op).1.wait.line, vi (Aj (As x s.node) s.node (x.cores.length : Int) s.op).1.wait.value] :: L)) ?_
  generalize (Gh.dec (γ := Value × Value × Value) (ρ 13)) = vk
  generalize (Gh.dec (γ := Nat) (ρ 19)) = b10
  refine Gl ?_
  refine kp [2, 3, 4, 5, 6, 7, 8, 9, 10, 11, 12, 13, 20, 54, 55] ?_
  refine ZQ ?_
  refine cdy ?_ ?_
  ·intro ht55
   refine Gl ?_
   refine Zaf ?_
   refine Zbp ?_
   have er : Al x s = (zChip, [], (Aj (As x s.node) s.node (x.cores.length : Int) s.op).2.2.2) := by unfold Al Bk; rw [if_pos (by omega), if_neg (by omega), if_pos ht55]
   rw [er]
   exact ZeU
  ·intro ht55
   refine Gm ?_
   refine rn6 ?_
   refine s_W (α := Core) (Aj (As x s.node) s.node (x.cores.length : Int) s.op).1 Tryz.sizeOf57 rfl rfl rfl pkk (by omega) (V2 mm (N6 hop)) ?_
   refine ZI ?_
   refine An Tryz.call42 rfl (fun w hs => Ke (cv := cY) (hv := hY) (fv := fY) (fs := x.frames) (ms := (Aj (As x s.node) s.node (x.cores.length : Int) s.op).2.1) (Ag (L' := blk b7 30 [cY, hY, fY] :: row 57 cY (x.cores.set s.node.toNat (Aj (As x s.node) s.node (x.cores.length : Int) s.op).1) :: blk b4 30 [.slice none 0 0, .slice none 0 0, .slice none 0 0] :: blk b3 38 s.cells :: blk b2 30 [cv, hv, fv] :: L) hs) mm mm (Tr (by omega) (by omega) hk4 hlb)) ?_; intro vs
   refine ZaV ?_
   refine rn1 ?_
   refine Zb4 ?_
   refine JC.shut (v := cY) (xs := (x.cores.set s.node.toNat (Aj (As x s.node) s.node (x.cores.length : Int) s.op).1)) pkk ?_
   refine JC.know (p := vs.oneCell' = true) (fun w hs => isSlice.one (hs.fact (mm (f := sl vs (way x.frames (Aj (As x s.node) s.node (x.cores.length : Int) s.op).2.1))))) (fun honevs => ?_)
   refine ZD ?_
   refine s_B (cs := [cY, hY, vs]) Tryz.sizeOf30 ?_
   refine Ga2 ?_
   have er : Al x s = (Dd x s.node (Aj (As x s.node) s.node (x.cores.length : Int) s.op).1 (Aj (As x s.node) s.node (x.cores.length : Int) s.op).2.1, (Aj (As x s.node) s.node (x.cores.length : Int) s.op).2.2.1, 0) := by unfold Al Bk; rw [if_pos (by omega), if_neg (by omega), if_neg ht55]
   rw [er]
   exact Cj (cY, hY, vs, vk.2.2) Tryz.isAgg30 Tryz.sizeOf30
theorem Abr {cv hv fv : Value} {x : Chip} {s : Step} {n nl : Nat} {M : List Int} (hs : St (L) R w) (hcv : sl cv x.cores ∈ R) (hhv : sl hv x.home ∈ R) (hfv : sl fv x.frames ∈ R) (hsn : s.wf) (h : Inv n nl x M) (hk : s.kind < 1 ∨ 6 < s.kind) : Calls Tryz.prog 16 [.agg #[cv, hv, fv], .agg s.cells.toArray].toArray w (Bt (fun v : Value × Value × Value × Value => .tuple #[.agg #[v.1, v.2.1, v.2.2.1], v.2.2.2, vi (Al x s).2.2]) (fun v => L) (fun v => sl v.1 (Al x s).1.cores :: sl v.2.1 (Al x s).1.home :: sl v.2.2.1 (Al x s).1.frames :: sl v.2.2.2 (Al x s).2.1 :: R)) := by
 refine Zbd ?_;intro hnc hnh hn1 hn2 honec honeh honef hn64 hop
 clear hs
 refine ZaH ?_;intro b2 b3 b4
 refine rn1 ?_
 refine An Tryz.call40 rfl (fun w hs => Hu (x := x) (cv := cv) (hv := hv) (fv := fv) hs mm mm mm (by omega)) ?_; intro ⟨cY, hY, fY⟩
 refine Zbg ?_;intro h12
 obtain ⟨honeY1, honeY2, honeY3⟩ := h12
 refine Zbh ?_;intro b7
 refine ZF ?_
 refine ZF ?_
 refine ZF ?_
 refine ZF ?_
 refine ZF ?_
 refine ZF ?_
 refine ZaW ?_
 refine ZaM ?_
 refine Zbp ?_
 have er : Al x s = (zChip, [], 1) := by unfold Al Bk; rw [if_neg (by omega), if_neg (by omega), if_neg (by omega), if_neg (by omega), if_neg (by omega), if_neg (by omega)]
 rw [er]
 exact ZeU
theorem Abp {cv hv fv : Value} {x : Chip} {s : Step} {n nl : Nat} {M : List Int} (hs : St (L) R w) (hcv : sl cv x.cores ∈ R) (hhv : sl hv x.home ∈ R) (hfv : sl fv x.frames ∈ R) (hsn : s.wf) (h : Inv n nl x M) (hk : s.kind = 2) : Calls Tryz.prog 16 [.agg #[cv, hv, fv], .agg s.cells.toArray].toArray w (Bt (fun v : Value × Value × Value × Value => .tuple #[.agg #[v.1, v.2.1, v.2.2.1], v.2.2.2, vi (Al x s).2.2]) (fun v => L) (fun v => sl v.1 (Al x s).1.cores :: sl v.2.1 (Al x s).1.home :: sl v.2.2.1 (Al x s).1.frames :: sl v.2.2.2 (Al x s).2.1 :: R)) := by
 refine Zbd ?_;intro hnc hnh hn1 hn2 honec honeh honef hn64 hop
 clear hs
 refine ZaH ?_;intro b2 b3 b4
 refine rn1 ?_
 refine An Tryz.call40 rfl (fun w hs => Hu (x := x) (cv := cv) (hv := hv) (fv := fv) hs mm mm mm (by omega)) ?_; intro ⟨cY, hY, fY⟩
 refine Zbg ?_;intro h12
 obtain ⟨honeY1, honeY2, honeY3⟩ := h12
 refine Zbh ?_;intro b7
 refine ZF ?_
 refine Za1 ?_
 rcases (show (Cn x s.n) ∨ (¬ Cn x s.n) from by exact Classical.em _) with hc | hc
 ·refine Zdf ?_;intro hnt
  refine ZE ?_
  refine An (γ := Value × Value) (val := fun v => .tuple #[v.1, v.2, vi 5]) (Rf := fun v => sl v.1 ([] : Frames) :: sl v.2 ([] : List UInt8) :: _) Tryz.call43 rfl (fun w hs => by have h := Iv (v0 := fv) (l := x.frames) (n := s.n) hs mm hsn.2.2.1; rw [hnt] at h; exact frz h) ?_; intro ⟨va, vb⟩
  refine Gb7 ?_
  refine rn1 ?_
  refine ZaM ?_
  refine kp [2, 3, 4, 5, 6, 7, 8, 9, 14, 15, 16, 20, 81, 82] ?_
  refine Zbp ?_
  have er : Al x s = (zChip, [], 5) := by unfold Al Bk; rw [if_neg (by omega), if_pos (by omega)]; rw [if_pos hc]
  rw [er]
  exact ZeU
 ·refine ZcW ?_;intro hnt
  refine ZE ?_
  refine An (γ := Value × Value) (val := fun v => .tuple #[v.1, v.2, vi 0]) (Rf := fun v => sl v.1 (x.frames.eraseIdx s.n.toNat) :: sl v.2 (Ay x.frames s.n) :: _) Tryz.call43 rfl (fun w hs => by have h := Iv (v0 := fv) (l := x.frames) (n := s.n) hs mm hsn.2.2.1; rw [hnt] at h; exact frz h) ?_; intro ⟨va, vb⟩
  refine Gb7 ?_
  refine rn1 ?_
  refine Zb4 ?_
  refine JC.know (p := va.oneCell' = true) (fun w hs => isSlice.one (hs.fact (mm (f := sl va (x.frames.eraseIdx s.n.toNat))))) (fun honeva => ?_)
  refine kp [2, 3, 4, 5, 6, 7, 8, 9, 14, 15, 20, 83, 84] ?_
  refine ZD ?_
  refine sc ?_
  refine ZK ?_
  refine Cf ?_
  refine Gmc ?_
  refine rn1 ?_
  refine An Tryz.call44 rfl (fun w hs => Xx (x := ⟨x.cores, x.home, x.frames.eraseIdx s.n.toNat⟩) (cv := cY) (hv := hY) (fv := va) (bt := (Ay x.frames s.n)) (Ag (L' := row 57 cY x.cores :: blk b7 30 [cY, hY, va] :: blk b4 30 [.slice none 0 0, .slice none 0 0, .slice none 0 0] :: blk b3 38 s.cells :: blk b2 30 [cv, hv, fv] :: L) hs) mm mm mm (Aad h _)) ?_; intro ⟨vh, vf, vd⟩
  refine ZaW ?_
  refine Zb4 ?_
  refine JC.shut (v := cY) (xs := (Cl ⟨x.cores, x.home, x.frames.eraseIdx s.n.toNat⟩ (Ay x.frames s.n)).1.cores) pkk ?_
  refine JC.know (p := vh.oneCell' = true) (fun w hs => isSlice.one (hs.fact (mm (f := sl vh (Cl ⟨x.cores, x.home, x.frames.eraseIdx s.n.toNat⟩ (Ay x.frames s.n)).1.home)))) (fun honevh => ?_)
  refine JC.know (p := vf.oneCell' = true) (fun w hs => isSlice.one (hs.fact (mm (f := sl vf (Cl ⟨x.cores, x.home, x.frames.eraseIdx s.n.toNat⟩ (Ay x.frames s.n)).1.frames)))) (fun honevf => ?_)
  refine ZD ?_
  refine s_B (cs := [cY, vh, vf]) Tryz.sizeOf30 ?_
  refine Ga2 ?_
  have er : Al x s = ((Cl ⟨x.cores, x.home, x.frames.eraseIdx s.n.toNat⟩ (Ay x.frames s.n)).1, (Cl ⟨x.cores, x.home, x.frames.eraseIdx s.n.toNat⟩ (Ay x.frames s.n)).2, 0) := by unfold Al Bk; rw [if_neg (by omega), if_pos (by omega)]; rw [if_neg hc]
  rw [er]
  exact Cj (cY, vh, vf, vd) Tryz.isAgg30 Tryz.sizeOf30
theorem Abo {cv hv fv : Value} {x : Chip} {s : Step} {n nl : Nat} {M : List Int} (hs : St (L) R w) (hcv : sl cv x.cores ∈ R) (hhv : sl hv x.home ∈ R) (hfv : sl fv x.frames ∈ R) (hsn : s.wf) (h : Inv n nl x M) (hk : s.kind = 3) : Calls Tryz.prog 16 [.agg #[cv, hv, fv], .agg s.cells.toArray].toArray w (Bt (fun v : Value × Value × Value × Value => .tuple #[.agg #[v.1, v.2.1, v.2.2.1], v.2.2.2, vi (Al x s).2.2]) (fun v => L) (fun v => sl v.1 (Al x s).1.cores :: sl v.2.1 (Al x s).1.home :: sl v.2.2.1 (Al x s).1.frames :: sl v.2.2.2 (Al x s).2.1 :: R)) := by
 refine Zbd ?_;intro hnc hnh hn1 hn2 honec honeh honef hn64 hop
 clear hs
 refine ZaH ?_;intro b2 b3 b4
 refine rn1 ?_
 refine An Tryz.call40 rfl (fun w hs => Hu (x := x) (cv := cv) (hv := hv) (fv := fv) hs mm mm mm (by omega)) ?_; intro ⟨cY, hY, fY⟩
 refine Zbg ?_;intro h12
 obtain ⟨honeY1, honeY2, honeY3⟩ := h12
 refine Zbh ?_;intro b7
 refine Zax ?_
 refine Gc1 ?_
 rcases (show (Cn x s.n) ∨ (¬ Cn x s.n) from by exact Classical.em _) with hc | hc
 ·refine Zdf ?_;intro hnt
  refine ZE ?_
  refine An (γ := Value × Value) (val := fun v => .tuple #[v.1, v.2, vi 5]) (Rf := fun v => sl v.1 ([] : Frames) :: sl v.2 ([] : List UInt8) :: _) Tryz.call43 rfl (fun w hs => by have h := Iv (v0 := fv) (l := x.frames) (n := s.n) hs mm hsn.2.2.1; rw [hnt] at h; exact frz h) ?_; intro ⟨va, vb⟩
  refine Ga7 ?_
  refine kp [2, 3, 4, 5, 6, 7, 8, 9, 14, 15, 16, 20, 79, 80] ?_
  refine ZB ?_
  refine ZaM ?_
  refine Zbp ?_
  have er : Al x s = (zChip, [], 5) := by unfold Al Bk; rw [if_neg (by omega), if_neg (by omega), if_pos (by omega)]; rw [if_pos hc]
  rw [er]
  exact ZeU
 ·refine ZcW ?_;intro hnt
  refine ZE ?_
  refine An (γ := Value × Value) (val := fun v => .tuple #[v.1, v.2, vi 0]) (Rf := fun v => sl v.1 (x.frames.eraseIdx s.n.toNat) :: sl v.2 (Ay x.frames s.n) :: _) Tryz.call43 rfl (fun w hs => by have h := Iv (v0 := fv) (l := x.frames) (n := s.n) hs mm hsn.2.2.1; rw [hnt] at h; exact frz h) ?_; intro ⟨va, vb⟩
  refine Ga7 ?_
  refine kp [2, 3, 4, 5, 6, 7, 8, 9, 14, 15, 16, 20, 79, 80] ?_
  refine ZB ?_
  refine Zb4 ?_
  refine JC.know (p := va.oneCell' = true) (fun w hs => isSlice.one (hs.fact (mm (f := sl va (x.frames.eraseIdx s.n.toNat))))) (fun honeva => ?_)
  refine ZD ?_
  refine sc ?_
  refine ZK ?_
  refine Av ?_
  refine Gmc ?_
  refine rn1 ?_
  refine Zb4 ?_
  refine ZcZ ?_
  have er : Al x s = (⟨x.cores, x.home, x.frames.eraseIdx s.n.toNat⟩, [], 0) := by unfold Al Bk; rw [if_neg (by omega), if_neg (by omega), if_pos (by omega)]; rw [if_neg hc]
  exact Zg9
theorem Abn {cv hv fv : Value} {x : Chip} {s : Step} {n nl : Nat} {M : List Int} (hs : St (L) R w) (hcv : sl cv x.cores ∈ R) (hhv : sl hv x.home ∈ R) (hfv : sl fv x.frames ∈ R) (hsn : s.wf) (h : Inv n nl x M) (hk : s.kind = 4) : Calls Tryz.prog 16 [.agg #[cv, hv, fv], .agg s.cells.toArray].toArray w (Bt (fun v : Value × Value × Value × Value => .tuple #[.agg #[v.1, v.2.1, v.2.2.1], v.2.2.2, vi (Al x s).2.2]) (fun v => L) (fun v => sl v.1 (Al x s).1.cores :: sl v.2.1 (Al x s).1.home :: sl v.2.2.1 (Al x s).1.frames :: sl v.2.2.2 (Al x s).2.1 :: R)) := by
 refine Zbd ?_;intro hnc hnh hn1 hn2 honec honeh honef hn64 hop
 clear hs
 refine ZaH ?_;intro b2 b3 b4
 refine rn1 ?_
 refine An Tryz.call40 rfl (fun w hs => Hu (x := x) (cv := cv) (hv := hv) (fv := fv) hs mm mm mm (by omega)) ?_; intro ⟨cY, hY, fY⟩
 refine Zbg ?_;intro h12
 obtain ⟨honeY1, honeY2, honeY3⟩ := h12
 refine Zbh ?_;intro b7
 refine ZF ?_
 refine Zax ?_
 refine Gc1 ?_
 rcases (show (Cn x s.n) ∨ (¬ Cn x s.n) from by exact Classical.em _) with hc | hc
 ·have hnt : E5 x.frames s.n = ([], 5) := by unfold E5; rw [if_pos (show s.n < 0 ∨ (x.frames.length : Int) ≤ s.n from hc)]
  refine ZE ?_
  refine An (γ := Value) (val := fun v => .tuple #[v, vi 5]) (Rf := fun v => sl v ([] : Frames) :: _) Tryz.call45 rfl (fun w hs => by have h := Qc (v0 := fv) (l := x.frames) (n := s.n) hs mm hsn.2.2.1; rw [hnt] at h; exact frz h) ?_; intro va
  refine ZcS ?_;intro honeva
  refine ZB ?_
  refine ZaM ?_
  refine Zbp ?_
  have er : Al x s = (zChip, [], 5) := by unfold Al Bk; rw [if_neg (by omega), if_neg (by omega), if_neg (by omega), if_pos (by omega)]; rw [if_pos hc]
  rw [er]
  exact ZeU
 ·have hnt : E5 x.frames s.n = (Dn x.frames (Ay x.frames s.n), 0) := by unfold E5; rw [if_neg (show ¬ (s.n < 0 ∨ (x.frames.length : Int) ≤ s.n) from hc)]
  refine ZE ?_
  refine An (γ := Value) (val := fun v => .tuple #[v, vi 0]) (Rf := fun v => sl v (Dn x.frames (Ay x.frames s.n)) :: _) Tryz.call45 rfl (fun w hs => by have h := Qc (v0 := fv) (l := x.frames) (n := s.n) hs mm hsn.2.2.1; rw [hnt] at h; exact frz h) ?_; intro va
  refine ZcS ?_;intro honeva
  refine ZB ?_
  refine Zb4 ?_
  refine ZcZ ?_
  have er : Al x s = (⟨x.cores, x.home, Dn x.frames (Ay x.frames s.n)⟩, [], 0) := by unfold Al Bk; rw [if_neg (by omega), if_neg (by omega), if_neg (by omega), if_pos (by omega)]; rw [if_neg hc]
  exact Zg9
theorem Abm {cv hv fv : Value} {x : Chip} {s : Step} {n nl : Nat} {M : List Int} (hs : St (L) R w) (hcv : sl cv x.cores ∈ R) (hhv : sl hv x.home ∈ R) (hfv : sl fv x.frames ∈ R) (hsn : s.wf) (h : Inv n nl x M) (hk : s.kind = 5) : Calls Tryz.prog 16 [.agg #[cv, hv, fv], .agg s.cells.toArray].toArray w (Bt (fun v : Value × Value × Value × Value => .tuple #[.agg #[v.1, v.2.1, v.2.2.1], v.2.2.2, vi (Al x s).2.2]) (fun v => L) (fun v => sl v.1 (Al x s).1.cores :: sl v.2.1 (Al x s).1.home :: sl v.2.2.1 (Al x s).1.frames :: sl v.2.2.2 (Al x s).2.1 :: R)) := by
 refine Zbd ?_;intro hnc hnh hn1 hn2 honec honeh honef hn64 hop
 clear hs
 refine ZaH ?_;intro b2 b3 b4
 refine rn1 ?_
 refine An Tryz.call40 rfl (fun w hs => Hu (x := x) (cv := cv) (hv := hv) (fv := fv) hs mm mm mm (by omega)) ?_; intro ⟨cY, hY, fY⟩
 refine Zbg ?_;intro h12
 obtain ⟨honeY1, honeY2, honeY3⟩ := h12
 refine Zbh ?_;intro b7
 refine ZaR ?_
 refine Gd1 ?_
 refine rn1 ?_
 refine An Tryz.call46 rfl (fun w hs => Vc (x := x) (cv := cv) (hv := hv) (fv := fv) (s := s) (Ag (L' := blk b2 30 [cv, hv, fv] :: row 57 cY x.cores :: blk b7 30 [cY, hY, fY] :: blk b4 30 [.slice none 0 0, .slice none 0 0, .slice none 0 0] :: blk b3 38 s.cells :: L) hs) mm mm mm hsn) ?_; intro va
 refine ZcS ?_;intro honeva
 refine ZQ ?_
 refine cdy ?_ ?_
 ·intro ht115
  refine Gl ?_
  refine Zaf ?_
  refine Zbp ?_
  have er : Al x s = (zChip, [], (Le x s).2) := by unfold Al Bk; rw [if_neg (by omega), if_neg (by omega), if_neg (by omega), if_neg (by omega), if_pos (by omega)]; revert ht115; unfold Le; (repeat' split) <;> simp_all
  rw [er]
  exact Cj (.slice none 0 0, .slice none 0 0, .slice none 0 0, .slice none 0 0) Tryz.isAgg30 Tryz.sizeOf30
 ·intro ht115
  refine Gl ?_
  refine ZcZ ?_
  have er : Al x s = (⟨x.cores, x.home, (Le x s).1⟩, [], 0) := by unfold Al Bk; rw [if_neg (by omega), if_neg (by omega), if_neg (by omega), if_neg (by omega), if_pos (by omega)]; revert ht115; unfold Le; (repeat' split) <;> simp_all
  rw [er]
  exact Cj (cY, hY, va, .slice none 0 0) Tryz.isAgg30 Tryz.sizeOf30
theorem Abl {cv hv fv : Value} {x : Chip} {s : Step} {n nl : Nat} {M : List Int} (hs : St (L) R w) (hcv : sl cv x.cores ∈ R) (hhv : sl hv x.home ∈ R) (hfv : sl fv x.frames ∈ R) (hsn : s.wf) (h : Inv n nl x M) (hk : s.kind = 6) : Calls Tryz.prog 16 [.agg #[cv, hv, fv], .agg s.cells.toArray].toArray w (Bt (fun v : Value × Value × Value × Value => .tuple #[.agg #[v.1, v.2.1, v.2.2.1], v.2.2.2, vi (Al x s).2.2]) (fun v => L) (fun v => sl v.1 (Al x s).1.cores :: sl v.2.1 (Al x s).1.home :: sl v.2.2.1 (Al x s).1.frames :: sl v.2.2.2 (Al x s).2.1 :: R)) := by
 refine Zbd ?_;intro hnc hnh hn1 hn2 honec honeh honef hn64 hop
 clear hs
 refine ZaH ?_;intro b2 b3 b4
 refine rn1 ?_
 refine An Tryz.call40 rfl (fun w hs => Hu (x := x) (cv := cv) (hv := hv) (fv := fv) hs mm mm mm (by omega)) ?_; intro ⟨cY, hY, fY⟩
 refine Zbg ?_;intro h12
 obtain ⟨honeY1, honeY2, honeY3⟩ := h12
 refine Zbh ?_;intro b7
 refine ZF ?_
 refine ZaR ?_
 refine Gd1 ?_
 refine rn2 ?_
 refine An Tryz.call47 rfl (fun w hs => Vb (x := x) (cv := cY) (hv := hY) (fv := fY) (node := s.node) (Ag (L' := row 57 cY x.cores :: blk b7 30 [cY, hY, fY] :: blk b4 30 [.slice none 0 0, .slice none 0 0, .slice none 0 0] :: blk b3 38 s.cells :: blk b2 30 [cv, hv, fv] :: L) hs) mm mm h) ?_; intro va
 refine J.know (p := va.oneCell' = true) (fun w hs => isSlice.one (hs.fact (.head _))) (fun honeva => ?_)
 refine ZH ?_
 refine cdy ?_ ?_
 ·intro ht115
  refine Gl ?_
  refine Zaf ?_
  refine kp [4, 5, 6, 7, 8, 9, 116, 117] ?_
  refine Zbp ?_
  have er : Al x s = (zChip, [], (Ld x s.node)) := by unfold Al Bk; rw [if_neg (by omega), if_neg (by omega), if_neg (by omega), if_neg (by omega), if_neg (by omega), if_pos (by omega)]; revert ht115; unfold Ld Bk; split <;> simp_all
  rw [er]
  exact Cj (.slice none 0 0, .slice none 0 0, .slice none 0 0, .slice none 0 0) Tryz.isAgg30 Tryz.sizeOf30
 ·intro ht115
  refine Gl ?_
  refine JC.shut (v := cY) (xs := x.cores) pkk ?_
  refine ZJ ?_
  refine kp [4, 5, 6, 7, 8, 118, 119] ?_
  refine ZD ?_
  refine s_B (cs := [cY, hY, va]) Tryz.sizeOf30 ?_
  refine Ga2 ?_
  have er : Al x s = (⟨x.cores, x.home, Fe x s.node⟩, [], 0) := by unfold Al Bk; rw [if_neg (by omega), if_neg (by omega), if_neg (by omega), if_neg (by omega), if_neg (by omega), if_pos (by omega)]; revert ht115; unfold Ld Fe Bk; split <;> simp_all; split <;> rfl
  rw [er]
  exact Cj (cY, hY, va, .slice none 0 0) Tryz.isAgg30 Tryz.sizeOf30
theorem Vd {cv hv fv : Value} {x : Chip} {s : Step} {n nl : Nat} {M : List Int} (hs : St (L) R w) (hcv : sl cv x.cores ∈ R) (hhv : sl hv x.home ∈ R) (hfv : sl fv x.frames ∈ R) (hsn : s.wf) (h : Inv n nl x M) : Calls Tryz.prog 16 [.agg #[cv, hv, fv], .agg s.cells.toArray].toArray w (Bt (fun v : Value × Value × Value × Value => .tuple #[.agg #[v.1, v.2.1, v.2.2.1], v.2.2.2, vi (Al x s).2.2]) (fun v => L) (fun v => sl v.1 (Al x s).1.cores :: sl v.2.1 (Al x s).1.home :: sl v.2.2.1 (Al x s).1.frames :: sl v.2.2.2 (Al x s).2.1 :: R)) := by
 by_cases h1 : s.kind = 1
 ·exact Abq hs hcv hhv hfv hsn h h1
 by_cases h2 : s.kind = 2
 ·exact Abp hs hcv hhv hfv hsn h h2
 by_cases h3 : s.kind = 3
 ·exact Abo hs hcv hhv hfv hsn h h3
 by_cases h4 : s.kind = 4
 ·exact Abn hs hcv hhv hfv hsn h h4
 by_cases h5 : s.kind = 5
 ·exact Abm hs hcv hhv hfv hsn h h5
 by_cases h6 : s.kind = 6
 ·exact Abl hs hcv hhv hfv hsn h h6
 exact Abr hs hcv hhv hfv hsn h (by omega)
def Ui (p : Nat → Bool) : Nat → Int
 | 0 => -1
 | k + 1 => if 0 ≤ Ui p k then Ui p k else if p k = true then (k : Int) else -1
theorem Tb {p : Nat → Bool} : ∀ {k : Nat}, (∀ i, i < k → p i = false) → Ui p k = -1
 | 0, _ => rfl
 | k + 1, h => by
  simp only [Ui]
  rw [Tb (k := k) fun i hi => h i (by omega), if_neg (by decide), if_neg (by rw [h k (by omega)]; decide)]
theorem Wu {p : Nat → Bool} {k : Nat} (h : ∀ i, i < k → p i = false) (hk : p k = true) : ∀ {n : Nat}, k < n → Ui p n = (k : Int)
 | 0, hn => absurd hn (by omega)
 | n + 1, hn => by
  simp only [Ui]
  by_cases e : k = n
  ·rw [← e, Tb h, if_neg (by decide), if_pos hk]
  ·rw [Wu h hk (n := n) (by omega), if_pos (by omega)]
theorem Wt {p : Nat → Bool} : ∀ {n : Nat}, Lj (fun k => !p k) n = false → 0 ≤ Ui p n
 | 0, e => by cases e
 | n + 1, e => by
  simp only [Lj, Bool.and_eq_false_iff] at e
  simp only [Ui]
  by_cases h : 0 ≤ Ui p n
  ·rw [if_pos h]; exact h
  ·rw [if_neg h]
   rcases e with e | e
   ·exact absurd (Wt e) h
   ·rw [if_pos (by simpa using e)]; omega
theorem Afb {p : Nat → Bool} {n : Nat} : decide (0 ≤ Ui p n) = !Lj (fun k => !p k) n := by
 cases e : Lj (fun k => !p k) n with
 | true => rw [Tb fun i hi => by have := allN_iff.1 e i hi; simpa using this]; rfl
 | false => rw [decide_eq_true (Wt e)]; rfl
theorem Afc {cv : Value} {x : Chip} {ff : Nat} {caps : List Value} {p : Nat → Bool} (hs : St (L) R w) (hv : sl cv x.cores ∈ R) (hf : ∀ args w, (callFunc ff args).run Tryz.prog w = .ok (.enter ff args) w) (hc : ∀ k, k < x.cores.length → (cor x k).wait.wf → ∀ uk, uk.oneCell' = true → ∀ R' w, sl uk (cor x k).lines ∈ R' → St L R' w → Calls Tryz.prog ff ([Value.agg (Core.cells uk (cor x k)).toArray] ++ caps).toArray w (Bt (fun _ : Unit => .bool (p k)) (fun _ => L) (fun _ => R'))) : Calls Tryz.prog 101 [cv, .func (.func ff) #[] caps.toArray].toArray w (Bt (fun _ : Unit => vi (Ui p x.cores.length)) (fun _ => L) (fun _ => R)) := by
 have hlen := Bd hv hs
 refine Ai Tryz.func101 rfl Tryz.ntmps101 rfl hs ?_
 clear hs
 refine ZM ?_
 refine Ga3 ?_
 refine Be (γ := Nat) (fun k => k ≤ x.cores.length ∧ ∀ i, i < k → p i = false) (fun _ => L) (fun _ => R) (fun k => [(0, cv), (1, .func (.func ff) #[] caps.toArray), (7, vi (x.cores.length : Int)), (8, vi (k : Int))]) (fun k => x.cores.length - k) 0 ⟨Nat.zero_le _, fun i hi => absurd hi (by omega)⟩ alT (fun w hs => hs) ?_
 rintro k ⟨hk, hp0⟩
 refine ZA ?_
 refine cdy ?_ ?_
 ·intro ht9
  refine ZC ?_
  refine Fr k (v := cv) mm (by omega) (fun hwk uk honek => ?_)
  refine Za0 ?_
  refine By (γ := Unit) (val := fun _ => .bool (p k)) (caps := caps) (vs := [.agg (Core.cells uk (cor x k)).toArray]) rfl hf rfl (fun w hs => hc k (by omega) hwk uk honek _ w mm hs) ?_; intro _
  refine Gl ?_
  first | (refine cdx (p := ?p2) (hd := ?d2) ?e2 ?_ ?_; case e2 => exact rfl) | (refine A8 (b := ?b2) ?e2 ?_ ?_; case e2 => exact rfl)
  ·intro ht16
   refine ZC ?_
   have er : Ui p x.cores.length = (k : Int) := Wu hp0 ht16 (by omega)
   exact Zfj
  ·intro ht16
   refine ZC ?_
   refine Aw (k + 1) ⟨by omega, fun i hi => ?_⟩ (by omega) alT (fun w hs => Ag hs)
   by_cases e : i = k
   ·rw [e]; exact ht16
   ·exact hp0 i (by omega)
 ·intro ht9
  refine ZA ?_
  have er : Ui p x.cores.length = -1 := Tb fun i hi => hp0 i (by omega)
  exact Zfj
theorem Ahm {cv : Value} {x : Chip} {ff : Nat} {caps : List Value} {p : Nat → Bool} (hs : St (L) R w) (hv : sl cv x.cores ∈ R) (hf : ∀ args w, (callFunc ff args).run Tryz.prog w = .ok (.enter ff args) w) (hc : ∀ k, k < x.cores.length → (cor x k).wait.wf → ∀ uk, uk.oneCell' = true → ∀ R' w, sl uk (cor x k).lines ∈ R' → St L R' w → Calls Tryz.prog ff ([Value.agg (Core.cells uk (cor x k)).toArray] ++ caps).toArray w (Bt (fun _ : Unit => .bool (p k)) (fun _ => L) (fun _ => R'))) : Calls Tryz.prog 81 [cv, .func (.func ff) #[] caps.toArray].toArray w (Bt (fun _ : Unit => .bool (!Lj (fun k => !p k) x.cores.length)) (fun _ => L) (fun _ => R)) := by
 refine Ai Tryz.func81 rfl Tryz.ntmps81 rfl hs ?_
 clear hs
 refine ZM ?_
 refine rn2 ?_
 refine An Tryz.call101 rfl (fun w hs => Afc (ff := ff) (caps := caps) (p := p) hs hv hf hc) ?_; intro _
 refine Ga2 ?_
 rw [← Afb]
 exact Bc ()
theorem Q1 {cv hv fv : Value} {x : Chip} (hs : St (L) R w) (hcv : sl cv x.cores ∈ R) (hhv : sl hv x.home ∈ R) (hx : CX x) (honef : fv.oneCell' = true) : Calls Tryz.prog 48 [.agg #[cv, hv, fv]].toArray w (Bt (fun _ : Unit => .bool (Fj x)) (fun _ => L) (fun _ => R)) := by
 refine Zbc ?_;intro honec honeh
 have hn4 := hx.n4
 have hh4 := hx.h4
 refine Ai Tryz.func48 rfl Tryz.ntmps48 rfl hs ?_
 clear hs
 refine Zbq ?_;intro b1
 refine Ga4 ?_
 refine Be (γ := Nat) (fun i => i ≤ x.home.length ∧ Lj (Gg x) i = true) (fun _ => blk b1 30 [cv, hv, fv] :: L) (fun _ => R) (fun i => [(1, bp b1 0), (10, vi (x.home.length : Int)), (11, vi (i : Int))]) (fun i => x.home.length - i) 0 ⟨Nat.zero_le _, rfl⟩ alT (fun w hs => Ag hs) ?_
 rintro i ⟨hi, hal⟩
 refine ZA ?_
 refine cdy ?_ ?_
 ·intro ht12
  refine ZaV ?_
  refine Gb2 ?_
  refine Ga4 ?_
  refine Be (γ := Nat) (fun p => p ≤ x.cores.length) (fun _ => blk b1 30 [cv, hv, fv] :: L) (fun _ => R) (fun p => [(1, bp b1 0), (3, vi (i : Int)), (4, vi (Gs (fun p => stN x i p == 2) p : Int)), (5, vi (Gs (fun p => stN x i p == 1) p : Int)), (10, vi (x.home.length : Int)), (11, vi (i : Int)), (15, cv), (16, vi (x.cores.length : Int)), (17, vi (p : Int))]) (fun p => x.cores.length - p) 0 (Nat.zero_le _) alT (fun w hs => Ag hs) ?_
  intro p hp
  have hc2 := Sf (f := fun p => stN x i p == 2) (k := p)
  have hc1 := Sf (f := fun p => stN x i p == 1) (k := p)
  refine ZA ?_
  refine cdy ?_ ?_
  ·intro ht18
   refine Gl ?_
   refine Fr p (v := cv) mm (by omega) (fun hwp up honeu => ?_)
   have hln := hx.ln p (by omega)
   refine ZD ?_
   refine al_ (cs := [.slice none 0 0, vi 0, vi 0, vi 0]) Tryz.zeroValue57 ?_; intro b7
   refine s_B (cs := Core.cells up (cor x p)) Tryz.sizeOf57 ?_
   refine Gl ?_
   refine Iu (x := x) (p := p) i (u := up) mm (by omega) (fun hwl => ?_)
   refine Aa ?_
   refine Gb6 ?_
   refine Ga2 ?_
   refine cdy ?_ ?_
   ·intro ht27
    refine Zei ?_
    refine Aw (p + 1) (by omega) (by omega) ⟨rfl, rfl, congrArg (fun z : Nat => some (vi (z : Int))) (show _ = Gs (fun p => stN x i p == 2) (p + 1) from (Xo (by simp [stN, ht27])).symm), congrArg (fun z : Nat => some (vi (z : Int))) (show _ = Gs (fun p => stN x i p == 1) (p + 1) from (N2 (by simp [stN, ht27])).symm), alT⟩ (fun w hs => Ag hs)
   ·intro ht27
    refine ZC ?_
    refine cdy ?_ ?_
    ·intro ht31
     refine Zei ?_
     refine Aw (p + 1) (by omega) (by omega) ⟨rfl, rfl, congrArg (fun z : Nat => some (vi (z : Int))) (show _ = Gs (fun p => stN x i p == 2) (p + 1) from (N2 (by simp [stN, ht27])).symm), congrArg (fun z : Nat => some (vi (z : Int))) (show _ = Gs (fun p => stN x i p == 1) (p + 1) from (Xo (by simp [stN, ht31])).symm), alT⟩ (fun w hs => Ag hs)
    ·intro ht31
     refine ZC ?_
     refine Aw (p + 1) (by omega) (by omega) ⟨rfl, rfl, congrArg (fun z : Nat => some (vi (z : Int))) (show _ = Gs (fun p => stN x i p == 2) (p + 1) from (N2 (by simp [stN, ht27])).symm), congrArg (fun z : Nat => some (vi (z : Int))) (show _ = Gs (fun p => stN x i p == 1) (p + 1) from (N2 (by simp [stN, ht31])).symm), alT⟩ (fun w hs => Ag hs)
  ·intro ht18
   refine Gl ?_
   have hpe : x.cores.length = p := by omega
   rw [← hpe]
   rcases (show (1 < (Gs (fun p => stN x i p == 2) x.cores.length : Int)) ∨ (¬ 1 < (Gs (fun p => stN x i p == 2) x.cores.length : Int) ∧ (Gs (fun p => stN x i p == 2) x.cores.length : Int) = 1 ∧ 0 < (Gs (fun p => stN x i p == 1) x.cores.length : Int)) ∨ (¬ 1 < (Gs (fun p => stN x i p == 2) x.cores.length : Int) ∧ (Gs (fun p => stN x i p == 2) x.cores.length : Int) = 1 ∧ ¬ 0 < (Gs (fun p => stN x i p == 1) x.cores.length : Int)) ∨ (¬ 1 < (Gs (fun p => stN x i p == 2) x.cores.length : Int) ∧ (Gs (fun p => stN x i p == 2) x.cores.length : Int) ≠ 1) from by omega) with hc | hc | hc | hc
   ·have hat : Gg x i = false := by
     exact Zfc
    refine ZB ?_
    refine Fp ?_
    refine Gd8 ?_
    exact Zgn
   ·have hat : Gg x i = false := by
     exact Zfc
    refine ZB ?_
    refine D2 ?_
    refine Zas ?_
    refine Cf ?_
    refine Zas ?_
    refine Fp ?_
    refine Gd2 ?_
    exact Zgn
   ·have hat : Gg x i = true := by
     exact Zfc
    refine ZB ?_
    refine D2 ?_
    refine Zas ?_
    refine Cf ?_
    refine Zas ?_
    refine D2 ?_
    refine Gd2 ?_
    exact Zgl
   ·have hat : Gg x i = true := by
     exact Zfc
    refine ZB ?_
    refine D2 ?_
    refine Zas ?_
    refine Av ?_
    refine Gd5 ?_
    exact Zgl
 ·intro ht12
  refine ZA ?_
  have er : Fj x = true := by unfold Fj; rw [show x.home.length = i by omega]; exact hal
  exact Zfj
theorem Xw {cv hv fv : Value} {x : Chip} {i : Nat} (hs : St (L) R w) (hcv : sl cv x.cores ∈ R) (hhv : sl hv x.home ∈ R) (hx : CX x) (honef : fv.oneCell' = true) (hi : i < x.home.length) : Calls Tryz.prog 80 [.agg #[cv, hv, fv], vi (i : Int)].toArray w (Bt (fun _ : Unit => vi (Ea x i)) (fun _ => L) (fun _ => R)) := by
 refine Zbc ?_;intro honec honeh
 have hn4 := hx.n4
 have hh4 := hx.h4
 refine Ai Tryz.func80 rfl Tryz.ntmps80 rfl hs ?_
 clear hs
 refine Gm ?_
 refine bx ?_; intro b2
 refine Ga1 ?_
 refine On i (v := hv) mm hi (fun hwe ue honeu => ?_)
 have hla := hx.la i hi
 refine Aa ?_
 refine Gb5 ?_
 refine Ga4 ?_
 refine Be (γ := Nat) (fun p => p ≤ x.cores.length ∧ Lk x i p = none) (fun _ => blk b2 30 [cv, hv, fv] :: L) (fun _ => cF hv 10 i (Entry.cells ue (ent x i)) :: sl ue (ent x i).last :: R) (fun p => [(1, vi (i : Int)), (2, bp b2 0), (5, ep hv 10 i 0), (15, cv), (16, vi (x.cores.length : Int)), (17, vi (p : Int))]) (fun p => x.cores.length - p) 0 ⟨Nat.zero_le _, rfl⟩ alT (fun w hs => Ag hs) ?_
 rintro p ⟨hp, hvn⟩
 refine ZA ?_
 refine cdy ?_ ?_
 ·intro ht18
  refine Gl ?_
  refine Fr p (v := cv) mm (by omega) (fun hwp up honep => ?_)
  have hln := hx.ln p (by omega)
  refine ZL ?_
  refine al_ (cs := [.slice none 0 0, vi 0, vi 0, vi 0]) Tryz.zeroValue57 ?_; intro b7
  refine Ze3 ?_;intro hwl
  refine Zz (x := x) (i := i) p (u := ue) mm (by omega) (fun hwla => ?_)
  rcases (show ((lin x i p).state = 2) ∨ ((lin x i p).state ≠ 2 ∧ (lin x i p).state = 3 ∧ (ent x i).last.getD p 0 < (lin x i p).serial) ∨ ((lin x i p).state ≠ 2 ∧ (lin x i p).state = 3 ∧ ¬ (ent x i).last.getD p 0 < (lin x i p).serial) ∨ ((lin x i p).state ≠ 2 ∧ (lin x i p).state ≠ 3) from by omega) with hc | hc | hc | hc
  ·have ho : P9 x i p = true := by unfold P9 stN; simp [-List.getD_eq_getElem?_getD]; omega
   refine ZaC ?_
   refine Zak ?_
   refine dn19 ?_
   refine ZZ ?_
   refine ZdO ?_;intro ρ er
   exact Bc ()
  ·have ho : P9 x i p = true := by unfold P9 stN; simp [-List.getD_eq_getElem?_getD]; omega
   refine ZaC ?_
   refine Za7 ?_
   refine dn4 ?_
   refine dj (dgy ?_)
   refine ZaA ?_
   refine dj (dgy ?_)
   refine dc (fun _ _ => Pi) ?_
   refine Adg ?_
   refine dj (dgy ?_)
   refine dc (fun _ _ => Am rfl rfl (K0 (by omega))) ?_
   refine dj (dgy ?_)
   refine dc (fun _ _ => Eo) ?_
   refine djf ?_
   refine ZdO ?_;intro ρ er
   exact Bc ()
  ·have ho : P9 x i p = false := by unfold P9 stN; simp [-List.getD_eq_getElem?_getD]; omega
   refine ZaC ?_
   refine Za7 ?_
   refine dn4 ?_
   refine dj (dgy ?_)
   refine ZaA ?_
   refine dj (dgy ?_)
   refine dc (fun _ _ => Pi) ?_
   refine Adg ?_
   refine dj (dgy ?_)
   refine dc (fun _ _ => Am rfl rfl (Pd (by omega))) ?_
   refine dj (dgy ?_)
   refine dc (fun _ _ => Eo) ?_
   exact Zgg
  ·have ho : P9 x i p = false := by unfold P9 stN; simp [-List.getD_eq_getElem?_getD]; omega
   refine ZaC ?_
   refine Za7 ?_
   refine dn4 ?_
   refine dj (dgy ?_)
   refine Zau ?_
   refine dj (dgy ?_)
   refine dc (fun _ _ => Pi) ?_
   refine dn12 ?_
   refine dj (dgy ?_)
   refine dc (fun _ _ => Acw) ?_
   exact Zgg
 ·intro ht18
  refine Zaw ?_
  refine cdy ?_ ?_
  ·intro ht61
   refine Gl ?_
   have how := hx.ow i hi ht61
   refine Fr (ent x i).owner.toNat (v := cv) mm (by omega) (fun hwo uo honeo => ?_)
   have hlo := hx.ln (ent x i).owner.toNat (by omega)
   refine Iu (x := x) (p := (ent x i).owner.toNat) i (u := uo) mm (by omega) (fun hwlo => ?_)
   refine Bq ?_
   refine dn12 ?_
   refine dnl ?_; intro ρ
   refine Gl ?_
   refine Bq ?_
   refine dn9 ?_
   refine dnl ?_; intro ρ
   refine Gl ?_
   refine cdy ?_ ?_
   ·intro ht81
    refine Gl ?_
    refine kp [4, 5, 9, 82, 83, 84, 85] ?_
    refine Aa ?_
    refine Ga5 ?_
    refine Zdp ?_;intro hve
    have er : Ea x i = (lin x i (ent x i).owner.toNat).given := by rw [Js hve]; unfold Acm; rw [if_pos ⟨ht61, ht81⟩]
    exact Zfj
   ·intro ht81
    refine Gl ?_
    refine kp [4, 5, 86, 87, 88, 89] ?_
    refine Aa ?_
    refine Ga5 ?_
    refine Zdp ?_;intro hve
    have er : Ea x i = (ent x i).value := by rw [Js hve]; unfold Acm; rw [if_neg (fun h => ht81 h.2)]
    exact Zfj
  ·intro ht61
   refine Zaw ?_
   refine Zdp ?_;intro hve
   have er : Ea x i = (ent x i).value := by rw [Js hve]; unfold Acm; rw [if_neg (fun h => ht61 h.1)]
   exact Zfj
theorem Abj {up : Value} {x : Chip} {i p : Nat} {v : Int} {b3 b4 : Nat} (hs : St (blk b4 3 [vi v] :: blk b3 3 [vi (i : Int)] :: L) R w) (hu : sl up (cor x p).lines ∈ R) (hil : i < (cor x p).lines.length) (honeu : up.oneCell' = true) : Calls Tryz.prog 82 [.agg (Core.cells up (cor x p)).toArray, bp b3 0, bp b4 0].toArray w (Bt (fun _ : Unit => .bool (stN x i p == 1 && (lin x i p).value != v)) (fun _ => blk b4 3 [vi v] :: blk b3 3 [vi (i : Int)] :: L) (fun _ => R)) := by
 refine Ai Tryz.func82 rfl Tryz.ntmps82 rfl hs ?_
 clear hs
 refine Zat ?_;intro b3
 refine Ga1 ?_
 refine Iu (x := x) (p := p) i (u := up) hu hil (fun hwl => ?_)
 rcases (show ((lin x i p).state ≠ 1) ∨ ((lin x i p).state = 1 ∧ (lin x i p).value = v) ∨ ((lin x i p).state = 1 ∧ ¬ (lin x i p).value = v) from by omega) with hc | hc | hc
 ·have hst : (stN x i p == 1 && (lin x i p).value != v) = false := by unfold stN; simp; omega
  refine Zan ?_
  refine Za7 ?_
  refine dn8 ?_
  refine djf ?_
  refine ZR ?_;intro ρ
  refine Gl ?_
  rw [hst]
  exact Bc ()
 ·have hst : (stN x i p == 1 && (lin x i p).value != v) = false := by unfold stN; simp; omega
  refine Zan ?_
  refine Zak ?_
  refine dn7 ?_
  refine dj (dgy ?_)
  refine dc (fun _ _ => Am rfl rfl (C7 (by omega))) ?_
  refine Zao ?_;intro ρ
  refine Gl ?_
  rw [hst]
  exact Bc ()
 ·have hst : (stN x i p == 1 && (lin x i p).value != v) = true := by unfold stN; simp; omega
  refine Zan ?_
  refine Zak ?_
  refine dn7 ?_
  refine dj (dgy ?_)
  refine dc (fun _ _ => Am rfl rfl (E7 (by omega))) ?_
  refine Zao ?_;intro ρ
  refine Gl ?_
  rw [hst]
  exact Bc ()
theorem O7 {cv hv fv : Value} {x : Chip} (hs : St (L) R w) (hcv : sl cv x.cores ∈ R) (hhv : sl hv x.home ∈ R) (hx : CX x) (honef : fv.oneCell' = true) : Calls Tryz.prog 49 [.agg #[cv, hv, fv]].toArray w (Bt (fun _ : Unit => .bool (Ge x)) (fun _ => L) (fun _ => R)) := by
 refine Zbc ?_;intro honec honeh
 have hn4 := hx.n4
 have hh4 := hx.h4
 refine Ai Tryz.func49 rfl Tryz.ntmps49 rfl hs ?_
 clear hs
 refine Zbq ?_;intro b1
 refine Ga4 ?_
 refine Be (γ := Nat) (fun i => i ≤ x.home.length ∧ Lj (sameAt x) i = true) (fun _ => blk b1 30 [cv, hv, fv] :: L) (fun _ => R) (fun i => [(1, bp b1 0), (6, hv), (7, vi (x.home.length : Int)), (8, vi (i : Int))]) (fun i => x.home.length - i) 0 ⟨Nat.zero_le _, rfl⟩ alT (fun w hs => Ag hs) ?_
 rintro i ⟨hi, hal⟩
 refine ZA ?_
 refine cdy ?_ ?_
 ·intro ht9
  refine ZI ?_
  refine al_ Tryz.zeroValue3 ?_; intro b3
  refine sc ?_
  refine ZK ?_
  refine An Tryz.call80 rfl (fun w hs => Xw (x := x) (i := i) hs hcv hhv hx honef (by omega)) ?_; intro _
  refine al_ Tryz.zeroValue3 ?_; intro b4
  refine sc ?_
  refine ZK ?_
  refine C5 (vs := [bp b3 0, bp b4 0]) rfl ?_
  refine An Tryz.call81 rfl (fun w hs => Ahm (x := x) (ff := 82) (caps := [bp b3 0, bp b4 0]) (p := Adt x i) (Ag (L' := blk b4 3 [vi (Ea x i)] :: blk b3 3 [vi (i : Int)] :: blk b1 30 [cv, hv, fv] :: L) hs) hcv Tryz.call82 (fun k hk hwk uk honek R1 w1 hu1 hs1 => Abj hs1 hu1 (by have := hx.ln k hk; omega) honek)) ?_; intro _
  refine Gl ?_
  refine A8 (b := ?b2) ?e2 ?_ ?_; case e2 => exact rfl
  ·intro ht17
   refine ZA ?_
   have er : Ge x = false := Io (show i < x.home.length by omega) (by simpa [sameAt] using ht17)
   exact Zfj
  ·intro ht17
   refine ZC ?_
   refine Aw (i + 1) ⟨by omega, Hc hal (by simpa [sameAt] using ht17)⟩ (by omega) alT (fun w hs => Ag hs)
 ·intro ht9
  refine ZA ?_
  have er : Ge x = true := by unfold Ge; rw [show x.home.length = i by omega]; exact hal
  exact Zfj
theorem Q0 {cv hv fv : Value} {x : Chip} (hs : St (L) R w) (hcv : sl cv x.cores ∈ R) (hhv : sl hv x.home ∈ R) (hx : CX x) (honef : fv.oneCell' = true) : Calls Tryz.prog 50 [.agg #[cv, hv, fv]].toArray w (Bt (fun _ : Unit => .bool (Fi x)) (fun _ => L) (fun _ => R)) := by
 refine Zbc ?_;intro honec honeh
 have hn4 := hx.n4
 have hh4 := hx.h4
 refine Ai Tryz.func50 rfl Tryz.ntmps50 rfl hs ?_
 clear hs
 refine Zbq ?_;intro b1
 refine Ga4 ?_
 refine Be (γ := Nat) (fun i => i ≤ x.home.length ∧ Lj (Wn x) i = true) (fun _ => blk b1 30 [cv, hv, fv] :: L) (fun _ => R) (fun i => [(1, bp b1 0), (10, hv), (11, vi (x.home.length : Int)), (12, vi (i : Int))]) (fun i => x.home.length - i) 0 ⟨Nat.zero_le _, rfl⟩ alT (fun w hs => Ag hs) ?_
 rintro i ⟨hi, hal⟩
 refine ZA ?_
 refine cdy ?_ ?_
 ·intro ht13
  refine Gl ?_
  refine On i (v := hv) mm (by omega) (fun hwe ue honeu => ?_)
  have hsh := hx.sh i (by omega)
  refine ZL ?_
  refine al_ (cs := [vi 0, vi 0, vi 0, vi 0, vi 0, vi 0, .bool false, vi 0, vi 0, .slice none 0 0]) Tryz.zeroValue62 ?_; intro b4
  refine rn1 ?_
  refine s_B (cs := Entry.cells ue (ent x i)) Tryz.sizeOf62 ?_
  refine Zaz ?_
  refine Be (γ := Nat) (fun p => p ≤ x.cores.length ∧ Lj (Hm x i) p = true) (fun _ => blk b4 62 (Entry.cells ue (ent x i)) :: blk b1 30 [cv, hv, fv] :: L) (fun _ => R) (fun p => [(1, bp b1 0), (3, vi (i : Int)), (4, bp b4 0), (10, hv), (11, vi (x.home.length : Int)), (12, vi (i : Int)), (18, cv), (19, vi (x.cores.length : Int)), (20, vi (p : Int))]) (fun p => x.cores.length - p) 0 ⟨Nat.zero_le _, rfl⟩ alT (fun w hs => Ag hs) ?_
  rintro p ⟨hp, hkp⟩
  refine ZA ?_
  refine cdy ?_ ?_
  ·intro ht21
   refine Gl ?_
   refine Fr p (v := cv) mm (by omega) (fun hwp up honep => ?_)
   have hln := hx.ln p (by omega)
   refine ZL ?_
   refine al_ (cs := [.slice none 0 0, vi 0, vi 0, vi 0]) Tryz.zeroValue57 ?_; intro b6
   refine Ze3 ?_;intro hwl
   have hgd : H3 x i p = true ↔ ((ent x i).phase = 3 ∧ (ent x i).who = (p : Int)) ∧ (lin x i p).seen = (ent x i).turn := by simp [H3]
   refine Zeg ?_
   refine Cu 8 (.bool (decide (H3 x i p = true))) ?_ ?_
   ·rcases (show ((ent x i).phase ≠ 3) ∨ ((ent x i).phase = 3 ∧ (ent x i).who ≠ (p : Int)) ∨ ((ent x i).phase = 3 ∧ (ent x i).who = (p : Int) ∧ (lin x i p).seen ≠ (ent x i).turn) ∨ ((ent x i).phase = 3 ∧ (ent x i).who = (p : Int) ∧ (lin x i p).seen = (ent x i).turn) from by omega) with hm | hm | hm | hm
    ·refine Zae ?_
     refine Za7 ?_
     refine dn4 ?_
     refine Zaa ?_
     refine dn7 ?_
     refine djf ?_
     refine ZR ?_;intro ρ
     exact Zfg
    ·refine Zae ?_
     refine Zak ?_
     refine dn3 ?_
     refine dj (dgy ?_)
     refine Zau ?_
     refine Zai ?_
     refine dn7 ?_
     refine djf ?_
     refine ZR ?_;intro ρ
     exact Zfg
    ·refine Zeg ?_
     refine Zae ?_
     refine Zak ?_
     refine dn3 ?_
     refine dj (dgy ?_)
     refine ZaQ ?_
     refine dj (dgy ?_)
     refine Zau ?_
     refine Zao ?_;intro ρ
     exact Zfg
    ·refine Zae ?_
     refine Zak ?_
     refine dn3 ?_
     refine dj (dgy ?_)
     refine ZaQ ?_
     refine dj (dgy ?_)
     refine ZaA ?_
     refine Zao ?_;intro ρ
     refine Ar ?_ (fun w hs => hs)
     refine ⟨by first | exact congrArg (fun b => some (Value.bool b)) (decide_eq_true (by rw [hgd]; omega)).symm | exact congrArg (fun b => some (Value.bool b)) (by simp; omega), alT⟩
   ·refine Au ?_
    refine Gl ?_
    refine ZcL ?_
    refine Cu 47 (.bool (decide ((lin x i p).state = 2 ∧ ¬ (ent x i).owner = (p : Int) ∧ ¬ H3 x i p = true))) ?_ ?_
    ·rcases (show ((lin x i p).state ≠ 2) ∨ ((lin x i p).state = 2 ∧ (ent x i).owner = (p : Int)) ∨ ((lin x i p).state = 2 ∧ ¬ (ent x i).owner = (p : Int) ∧ H3 x i p = true) ∨ ((lin x i p).state = 2 ∧ ¬ (ent x i).owner = (p : Int) ∧ ¬ H3 x i p = true) from by grind) with hm | hm | hm | hm
     ·refine ZE ?_
      refine Av ?_
      refine Ga11 ?_
      exact ZeF
     ·refine Zbv ?_
      refine H2 ?_
      refine Ga6 ?_
      exact ZeF
     ·refine ZcL ?_
      refine Zbv ?_
      refine Hk ?_
      refine ZN ?_
      refine ob (Ed rfl (decide_eq_true hm.2.2)) ?_
      refine Ga2 ?_
      exact ZeF
     ·refine Zbv ?_
      refine Hk ?_
      refine ZN ?_
      refine ob (K6 rfl (decide_eq_false hm.2.2)) ?_
      exact ZfA
    ·refine Au ?_
     first | (refine cdx (p := ?p3) (hd := ?d3) ?e3 ?_ ?_; case e3 => exact rfl) | (refine A8 (b := ?b3) ?e3 ?_ ?_; case e3 => exact rfl)
     ·intro ht47
      refine Gl ?_
      refine ZcL ?_
      refine ZY ?_
      have hka : Hm x i p = false := by
       unfold Hm stN
       cases hg : H3 x i p <;> cases hb : Jb (ent x i).sharers p <;> simp [hg, hb] at ht47 ⊢ <;> omega
      exact Zgb
     ·intro ht47
      refine Gl ?_
      refine ZcG ?_
      refine Cu 63 (.bool (decide ((lin x i p).state = 1 ∧ ¬ Jb (ent x i).sharers p = true ∧ ¬ (ent x i).owner = (p : Int) ∧ ¬ H3 x i p = true))) ?_ ?_
      ·rcases (show ((lin x i p).state ≠ 1) ∨ ((lin x i p).state = 1 ∧ Jb (ent x i).sharers p = true) ∨ ((lin x i p).state = 1 ∧ ¬ Jb (ent x i).sharers p = true ∧ (ent x i).owner = (p : Int)) ∨ ((lin x i p).state = 1 ∧ ¬ Jb (ent x i).sharers p = true ∧ ¬ (ent x i).owner = (p : Int) ∧ H3 x i p = true) ∨ ((lin x i p).state = 1 ∧ ¬ Jb (ent x i).sharers p = true ∧ ¬ (ent x i).owner = (p : Int) ∧ ¬ H3 x i p = true) from by grind) with hm | hm | hm | hm | hm
       ·refine ZE ?_
        refine Av ?_
        refine Ga19 ?_
        exact ZeF
       ·refine ZdD ?_
        refine ob (Am rfl rfl (Bj (by rw [if_pos hm.2]; decide))) ?_
        refine Ga12 ?_
        exact ZeF
       ·refine ZcG ?_
        refine Zdm ?_
        refine H2 ?_
        refine Ga6 ?_
        exact ZeF
       ·refine Zdm ?_
        refine Hk ?_
        refine ZN ?_
        refine ob (Ed rfl (decide_eq_true hm.2.2.2)) ?_
        refine Ga2 ?_
        exact ZeF
       ·refine ZcG ?_
        refine Zdm ?_
        refine Hk ?_
        refine ZN ?_
        refine ob (K6 rfl (decide_eq_false hm.2.2.2)) ?_
        exact ZfA
      ·refine Au ?_
       first | (refine cdx (p := ?p4) (hd := ?d4) ?e4 ?_ ?_; case e4 => exact rfl) | (refine A8 (b := ?b4) ?e4 ?_ ?_; case e4 => exact rfl)
       ·intro ht63
        refine ZA ?_
        have hka : Hm x i p = false := by
         unfold Hm stN
         cases hg : H3 x i p <;> cases hb : Jb (ent x i).sharers p <;> simp [hg, hb] at ht63 ⊢ <;> omega
        exact Zgb
       ·intro ht63
        refine ZC ?_
        have hka : Hm x i p = true := by
         unfold Hm stN
         cases hg : H3 x i p <;> cases hb : Jb (ent x i).sharers p <;> simp [hg, hb] at ht47 ht63 ⊢ <;> omega
        refine Aw (p + 1) ⟨by omega, Hc hkp hka⟩ (by omega) alT (fun w hs => Ag hs)
  ·intro ht21
   refine ZC ?_
   refine Aw (i + 1) ⟨by omega, Hc hal (by unfold Wn; rw [show x.cores.length = p by omega]; exact hkp)⟩ (by omega) alT (fun w hs => Ag hs)
 ·intro ht13
  refine ZA ?_
  have er : Fi x = true := by unfold Fi; rw [show x.home.length = i by omega]; exact hal
  exact Zfj
theorem Xv {cv hv fv : Value} {x : Chip} (hs : St (L) R w) (hcv : sl cv x.cores ∈ R) (hhv : sl hv x.home ∈ R) (hx : CX x) (hfv : sl fv x.frames ∈ R) (honef : fv.oneCell' = true) : Calls Tryz.prog 17 [.agg #[cv, hv, fv]].toArray w (Bt (fun _ : Unit => vi (Et x)) (fun _ => L) (fun _ => R)) := by
 refine Zbc ?_;intro honec honeh
 have hn4 := hx.n4
 have hh4 := hx.h4
 refine Ai Tryz.func17 rfl Tryz.ntmps17 rfl hs ?_
 clear hs
 refine Zbq ?_;intro b1
 refine Ga5 ?_
 refine cdy ?_ ?_
 ·intro ht5
  refine ZA ?_
  have er : Et x = 4 := by unfold Et; rw [if_pos (by omega)]
  exact Zfj
 ·intro ht5
  refine Gl ?_
  refine kp [1, 2, 10, 11, 12, 13] ?_
  refine Cu 10 (.bool (decide (Fj x = false))) ?_ ?_
  ·rcases (show (Fj x = false) ∨ (Fj x = true) from by cases Fj x <;> simp) with hm | hm
   ·refine ZB ?_
    refine An Tryz.call48 rfl (fun w hs => Q1 (x := x) hs hcv hhv hx honef) ?_; intro _
    refine ob (K6 rfl hm) ?_
    refine Ga1 ?_
    refine Ar ?_ (fun w hs => hs)
    refine ⟨by first | exact congrArg (fun b => some (Value.bool b)) (decide_eq_true (by simp [hm])).symm | exact congrArg (fun b => some (Value.bool b)) (by simp; omega), alT⟩
   ·refine ZB ?_
    refine An Tryz.call48 rfl (fun w hs => Q1 (x := x) hs hcv hhv hx honef) ?_; intro _
    refine ob (Ed rfl hm) ?_
    refine Ga1 ?_
    refine Ar ?_ (fun w hs => hs)
    refine ⟨by first | exact congrArg (fun b => some (Value.bool b)) (decide_eq_false (by simp [hm])).symm | exact congrArg (fun b => some (Value.bool b)) (by simp; omega), alT⟩
  ·refine Au ?_
   first | (refine cdx (p := ?p2) (hd := ?d2) ?e2 ?_ ?_; case e2 => exact rfl) | (refine A8 (b := ?b2) ?e2 ?_ ?_; case e2 => exact rfl)
   ·intro ht10
    refine ZA ?_
    have er : Et x = 6 := by unfold Et; rw [if_neg (by omega), if_pos (by simpa using ht10)]
    exact Zfj
   ·intro ht10
    refine Gl ?_
    refine kp [1, 2, 14, 15, 16, 17, 18, 19, 20, 21, 22] ?_
    refine Cu 14 (.bool (decide (Ge x = false ∨ Fi x = false))) ?_ ?_
    ·rcases (show (Ge x = false) ∨ (Ge x = true ∧ Fi x = false) ∨ (Ge x = true ∧ Fi x = true) from by cases Ge x <;> cases Fi x <;> simp) with hm | hm | hm
     ·refine ZB ?_
      refine An Tryz.call49 rfl (fun w hs => O7 (x := x) hs hcv hhv hx honef) ?_; intro _
      refine ob (K6 rfl hm) ?_
      refine Ga6 ?_
      refine Ar ?_ (fun w hs => hs)
      refine ⟨by first | exact congrArg (fun b => some (Value.bool b)) (decide_eq_true (by simp [hm])).symm | exact congrArg (fun b => some (Value.bool b)) (by simp; omega), alT⟩
     ·refine ZB ?_
      refine An Tryz.call49 rfl (fun w hs => O7 (x := x) hs hcv hhv hx honef) ?_; intro _
      refine ob (Ed rfl hm.1) ?_
      refine Zas ?_
      refine An Tryz.call50 rfl (fun w hs => Q0 (x := x) hs hcv hhv hx honef) ?_; intro _
      refine gy ?_
      refine ob (K6 rfl hm.2) ?_
      refine Ga2 ?_
      refine Ar ?_ (fun w hs => hs)
      refine ⟨by first | exact congrArg (fun b => some (Value.bool b)) (decide_eq_true (by simp [hm])).symm | exact congrArg (fun b => some (Value.bool b)) (by simp; omega), alT⟩
     ·refine ZB ?_
      refine An Tryz.call49 rfl (fun w hs => O7 (x := x) hs hcv hhv hx honef) ?_; intro _
      refine ob (Ed rfl hm.1) ?_
      refine Zas ?_
      refine An Tryz.call50 rfl (fun w hs => Q0 (x := x) hs hcv hhv hx honef) ?_; intro _
      refine gy ?_
      refine ob (Ed rfl hm.2) ?_
      refine Ga2 ?_
      refine Ar ?_ (fun w hs => hs)
      refine ⟨by first | exact congrArg (fun b => some (Value.bool b)) (decide_eq_false (by simp [hm])).symm | exact congrArg (fun b => some (Value.bool b)) (by simp; omega), alT⟩
    ·refine Au ?_
     first | (refine cdx (p := ?p3) (hd := ?d3) ?e3 ?_ ?_; case e3 => exact rfl) | (refine A8 (b := ?b3) ?e3 ?_ ?_; case e3 => exact rfl)
     ·intro ht14
      refine ZA ?_
      have er : Et x = 2 := by unfold Et; rw [if_neg (by omega), if_neg (by simpa using ht10), if_pos (by simpa using ht14)]
      exact Zfj
     ·intro ht14
      refine Zaz ?_
      refine Be (γ := Nat) (fun i => i ≤ x.frames.length ∧ Lj (Kr x) i = true) (fun _ => blk b1 30 [cv, hv, fv] :: L) (fun _ => R) (fun i => [(24, fv), (25, vi (x.frames.length : Int)), (26, vi (i : Int))]) (fun i => x.frames.length - i) 0 ⟨Nat.zero_le _, rfl⟩ alT (fun w hs => Ag hs) ?_
      rintro i ⟨hi, hal⟩
      refine Gl ?_
      refine kp [2, 24, 25, 26, 27] ?_
      refine ZY ?_
      refine cdy ?_ ?_
      ·intro ht27
       refine Gl ?_
       refine JC.open1 (xs := x.frames) (v := fv) i mm (by omega) (fun _ fu => ?_)
       refine Aa ?_
       refine Gb3 ?_
       refine Ga3 ?_
       refine cdy ?_ ?_
       ·intro ht32
        have g32 : ((x.frames.getD i []).length : Int) ≠ 12 := ht32
        refine ZA ?_
        have er : Et x = 3 := by unfold Et; rw [if_neg (by omega), if_neg (by simpa using ht10), if_neg (by simpa using ht14), if_pos (Io (show i < x.frames.length by omega) (by unfold Kr; simp only [beq_eq_false_iff_ne]; omega))]
        exact Zfj
       ·intro ht32
        have g32 : ¬ ((x.frames.getD i []).length : Int) ≠ 12 := ht32
        refine ZC ?_
        refine Aw (i + 1) ⟨by omega, Hc hal (by unfold Kr; simp only [beq_iff_eq]; omega)⟩ (by omega) alT (fun w hs => Ag hs)
      ·intro ht27
       refine ZA ?_
       have er : Et x = 0 := by unfold Et; rw [if_neg (by omega), if_neg (by simpa using ht10), if_neg (by simpa using ht14), if_neg (by rw [show x.frames.length = i by omega, hal]; decide)]
       exact Zfj
theorem Aay (p q : Prop) : ¬ p ∨ (p ∧ q) ∨ (p ∧ ¬ q) := by
 by_cases h1 : p <;> by_cases h2 : q <;> simp [h1, h2]
section
variable {h : List Chip} {x : Chip} {ops : List Op} {losses : Bool}
theorem Ln {l : List Step} {j : Nat} (hj : j < l.length) : Fy h x (l.drop j) = match Lh h x (l.getD j zStep) with | none => none | some h' => Fy h' x (l.drop (j + 1)) := by
 rw [List.drop_eq_getElem_cons hj, List.getD_eq_getElem?_getD, List.getElem?_eq_getElem hj]; rfl
theorem Acz {l : List Chip} {i : Nat} (hi : i < l.length) : Jk ops losses h (l.drop i) = match Fy h (l.getD i zChip) (Ki (l.getD i zChip) ops losses) with | none => none | some h' => Jk ops losses h' (l.drop (i + 1)) := by
 rw [List.drop_eq_getElem_cons hi, List.getD_eq_getElem?_getD, List.getElem?_eq_getElem hi]; rfl
theorem try_a {s : Step} (hc : ¬ (Al x s).2.2 = 0) : Lh h x s = some h := by unfold Lh; rw [if_pos (.inl hc)]
theorem try_b {s : Step} (hc : (Al x s).2.2 = 0 ∧ (Al x s).1 ∈ h) : Lh h x s = some h := by unfold Lh; rw [if_pos (.inr hc.2)]
theorem try_c {s : Step} (hc : (Al x s).2.2 = 0 ∧ ¬ (Al x s).1 ∈ h) (hl : h.length = 120) : Lh h x s = none := by
 unfold Lh; rw [if_neg (fun a => a.elim (fun b => b hc.1) hc.2), if_pos hl]
theorem try_d {s : Step} (hc : (Al x s).2.2 = 0 ∧ ¬ (Al x s).1 ∈ h) (hl : ¬ h.length = 120) : Lh h x s = some (h ++ [(Al x s).1]) := by
 unfold Lh; rw [if_neg (fun a => a.elim (fun b => b hc.1) hc.2), if_neg hl]
end
section
variable {c : Config} {ops : List Op} {losses : Bool} {most : Int}
theorem ea_1 (h : (A6 c).2 ≠ 0) : Ku c ops losses most = (⟨0, 0, false⟩, (A6 c).2) := by unfold Ku; rw [if_pos h]
theorem ea_2 (h : (A6 c).2 = 0) (h2 : most < 0 ∨ 300 < most) : Ku c ops losses most = (⟨0, 0, false⟩, 3) := by unfold Ku; rw [if_neg (by rw [h]; decide), if_pos h2]
theorem ea_3 (h : (A6 c).2 = 0) (h2 : ¬ (most < 0 ∨ 300 < most)) (h3 : 12 < ops.length) : Ku c ops losses most = (⟨0, 0, false⟩, 4) := by unfold Ku; rw [if_neg (by rw [h]; decide), if_neg h2, if_pos h3]
theorem ea_n (h : (A6 c).2 = 0) (h2 : ¬ (most < 0 ∨ 300 < most)) (h3 : ¬ 12 < ops.length) (e : Ij ops losses most.toNat [(A6 c).1] 0 = none) : Ku c ops losses most = (⟨120, 0, true⟩, 0) := by
 unfold Ku; rw [if_neg (by rw [h]; decide), if_neg h2, if_neg h3, e]
theorem ea_s {l : List Chip} (h : (A6 c).2 = 0) (h2 : ¬ (most < 0 ∨ 300 < most)) (h3 : ¬ 12 < ops.length) (e : Ij ops losses most.toNat [(A6 c).1] 0 = some l) : Ku c ops losses most = (⟨(l.length : Int), 0, false⟩, 0) := by
 unfold Ku; rw [if_neg (by rw [h]; decide), if_neg h2, if_neg h3, e]
theorem Y1 {k : Nat} {had : List Chip} {f : Nat} (hk : 0 < k) (e : Jk ops losses had (had.drop f) = none) : Ij ops losses k had f = none := by
 obtain ⟨j, rfl⟩ : ∃ j, k = j + 1 := ⟨k - 1, by omega⟩
 unfold Ij; rw [e]
theorem Y0 {k : Nat} {had h : List Chip} {f : Nat} (hk : 0 < k) (e : Jk ops losses had (had.drop f) = some h) : Ij ops losses k had f = Ij ops losses (k - 1) h had.length := by
 obtain ⟨j, rfl⟩ : ∃ j, k = j + 1 := ⟨k - 1, by omega⟩
 show (match Jk ops losses had (had.drop f) with | none => none | some h => Ij ops losses j h had.length) = _
 rw [e]; rfl
theorem W4 {had t : List Chip} {y : Chip} : (had ++ t ++ [y]).drop had.length = (had ++ t).drop had.length ++ [y] := by
 rw [List.append_assoc, List.drop_left, List.drop_left]
theorem Wo {n nl : Nat} {l : List Chip} {y : Chip} {M : List Int} (hl : ∀ x ∈ l, ∃ M, Inv n nl x M) (hy : Inv n nl y M) : Fx y ∈ l.map Fx ↔ y ∈ l := by
 refine ⟨fun h => ?_, fun h => List.mem_map.2 ⟨y, h, rfl⟩⟩
 obtain ⟨x, hx, e⟩ := List.mem_map.1 h
 obtain ⟨Mx, hI⟩ := hl x hx
 rw [Wp hI hy e] at hx; exact hx
end
theorem expAll {vo : Value} {c : Config} {ops : List Op} {losses : Bool} {most : Int} (hs : St (L) R w) (ho : sl vo ops ∈ R) (hcw : c.wf) (hm : Ao most) : Calls Tryz.prog 8 [.agg c.cells.toArray, vo, .bool losses, vi most].toArray w (Bt (fun _ : Unit => .tuple #[.agg (Seen.cells (Ku c ops losses most).1).toArray, vi (Ku c ops losses most).2]) (fun _ => L) (fun _ => R)) := by
 refine Ai Tryz.func8 rfl Tryz.ntmps8 rfl hs ?_
 clear hs
 refine Gm ?_
 refine bx ?_; intro b4
 refine al_ (cs := zSeen.cells) Tryz.zeroValue41 ?_; intro b8
 refine ZaW ?_
 refine An Tryz.call15 rfl (fun w hs => Abk (c := c) hs hcw) ?_; intro v25
 refine J.know (p := v25.1.oneCell' = true ∧ v25.2.oneCell' = true) (fun w hs => ⟨isSlice.one (hs.fact (.head _)), isSlice.one (hs.fact (.tail _ (.head _)))⟩) (fun h12 => ?_)
 obtain ⟨honev251, honev252⟩ := h12
 refine rn3 ?_
 refine al_ (cs := [.slice none 0 0, .slice none 0 0, .slice none 0 0]) Tryz.zeroValue30 ?_; intro b10
 refine s_B (cs := [v25.1, v25.2, .slice none 0 0]) Tryz.sizeOf30 ?_
 refine ZH ?_
 refine cdy ?_ ?_
 ·intro ht29
  refine Gm ?_
  refine ob (D3 (cs := zSeen.cells) Yx) ?_
  refine rn1 ?_
  refine Zdo ?_
  rw [ea_1 ht29]
  exact Zgj
 ·intro ht29
  refine Gl ?_
  refine kp [1, 2, 3, 8, 9, 10, 32, 33, 34, 35, 36, 37] ?_
  refine Cu 37 (.bool (decide ((most < 0) ∨ (300 < most)))) ?_ ?_
  ·rcases (show ((most < 0)) ∨ (¬ (most < 0) ∧ (300 < most)) ∨ (¬ (most < 0) ∧ ¬ (300 < most)) from by omega) with hm | hm | hm
   ·refine ZB ?_
    refine D8 ?_
    refine Ga4 ?_
    exact ZeJ
   ·refine ZB ?_
    refine Ba ?_
    refine Zas ?_
    refine Fp ?_
    refine Ga1 ?_
    exact ZeJ
   ·refine ZB ?_
    refine Ba ?_
    refine Zas ?_
    refine D2 ?_
    refine Ga1 ?_
    exact ZeP
  ·refine Au ?_
   refine Gl ?_
   first | (refine cdx (p := ?p2) (hd := ?d2) ?e2 ?_ ?_; case e2 => exact rfl) | (refine A8 (b := ?b2) ?e2 ?_ ?_; case e2 => exact rfl)
   ·intro ht37
    refine Gm ?_
    refine ob (D3 (cs := zSeen.cells) Yx) ?_
    refine Zdo ?_
    rw [ea_2 (Decidable.not_not.1 ht29) ht37]
    exact Zgj
   ·intro ht37
    refine ZT ?_
    refine cdy ?_ ?_
    ·intro ht41
     refine Gm ?_
     refine ob (D3 (cs := zSeen.cells) Yx) ?_
     refine Zdo ?_
     rw [ea_3 (Decidable.not_not.1 ht29) ht37 (by omega)]
     exact Zgj
    ·intro ht41
     refine Gl ?_
     have hok : (A6 c).2 = 0 := Decidable.not_not.1 ht29
     have h12 : ¬ 12 < ops.length := by omega
     obtain ⟨m, rfl⟩ : ∃ m : Nat, most = (m : Int) := ⟨most.toNat, by omega⟩
     have hm0 : ¬ ((m : Int) < 0 ∨ 300 < (m : Int)) := ht37
     obtain ⟨n, nl, a1, a2, a3, a4⟩ := Ky hok
     obtain ⟨M0, hI0⟩ : ∃ M, Inv n nl (A6 c).1 M := ⟨_, by rw [a4]; exact Mq a1 a2⟩
     have hH0 : Had n nl [(A6 c).1] := by rw [a4]; exact Had.one a1 a2
     refine Aa ?_
     refine Aec skv ?_; intro bm
     refine rn1 ?_
     refine An Tryz.call13 rfl (fun w hs => J6 (x := (A6 c).1) hs mm mm mm hI0.kx) ?_; intro _
     refine Zs (Fx (A6 c).1) Og Tryz.underlying59 Tryz.underlying9 Of (ks := []) (by simp) rfl rfl rfl pkk ?_
     rw [List.nil_append]
     refine Gb2 ?_
     refine rn1 ?_
     refine li (α := Chip) [(A6 c).1] Ahc rfl (Acv mm mm mm) ?_; intro v48
     refine ZaW ?_
     refine al_ (cs := zSeen.cells) Tryz.zeroValue41 ?_; intro b14
     refine s_B (cs := [vi 1, vi 0, .bool false]) Tryz.sizeOf41 ?_
     refine Gl ?_
     refine kp [1, 2, 3, 8, 9, 12, 13, 14, 50, 51] ?_
     refine ZQ ?_
     refine Be (γ := Nat × List Chip × Nat × Value) (fun g => g.1 ≤ m ∧ Had n nl g.2.1 ∧ Ij ops losses (m - g.1) g.2.1 g.2.2.1 = Ij ops losses m [(A6 c).1] 0) (fun g => Rl skv bm (g.2.1.map Fx) :: blk b14 41 [vi (g.2.1.length : Int), vi 0, .bool false] :: blk b8 41 [vi 0, vi 0, .bool false] :: L) (fun g => sl g.2.2.2 (g.2.1.drop g.2.2.1) :: R) (fun g => [(1, vo), (2, .bool losses), (8, bp b8 0), (12, .map (some bm)), (13, g.2.2.2), (14, bp b14 0), (50, vi (m : Int)), (51, vi (g.1 : Int))]) (fun g => m - g.1) (0, [(A6 c).1], 0, v48) ⟨Nat.zero_le _, hH0, rfl⟩ alT (fun w hs => Ag hs) ?_
     rintro ⟨r, had, f, vn⟩ ⟨hr, hH, hrun⟩
     try simp only at hr hH hrun ⊢
     refine ZA ?_
     refine cdy ?_ ?_
     ·intro ht52
      refine ZM ?_
      refine Ga3 ?_
      refine JC.rowNil 30 Chip ?_
      refine Be (γ := Nat × List Chip × Value) (fun g => g.1 ≤ (had.drop f).length ∧ Had n nl g.2.1 ∧ (∃ t, g.2.1 = had ++ t) ∧ Jk ops losses had (had.drop f) = Jk ops losses g.2.1 ((had.drop f).drop g.1)) (fun g => row 30 g.2.2 (g.2.1.drop had.length) :: Rl skv bm (g.2.1.map Fx) :: blk b14 41 [vi (g.2.1.length : Int), vi 0, .bool false] :: blk b8 41 [vi 0, vi 0, .bool false] :: L) (fun _ => sl vn (had.drop f) :: R) (fun g => [(1, vo), (2, .bool losses), (8, bp b8 0), (12, .map (some bm)), (14, bp b14 0), (15, g.2.2), (50, vi (m : Int)), (51, vi (r : Int)), (53, vn), (54, vi ((had.drop f).length : Int)), (55, vi (g.1 : Int))]) (fun g => (had.drop f).length - g.1) (0, had, .slice none 0 0) ⟨Nat.zero_le _, hH, ⟨[], by simp⟩, rfl⟩ alT (fun w hs => by rw [List.drop_length]; exact Ag hs) ?_
      rintro ⟨i, h, vx⟩ ⟨hi, hHh, ⟨t, ht⟩, hnow⟩
      try simp only at hi hHh ht hnow ⊢
      have hdl : (had.drop f).length ≤ 120 := by have := hH.len; rw [List.length_drop]; omega
      refine ZA ?_
      refine cdy ?_ ?_
      ·intro ht56
       refine Gl ?_
       refine Z0 i (xs := had.drop f) (v := vn) mm (by omega) (fun a b c0 hone => ?_)
       obtain ⟨honea, honeb, honec⟩ := hone
       obtain ⟨X, hX⟩ : ∃ X, (had.drop f).getD i zChip = X := ⟨_, rfl⟩
       have hXm : X ∈ had := by
        rw [← hX, List.getD_eq_getElem?_getD, List.getElem?_eq_getElem (by omega)]; exact List.mem_of_mem_drop (List.getElem_mem _)
       rw [hX]
       obtain ⟨MX, hIX⟩ := hH.inv X hXm
       refine ZD ?_
       refine al_ (cs := [.slice none 0 0, .slice none 0 0, .slice none 0 0]) Tryz.zeroValue30 ?_; intro b17
       refine s_B (cs := [a, b, c0]) Tryz.sizeOf30 ?_
       refine Zah ?_
       refine An Tryz.call6 rfl (fun w hs => Tj (x := X) (ops := ops) (losses := losses) hs mm mm mm hIX.kx (by omega)) ?_; intro v62
       refine Ga2 ?_
       obtain ⟨S, hS⟩ : ∃ S, Ki X ops losses = S := ⟨_, rfl⟩
       rw [hS]
       refine Be (γ := Nat × List Chip × Value) (fun g => g.1 ≤ S.length ∧ Had n nl g.2.1 ∧ (∃ t, g.2.1 = had ++ t) ∧ Fy h X S = Fy g.2.1 X (S.drop g.1)) (fun g => row 30 g.2.2 (g.2.1.drop had.length) :: blk b17 30 [a, b, c0] :: Rl skv bm (g.2.1.map Fx) :: blk b14 41 [vi (g.2.1.length : Int), vi 0, .bool false] :: blk b8 41 [vi 0, vi 0, .bool false] :: L) (fun _ => sl v62 S :: sl a X.cores :: sl b X.home :: sl c0 X.frames :: sl vn (had.drop f) :: R) (fun g => [(1, vo), (2, .bool losses), (8, bp b8 0), (12, .map (some bm)), (14, bp b14 0), (15, g.2.2), (17, bp b17 0), (50, vi (m : Int)), (51, vi (r : Int)), (53, vn), (54, vi ((had.drop f).length : Int)), (55, vi (i : Int)), (62, v62), (63, vi (S.length : Int)), (64, vi (g.1 : Int))]) (fun g => S.length - g.1) (0, h, vx) ⟨Nat.zero_le _, hHh, ⟨t, ht⟩, rfl⟩ alT (fun w hs => Ag hs) ?_
       rintro ⟨j, h2, vx⟩ ⟨hj, hH2, ⟨t, ht⟩, hst⟩
       try simp only at hj hH2 ht hst ⊢
       have hl2 := hH2.len
       have hSl : S.length ≤ 200 := by
        have h1 := Vo X ops losses (X.cores.length + 1)
        rw [Vp, hS] at h1
        have h2 := Nat.mul_le_mul hIX.kx.cl (show ops.length ≤ 12 by omega)
        have h3 := hIX.kx.cl
        have h4 := hIX.kx.fl
        omega
       refine ZA ?_
       refine cdy ?_ ?_
       ·intro ht65
        refine Gl ?_
        obtain ⟨SJ, hSJ⟩ : ∃ SJ, S.getD j zStep = SJ := ⟨_, rfl⟩
        refine JC.open0 (xs := S) (v := v62) j mm (by omega) (fun hsw => ?_)
        have hsw2 : Step.wf (S.getD j zStep) := hsw
        refine JC.conseq (L' := row 30 vx (h2.drop had.length) :: blk b17 30 [a, b, c0] :: Rl skv bm (h2.map Fx) :: blk b14 41 [vi (h2.length : Int), vi 0, .bool false] :: blk b8 41 [vi 0, vi 0, .bool false] :: L) (R' := cF v62 7 j SJ.cells :: sl v62 S :: sl a X.cores :: sl b X.home :: sl c0 X.frames :: sl vn (had.drop f) :: R) (fun w hs => by rw [← hSJ]; exact hs) ?_
        rw [hSJ] at hsw2
        refine ZD ?_
        refine al_ (cs := zStep.cells) Tryz.zeroValue38 ?_; intro b19
        refine s_B (cs := SJ.cells) Tryz.sizeOf38 ?_
        refine ZK ?_
        refine An Tryz.call16 rfl (fun w hs => Vd (x := X) (s := SJ) hs mm mm mm hsw2 hIX) ?_; intro v71
        refine J.know (p := v71.1.oneCell' = true ∧ v71.2.1.oneCell' = true ∧ v71.2.2.1.oneCell' = true) (fun w hs => ⟨isSlice.one (hs.fact (.head _)), isSlice.one (hs.fact (.tail _ (.head _))), isSlice.one (hs.fact (.tail _ (.tail _ (.head _))))⟩) (fun h12 => ?_)
        obtain ⟨honev711, honev712, honev713⟩ := h12
        refine rn4 ?_
        refine al_ (cs := [.slice none 0 0, .slice none 0 0, .slice none 0 0]) Tryz.zeroValue30 ?_; intro b20
        refine s_B (cs := [v71.1, v71.2.1, v71.2.2.1]) Tryz.sizeOf30 ?_
        refine Ga2 ?_
        rcases (show (¬ (Al X SJ).2.2 = 0) ∨ ((Al X SJ).2.2 = 0 ∧ (Al X SJ).1 ∈ h2) ∨ ((Al X SJ).2.2 = 0 ∧ ¬ (Al X SJ).1 ∈ h2) from by exact Aay _ _) with hc | hc | hc
        ·refine ZcO ?_
         refine ob (Am rfl rfl (E7 hc)) ?_
         refine Gd6 ?_
         refine Ga2 ?_
         have htd := try_a (h := h2) hc
         have hsa := Ln (h := h2) (x := X) (l := S) (j := j) (by omega)
         rw [hSJ, htd] at hsa
         refine Aw (j + 1, h2, vx) ⟨by show j + 1 ≤ S.length; omega, hH2, ⟨t, ht⟩, by rw [hst, hsa]⟩ (by show S.length - (j + 1) < S.length - j; omega) alT (fun w hs => Ag hs)
        ·obtain ⟨MD, hID, _⟩ := Ta hIX hc.1
         have hkm := Wo hH2.inv hID
         refine ZcO ?_
         refine ob (Am rfl rfl (C7 hc.1)) ?_
         refine ZN ?_
         refine An Tryz.call13 rfl (fun w hs => J6 (x := (Al X SJ).1) hs mm mm mm hID.kx) ?_; intro _
         refine gy ?_
         refine P3 (Fx (Al X SJ).1) true (hv := ⟨fun _ => hkm.2 hc.2, fun _ => rfl⟩) Og Tryz.underlying59 Tryz.underlying9 Tryz.zeroValue4 Of rfl rfl pkk ?_
         refine Gd1 ?_
         refine Ga2 ?_
         have htd := try_b (h := h2) hc
         have hsa := Ln (h := h2) (x := X) (l := S) (j := j) (by omega)
         rw [hSJ, htd] at hsa
         refine Aw (j + 1, h2, vx) ⟨by show j + 1 ≤ S.length; omega, hH2, ⟨t, ht⟩, by rw [hst, hsa]⟩ (by show S.length - (j + 1) < S.length - j; omega) alT (fun w hs => Ag hs)
        ·obtain ⟨MD, hID, _⟩ := Ta hIX hc.1
         have hkm := Wo hH2.inv hID
         refine ZcO ?_
         refine ob (Am rfl rfl (C7 hc.1)) ?_
         refine ZN ?_
         refine An Tryz.call13 rfl (fun w hs => J6 (x := (Al X SJ).1) hs mm mm mm hID.kx) ?_; intro _
         refine gy ?_
         refine P3 (Fx (Al X SJ).1) false (hv := ⟨fun h => absurd h (by decide), fun a => absurd (hkm.1 a) hc.2⟩) Og Tryz.underlying59 Tryz.underlying9 Tryz.zeroValue4 Of rfl rfl pkk ?_
         refine Gd1 ?_
         refine rn1 ?_
         refine Zr Tryz.underlying59 rfl pkk ?_
         rw [List.length_map]
         refine Ga1 ?_
         refine cdy ?_ ?_
         ·intro ht85
          refine Gm ?_
          refine ZG ?_
          refine ZI ?_
          refine s_B (cs := [vi (h2.length : Int), vi 0, .bool true]) Tryz.sizeOf41 ?_
          refine Ga1 ?_
          have htn := try_c (h := h2) hc (by omega)
          have hsa := Ln (h := h2) (x := X) (l := S) (j := j) (by omega)
          rw [hSJ, htn] at hsa
          have hst2 : Fy h X S = none := by rw [hst, hsa]
          have hn1 := Acz (ops := ops) (losses := losses) (h := h) (l := had.drop f) (i := i) (by omega)
          rw [hX, hS, hst2] at hn1
          have hr1 : Ij ops losses m [(A6 c).1] 0 = none := by rw [← hrun]; exact Y1 (by omega) (by rw [hnow, hn1])
          rw [ea_n hok hm0 h12 hr1, show ((h2.length : Nat) : Int) = 120 by omega]
          exact Fo () Tryz.isAgg41 Tryz.sizeOf41
         ·intro ht85
          refine ZK ?_
          refine An Tryz.call13 rfl (fun w hs => J6 (x := (Al X SJ).1) hs mm mm mm hID.kx) ?_; intro _
          refine Zq (Fx (Al X SJ).1) Og Tryz.underlying59 Tryz.underlying9 Of (fun a => hc.2 (hkm.1 a)) rfl rfl rfl pkk ?_
          refine Zal ?_
          refine sc ?_
          refine ZK ?_
          refine ob (Am rfl rfl (A9 rfl)) ?_
          refine Gmc ?_
          refine rn1 ?_
          refine An Tryz.call17 rfl (fun w hs => by have h8 := Xv (x := (Al X SJ).1) hs mm mm hID.cx mm honev713; rw [Xr hID] at h8; exact h8) ?_; intro _
          refine ZG ?_
          refine ZK ?_
          refine li (α := Chip) [(Al X SJ).1] Ahc rfl (Acv mm mm mm) ?_; intro v103
          refine ap Ahc (hb := fun w hs => by have : maxN = 16777216 := rfl; have := hH2.len; simp only [List.length_cons, List.length_nil, List.length_drop]; omega) (k := ?_); intro v104
          refine Ga1 ?_
          refine kp [1, 2, 8, 9, 12, 13, 14, 15, 17, 19, 20, 22, 50, 51, 52, 53, 54, 55, 56, 57, 58, 59, 60, 61, 62, 63, 64, 65, 66, 67, 68, 69, 70, 71, 72, 73, 74, 75, 76, 77, 78, 79, 80, 81, 82, 83, 84, 85, 86, 87, 88, 89, 90, 91, 92, 93, 94, 95, 96, 97, 98, 99, 100, 101, 102, 103, 104, 105] ?_
          refine ZQ ?_
          have htd := try_d hc (by omega)
          have hsa := Ln (h := h2) (x := X) (l := S) (j := j) (by omega)
          rw [hSJ, htd] at hsa
          refine Aw (j + 1, h2 ++ [(Al X SJ).1], v104) ⟨by show j + 1 ≤ S.length; omega, hH2.try ⟨_, hIX⟩ htd, ⟨t ++ [(Al X SJ).1], by rw [ht, List.append_assoc]⟩, by rw [hst, hsa]⟩ (by show S.length - (j + 1) < S.length - j; omega) alT (fun w hs => ?_)
          try simp only
          rw [List.map_append, List.length_append, List.length_singleton]
          have hdr : (h2 ++ [(Al X SJ).1]).drop had.length = h2.drop had.length ++ [(Al X SJ).1] := by rw [ht]; exact W4
          rw [hdr]; exact Ag hs
       ·intro ht65
        refine ZC ?_
        have hje : j = S.length := by omega
        have hst2 : Fy h X S = some h2 := by rw [hst, hje, List.drop_length]; rfl
        have hn1 := Acz (ops := ops) (losses := losses) (h := h) (l := had.drop f) (i := i) (by omega)
        rw [hX, hS, hst2] at hn1
        refine Aw (i + 1, h2, vx) ⟨by show i + 1 ≤ (had.drop f).length; omega, hH2, ⟨t, ht⟩, by show Jk ops losses had (had.drop f) = Jk ops losses h2 ((had.drop f).drop (i + 1)); rw [hnow, hn1]⟩ (by show (had.drop f).length - (i + 1) < (had.drop f).length - i; omega) alT (fun w hs => Ag hs)
      ·intro ht56
       refine Gl ?_
       have hnow2 : Jk ops losses had (had.drop f) = some h := by rw [hnow, List.drop_of_length_le (by omega)]; rfl
       refine JC.shut (v := vx) pkk ?_
       refine Aa ?_
       refine Gb2 ?_
       refine Ga2 ?_
       refine Aw (r + 1, h, had.length, vx) ⟨by show r + 1 ≤ m; omega, hHh, by show Ij ops losses (m - (r + 1)) h had.length = _; rw [show m - (r + 1) = m - r - 1 by omega, ← Y0 (by omega) hnow2]; exact hrun⟩ (by show m - (r + 1) < m - r; omega) alT (fun w hs => Ag hs)
     ·intro ht52
      refine ZI ?_
      refine s_B (cs := [vi (had.length : Int), vi 0, .bool false]) Tryz.sizeOf41 ?_
      refine Ga1 ?_
      have hr1 : Ij ops losses m [(A6 c).1] 0 = some had := by rw [← hrun, show m - r = 0 by omega]; rfl
      rw [ea_s hok hm0 h12 hr1]
      exact Zgj
theorem e_al : Ku ⟨1, 1⟩ [⟨1, 0, 0⟩] false 3 = (⟨4, 0, false⟩, 0) := by decide +kernel
theorem e_st : ((Ki (A6 ⟨1, 1⟩).1 [] true).length : Int) = 2 := by decide +kernel
theorem e_kx : KX (A6 ⟨1, 1⟩).1 := (Mq (n := 1) (nl := 1) (by decide) (by decide)).kx
theorem e_key : Fx (A6 ⟨1, 1⟩).1 ≠ [] := by decide +kernel
theorem rdOpE {R : List Fact} {e : Op} (hw : e.wf) : ∀ j, (∀ q ∈ R, q.p j) → RdV [e] [.agg e.cells.toArray] j := fun j _ => ⟨⟨_, rfl, rfl, hw⟩, trivial⟩
theorem Ack  (hs : St (L) R w) : Calls Tryz.prog 12 [].toArray w (Bt (fun _ : Unit => .bool true) (fun _ => L) (fun _ => R)) := by
 refine Ai Tryz.func12 rfl Tryz.ntmps12 rfl hs ?_
 clear hs
 refine ZM ?_
 refine rn2 ?_
 refine li (α := Op) [⟨1, 0, 0⟩] eo_25 rfl (rdOpE (by unfold Op.wf Ao; decide)) ?_; intro v8
 refine An Tryz.call8 rfl (fun w hs => by have h := expAll (c := ⟨1, 1⟩) (ops := [⟨1, 0, 0⟩]) (losses := false) (most := 3) hs mm (by unfold Config.wf Ao; decide) (by unfold Ao; omega); rw [e_al] at h; exact h) ?_; intro _u
 refine rn3 ?_
 refine al_ (cs := zSeen.cells) Tryz.zeroValue41 ?_; intro b1
 refine s_B (cs := (⟨4, 0, false⟩ : Seen).cells) Tryz.sizeOf41 ?_
 refine ZaW ?_
 refine An Tryz.call9 rfl (fun w hs => Acu (c := ⟨1, 1⟩) hs (by unfold Config.wf Ao; decide)) ?_; intro v14
 refine J.know (p := v14.1.oneCell' = true ∧ v14.2.oneCell' = true) (fun w hs => ⟨isSlice.one (hs.fact (.head _)), isSlice.one (hs.fact (.tail _ (.head _)))⟩) (fun h12 => ?_)
 obtain ⟨honev141, honev142⟩ := h12
 refine rn3 ?_
 refine al_ (cs := [.slice none 0 0, .slice none 0 0, .slice none 0 0]) Tryz.zeroValue30 ?_; intro b3
 refine s_B (cs := [v14.1, v14.2, .slice none 0 0]) Tryz.sizeOf30 ?_
 refine Ga1 ?_
 refine JC.slNil Op ?_
 refine ZB ?_
 refine ob (Am rfl rfl (A9 rfl)) ?_
 refine ZN ?_
 refine ob (Am rfl rfl (A9 rfl)) ?_
 refine ZO ?_
 refine ob (K6 rfl rfl) ?_
 refine ZO ?_
 refine ob (Am rfl rfl (A9 rfl)) ?_
 refine ZN ?_
 refine An Tryz.call6 rfl (fun w hs => Tj (x := (A6 ⟨1, 1⟩).1) (ops := []) (losses := true) hs mm mm mm e_kx (by decide)) ?_; intro v36
 refine rn1 ?_
 refine gy ?_
 refine ob (Am rfl rfl (A9 e_st)) ?_
 refine ZN ?_
 refine An Tryz.call13 rfl (fun w hs => J6 (x := (A6 ⟨1, 1⟩).1) hs mm mm mm e_kx) ?_; intro _
 refine gy ?_
 refine ob (Zv rfl rfl (X2 e_key)) ?_
 refine Ga2 ?_
 exact Bc ()
theorem O8 {a b : Chip} (h : a.cores ≠ b.cores ∨ a.home ≠ b.home ∨ a.frames ≠ b.frames) : ¬ a = b := by
 intro e; subst e; simp at h
theorem T1 (a b : Chip) : a.cores.length ≠ b.cores.length ∨ (a.cores.length = b.cores.length ∧ a.home ≠ b.home) ∨ (a.cores.length = b.cores.length ∧ a.home = b.home ∧ a.frames ≠ b.frames) ∨ (a.cores.length = b.cores.length ∧ a.home = b.home ∧ a.frames = b.frames) := by
 by_cases h1 : a.cores.length = b.cores.length <;> by_cases h2 : a.home = b.home <;> by_cases h3 : a.frames = b.frames <;> simp [h1, h2, h3]
theorem Wq (c : Config) (l m : List Step) : KX (build c l).1 ∧ KX (build c m).1 ∧ (Fx (build c l).1 = Fx (build c m).1 ↔ (build c l).1 = (build c m).1) := by
 by_cases h : (A6 c).2 = 0
 ·obtain ⟨n, nl, h1, M, h2, _⟩ := Qj (l := l) h
  obtain ⟨n', nl', g1, M', g2, _⟩ := Qj (l := m) h
  have e1 : (n : Int) = n' := by have := congrArg Config.cores (h1.symm.trans g1); exact this
  have e2 : (nl : Int) = nl' := by have := congrArg Config.lines (h1.symm.trans g1); exact this
  have f1 : n' = n := by omega
  have f2 : nl' = nl := by omega
  subst f1 f2
  exact ⟨h2.kx, g2.kx, Aew h2 g2⟩
 ·have e : ∀ k, (build c k).1 = zChip := fun k => by
   unfold build; rw [if_pos h]
  rw [e l, e m]
  exact ⟨Wl, Wl, ⟨fun _ => rfl, fun _ => rfl⟩⟩
theorem Sv {c1 h1 f1 c2 h2 f2 : Value} {a b : Chip} (hs : St (L) R w) (ha : sl c1 a.cores ∈ R) (hb : sl h1 a.home ∈ R) (hf1 : sl f1 a.frames ∈ R) (hd : sl c2 b.cores ∈ R) (he : sl h2 b.home ∈ R) (hf2 : sl f2 b.frames ∈ R) : Calls Tryz.prog 14 [.agg #[c1, h1, f1], .agg #[c2, h2, f2]].toArray w (Bt (fun _ : Unit => .bool (decide (a = b))) (fun _ => L) (fun _ => R)) := by
 have hla := Bd ha hs
 refine Ai Tryz.func14 rfl Tryz.ntmps14 rfl hs ?_
 clear hs
 refine ZbD ?_;intro b2 b3
 refine Ga1 ?_
 rcases (show (a.cores.length ≠ b.cores.length) ∨ (a.cores.length = b.cores.length ∧ a.home ≠ b.home) ∨ (a.cores.length = b.cores.length ∧ a.home = b.home ∧ a.frames ≠ b.frames) ∨ (a.cores.length = b.cores.length ∧ a.home = b.home ∧ a.frames = b.frames) from by exact T1 a b) with hc | hc | hc | hc
 ·refine Zap ?_
  refine Hk ?_
  refine Gd16 ?_
  refine Ga1 ?_
  rw [decide_eq_false (O8 (.inl (fun e => hc (by rw [e]))))]
  exact Bc ()
 ·refine Zap ?_
  refine H2 ?_
  refine ZS ?_
  refine An Tryz.call34 rfl (fun w hs => by have h := Oh (a := a.home) (b := b.home) hs mm mm; rw [decide_eq_false hc.2] at h; exact h) ?_; intro _
  refine Gd10 ?_
  refine Ga1 ?_
  rw [decide_eq_false (O8 (.inr (.inl hc.2)))]
  exact Bc ()
 ·refine Zap ?_
  refine H2 ?_
  refine ZS ?_
  refine An Tryz.call34 rfl (fun w hs => by have h := Oh (a := a.home) (b := b.home) hs mm mm; rw [decide_eq_true hc.2.1] at h; exact h) ?_; intro _
  refine rn7 ?_
  refine gy ?_
  refine An Tryz.call35 rfl (fun w hs => by have h := Nu (a := a.frames) (b := b.frames) hs mm mm; rw [decide_eq_false hc.2.2] at h; exact h) ?_; intro _
  refine Gd2 ?_
  refine Ga1 ?_
  rw [decide_eq_false (O8 (.inr (.inr hc.2.2)))]
  exact Bc ()
 ·refine Zap ?_
  refine H2 ?_
  refine ZS ?_
  refine An Tryz.call34 rfl (fun w hs => by have h := Oh (a := a.home) (b := b.home) hs mm mm; rw [decide_eq_true hc.2.1] at h; exact h) ?_; intro _
  refine rn7 ?_
  refine gy ?_
  refine An Tryz.call35 rfl (fun w hs => by have h := Nu (a := a.frames) (b := b.frames) hs mm mm; rw [decide_eq_true hc.2.2] at h; exact h) ?_; intro _
  refine Gd2 ?_
  refine Ga4 ?_
  refine Be (γ := Nat) (fun k => k ≤ a.cores.length ∧ a.cores.take k = b.cores.take k) (fun _ => blk b2 30 [c1, h1, f1] :: blk b3 30 [c2, h2, f2] :: L) (fun _ => R) (fun k => [(2, bp b2 0), (3, bp b3 0), (31, vi (a.cores.length : Int)), (32, vi (k : Int))]) (fun k => a.cores.length - k) 0 ⟨Nat.zero_le _, rfl⟩ alT (fun w hs => Ag hs) ?_
  rintro k ⟨hk, htk⟩
  try simp only at hk htk ⊢
  refine ZA ?_
  refine cdy ?_ ?_
  ·intro ht33
   refine Gl ?_
   refine kp [2, 3, 4, 5, 31, 32, 33, 34] ?_
   refine ZQ ?_
   refine Fr k (v := c1) mm (by omega) (fun _ ua honeua => ?_)
   refine Fr k (v := c2) mm (by omega) (fun _ ub honeub => ?_)
   have hcopy := hc
   rcases (show (cor a k = cor b k) ∨ (¬ cor a k = cor b k) from by exact Classical.em _) with hc | hc
   ·have hc6 := hc
    have hc := hcopy
    refine Bq ?_
    refine W7 ?_
    refine dj ?_
    refine Il (γ := Unit) (val := fun _ => .bool true) (F := fun _ => []) (C := fun _ => []) Tryz.call36 (fun _ => rfl) (fun _ _ _ _ => rfl) (fun ρ L R w hd hs => by have h := Su (a := cor a k) (b := cor b k) hs (hd.base mm) (hd.base mm); rw [decide_eq_true hc6] at h; exact h) ?_
    first | refine djc (fun _ _ => Ny) ?_ | refine djc (fun _ _ => Ol) ?_
    refine dnl ?_; intro ρ
    refine Gmc ?_
    refine Ga2 ?_
    refine Aw (k + 1) ⟨by omega, by rw [E1 Er (by omega), E1 Er (by omega), htk]; exact congrArg (fun z => b.cores.take k ++ [z]) hc6⟩ (by omega) alT (fun w hs => Ag hs)
   ·have hc6 := hc
    have hc := hcopy
    refine Bq ?_
    refine W7 ?_
    refine dj ?_
    refine Il (γ := Unit) (val := fun _ => .bool false) (F := fun _ => []) (C := fun _ => []) Tryz.call36 (fun _ => rfl) (fun _ _ _ _ => rfl) (fun ρ L R w hd hs => by have h := Su (a := cor a k) (b := cor b k) hs (hd.base mm) (hd.base mm); rw [decide_eq_false hc6] at h; exact h) ?_
    first | refine djc (fun _ _ => Ny) ?_ | refine djc (fun _ _ => Ol) ?_
    refine dnl ?_; intro ρ
    refine Gmc ?_
    refine Ga1 ?_
    rw [decide_eq_false (O8 (.inl (fun e => hc6 (by unfold cor; rw [e]))))]
    exact Bc ()
  ·intro ht33
   refine Gl ?_
   refine kp [2, 3, 4, 5, 31, 32, 33, 34, 35, 36, 37, 38, 39, 40, 41, 42, 43, 44, 45, 46, 47] ?_
   refine ZY ?_
   have hcc : a.cores = b.cores := by rw [← List.take_length (l := a.cores), show a.cores.length = k by omega, htk, List.take_of_length_le (by omega)]
   have hab : a = b := by
    have e2 := hc.2.1
    have e3 := hc.2.2
    cases a; cases b; simp only at hcc e2 e3; rw [hcc, e2, e3]
   rw [decide_eq_true hab]
   exact Bc ()
theorem M3 {vl vm : Value} {c : Config} {l m : List Step} (hs : St (L) R w) (hl : sl vl l ∈ R) (hm : sl vm m ∈ R) (hcw : c.wf) : Calls Tryz.prog 4 [.agg c.cells.toArray, vl, vm].toArray w (Bt (fun _ : Unit => .bool true) (fun _ => L) (fun _ => R)) := by
 refine Ai Tryz.func4 rfl Tryz.ntmps4 rfl hs ?_
 clear hs
 refine Zat ?_;intro b3
 refine Gb1 ?_
 refine An Tryz.call12 rfl (fun w hs => Ack hs) ?_; intro _
 refine Gd1 ?_
 refine rn2 ?_
 refine An Tryz.call5 rfl (fun w hs => Sx (c := c) (l := l) hs mm hcw) ?_; intro v16
 refine J.know (p := v16.1.oneCell' = true ∧ v16.2.1.oneCell' = true ∧ v16.2.2.1.oneCell' = true) (fun w hs => ⟨isSlice.one (hs.fact (.head _)), isSlice.one (hs.fact (.tail _ (.head _))), isSlice.one (hs.fact (.tail _ (.tail _ (.head _))))⟩) (fun h12 => ?_)
 obtain ⟨honev161, honev162, honev163⟩ := h12
 refine rn3 ?_
 refine al_ (cs := [.slice none 0 0, .slice none 0 0, .slice none 0 0]) Tryz.zeroValue30 ?_; intro b7
 refine s_B (cs := [v16.1, v16.2.1, v16.2.2.1]) Tryz.sizeOf30 ?_
 refine Gb1 ?_
 refine rn2 ?_
 refine An Tryz.call5 rfl (fun w hs => Sx (c := c) (l := m) hs mm hcw) ?_; intro v22
 refine J.know (p := v22.1.oneCell' = true ∧ v22.2.1.oneCell' = true ∧ v22.2.2.1.oneCell' = true) (fun w hs => ⟨isSlice.one (hs.fact (.head _)), isSlice.one (hs.fact (.tail _ (.head _))), isSlice.one (hs.fact (.tail _ (.tail _ (.head _))))⟩) (fun h12 => ?_)
 obtain ⟨honev221, honev222, honev223⟩ := h12
 refine rn3 ?_
 refine al_ (cs := [.slice none 0 0, .slice none 0 0, .slice none 0 0]) Tryz.zeroValue30 ?_; intro b9
 refine s_B (cs := [v22.1, v22.2.1, v22.2.2.1]) Tryz.sizeOf30 ?_
 refine Ga1 ?_
 obtain ⟨kx1, kx2, kiff⟩ := Wq c l m
 rcases (show ((build c l).1 = (build c m).1) ∨ (¬ (build c l).1 = (build c m).1) from by exact Classical.em _) with hc | hc
 ·refine ZdF ?_
  refine djc (fun _ _ => Zv rfl rfl (X4 (kiff.2 hc))) ?_
  refine dn2 ?_
  refine dj ?_
  refine Il (γ := Unit) (val := fun _ => .bool true) (F := fun _ => []) (C := fun _ => []) Tryz.call14 (fun _ => rfl) (fun _ _ _ _ => rfl) (fun ρ L R w hd hs => by have h := Sv (a := (build c l).1) (b := (build c m).1) hs (hd.base mm) (hd.base mm) (hd.base mm) (hd.base mm) (hd.base mm) (hd.base mm); rw [decide_eq_true hc] at h; exact h) ?_
  exact Zgd
 ·refine ZdF ?_
  refine djc (fun _ _ => Zv rfl rfl (X5 (fun e => hc (kiff.1 e)))) ?_
  refine dn2 ?_
  refine dj ?_
  refine Il (γ := Unit) (val := fun _ => .bool false) (F := fun _ => []) (C := fun _ => []) Tryz.call14 (fun _ => rfl) (fun _ _ _ _ => rfl) (fun ρ L R w hd hs => by have h := Sv (a := (build c l).1) (b := (build c m).1) hs (hd.base mm) (hd.base mm) (hd.base mm) (hd.base mm) (hd.base mm) (hd.base mm); rw [decide_eq_false hc] at h; exact h) ?_
  exact Zgd
end Go.Proofs.YtbigiimomnfpdaaGreat
