/- This file proves parts of what its law needs: each part is told ahead of it. No conditions. -/
import Derived.Test.YtbigiimomnfpdaaGreatTM3
import Derived.Test.YtbigiimomnfpdaaGreatTM4
import Derived.Test.YtbigiimomnfpdaaGreatTM2
set_option linter.unusedVariables false
set_option linter.unusedSimpArgs false
set_option maxHeartbeats 1000000
set_option maxRecDepth 8000
namespace Go.Proofs.YtbigiimomnfpdaaGreat
open Go
variable {L : List Chunk} {R : List Fact} {w : World}
theorem Pick.perm {L L' : List Chunk} {c : Chunk} (h : Pick L c L') : L.Perm (c :: L') := by
 induction h with
 | hd => exact .refl _
 | tl _ ih => exact (ih.cons _).trans (.swap ..)
theorem b_subE {P : Program} {T : TypeId} {a b r : Int} (h : a - b = r) (h1 : -9223372036854775808 ≤ r) (h2 : r ≤ 9223372036854775807) (w : World) : (binOp .sub T (vi a) (vi b)).run P w = .ok (vi r) w := by subst h; exact Yr h1 h2 w
theorem Dt {L1 : List Chunk} {n : Int} {c : Config} {b2 : Nat} (hs : St (L) R w) (hp : Pick L (blk b2 23 c.cells) L1) : Calls Tryz.prog 102 [vi n, bp b2 0].toArray w (Bs (fun _ : Unit => .bool (decide (0 ≤ n ∧ n ≤ c.cores))) (fun _ => L) (fun _ => R)) := by
 refine Ai Tryz.func102 rfl Tryz.ntmps102 rfl hs ?_
 clear hs
 refine ZA ?_
 refine JC.pick hp ?_
 rcases (show (n < 0) ∨ (0 ≤ n ∧ n ≤ c.cores) ∨ (0 ≤ n ∧ c.cores < n) from by omega) with hc | hc | hc
 ·refine ZB ?_
  refine Di ?_
  refine Ga7 ?_
  exact Zfz
 ·refine ZB ?_
  refine G8 ?_
  refine ZM ?_
  refine Afl ?_
  refine Ga2 ?_
  exact Zfz
 ·refine ZB ?_
  refine G8 ?_
  refine ZM ?_
  refine Se ?_
  refine Ga2 ?_
  exact Zfz
theorem Abh {c : Config} {m : Msg} (hs : St (L) R w) : Calls Tryz.prog 92 [.agg c.cells.toArray, .agg m.cells.toArray].toArray w (Bs (fun _ : Unit => vi (Bi c m)) (fun _ => L) (fun _ => R)) := by
 refine Ai Tryz.func92 rfl Tryz.ntmps92 rfl hs ?_
 clear hs
 refine ZbD ?_;intro b2 b3
 refine Gb1 ?_
 refine C6 (vs := [bp b2 0]) rfl ?_
 refine Ga1 ?_
 refine kp [2, 3, 4, 5, 7, 8, 9, 10, 11, 12, 13, 14, 15] ?_
 refine Cs 7 (.bool (decide ((m.kind < 1) ∨ (11 < m.kind)))) ?_ ?_
 ·rcases (show ((m.kind < 1)) ∨ (¬ (m.kind < 1) ∧ (11 < m.kind)) ∨ (¬ (m.kind < 1) ∧ ¬ (11 < m.kind)) from by omega) with hm | hm | hm
  ·refine ZY ?_
   refine Ga6 ?_
   exact ZeQ
  ·refine ZaX ?_
   refine Ga2 ?_
   exact ZeQ
  ·refine Zax ?_
   refine Ga2 ?_
   exact ZeV
 ·refine Av ?_
  first | (refine cdx (p := ?p1) (hd := ?d1) ?e1 ?_ ?_; case e1 => exact rfl) | (refine A9 (b := ?b1) ?e1 ?_ ?_; case e1 => exact rfl)
  ·intro ht7
   refine ZA ?_
   exact Zgd
  ·intro ht7
   refine Gl ?_
   refine Zd3 ?_
   refine Cs 16 (.bool (decide (m.src < 0 ∨ c.cores < m.src ∨ m.dst < 0 ∨ c.cores < m.dst ∨ m.line < 0 ∨ c.lines ≤ m.line ∨ m.serial < 0 ∨ 65535 < m.serial ∨ m.turn < 0 ∨ 65535 < m.turn ∨ m.value < 0 ∨ 255 < m.value))) ?_ ?_
   ·rcases (show ((¬ (0 ≤ m.src ∧ m.src ≤ c.cores))) ∨ ((0 ≤ m.src ∧ m.src ≤ c.cores) ∧ (¬ (0 ≤ m.dst ∧ m.dst ≤ c.cores))) ∨ ((0 ≤ m.src ∧ m.src ≤ c.cores) ∧ (0 ≤ m.dst ∧ m.dst ≤ c.cores) ∧ (m.line < 0)) ∨ ((0 ≤ m.src ∧ m.src ≤ c.cores) ∧ (0 ≤ m.dst ∧ m.dst ≤ c.cores) ∧ ¬ (m.line < 0) ∧ (c.lines ≤ m.line)) ∨ ((0 ≤ m.src ∧ m.src ≤ c.cores) ∧ (0 ≤ m.dst ∧ m.dst ≤ c.cores) ∧ ¬ (m.line < 0) ∧ ¬ (c.lines ≤ m.line) ∧ (m.serial < 0)) ∨ ((0 ≤ m.src ∧ m.src ≤ c.cores) ∧ (0 ≤ m.dst ∧ m.dst ≤ c.cores) ∧ ¬ (m.line < 0) ∧ ¬ (c.lines ≤ m.line) ∧ ¬ (m.serial < 0) ∧ (65535 < m.serial)) ∨ ((0 ≤ m.src ∧ m.src ≤ c.cores) ∧ (0 ≤ m.dst ∧ m.dst ≤ c.cores) ∧ ¬ (m.line < 0) ∧ ¬ (c.lines ≤ m.line) ∧ ¬ (m.serial < 0) ∧ ¬ (65535 < m.serial) ∧ (m.turn < 0)) ∨ ((0 ≤ m.src ∧ m.src ≤ c.cores) ∧ (0 ≤ m.dst ∧ m.dst ≤ c.cores) ∧ ¬ (m.line < 0) ∧ ¬ (c.lines ≤ m.line) ∧ ¬ (m.serial < 0) ∧ ¬ (65535 < m.serial) ∧ ¬ (m.turn < 0) ∧ (65535 < m.turn)) ∨ ((0 ≤ m.src ∧ m.src ≤ c.cores) ∧ (0 ≤ m.dst ∧ m.dst ≤ c.cores) ∧ ¬ (m.line < 0) ∧ ¬ (c.lines ≤ m.line) ∧ ¬ (m.serial < 0) ∧ ¬ (65535 < m.serial) ∧ ¬ (m.turn < 0) ∧ ¬ (65535 < m.turn) ∧ (m.value < 0)) ∨ ((0 ≤ m.src ∧ m.src ≤ c.cores) ∧ (0 ≤ m.dst ∧ m.dst ≤ c.cores) ∧ ¬ (m.line < 0) ∧ ¬ (c.lines ≤ m.line) ∧ ¬ (m.serial < 0) ∧ ¬ (65535 < m.serial) ∧ ¬ (m.turn < 0) ∧ ¬ (65535 < m.turn) ∧ ¬ (m.value < 0) ∧ (255 < m.value)) ∨ ((0 ≤ m.src ∧ m.src ≤ c.cores) ∧ (0 ≤ m.dst ∧ m.dst ≤ c.cores) ∧ ¬ (m.line < 0) ∧ ¬ (c.lines ≤ m.line) ∧ ¬ (m.serial < 0) ∧ ¬ (65535 < m.serial) ∧ ¬ (m.turn < 0) ∧ ¬ (65535 < m.turn) ∧ ¬ (m.value < 0) ∧ ¬ (255 < m.value)) from by grind) with hm | hm | hm | hm | hm | hm | hm | hm | hm | hm | hm
    ·refine ZL ?_
     refine By (γ := Unit) (val := fun _ => .bool (decide (0 ≤ m.src ∧ m.src ≤ c.cores))) (caps := [bp b2 0]) (vs := [vi m.src]) rfl Tryz.call102 rfl (fun w hs => Dt hs pkk) ?_; intro _
     refine ob (Mo rfl (decide_eq_false (by omega))) ?_
     refine Adp ?_
     refine Ga18 ?_
     refine Aq ?_ (fun w hs => hs)
     exact meT
    ·refine Za7 ?_
     refine By (γ := Unit) (val := fun _ => .bool (decide (0 ≤ m.src ∧ m.src ≤ c.cores))) (caps := [bp b2 0]) (vs := [vi m.src]) rfl Tryz.call102 rfl (fun w hs => Dt hs pkk) ?_; intro _
     refine Zaj ?_
     refine By (γ := Unit) (val := fun _ => .bool (decide (0 ≤ m.dst ∧ m.dst ≤ c.cores))) (caps := [bp b2 0]) (vs := [vi m.dst]) rfl Tryz.call102 rfl (fun w hs => Dt hs pkk) ?_; intro _
     refine gy ?_
     refine ob (Mo rfl (decide_eq_false (by omega))) ?_
     refine Adp ?_
     refine Ga12 ?_
     refine Aq ?_ (fun w hs => hs)
     exact meT
    ·refine Za7 ?_
     refine By (γ := Unit) (val := fun _ => .bool (decide (0 ≤ m.src ∧ m.src ≤ c.cores))) (caps := [bp b2 0]) (vs := [vi m.src]) rfl Tryz.call102 rfl (fun w hs => Dt hs pkk) ?_; intro _
     refine Zaj ?_
     refine By (γ := Unit) (val := fun _ => .bool (decide (0 ≤ m.dst ∧ m.dst ≤ c.cores))) (caps := [bp b2 0]) (vs := [vi m.dst]) rfl Tryz.call102 rfl (fun w hs => Dt hs pkk) ?_; intro _
     refine gy ?_
     refine Zaj ?_
     refine D5 ?_
     refine Adp ?_
     refine Ga7 ?_
     refine Aq ?_ (fun w hs => hs)
     exact meT
    ·refine Za7 ?_
     refine By (γ := Unit) (val := fun _ => .bool (decide (0 ≤ m.src ∧ m.src ≤ c.cores))) (caps := [bp b2 0]) (vs := [vi m.src]) rfl Tryz.call102 rfl (fun w hs => Dt hs pkk) ?_; intro _
     refine Zaj ?_
     refine By (γ := Unit) (val := fun _ => .bool (decide (0 ≤ m.dst ∧ m.dst ≤ c.cores))) (caps := [bp b2 0]) (vs := [vi m.dst]) rfl Tryz.call102 rfl (fun w hs => Dt hs pkk) ?_; intro _
     refine gy ?_
     refine Zaj ?_
     refine Bc ?_
     refine Zbo ?_
     refine Ga32 ?_
     refine Aq ?_ (fun w hs => hs)
     exact meT
    ·refine Za7 ?_
     refine By (γ := Unit) (val := fun _ => .bool (decide (0 ≤ m.src ∧ m.src ≤ c.cores))) (caps := [bp b2 0]) (vs := [vi m.src]) rfl Tryz.call102 rfl (fun w hs => Dt hs pkk) ?_; intro _
     refine Zaj ?_
     refine By (γ := Unit) (val := fun _ => .bool (decide (0 ≤ m.dst ∧ m.dst ≤ c.cores))) (caps := [bp b2 0]) (vs := [vi m.dst]) rfl Tryz.call102 rfl (fun w hs => Dt hs pkk) ?_; intro _
     refine gy ?_
     refine Zaj ?_
     refine ZbG ?_
     refine Za9 ?_
     refine Ga27 ?_
     refine Aq ?_ (fun w hs => hs)
     exact meT
    ·refine Za7 ?_
     refine By (γ := Unit) (val := fun _ => .bool (decide (0 ≤ m.src ∧ m.src ≤ c.cores))) (caps := [bp b2 0]) (vs := [vi m.src]) rfl Tryz.call102 rfl (fun w hs => Dt hs pkk) ?_; intro _
     refine Zaj ?_
     refine By (γ := Unit) (val := fun _ => .bool (decide (0 ≤ m.dst ∧ m.dst ≤ c.cores))) (caps := [bp b2 0]) (vs := [vi m.dst]) rfl Tryz.call102 rfl (fun w hs => Dt hs pkk) ?_; intro _
     refine gy ?_
     refine Zaj ?_
     refine ZbG ?_
     refine ZaJ ?_
     refine Ga22 ?_
     refine Aq ?_ (fun w hs => hs)
     exact meT
    ·refine Za7 ?_
     refine By (γ := Unit) (val := fun _ => .bool (decide (0 ≤ m.src ∧ m.src ≤ c.cores))) (caps := [bp b2 0]) (vs := [vi m.src]) rfl Tryz.call102 rfl (fun w hs => Dt hs pkk) ?_; intro _
     refine Zaj ?_
     refine By (γ := Unit) (val := fun _ => .bool (decide (0 ≤ m.dst ∧ m.dst ≤ c.cores))) (caps := [bp b2 0]) (vs := [vi m.dst]) rfl Tryz.call102 rfl (fun w hs => Dt hs pkk) ?_; intro _
     refine ZbM ?_
     refine Za9 ?_
     refine Ga17 ?_
     refine Aq ?_ (fun w hs => hs)
     exact meT
    ·refine Za7 ?_
     refine By (γ := Unit) (val := fun _ => .bool (decide (0 ≤ m.src ∧ m.src ≤ c.cores))) (caps := [bp b2 0]) (vs := [vi m.src]) rfl Tryz.call102 rfl (fun w hs => Dt hs pkk) ?_; intro _
     refine Zaj ?_
     refine By (γ := Unit) (val := fun _ => .bool (decide (0 ≤ m.dst ∧ m.dst ≤ c.cores))) (caps := [bp b2 0]) (vs := [vi m.dst]) rfl Tryz.call102 rfl (fun w hs => Dt hs pkk) ?_; intro _
     refine ZbM ?_
     refine ZaJ ?_
     refine Ga12 ?_
     refine Aq ?_ (fun w hs => hs)
     exact meT
    ·refine Za7 ?_
     refine By (γ := Unit) (val := fun _ => .bool (decide (0 ≤ m.src ∧ m.src ≤ c.cores))) (caps := [bp b2 0]) (vs := [vi m.src]) rfl Tryz.call102 rfl (fun w hs => Dt hs pkk) ?_; intro _
     refine Zaj ?_
     refine By (γ := Unit) (val := fun _ => .bool (decide (0 ≤ m.dst ∧ m.dst ≤ c.cores))) (caps := [bp b2 0]) (vs := [vi m.dst]) rfl Tryz.call102 rfl (fun w hs => Dt hs pkk) ?_; intro _
     refine ZbM ?_
     refine Za0 ?_
     refine Za9 ?_
     refine Ga7 ?_
     refine Aq ?_ (fun w hs => hs)
     exact meT
    ·refine Za7 ?_
     refine By (γ := Unit) (val := fun _ => .bool (decide (0 ≤ m.src ∧ m.src ≤ c.cores))) (caps := [bp b2 0]) (vs := [vi m.src]) rfl Tryz.call102 rfl (fun w hs => Dt hs pkk) ?_; intro _
     refine Zaj ?_
     refine By (γ := Unit) (val := fun _ => .bool (decide (0 ≤ m.dst ∧ m.dst ≤ c.cores))) (caps := [bp b2 0]) (vs := [vi m.dst]) rfl Tryz.call102 rfl (fun w hs => Dt hs pkk) ?_; intro _
     refine ZbM ?_
     refine Za0 ?_
     refine ZaJ ?_
     refine Ga2 ?_
     refine Aq ?_ (fun w hs => hs)
     exact meT
    ·refine Za7 ?_
     refine By (γ := Unit) (val := fun _ => .bool (decide (0 ≤ m.src ∧ m.src ≤ c.cores))) (caps := [bp b2 0]) (vs := [vi m.src]) rfl Tryz.call102 rfl (fun w hs => Dt hs pkk) ?_; intro _
     refine Zaj ?_
     refine By (γ := Unit) (val := fun _ => .bool (decide (0 ≤ m.dst ∧ m.dst ≤ c.cores))) (caps := [bp b2 0]) (vs := [vi m.dst]) rfl Tryz.call102 rfl (fun w hs => Dt hs pkk) ?_; intro _
     refine ZbM ?_
     refine Za0 ?_
     refine Za0 ?_
     refine Ga2 ?_
     refine Aq ?_ (fun w hs => hs)
     exact meF
   ·refine Av ?_
    first | (refine cdx (p := ?p2) (hd := ?d2) ?e2 ?_ ?_; case e2 => exact rfl) | (refine A9 (b := ?b2) ?e2 ?_ ?_; case e2 => exact rfl)
    ·intro ht16
     refine Gl ?_
     refine kp [2, 3, 4] ?_
     refine ZW ?_
     have er : Bi c m = 3 := by unfold Bi; rw [if_neg (by omega), if_pos ht16]
     exact Zfo
    ·intro ht16
     refine Gl ?_
     refine kp [2, 3, 4, 71, 72, 73, 74, 75, 76, 77, 78, 79, 80, 81, 82] ?_
     refine Aa ?_
     refine rn10 ?_
     refine ob (Adu rfl rfl (Ade Tryz.underlying4)) ?_
     refine Ga1 ?_
     refine A9 (b := ?b3) ?e3 ?_ ?_; case e3 => exact rfl
     ·intro ht71
      refine ZA ?_
      have er : Bi c m = 6 := by unfold Bi; rw [if_neg (by omega), if_neg ht16, if_pos (decide_eq_decide.1 (beq_iff_eq.1 ht71))]
      exact Zfo
     ·intro ht71
      refine ZA ?_
      have er : Bi c m = 0 := by unfold Bi; rw [if_neg (by omega), if_neg ht16, if_neg (fun h => by rw [beq_iff_eq.2 (decide_eq_decide.2 h)] at ht71; cases ht71)]
      exact Zfo
theorem Ty {v1 : Value} {b : List UInt8} {c : Config} (hs : St (L) R w) (h1 : sl v1 b ∈ R) : Calls Tryz.prog 73 [.agg c.cells.toArray, v1].toArray w (Bs (fun _ : Unit => .tuple #[.agg (Af c b).1.cells.toArray, vi (Af c b).2]) (fun _ => L) (fun _ => R)) := by
 have hlen := Be h1 hs
 have B : ∀ i, (b.getD i 0).toNat < 256 := fun i => (b.getD i 0).toNat_lt
 refine Ai Tryz.func73 rfl Tryz.ntmps73 rfl hs ?_
 clear hs
 refine Gm ?_
 refine bx ?_; intro b2
 refine al_ (cs := zMsg.cells) Tryz.zeroValue76 ?_; intro b4
 refine ZaG ?_
 refine cdy ?_ ?_
 ·intro ht11
  exact ZfS
 ·intro ht11
  refine Gl ?_
  have B0 := B 0; have B1 := B 1; have B2 := B 2; have B3 := B 3; have B4 := B 4; have B5 := B 5; have B6 := B 6; have B7 := B 7; have B8 := B 8; have B9 := B 9; have B10 := B 10; have B11 := B 11
  refine ZD ?_
  refine ob (Am rfl rfl (b_subE (r := ((10 : Nat) : Int)) (by omega) (by omega) (by omega))) ?_
  refine Ga1 ?_
  refine F5 (v := v1) (b := b) 10 mm (by omega) ?_
  refine F5 (v := v1) (b := b) 11 mm (by omega) ?_
  refine Zah ?_
  refine Zel ?_
  refine Q7 (γ := Unit) (val := fun _ => vi (Hk (b.take 10))) (F := fun _ => []) (C := fun _ => []) Tryz.call91 (fun _ => rfl) (fun _ _ _ _ => rfl) (fun ρ L R w hd hs => G1 hs (hd.dep (it := ⟨2, _, _, _, _⟩) (by repeat (first | exact List.Mem.head _ | refine List.Mem.tail _ ?_)) ⟨9, rfl⟩ (List.Mem.head _))) ?_
  refine dn2 ?_
  refine djc (fun _ _ => Fn (i := 10) Cq) ?_
  refine dj ?_
  first | refine dc (fun _ _ => Cz Tryz.isAgg5) ?_ | refine dp (fun _ _ => Cz Tryz.isAgg5) ?_
  refine dj ?_
  first | refine dc (fun _ _ => Ar Tryz.underlying5 Tryz.underlying3 rfl (A5 _)) ?_ | refine dp (fun _ _ => Ar Tryz.underlying5 Tryz.underlying3 rfl (A5 _)) ?_
  refine djc (fun _ _ => Am rfl rfl (Pp (by omega) (by omega))) ?_
  refine dn2 ?_
  refine dj ?_
  refine dc (fun _ _ => Am rfl rfl (v := vi ((11 : Nat) : Int)) (Aem (a := 10) (b := 1) (by omega))) ?_
  refine djc (fun _ _ => Fn (i := 11) Cq) ?_
  refine dj ?_
  first | refine dc (fun _ _ => Cz Tryz.isAgg5) ?_ | refine dp (fun _ _ => Cz Tryz.isAgg5) ?_
  refine dj ?_
  first | refine dc (fun _ _ => Ar Tryz.underlying5 Tryz.underlying3 rfl (A5 _)) ?_ | refine dp (fun _ _ => Ar Tryz.underlying5 Tryz.underlying3 rfl (A5 _)) ?_
  refine djc (fun _ _ => Am rfl rfl (S0 (by omega) (by omega) (by omega) (by omega))) ?_
  refine dj ?_
  first | refine dc (fun _ _ => E6 Rn) ?_ | refine dp (fun _ _ => E6 Rn) ?_
  refine dnl ?_; intro ρ
  refine Gl ?_
  refine cdy ?_ ?_
  ·intro ht33
   exact ZfH
  ·intro ht33
   refine Gl ?_
   refine Zeq ?_
   refine jgx (t := 39) (p := ?p3) (hd := ?d3) ?e3 ?_ ?_; case e3 => exact rfl
   ·intro ht39
    refine Gc5 ?_
    refine kp [1, 2, 4, 5, 45] ?_
    refine Aa ?_
    exact ZeY
   ·intro ht39
    refine rn1 ?_
    refine gy ?_
    refine ob (Fn (i := 9) Cq) ?_
    refine Ga3 ?_
    refine cdy ?_ ?_
    ·intro ht44
     refine Gl ?_
     refine kp [1, 2, 4, 5, 45] ?_
     refine Aa ?_
     exact ZeY
    ·intro ht44
     refine ZdN ?_
     refine kp [1, 2, 4, 5, 7, 46, 47, 48, 49, 50, 51, 52, 53, 54, 55, 56, 57, 58, 59, 60, 61, 62, 63, 64, 65, 66, 67, 68, 69, 70, 71, 72, 73, 74, 75, 76, 77, 78, 79, 80, 81, 82, 83, 84, 85, 86, 87, 88, 89, 90, 91, 92] ?_
     refine ZdU ?_
     first | refine epc (fun _ _ => Fn (i := 0) Cq) ?_ | refine epp (fun _ _ => Fn (i := 0) Cq) ?_
     first | refine epc (fun _ _ => Cz Tryz.isAgg5) ?_ | refine epp (fun _ _ => Cz Tryz.isAgg5) ?_
     first | refine epc (fun _ _ => Ar Tryz.underlying5 Tryz.underlying3 rfl (A5 _)) ?_ | refine epp (fun _ _ => Ar Tryz.underlying5 Tryz.underlying3 rfl (A5 _)) ?_
     refine dn1 ?_
     first | refine epc (fun _ _ => Fn (i := 1) Cq) ?_ | refine epp (fun _ _ => Fn (i := 1) Cq) ?_
     first | refine epc (fun _ _ => Cz Tryz.isAgg5) ?_ | refine epp (fun _ _ => Cz Tryz.isAgg5) ?_
     refine epc (fun _ _ => Am rfl rfl Ajj) ?_
     refine epc (fun _ _ => Ar Tryz.underlying5 Tryz.underlying3 rfl (Vt _)) ?_
     refine dn1 ?_
     first | refine epc (fun _ _ => Fn (i := 1) Cq) ?_ | refine epp (fun _ _ => Fn (i := 1) Cq) ?_
     first | refine epc (fun _ _ => Cz Tryz.isAgg5) ?_ | refine epp (fun _ _ => Cz Tryz.isAgg5) ?_
     refine epc (fun _ _ => Am rfl rfl Adg) ?_
     refine epc (fun _ _ => Ar Tryz.underlying5 Tryz.underlying3 rfl (Vs _)) ?_
     refine dn1 ?_
     first | refine epc (fun _ _ => Fn (i := 2) Cq) ?_ | refine epp (fun _ _ => Fn (i := 2) Cq) ?_
     first | refine epc (fun _ _ => Cz Tryz.isAgg5) ?_ | refine epp (fun _ _ => Cz Tryz.isAgg5) ?_
     first | refine epc (fun _ _ => Ar Tryz.underlying5 Tryz.underlying3 rfl (A5 _)) ?_ | refine epp (fun _ _ => Ar Tryz.underlying5 Tryz.underlying3 rfl (A5 _)) ?_
     refine dn1 ?_
     first | refine epc (fun _ _ => Fn (i := 3) Cq) ?_ | refine epp (fun _ _ => Fn (i := 3) Cq) ?_
     first | refine epc (fun _ _ => Cz Tryz.isAgg5) ?_ | refine epp (fun _ _ => Cz Tryz.isAgg5) ?_
     first | refine epc (fun _ _ => Ar Tryz.underlying5 Tryz.underlying3 rfl (A5 _)) ?_ | refine epp (fun _ _ => Ar Tryz.underlying5 Tryz.underlying3 rfl (A5 _)) ?_
     refine epc (fun _ _ => Am rfl rfl (Pp (by omega) (by omega))) ?_
     refine dn1 ?_
     first | refine epc (fun _ _ => Fn (i := 4) Cq) ?_ | refine epp (fun _ _ => Fn (i := 4) Cq) ?_
     first | refine epc (fun _ _ => Cz Tryz.isAgg5) ?_ | refine epp (fun _ _ => Cz Tryz.isAgg5) ?_
     first | refine epc (fun _ _ => Ar Tryz.underlying5 Tryz.underlying3 rfl (A5 _)) ?_ | refine epp (fun _ _ => Ar Tryz.underlying5 Tryz.underlying3 rfl (A5 _)) ?_
     refine epc (fun _ _ => Am rfl rfl (S0 (by omega) (by omega) (by omega) (by omega))) ?_
     refine dn1 ?_
     first | refine epc (fun _ _ => Fn (i := 5) Cq) ?_ | refine epp (fun _ _ => Fn (i := 5) Cq) ?_
     first | refine epc (fun _ _ => Cz Tryz.isAgg5) ?_ | refine epp (fun _ _ => Cz Tryz.isAgg5) ?_
     first | refine epc (fun _ _ => Ar Tryz.underlying5 Tryz.underlying3 rfl (A5 _)) ?_ | refine epp (fun _ _ => Ar Tryz.underlying5 Tryz.underlying3 rfl (A5 _)) ?_
     refine epc (fun _ _ => Am rfl rfl (Pp (by omega) (by omega))) ?_
     refine dn1 ?_
     first | refine epc (fun _ _ => Fn (i := 6) Cq) ?_ | refine epp (fun _ _ => Fn (i := 6) Cq) ?_
     first | refine epc (fun _ _ => Cz Tryz.isAgg5) ?_ | refine epp (fun _ _ => Cz Tryz.isAgg5) ?_
     first | refine epc (fun _ _ => Ar Tryz.underlying5 Tryz.underlying3 rfl (A5 _)) ?_ | refine epp (fun _ _ => Ar Tryz.underlying5 Tryz.underlying3 rfl (A5 _)) ?_
     refine epc (fun _ _ => Am rfl rfl (S0 (by omega) (by omega) (by omega) (by omega))) ?_
     refine dn1 ?_
     first | refine epc (fun _ _ => Fn (i := 7) Cq) ?_ | refine epp (fun _ _ => Fn (i := 7) Cq) ?_
     first | refine epc (fun _ _ => Cz Tryz.isAgg5) ?_ | refine epp (fun _ _ => Cz Tryz.isAgg5) ?_
     first | refine epc (fun _ _ => Ar Tryz.underlying5 Tryz.underlying3 rfl (A5 _)) ?_ | refine epp (fun _ _ => Ar Tryz.underlying5 Tryz.underlying3 rfl (A5 _)) ?_
     refine dn1 ?_
     first | refine epc (fun _ _ => Fn (i := 8) Cq) ?_ | refine epp (fun _ _ => Fn (i := 8) Cq) ?_
     first | refine epc (fun _ _ => Cz Tryz.isAgg5) ?_ | refine epp (fun _ _ => Cz Tryz.isAgg5) ?_
     first | refine epc (fun _ _ => E6 Rp) ?_ | refine epp (fun _ _ => E6 Rp) ?_
     first | refine epc (fun _ _ => Dx D8) ?_ | refine epc (fun _ _ => Fd D8) ?_ | refine epp (fun _ _ => Dx D8) ?_ | refine epp (fun _ _ => Fd D8) ?_
     refine Hy (cs := zMsg.cells) Tryz.zeroValue76 rfl (fun ρ b S hS hA => ?_) ?_
     ·exact Zf0
     refine Zea ?_;intro ρ
     generalize (Gh.dec (γ := Nat) (ρ 47)) = b7
     refine Gl ?_
     refine kp [2, 4, 5, 7, 8, 93, 94, 95] ?_
     refine ZD ?_
     refine An Tryz.call92 rfl (fun w hs => Abh (c := c) (m := Gn b) hs) ?_; intro _
     refine ZG ?_
     refine cdy ?_ ?_
     ·intro ht97
      exact Zfw
     ·intro ht97
      exact Zf5
theorem M5 {v0 : Value} {b : List UInt8} {bit : Int} (hs : St L R w) (h0 : sl v0 b ∈ R) (hbit : Ao bit) : Calls Tryz.prog 99 [v0, vi bit].toArray w (Bs (fun v : Value => v) (fun _ => L) (fun v => sl v (Br b bit) :: R)) := by
 have hlen := Be h0 hs
 have hbit' := hbit
 unfold Ao at hbit'
 refine Ai Tryz.func99 rfl Tryz.ntmps99 rfl hs ?_
 clear hs
 repeat refine Bm ?_
 refine ZaI ?_
 repeat refine Bm ?_
 refine ZQ ?_
 refine J.rowNil 5 UInt8 ?_
 refine J5 Fz rfl rfl rfl (by decide) .hd h0 (fun w hs => by have : maxN = 16777216 := rfl; simp; omega) ?_; intro v7
 rw [List.nil_append]
 refine Zat ?_
 repeat refine Bm ?_
 refine ZQ ?_
 refine D9 rfl rfl Ps ?_
 refine Bo rfl ?_
 refine Jr (t := 10) (b := ?b1) ?e1 ?_ ?_
 case e1 => exact rfl
 ·
  intro ht10
  try simp only [decide_eq_true_eq, decide_eq_false_iff_not, beq_iff_eq, bne_iff_ne, beq_eq_false_iff_ne, bne_eq_false_iff_eq, Int.not_lt, Int.not_le, Bool.not_eq_true, ne_eq, Bool.not_eq_eq_eq_not, Bool.not_true, Bool.not_false] at ht10
  refine J.guardYes ?_ ?_
  ·exact rfl
  refine Bo rfl ?_
  refine J.guardYes ?_ ?_
  ·exact rfl
  refine Bo rfl ?_
  refine J.guardYes ?_ ?_
  ·exact rfl
  refine Aae Tryz.underlying71 rfl (by first | exact Da pkk | exact El mm) ?_
  refine J.guardYes ?_ ?_
  ·exact rfl
  refine ZbQ ?_
  refine J.guardYes ?_ ?_
  ·exact rfl
  refine D9 rfl rfl K3 ?_
  refine Wn rfl rfl ?_
  refine Zas ?_
  repeat refine Bm ?_
  refine A9 rfl (fun ht16 => ?_) (fun ht16 => ?_)
  ·
   try simp only [decide_eq_true_eq, decide_eq_false_iff_not, beq_iff_eq, bne_iff_ne, beq_eq_false_iff_ne, bne_eq_false_iff_eq, Int.not_lt, Int.not_le, Bool.not_eq_true, ne_eq, Bool.not_eq_eq_eq_not, Bool.not_true, Bool.not_false] at ht16
   obtain ⟨q, rfl⟩ : ∃ q : Nat, bit = (q : Int) := ⟨bit.toNat, by omega⟩
   have hq : q / 8 < b.length := by omega
   have hq8 : q % 8 < 8 := by omega
   refine Sl Afp (by kernel_rfl) (by kernel_rfl) (fun _ _ => _) (fun _ => rfl) ?_
   refine dj ?_
   refine ZcW ?_
   refine ZcW ?_
   refine d_pc (fun _ _ => Am rfl rfl (Aej (b := 8) (by omega) (by decide))) rfl (fun _ _ _ _ => rfl) ?_
   refine dj ?_
   first | refine d_pc (fun _ _ => Io Cq rfl rfl (by first | exact Da pkk | exact El mm) (by first | assumption | omega | (simp only [List.length_nil, List.length_cons, List.length_append, List.length_take, List.length_drop, List.length_set, List.length_replicate]; omega))) rfl (fun _ _ _ _ => rfl) ?_ | refine d_indexAddr Cq (fun _ => rfl) (fun _ => rfl) (fun _ _ => (by first | exact Da pkk | exact El mm)) (by first | assumption | omega | (simp only [List.length_nil, List.length_cons, List.length_append, List.length_take, List.length_drop, List.length_set, List.length_replicate]; omega)) (by first | assumption | omega | (simp only [List.length_nil, List.length_cons, List.length_append, List.length_take, List.length_drop, List.length_set, List.length_replicate]; omega)) (fun _ _ _ _ => rfl) ?_
   refine dj ?_
   first | refine Sq Tryz.isAgg5 (fun _ => rfl) (fun _ _ => A0 pkk (by exact rfl)) (fun _ _ _ _ => rfl) ?_ | refine Sq Tryz.isAgg5 (fun _ => rfl) (fun _ _ => Jd pkk (by first | assumption | omega | (simp only [List.length_nil, List.length_cons, List.length_append, List.length_take, List.length_drop, List.length_set, List.length_replicate]; omega))) (fun _ _ _ _ => rfl) ?_ | refine Sq Tryz.isAgg5 (fun _ => rfl) (fun _ _ => L4 mm (by first | assumption | omega | (simp only [List.length_nil, List.length_cons, List.length_append, List.length_take, List.length_drop, List.length_set, List.length_replicate]; omega))) (fun _ _ _ _ => rfl) ?_
   refine dj ?_
   refine ZcW ?_
   refine d_pc (fun _ _ => Am rfl rfl (Aei (b := 8) (by decide) (by decide))) rfl (fun _ _ _ _ => rfl) ?_
   refine dj ?_
   refine d_pc (fun _ _ => Am rfl rfl (b_shl8 (x := 1) (by omega) (by omega))) rfl (fun _ _ _ _ => rfl) ?_
   refine dj ?_
   first | refine d_pc (fun _ _ => Am rfl rfl Aeg) rfl (fun _ _ _ _ => rfl) ?_ | refine d_p (fun _ _ => Am rfl rfl Aeg) rfl (by first | exact Ind.const _ | exact fun _ _ _ _ _ => rfl | exact Ind.self | exact Ind.gh _ 3 rfl) (fun _ _ _ _ => rfl) ?_
   refine Xw (by kernel_rfl) ?_; intro ρ; simp only [F4, facts, Eh, List.append_nil, List.nil_append, List.cons_append]
   first | refine Gt Cq rfl rfl (by first | exact Da pkk | exact El mm) (by first | assumption | omega | (simp only [List.length_nil, List.length_cons, List.length_append, List.length_take, List.length_drop, List.length_set, List.length_replicate]; omega)) ?_ | refine Gc Cq rfl rfl (by first | exact Da pkk | exact El mm) (by first | assumption | omega | (simp only [List.length_nil, List.length_cons, List.length_append, List.length_take, List.length_drop, List.length_set, List.length_replicate]; omega)) (by first | assumption | omega | (simp only [List.length_nil, List.length_cons, List.length_append, List.length_take, List.length_drop, List.length_set, List.length_replicate]; omega)) ?_
   refine I2 (α := UInt8) (f := 0) (e' := b.getD (q / 8) 0 ^^^ ((1 : UInt8) <<< UInt8.ofNat (q % 8))) Tryz.sizeOf5 rfl rfl rfl rfl (by intro u hu; cases List.mem_singleton.1 hu; rfl) pkk (getD_some 0 hq) (fun ds m hr => by rw [show ds = [vb _] from hr]; exact Nat.le_refl _) (fun j _ ds hr => by rw [show ds = [vb _] from hr]; show [vb (b.getD (q / 8) 0 ^^^ u8 (((1 : UInt8).toNat : Int) * 2 ^ (((q % 8 : Nat) : Int)).toNat))] = [vb _]; rw [Int.toNat_natCast, Afr ⟨q % 8, hq8⟩]) ?_
   refine Zas ?_
   repeat refine Bm ?_
   refine Zb6 ?_
   repeat (first | refine Ei ?_ | refine Dr ?_)
   have e1 : ((q : Int) / 8).toNat = q / 8 := by omega
   have e2 : ((q : Int) % 8).toNat = q % 8 := by omega
   have ht : Br b (q : Int) = b.set (q / 8) (b.getD (q / 8) 0 ^^^ ((1 : UInt8) <<< UInt8.ofNat (q % 8))) := by unfold Br; rw [if_pos (by omega), e1, e2]
   refine Zc0 ?_;intro w hs
   refine ⟨v7, rfl, ?_⟩
   rw [ht]
   exact (St.shut (hs.pick pkk)).sub (by repeat (first | exact .refl | exact .nil | refine .cons pkk ?_ | refine .drop ?_)) (by repeat (first | exact FSub.refl | exact FSub.nil | refine FSub.cons (by first | assumption | (repeat (first | assumption | exact List.Mem.head _ | refine .tail _ ?_))) ?_ | refine FSub.drop ?_))
  ·
   try simp only [decide_eq_true_eq, decide_eq_false_iff_not, beq_iff_eq, bne_iff_ne, beq_eq_false_iff_ne, bne_eq_false_iff_eq, Int.not_lt, Int.not_le, Bool.not_eq_true, ne_eq, Bool.not_eq_eq_eq_not, Bool.not_true, Bool.not_false] at ht16
   refine ZaF ?_
   repeat refine Bm ?_
   refine Zb6 ?_
   repeat (first | refine Ei ?_ | refine Dr ?_)
   have ht : Br b bit = b := by unfold Br; rw [if_neg (by omega)]
   refine Zc0 ?_;intro w hs
   refine ⟨v7, rfl, ?_⟩
   rw [ht]
   exact (St.shut (hs.pick pkk)).sub (by repeat (first | exact .refl | exact .nil | refine .cons pkk ?_ | refine .drop ?_)) (by repeat (first | exact FSub.refl | exact FSub.nil | refine FSub.cons (by first | assumption | (repeat (first | assumption | exact List.Mem.head _ | refine .tail _ ?_))) ?_ | refine FSub.drop ?_))
 ·
  intro ht10
  try simp only [decide_eq_true_eq, decide_eq_false_iff_not, beq_iff_eq, bne_iff_ne, beq_eq_false_iff_ne, bne_eq_false_iff_eq, Int.not_lt, Int.not_le, Bool.not_eq_true, ne_eq, Bool.not_eq_eq_eq_not, Bool.not_true, Bool.not_false] at ht10
  refine J.guardNo ?_ ?_
  ·exact rfl
  refine J.guardNo ?_ ?_
  ·exact rfl
  refine J.guardNo ?_ ?_
  ·exact rfl
  refine J.guardNo ?_ ?_
  ·exact rfl
  refine J.guardNo ?_ ?_
  ·exact rfl
  refine Wo rfl rfl ?_
  refine Zas ?_
  repeat refine Bm ?_
  refine Lv rfl ?_
  refine ZaF ?_
  repeat refine Bm ?_
  refine Zb6 ?_
  repeat (first | refine Ei ?_ | refine Dr ?_)
  have ht : Br b bit = b := by unfold Br; rw [if_neg (by omega)]
  refine Zc0 ?_;intro w hs
  refine ⟨v7, rfl, ?_⟩
  rw [ht]
  exact (St.shut (hs.pick pkk)).sub (by repeat (first | exact .refl | exact .nil | refine .cons pkk ?_ | refine .drop ?_)) (by repeat (first | exact FSub.refl | exact FSub.nil | refine FSub.cons (by first | assumption | (repeat (first | assumption | exact List.Mem.head _ | refine .tail _ ?_))) ?_ | refine FSub.drop ?_))
theorem Mj {v0 : Value} {b : List UInt8} {bit : Int} (hs : St L R w) (h0 : sl v0 b ∈ R) (hbit : Ao bit) : Calls Tryz.prog 27 [v0, vi bit].toArray w (Bs (fun v : Value => v) (fun _ => L) (fun v => sl v (Br b bit) :: R)) := by
 have hlen := Be h0 hs
 have hbit' := hbit
 unfold Ao at hbit'
 refine Ai Tryz.func27 rfl Tryz.ntmps27 rfl hs ?_
 clear hs
 repeat refine Bm ?_
 refine ZaI ?_
 repeat refine Bm ?_
 refine ZaI ?_
 repeat refine Bm ?_
 refine Zdg ?_
 repeat refine Bm ?_
 refine Du ?_
 have hbl : (Br b bit).length = b.length := I1 b bit
 refine JC.rowNil 5 UInt8 ?_
 refine A7 (γ := Nat × Value) (fun g => g.1 ≤ b.length) (fun g => row 5 g.2 ((Br b bit).take g.1) :: L) (fun _ => R) (fun g => [(1, vi bit), (5, g.2), (9, v0), (10, vi (b.length : Int)), (11, vi (g.1 : Int))]) (fun g => b.length - g.1) (0, .slice none 0 0) (by omega) ⟨rfl, rfl, rfl, rfl, rfl, trivial⟩ (fun w hs => hs) ?_
 rintro ⟨k, v5⟩ hk
 simp only at hk ⊢
 repeat refine Bm ?_
 refine ZbP ?_
 repeat refine Bm ?_
 refine A9 rfl (fun ht12 => ?_) (fun ht12 => ?_)
 ·
  try simp only [decide_eq_true_eq, decide_eq_false_iff_not, beq_iff_eq, bne_iff_ne, beq_eq_false_iff_ne, bne_eq_false_iff_eq, Int.not_lt, Int.not_le, Bool.not_eq_true, ne_eq, Bool.not_eq_eq_eq_not, Bool.not_true, Bool.not_false] at ht12
  refine ZaF ?_
  repeat refine Bm ?_
  refine Du ?_
  repeat refine Bm ?_
  refine ZQ ?_
  first | refine Gt Cq rfl rfl (by first | exact Da pkk | exact El mm) (by first | assumption | omega | (simp only [List.length_nil, List.length_cons, List.length_append, List.length_take, List.length_drop, List.length_set, List.length_replicate]; omega)) ?_ | refine Gc Cq rfl rfl (by first | exact Da pkk | exact El mm) (by first | assumption | omega | (simp only [List.length_nil, List.length_cons, List.length_append, List.length_take, List.length_drop, List.length_set, List.length_replicate]; omega)) (by first | assumption | omega | (simp only [List.length_nil, List.length_cons, List.length_append, List.length_take, List.length_drop, List.length_set, List.length_replicate]; omega)) ?_
  first | refine Hp Tryz.isAgg5 rfl (A0 pkk (by exact rfl)) ?_ | refine Hp Tryz.isAgg5 rfl (Jd pkk (by first | assumption | omega | (simp only [List.length_nil, List.length_cons, List.length_append, List.length_take, List.length_drop, List.length_set, List.length_replicate]; omega))) ?_ | refine Hp Tryz.isAgg5 rfl (L4 mm (by first | assumption | omega | (simp only [List.length_nil, List.length_cons, List.length_append, List.length_take, List.length_drop, List.length_set, List.length_replicate]; omega))) ?_
  refine Bp rfl ?_
  refine Zat ?_
  repeat refine Bm ?_
  refine ZQ ?_
  refine Bo rfl ?_
  refine ZbQ ?_
  refine D9 rfl rfl Ps ?_
  refine Bo rfl ?_
  refine Jr (t := 20) (b := ?b1) ?e1 ?_ ?_
  case e1 => exact rfl
  ·
   intro ht20
   try simp only [decide_eq_true_eq, decide_eq_false_iff_not, beq_iff_eq, bne_iff_ne, beq_eq_false_iff_ne, bne_eq_false_iff_eq, Int.not_lt, Int.not_le, Bool.not_eq_true, ne_eq, Bool.not_eq_eq_eq_not, Bool.not_true, Bool.not_false] at ht20
   refine J.guardYes ?_ ?_
   ·exact rfl
   refine Bo rfl ?_
   refine J.guardYes ?_ ?_
   ·exact rfl
   refine Bo rfl ?_
   refine J.guardYes ?_ ?_
   ·exact rfl
   refine ZbQ ?_
   refine J.guardYes ?_ ?_
   ·exact rfl
   refine D9 rfl rfl (Ll (by omega) (by omega)) ?_
   refine J.guardYes ?_ ?_
   ·exact rfl
   refine D9 rfl rfl K3 ?_
   refine Wn rfl rfl ?_
   refine Zas ?_
   repeat refine Bm ?_
   refine A9 rfl (fun ht26 => ?_) (fun ht26 => ?_)
   ·
    try simp only [decide_eq_true_eq, decide_eq_false_iff_not, beq_iff_eq, bne_iff_ne, beq_eq_false_iff_ne, bne_eq_false_iff_eq, Int.not_lt, Int.not_le, Bool.not_eq_true, ne_eq, Bool.not_eq_eq_eq_not, Bool.not_true, Bool.not_false] at ht26
    repeat refine Bm ?_
    obtain ⟨r, hr⟩ : ∃ r : Nat, bit = 8 * (k : Int) + r := ⟨(bit - 8 * (k : Int)).toNat, by omega⟩
    have hr8 : r < 8 := by omega
    have hget : (Br b bit).getD k 0 = b.getD k 0 ^^^ ((1 : UInt8) <<< UInt8.ofNat r) := by
     have e1 : (bit / 8).toNat = k := by omega
     have e2 : (bit % 8).toNat = r := by omega
     unfold Br
     rw [if_pos (by omega), e1, e2, Dg _ _ _ _ _ (by omega), if_pos rfl]
    refine ZaI ?_
    repeat refine Bm ?_
    refine ZQ ?_
    refine Bo rfl ?_
    refine ZbQ ?_
    refine D9 rfl rfl (Yr (by omega) (by omega)) ?_
    refine Bo rfl ?_
    refine Zas ?_
    repeat refine Bm ?_
    refine Du ?_
    rw [show bit - 8 * (k : Int) = (r : Int) by omega]
    refine A7 (γ := Nat) (fun j => j ≤ r) (fun _ => row 5 v5 ((Br b bit).take k) :: L) (fun _ => R) (fun j => [(1, vi bit), (5, v5), (9, v0), (10, vi (b.length : Int)), (11, vi (k : Int)), (7, vb (b.getD k 0)), (30, vi (r : Int)), (31, vi (j : Int)), (8, vi ((2 ^ j : Nat) : Int))]) (fun j => r - j) 0 (by omega) ⟨rfl, rfl, rfl, rfl, rfl, rfl, rfl, rfl, rfl, trivial⟩ (fun w hs => Ag hs) ?_
    intro j hj
    repeat refine Bm ?_
    refine ZbP ?_
    repeat refine Bm ?_
    refine A9 rfl (fun ht32 => ?_) (fun ht32 => ?_)
    ·
     try simp only [decide_eq_true_eq, decide_eq_false_iff_not, beq_iff_eq, bne_iff_ne, beq_eq_false_iff_ne, bne_eq_false_iff_eq, Int.not_lt, Int.not_le, Bool.not_eq_true, ne_eq, Bool.not_eq_eq_eq_not, Bool.not_true, Bool.not_false] at ht32
     refine ZaF ?_
     repeat refine Bm ?_
     refine Du ?_
     refine ZQ ?_
     have hp := Nat.pow_le_pow_right (show 0 < 2 by decide) (show j ≤ 8 by omega)
     have hp1 : (0 : Int) ≤ ((2 ^ j : Nat) : Int) := Int.natCast_nonneg _
     have hp2 : ((2 ^ j : Nat) : Int) ≤ 256 := Int.ofNat_le.2 hp
     refine ZbQ ?_
     refine Zbi ?_
     refine Zbu ?_
     have hp3 : 2 ^ (j + 1) = 2 ^ j * 2 := Nat.pow_succ ..
     refine Au (j + 1) (by omega) (by omega) ⟨rfl, rfl, rfl, rfl, rfl, rfl, rfl, rfl, ?_, trivial⟩ (fun w hs => hs)
     exact congrArg (fun z => some (vi z)) (show 2 * ((2 ^ j : Nat) : Int) = ((2 ^ (j + 1) : Nat) : Int) by rw [hp3, Int.natCast_mul]; exact Int.mul_comm _ _)
    ·
     try simp only [decide_eq_true_eq, decide_eq_false_iff_not, beq_iff_eq, bne_iff_ne, beq_eq_false_iff_ne, bne_eq_false_iff_eq, Int.not_lt, Int.not_le, Bool.not_eq_true, ne_eq, Bool.not_eq_eq_eq_not, Bool.not_true, Bool.not_false] at ht32
     refine Gz ?_
     repeat (first | refine Dq ?_ | refine Ep rfl ?_)
     refine Ds ?_
     refine Av ?_
     refine ZQ ?_
     refine Zdy ?_
     refine Bo rfl ?_
     have hjr : j = r := by omega
     subst hjr
     have hp := Nat.pow_le_pow_right (show 0 < 2 by decide) (show j ≤ 8 by omega)
     refine r_p (Am rfl rfl (Ue (by have := (b.getD k 0).toNat_lt; omega) (by omega))) rfl ?_
     refine r_p (Ar Tryz.underlying3 Tryz.underlying5 rfl (Bz _)) rfl ?_
     rw [Zb _ _ hr8]
     refine Zat ?_
     refine ZQ ?_
     refine Bo rfl ?_
     refine Wp (α := UInt8) [b.getD k 0 ^^^ ((1 : UInt8) <<< UInt8.ofNat j)] Fz rfl rfl rfl rfl rfl rfl (fun j hj => ⟨⟨_, rfl, rfl⟩, trivial⟩) ?_; intro v43
     refine ZdG ?_;intro v44 w hs
     have hxk : ((Br b bit)[k]?).toList = [b.getD k 0 ^^^ ((1 : UInt8) <<< UInt8.ofNat j)] := by
      rw [getD_some 0 (show k < (Br b bit).length by omega)]
      have hg : (Br b bit).getD k 0 = b.getD k 0 ^^^ ((1 : UInt8) <<< UInt8.ofNat j) := hget
      rw [hg]; rfl
     show St (row 5 v44 ((Br b bit).take (k + 1)) :: _) _ w
     rw [List.take_add_one, hxk]; exact Ag hs
   ·
    try simp only [decide_eq_true_eq, decide_eq_false_iff_not, beq_iff_eq, bne_iff_ne, beq_eq_false_iff_ne, bne_eq_false_iff_eq, Int.not_lt, Int.not_le, Bool.not_eq_true, ne_eq, Bool.not_eq_eq_eq_not, Bool.not_true, Bool.not_false] at ht26
    have hget : (Br b bit).getD k 0 = b.getD k 0 := by
     exact ZgE
    refine Zes ?_;intro v43 v44 w hs
    have hxk : ((Br b bit)[k]?).toList = [b.getD k 0] := by
     exact Zgg
    show St (row 5 v44 ((Br b bit).take (k + 1)) :: _) _ w
    rw [List.take_add_one, hxk]; exact Ag hs
  ·
   intro ht20
   try simp only [decide_eq_true_eq, decide_eq_false_iff_not, beq_iff_eq, bne_iff_ne, beq_eq_false_iff_ne, bne_eq_false_iff_eq, Int.not_lt, Int.not_le, Bool.not_eq_true, ne_eq, Bool.not_eq_eq_eq_not, Bool.not_true, Bool.not_false] at ht20
   have hget : (Br b bit).getD k 0 = b.getD k 0 := by
    exact ZgE
   refine J.guardNo ?_ ?_
   ·exact rfl
   refine J.guardNo ?_ ?_
   ·exact rfl
   refine J.guardNo ?_ ?_
   ·exact rfl
   refine J.guardNo ?_ ?_
   ·exact rfl
   refine J.guardNo ?_ ?_
   ·exact rfl
   refine Wo rfl rfl ?_
   refine Zas ?_
   repeat refine Bm ?_
   refine Lv rfl ?_
   refine Zes ?_;intro v43 v44 w hs
   have hxk : ((Br b bit)[k]?).toList = [b.getD k 0] := by
    exact Zgg
   show St (row 5 v44 ((Br b bit).take (k + 1)) :: _) _ w
   rw [List.take_add_one, hxk]; exact Ag hs
 ·
  try simp only [decide_eq_true_eq, decide_eq_false_iff_not, beq_iff_eq, bne_iff_ne, beq_eq_false_iff_ne, bne_eq_false_iff_eq, Int.not_lt, Int.not_le, Bool.not_eq_true, ne_eq, Bool.not_eq_eq_eq_not, Bool.not_true, Bool.not_false] at ht12
  refine Gz ?_
  repeat (first | refine Dq ?_ | refine Ep rfl ?_)
  refine Ds ?_
  refine Av ?_
  repeat refine Bm ?_
  refine Zb6 ?_
  repeat (first | refine Ei ?_ | refine Dr ?_)
  have hkl : k = b.length := by omega
  refine Zc0 ?_;intro w hs
  refine ⟨v5, rfl, ?_⟩
  have h := St.shut (hs.pick pkk)
  rw [List.take_of_length_le (by omega)] at h
  exact h.sub (by repeat (first | exact .refl | exact .nil | refine .cons pkk ?_ | refine .drop ?_)) (by repeat (first | exact FSub.refl | exact FSub.nil | refine FSub.cons (by first | assumption | (repeat (first | assumption | exact List.Mem.head _ | refine .tail _ ?_))) ?_ | refine FSub.drop ?_))
theorem Sp {α : Type} {l : List α} {i : Nat} : l.eraseIdx i = l.take i ++ l.drop (i + 1) := List.eraseIdx_eq_take_drop_succ ..
theorem RdL.erase {α : Type} [Enc α] {m : Mem} {xs : List α} {cs : List Value} {i : Nat} (hz : Enc.sz α = 1) (hi : i < xs.length) (h : RdL xs cs m) : RdL (xs.eraseIdx i) (cs.take i ++ cs.drop (i + 1)) m := by
 have h1 : xs = xs.take i ++ xs.drop i := (List.take_append_drop i xs).symm
 rw [h1] at h
 obtain ⟨a, b, e1, e2, e3⟩ := RdL.split h
 have la : a.length = i := by rw [e2.len, hz, List.length_take]; omega
 rw [List.drop_eq_getElem_cons hi] at e3
 obtain ⟨c1, c2, g1, g2, g3⟩ := e3
 have lc : c1.length = 1 := by rw [Enc.len _ _ _ g2, hz]
 rw [Sp]
 have ea : cs.take i = a := by rw [e1, ← la]; simp
 have eb : cs.drop (i + 1) = c2 := by
  rw [e1, g1, ← la, List.drop_append, show a.length + 1 - a.length = 1 by omega, List.drop_append, lc]
  simp [List.drop_of_length_le, lc]
 rw [ea, eb]
 exact RdL.append g3 e2
theorem Sk {L : List Chunk} {R : List Fact} {a : Addr} {k c : Nat} : Dv L R (.slice (some a) k c) k := fun w _ => ⟨some a, c, rfl, fun _ => ⟨a, rfl⟩⟩
theorem Aag {P : Program} {n : Nat} {L : List Chunk} {R : List Fact} {al : List (Nat × Value)} {d : Nat} {x p q r : Operand} {T ty : TypeId} {pos : String} {aft : Array Edge} {e : TypeId} {sz len cap lo hi mx : Nat} {a : Addr} (ht : Dd P T e sz) (hx : ev n al x = some (.slice (some a) len cap)) (h1 : ev n al p = some (vi (lo : Int))) (h2 : ev n al q = some (vi (hi : Int))) (h3 : ev n al r = some (vi (mx : Int))) (l1 : lo ≤ hi) (l2 : hi ≤ mx) (l3 : mx ≤ cap) :
  A2 P n al L R ⟨some d, .slice T x (some p) (some q) (some r), ty, pos, aft, none⟩ (.slice (if mx = lo then some a else some (a.add (lo * sz))) (hi - lo) (mx - lo)) :=
 ⟨rfl, fun ρ w h hs => by
  show (Instr.sliceAt T (ρ x) (some (ρ p)) (some (ρ q)) (some (ρ r)) >>= fun v => Pure.pure (Next.value v)).run P w = _
  rw [h x (by simp [Op.operands]) _ hx, h p (by simp [Op.operands]) _ h1, h q (by simp [Op.operands]) _ h2, h r (by simp [Op.operands]) _ h3, Sem.run_bind]
  have : (Instr.sliceAt T (.slice (some a) len cap) (some (vi (lo : Int))) (some (vi (hi : Int))) (some (vi (mx : Int)))).run P w = .ok (.slice (if mx = lo then some a else some (a.add (lo * sz))) (hi - lo) (mx - lo)) w := by
   have e1 : (0 : Int) ≤ (lo : Int) ∧ (lo : Int) ≤ (hi : Int) := by omega
   have e2 : (0 : Int) ≤ (hi : Int) ∧ (hi : Int) ≤ (mx : Int) := by omega
   have e3 : (0 : Int) ≤ (mx : Int) ∧ (mx : Int) ≤ (cap : Int) := by omega
   simp [Instr.sliceAt, Instr.slice, Instr.sliceBounds, Instr.sliceBound, Cy ht.1, ht.2, asIntOf, e1, e2, e3, l1, l2, l3]
  rw [this]; rfl⟩
theorem W2 {v0 : Value} {l : Frames} {i : Nat} (hs : St (row 71 v0 l :: L) R w) (hi : i < l.length) : Calls Tryz.prog 72 [v0, vi (i : Int), vi ((i + 1 : Nat) : Int)].toArray w (Bs (fun v : Value => v) (fun v => row 71 v (l.eraseIdx i) :: L) (fun v => R)) := by
 have hlen := Wg (L := row 71 v0 l :: L) .hd hs
 have hne : l ≠ [] := by intro h; rw [h] at hi; simp at hi
 obtain ⟨g, cap, cs, rfl, hcap, hml, hN, hcl, hs, h1⟩ := Aev hne hs
 have hz : Enc.sz (List UInt8) = 1 := rfl
 rw [hz, Nat.mul_one] at hcl hs h1
 have fin : ∀ (w : World), St (blk g 71 ((cs.take i ++ (cs.drop (i + 1)).take (l.length - (i + 1)) ++ cs.drop (i + (l.length - (i + 1)))).take (i + (l.length - (i + 1))) ++ [.slice none 0 0] ++ (cs.take i ++ (cs.drop (i + 1)).take (l.length - (i + 1)) ++ cs.drop (i + (l.length - (i + 1)))).drop (i + (l.length - (i + 1)) + 1)) :: L) (rdL l (cs.take l.length) :: R) w →
    ∃ u, Value.slice (some ⟨g, 0, none⟩) (i + (l.length - (i + 1))) cap = u ∧ St (row 71 u (l.eraseIdx i) :: L) R w := by
   intro w hs
   have he : (l.eraseIdx i).length = i + (l.length - (i + 1)) := by rw [List.length_eraseIdx, if_pos hi]; omega
   have hA : (cs.take i ++ (cs.drop (i + 1)).take (l.length - (i + 1))).length = i + (l.length - (i + 1)) := by simp; omega
   refine ⟨_, rfl, ?_⟩
   have := Aje (T := 71) (g := g) (cap := cap) (xs := l.eraseIdx i) (by omega) (by omega) hml (by rw [hz, Nat.mul_one]; simp only [List.length_append, List.length_take, List.length_drop, List.length_cons, List.length_nil]; omega) (fun j hj => ?_) hs
   ·rw [he] at this; exact Ag this
   ·have hr : RdL l (cs.take l.length) j := hj _ (List.Mem.head _)
    have hr2 := hr.erase hz hi
    rw [he, hz, Nat.mul_one]
    have : ((cs.take i ++ (cs.drop (i + 1)).take (l.length - (i + 1)) ++ cs.drop (i + (l.length - (i + 1)))).take (i + (l.length - (i + 1))) ++ [Value.slice none 0 0] ++ (cs.take i ++ (cs.drop (i + 1)).take (l.length - (i + 1)) ++ cs.drop (i + (l.length - (i + 1)))).drop (i + (l.length - (i + 1)) + 1)).take (i + (l.length - (i + 1))) = (cs.take l.length).take i ++ (cs.take l.length).drop (i + 1) := by
     rw [List.append_assoc, List.take_append_of_le_length (by simp; omega), List.take_take, Nat.min_self, List.take_append_of_le_length (by rw [hA]; exact Nat.le_refl _), List.take_of_length_le (by rw [hA]; exact Nat.le_refl _), List.take_take, Nat.min_eq_left (by omega), List.drop_take]
    rw [this]; exact hr2
 refine Ai Tryz.func72 rfl Tryz.ntmps72 rfl hs ?_
 clear hs
 refine ZN ?_
 refine rn4 ?_
 refine ob (Nq (hl := Sk) Tryz.underlying28) ?_
 refine ob (Aag (a := ⟨g, 0, none⟩) Oo (lo := i) (hi := i + 1) (mx := l.length) rfl rfl rfl rfl (by omega) (by omega) hcap) ?_
 refine ZJ ?_
 refine Aw ?_
 refine Gmc ?_
 refine rn1 ?_
 refine ob (Nq (hl := Sk) Tryz.underlying28) ?_
 refine Ga1 ?_
 refine Zah ?_
 refine djc (fun _ _ => q_sl0 (hi := i) Oo rfl rfl (by omega)) ?_
 refine dn2 ?_
 refine djc (fun _ _ => q_slN (lo := i + 1) (hi := l.length) Oo rfl rfl rfl (by omega) (by omega)) ?_
 refine dtl ?_; intro ρ
 refine ap_in (j := i + 1) (cs := cs) Kf rfl rfl (fun hm => by rw [if_neg (by omega)]; unfold Addr.add; simp) .hd hcl (by omega) (by omega) (fun u hu => h1 u (by rw [← List.drop_take] at hu; exact List.mem_of_mem_drop hu)) ?_
 refine Gb1 ?_
 refine rn2 ?_
 refine ob (Nq (hl := Sk) Tryz.underlying28) ?_
 refine rn1 ?_
 refine ob (q_slN (lo := i + (l.length - (i + 1))) (hi := l.length) Oo rfl rfl rfl (by omega) (by omega)) ?_
 refine clr (o := i + (l.length - (i + 1))) (c2 := cap - (i + (l.length - (i + 1)))) (z := .slice none 0 0) Kf Tryz.zeroValue71 rfl rfl ?_ .hd ?_ ?_
 ·refine congrArg some ?_; rw [if_neg (by omega), show l.length - (i + (l.length - (i + 1))) = 1 by omega]; rw [Gw]; simp
 ·simp only [List.length_append, List.length_take, List.length_drop]; omega
 intro cs_ hcs_; subst hcs_
 refine ZC ?_
 refine Bg (.inr rfl) (fun B w hs => Adq rfl rfl B w) (fun w hs => fin w hs)
theorem Adn {f : Fact} (hs : St L R w) (h : f ∈ R) : St L (f :: R) w := hs.sub .refl (fun g hg => by
 rcases List.mem_cons.1 hg with e | e
 ·rw [e]; exact h
 ·exact e)
theorem P3 {v0 v1 : Value} {fs : Frames} {ms : List Msg} (hs : St (L) R w) (h0 : sl v0 fs ∈ R) (h1 : sl v1 ms ∈ R) (hm : ∀ m ∈ ms, MsgIn m) : Calls Tryz.prog 21 [v0, v1].toArray w (Bs (fun v : Value => v) (fun v => L) (fun v => sl v (way fs ms) :: R)) := by
 have hlen := Be h1 hs
 refine Ai Tryz.func21 rfl Tryz.ntmps21 rfl hs ?_
 clear hs
 refine ZN ?_
 refine Ga3 ?_
 refine A7 (γ := Nat × Value) (fun g => g.1 ≤ ms.length) (fun _ => L) (fun g => sl g.2 (way fs (ms.take g.1)) :: R) (fun g => [(0, g.2), (7, v1), (8, vi (ms.length : Int)), (9, vi (g.1 : Int))]) (fun g => ms.length - g.1) (0, v0) (Nat.zero_le _) alT (fun w hs => Adn hs h0) ?_
 rintro ⟨k, vs⟩ hk
 try simp only at hk ⊢
 refine ZA ?_
 refine cdy ?_ ?_
 ·intro ht10
  refine Gl ?_
  refine JC.open0 (xs := ms) (v := v1) k mm (by omega) (fun _ => ?_)
  have hin : MsgIn (ms.getD k zMsg) := hm _ (by rw [List.getD_eq_getElem?_getD, List.getElem?_eq_getElem (by omega)]; exact List.getElem_mem _)
  refine ZD ?_
  refine al_ (cs := zMsg.cells) Tryz.zeroValue76 ?_; intro b6
  refine s_B (cs := (ms.getD k zMsg).cells) Tryz.sizeOf76 ?_
  refine ZJ ?_
  refine An Tryz.call54 rfl (fun w hs => Zz hs hin) ?_; intro v15
  refine An Tryz.call25 rfl (fun w hs => Wj hs (l := way fs (ms.take k)) (b := Ck (ms.getD k zMsg)) mm mm) ?_; intro v16
  refine ZG ?_
  refine Au (k + 1, v16) (by show k + 1 ≤ ms.length; omega) (by show ms.length - (k + 1) < ms.length - k; omega) alT (fun w hs => ?_)
  try simp only
  rw [Es zMsg (by omega), I0]; exact Ag hs
 ·intro ht10
  refine ZC ?_
  have hkl : k = ms.length := by omega
  subst hkl
  rw [List.take_length]
  exact Bb vs
theorem Kq {e : Int} (hs : St (L) R w) : Calls Tryz.prog 18 [vi e].toArray w (Bs (fun _ : Unit => .tuple #[.agg #[.slice none 0 0, .slice none 0 0, .slice none 0 0], .slice none 0 0, vi e]) (fun _ => L) (fun _ => R)) := by
 refine Ai Tryz.func18 rfl Tryz.ntmps18 rfl hs ?_
 clear hs
 refine Gm ?_
 refine Zcq ?_;intro b2
 refine Gb2 ?_
 refine Zbz ?_
 refine rn1 ?_
 refine s_B Tryz.sizeOf30 ?_
 refine Ga2 ?_
 exact Cj () Tryz.isAgg30 Tryz.sizeOf30
theorem S9 {u0 u1 : Value} {a b : Core} (hs : St (L) R w) (h0 : sl u0 a.lines ∈ R) (h1 : sl u1 b.lines ∈ R) : Calls Tryz.prog 36 [.agg (a.cells u0).toArray, .agg (b.cells u1).toArray].toArray w (Bs (fun _ : Unit => .bool (decide (a = b))) (fun _ => L) (fun _ => R)) := by
 have hla := Be h0 hs
 have hlb := Be h1 hs
 have hone0 : u0.oneCell' = true := isSlice.one (hs.fact h0)
 have hone1 : u1.oneCell' = true := isSlice.one (hs.fact h1)
 refine Ai Tryz.func36 rfl Tryz.ntmps36 rfl hs ?_
 clear hs
 refine ZbD ?_;intro b2 b3
 refine Ga1 ?_
 refine kp [2, 3, 4, 6, 7, 8, 9, 10, 11, 12, 13, 14, 15, 16, 17, 18, 19] ?_
 refine Cs 19 (.bool (decide (¬ (a.wait = b.wait ∧ a.lines.length = b.lines.length)))) ?_ ?_
 ·rcases (show (¬ a.wait = b.wait) ∨ (a.wait = b.wait ∧ ¬ a.lines.length = b.lines.length) ∨ (a.wait = b.wait ∧ a.lines.length = b.lines.length) from by by_cases h1 : a.wait = b.wait <;> by_cases h2 : a.lines.length = b.lines.length <;> simp [h1, h2]) with hm | hm | hm
  ·refine ZB ?_
   refine ob (Fc 3 Tryz.isAgg36 Tryz.sizeOf36) ?_
   refine rn2 ?_
   refine ob (F3 rfl rfl (Ajr a.wait b.wait _) (Ajc (x := a.wait) (y := b.wait) hm)) ?_
   refine Ga9 ?_
   exact Zf1
  ·refine Zef ?_
   refine Hr ?_
   refine Ga1 ?_
   exact Zf1
  ·refine Zef ?_
   refine H9 ?_
   refine Ga1 ?_
   refine Aq ?_ (fun w hs => hs)
   refine ⟨by first | exact congrArg (fun b => some (Value.bool b)) (decide_eq_false (by first | exact fun h => hm h.1 | exact fun h => hm.2 h.2 | exact fun h => h hm)).symm | exact congrArg (fun b => some (Value.bool b)) (by simp; omega), alT⟩
 ·refine Av ?_
  refine Gl ?_
  first | (refine cdx (p := ?p1) (hd := ?d1) ?e1 ?_ ?_; case e1 => exact rfl) | (refine A9 (b := ?b1) ?e1 ?_ ?_; case e1 => exact rfl)
  ·intro ht19
   refine Gl ?_
   refine kp [2, 3, 4] ?_
   refine ZW ?_
   have e : a ≠ b := by
    intro h
    have hw : a.wait = b.wait := by rw [h]
    have hl : a.lines.length = b.lines.length := by rw [h]
    first | exact ht19 ⟨hw, hl⟩ | omega
   exact Zfd
  ·intro ht19
   refine Gl ?_
   refine kp [2, 3, 4, 20, 21, 22, 23] ?_
   refine ZaH ?_
   refine A7 (γ := Nat) (fun k => k ≤ a.lines.length ∧ a.lines.take k = b.lines.take k) (fun _ => blk b2 57 (a.cells u0) :: blk b3 57 (b.cells u1) :: L) (fun _ => R) (fun k => [(2, bp b2 0), (3, bp b3 0), (22, vi (a.lines.length : Int)), (23, vi (k : Int))]) (fun k => a.lines.length - k) 0 ⟨Nat.zero_le _, rfl⟩ alT (fun w hs => Ag hs) ?_
   rintro k ⟨hk, hab⟩
   refine ZA ?_
   refine cdy ?_ ?_
   ·intro ht24
    refine ZC ?_
    refine JC.open0 (xs := a.lines) (v := u0) k mm (by omega) (fun _ => ?_)
    refine JC.open0 (xs := b.lines) (v := u1) k mm (by omega) (fun _ => ?_)
    refine Bq ?_
    refine Xv ?_
    refine djc (fun _ _ => F3 rfl rfl (Ajs _ _ _) (Acu _ _)) ?_
    refine dnl ?_; intro ρ
    refine Gl ?_
    refine cdy ?_ ?_
    ·intro ht36
     refine ZA ?_
     have e : a ≠ b := by intro h; apply ht36; rw [h]
     exact Zfd
    ·intro ht36
     refine ZC ?_
     refine Au (k + 1) ⟨by omega, ?_⟩ (by omega) alT (fun w hs => Ag hs)
     rw [Es zLine (by omega), Es zLine (by omega), hab]
     exact congrArg (fun z => b.lines.take k ++ [z]) (Classical.byContradiction ht36)
   ·intro ht24
    refine ZA ?_
    have e : a = b := by
     have hkl : k = a.lines.length := by omega
     obtain ⟨hw, hl⟩ := Decidable.not_not.1 ht19
     rw [hkl, List.take_length, hl, List.take_length] at hab
     cases a; cases b; simp only at hab hw; rw [hab, hw]
    exact Zfd
theorem Lt {P : Program} {n : Nat} {Q : Exit → Act → World → Prop} {L : List Chunk} {R : List Fact} {al : List (Nat × Value)} {c : Code} {v : Value} {l : List Entry} (i : Nat) (hm : sl v l ∈ R) (hi : i < l.length) (k : (l.getD i Az).wf → ∀ u, JC P n c Q L (cF v 10 i (Entry.cells u (l.getD i Az)) :: sl u (l.getD i Az).last :: R) al) : JC P n c Q L R al := JC.open1 i hm hi k
theorem Aik {a b : Entry} (h0 : a.value = b.value) (h1 : a.owner = b.owner) (h2 : a.sharers = b.sharers) (h3 : a.phase = b.phase) (h4 : a.who = b.who) (h5 : a.serial = b.serial) (h6 : a.alone = b.alone) (h7 : a.turn = b.turn) (h8 : a.need = b.need) (h9 : a.last = b.last) : a = b := by
 cases a; cases b; simp only at *; subst h0 h1 h2 h3 h4 h5 h6 h7 h8 h9; rfl
theorem Ox {v0 v1 : Value} {a b : List Entry} (hs : St (L) R w) (h0 : sl v0 a ∈ R) (h1 : sl v1 b ∈ R) : Calls Tryz.prog 34 [v0, v1].toArray w (Bs (fun _ : Unit => .bool (decide (a = b))) (fun _ => L) (fun _ => R)) := by
 have hla := Be h0 hs
 have hlb := Be h1 hs
 refine Ai Tryz.func34 rfl Tryz.ntmps34 rfl hs ?_
 clear hs
 refine ZN ?_
 refine Ga5 ?_
 refine cdy ?_ ?_
 ·intro ht12
  refine ZA ?_
  have e : a ≠ b := by intro h; apply ht12; rw [h]
  exact Zfd
 ·intro ht12
  refine ZS ?_
  refine A7 (γ := Nat) (fun k => k ≤ a.length ∧ a.take k = b.take k) (fun _ => L) (fun _ => R) (fun k => [(0, v0), (1, v1), (14, vi (a.length : Int)), (15, vi (k : Int))]) (fun k => a.length - k) 0 ⟨Nat.zero_le _, rfl⟩ alT (fun w hs => hs) ?_
  rintro k ⟨hk, hab⟩
  refine ZA ?_
  refine cdy ?_ ?_
  ·intro ht16
   refine ZC ?_
   refine Lt (l := a) (v := v0) k mm (by omega) (fun _ ua => ?_)
   refine Lt (l := b) (v := v1) k mm (by omega) (fun _ ub => ?_)
   refine JC.know (p := ua.oneCell' = true ∧ ub.oneCell' = true) (fun w hs => ⟨isSlice.one (hs.fact (.tail _ (.tail _ (.tail _ (.head _))))), isSlice.one (hs.fact (.tail _ (.head _)))⟩) (fun h12 => ?_)
   obtain ⟨hone1, hone2⟩ := h12
   refine cq_ (L) ?_
   refine jd_ (fun ρ S => (bif S 8 then [blk (Gh.dec (γ := Nat) (ρ 8)) 62 (bif S 10 then (Entry.cells ua (a.getD k Az)) else zEC)] else []) ++ ((bif S 9 then [blk (Gh.dec (γ := Nat) (ρ 9)) 62 (bif S 11 then (Entry.cells ub (b.getD k Az)) else zEC)] else []) ++ (L))) ?_
   refine dn8 ?_
   refine Hy (cs := zEC) Tryz.zeroValue62 rfl (fun ρ b S hS hA => ?_) ?_
   ·have ui : upS S 8 8 = true := rfl; have u9 : upS S 8 9 = S 9 := rfl; have u10 : upS S 8 10 = S 10 := rfl; have u11 : upS S 8 11 = S 11 := rfl; have r9 : Rho.set ρ 8 (Gh.enc b) 9 = ρ 9 := rfl; have h10 : S 10 = false := hA 10 ⟨0, rfl⟩; have rs : (Gh.dec (γ := Nat) (Rho.set ρ 8 (Gh.enc b) 8)) = b := rfl
    simp only [ui, hS, u9, u10, u11, r9, h10, rs, cond_true, cond_false, List.nil_append]
    exact ZeZ
   refine Hy (cs := zEC) Tryz.zeroValue62 rfl (fun ρ b S hS hA => ?_) ?_
   ·have ui : upS S 9 9 = true := rfl; have u8 : upS S 9 8 = S 8 := rfl; have u10 : upS S 9 10 = S 10 := rfl; have u11 : upS S 9 11 = S 11 := rfl; have r8 : Rho.set ρ 9 (Gh.enc b) 8 = ρ 8 := rfl; have h11 : S 11 = false := hA 11 ⟨0, rfl⟩; have rs : (Gh.dec (γ := Nat) (Rho.set ρ 9 (Gh.enc b) 9)) = b := rfl
    simp only [ui, hS, u8, u10, u11, r8, h11, rs, cond_true, cond_false, List.nil_append]
    exact ZeZ
   refine es_ 62 0 [8] [] (fun ρ => (Gh.dec (γ := Nat) (ρ 8))) (fun ρ => zEC) (fun ρ => (Entry.cells ua (a.getD k Az))) Tryz.sizeOf62 ?_
   refine es_ 62 0 [9] [] (fun ρ => (Gh.dec (γ := Nat) (ρ 9))) (fun ρ => zEC) (fun ρ => (Entry.cells ub (b.getD k Az))) Tryz.sizeOf62 ?_
   refine dnl ?_; intro ρ
   refine xq_ (blk (Gh.dec (γ := Nat) (ρ 8)) 62 (Entry.cells ua (a.getD k Az)) :: blk (Gh.dec (γ := Nat) (ρ 9)) 62 (Entry.cells ub (b.getD k Az)) :: L) ?_
   generalize (Gh.dec (γ := Nat) (ρ 8)) = b6
   generalize (Gh.dec (γ := Nat) (ρ 9)) = b7
   refine Gm ?_
   refine rn6 ?_
   refine jgx (t := 31) (p := ?p3) (hd := ?d3) ?e3 ?_ ?_; case e3 => exact rfl
   ·intro ht31
    refine Adp ?_
    refine Gc31 ?_
    refine Za5 ?_
    have e : a ≠ b := by intro h; apply ht31; rw [h]
    exact Zfd
   ·intro ht31
    refine rn7 ?_
    refine jgx (t := 38) (p := ?p4) (hd := ?d4) ?e4 ?_ ?_; case e4 => exact rfl
    ·intro ht38
     refine Adp ?_
     refine Gc24 ?_
     refine Za5 ?_
     have e : a ≠ b := by intro h; apply ht38; rw [h]
     exact Zfd
    ·intro ht38
     refine rn7 ?_
     refine jgx (t := 45) (p := ?p5) (hd := ?d5) ?e5 ?_ ?_; case e5 => exact rfl
     ·intro ht45
      refine Adp ?_
      refine Gc17 ?_
      refine Za5 ?_
      have e : a ≠ b := by intro h; apply ht45; rw [h]
      exact Zfd
     ·intro ht45
      refine rn7 ?_
      refine jgx (t := 52) (p := ?p6) (hd := ?d6) ?e6 ?_ ?_; case e6 => exact rfl
      ·intro ht52
       refine Adp ?_
       refine Gc10 ?_
       refine Za5 ?_
       have e : a ≠ b := by intro h; apply ht52; rw [h]
       exact Zfd
      ·intro ht52
       refine rn7 ?_
       refine jgx (t := 59) (p := ?p7) (hd := ?d7) ?e7 ?_ ?_; case e7 => exact rfl
       ·intro ht59
        refine Adp ?_
        refine Gc3 ?_
        refine Za5 ?_
        have e : a ≠ b := by intro h; apply ht59; rw [h]
        exact Zfd
       ·intro ht59
        refine rn7 ?_
        refine jgx (t := 66) (p := ?p8) (hd := ?d8) ?e8 ?_ ?_; case e8 => exact rfl
        ·intro ht66
         refine Gc28 ?_
         refine Za5 ?_
         have e : a ≠ b := by intro h; apply ht66; rw [h]
         exact Zfd
        ·intro ht66
         refine ZM ?_
         refine ob (Adu rfl rfl (Adc Tryz.underlying4)) ?_
         refine rn2 ?_
         refine Jr (t := 73) (b := ?b9) ?e9 ?_ ?_; case e9 => exact rfl
         ·intro ht73
          refine Gc21 ?_
          refine Za5 ?_
          have e : a ≠ b := by intro h; rw [h] at ht73; simp at ht73
          exact Zfd
         ·intro ht73
          refine rn7 ?_
          refine jgx (t := 80) (p := ?p10) (hd := ?d10) ?e10 ?_ ?_; case e10 => exact rfl
          ·intro ht80
           refine Gc14 ?_
           refine Za5 ?_
           have e : a ≠ b := by intro h; apply ht80; rw [h]
           exact Zfd
          ·intro ht80
           refine rn7 ?_
           refine jgx (t := 87) (p := ?p11) (hd := ?d11) ?e11 ?_ ?_; case e11 => exact rfl
           ·intro ht87
            refine Gc7 ?_
            refine Za5 ?_
            have e : a ≠ b := by intro h; apply ht87; rw [h]
            exact Zfd
           ·intro ht87
            refine ZM ?_
            refine An Tryz.call64 rfl (fun w hs => Zj (a := (a.getD k Az).last) (b := (b.getD k Az).last) hs mm mm) ?_; intro _
            refine Ga2 ?_
            first | (refine cdx (p := ?p12) (hd := ?d12) ?e12 ?_ ?_; case e12 => exact rfl) | (refine A9 (b := ?b12) ?e12 ?_ ?_; case e12 => exact rfl)
            ·intro ht94
             refine Gl ?_
             refine Za5 ?_
             have e : a ≠ b := by intro h; rw [h] at ht94; simp at ht94
             exact Zfd
            ·intro ht94
             refine Gl ?_
             refine kp [0, 1, 4, 5, 6, 7, 14, 15, 16, 17, 18, 19, 20, 21, 22, 23, 24, 25, 26, 27, 28, 29, 30, 31, 32, 33, 34, 35, 36, 37, 38, 39, 40, 41, 42, 43, 44, 45, 46, 47, 48, 49, 50, 51, 52, 53, 54, 55, 56, 57, 58, 59, 60, 61, 62, 63, 64, 65, 66, 67, 68, 69, 70, 71, 72, 73, 74, 75, 76, 77, 78, 79, 80, 81, 82, 83, 84, 85, 86, 87, 88, 89, 90, 91, 92, 93, 94, 95] ?_
             refine ZO ?_
             refine Au (k + 1) ⟨by omega, ?_⟩ (by omega) alT (fun w hs => Ag hs)
             rw [Es Az (by omega), Es Az (by omega), hab]
             exact congrArg (fun z => b.take k ++ [z]) (Aik (Decidable.not_not.1 ht31) (Decidable.not_not.1 ht38) (Decidable.not_not.1 ht45) (Decidable.not_not.1 ht52) (Decidable.not_not.1 ht59) (Decidable.not_not.1 ht66) (by simpa using ht73) (Decidable.not_not.1 ht80) (Decidable.not_not.1 ht87) (by simpa using ht94))
  ·intro ht16
   exact Zfr
def Ha (c : Config) : Entry := { Az with last := List.replicate c.cores.toNat 0 }
def La (c : Config) : Core := ⟨List.replicate c.lines.toNat zLine, zOp⟩
theorem Lr {α : Type} (k : Nat) (a : α) : List.replicate (k + 1) a = List.replicate k a ++ [a] := List.replicate_succ' ..
theorem Qm (c : Config) : (Ha c).wf := by unfold Ha Az Entry.wf Ao; simp only; omega
theorem H2 {c : Config} (h : c.cores < 1 ∨ 4 < c.cores ∨ c.lines < 1 ∨ 4 < c.lines) : A4 c = (zChip, 3) := by unfold A4 Ed; rw [if_pos h, if_pos (by decide)]
theorem Rh {c : Config} (h : ¬ (c.cores < 1 ∨ 4 < c.cores ∨ c.lines < 1 ∨ 4 < c.lines)) : A4 c = (⟨List.replicate c.cores.toNat (La c), List.replicate c.lines.toNat (Ha c), []⟩, 0) := by unfold A4 Ed; rw [if_neg h, if_neg (by decide)]; rfl
theorem Adr {c : Config} (hs : St (L) R w) (hc : c.wf) : Calls Tryz.prog 9 [.agg c.cells.toArray].toArray w (Bs (fun v : Value × Value => .tuple #[.agg #[v.1, v.2, .slice none 0 0], vi (A4 c).2]) (fun v => L) (fun v => sl v.1 (A4 c).1.cores :: sl v.2 (A4 c).1.home :: sl (.slice none 0 0) (A4 c).1.frames :: R)) := by
 refine Ai Tryz.func9 rfl Tryz.ntmps9 rfl hs ?_
 clear hs
 refine Gm ?_
 refine bx ?_; intro b1
 refine Zcq ?_;intro b2
 refine Ga1 ?_
 rcases (show (c.cores < 1) ∨ (¬ c.cores < 1 ∧ 4 < c.cores) ∨ (¬ c.cores < 1 ∧ ¬ 4 < c.cores ∧ c.lines < 1) ∨ (¬ c.cores < 1 ∧ ¬ 4 < c.cores ∧ ¬ c.lines < 1 ∧ 4 < c.lines) ∨ (1 ≤ c.cores ∧ c.cores ≤ 4 ∧ 1 ≤ c.lines ∧ c.lines ≤ 4) from by omega) with hc | hc | hc | hc | hc
 ·refine ZY ?_
  refine Gc15 ?_
  exact Zf2
 ·refine ZaX ?_
  refine Gc11 ?_
  exact Zf2
 ·refine Zax ?_
  refine Za9 ?_
  refine Gc6 ?_
  exact Zf2
 ·refine Zax ?_
  refine ZaJ ?_
  refine Gc1 ?_
  exact Zf2
 ·refine Zax ?_
  refine Za0 ?_
  refine Gd1 ?_
  refine Zc6 ?_;intro b4
  refine ZS ?_
  refine JC.rowNil 62 Entry ?_
  refine A7 (γ := Nat × Value) (fun g => (g.1 : Int) ≤ c.lines) (fun g => row 62 g.2 (List.replicate g.1 (Ha c)) :: blk b4 30 [.slice none 0 0, g.2, .slice none 0 0] :: blk b1 23 c.cells :: blk b2 30 [.slice none 0 0, .slice none 0 0, .slice none 0 0] :: L) (fun _ => R) (fun g => [(1, bp b1 0), (2, bp b2 0), (4, bp b4 0), (25, vi c.lines), (26, vi (g.1 : Int))]) (fun g => c.lines.toNat - g.1) (0, .slice none 0 0) (by show (0 : Int) ≤ c.lines; omega) alT (fun w hs => Ag hs) ?_
  rintro ⟨k, vh⟩ hk
  try simp only at hk ⊢
  refine ZA ?_
  refine cdy ?_ ?_
  ·intro ht27
   refine Gl ?_
   refine cq_ (row 62 vh (List.replicate k (Ha c)) :: blk b4 30 [.slice none 0 0, vh, .slice none 0 0] :: blk b1 23 c.cells :: blk b2 30 [.slice none 0 0, .slice none 0 0, .slice none 0 0] :: L) ?_
   refine jd_ (fun ρ S => row 62 vh (List.replicate k (Ha c)) :: blk b4 30 [.slice none 0 0, vh, .slice none 0 0] :: blk b1 23 c.cells :: blk b2 30 [.slice none 0 0, .slice none 0 0, .slice none 0 0] :: L) ?_
   refine dn4 ?_
   refine Aeb (a := c.cores) (x0 := (0 : Int)) (zc := [vi 0]) Ea rfl (by decide) (fun _ => rfl) (fun _ => rfl) rfl (fun j => ⟨rfl, by unfold Ao; omega⟩) (by omega) (by omega) (fun _ _ _ _ => rfl) ?_
   refine e_pd (v := fun ρ => .agg ([vi 0, vi (-1), vi 0, vi 0, vi 0, vi 0, .bool false, vi 0, vi 0, (Gh.dec (γ := Value) (ρ 4))]).toArray) (fun ρ S R' L' w hd hs => by have h1 : (Gh.dec (γ := Value) (ρ 4)).oneCell' = true := isSlice.one (hs.fact (hd.dep (it := ⟨4, _, _, _, _⟩) (by repeat (first | exact List.Mem.head _ | refine List.Mem.tail _ ?_)) ⟨9, rfl⟩ (List.Mem.head _))); exact Fd st_62) (Ind.gh (h := fun g => Value.agg ([vi 0, vi (-1), vi 0, vi 0, vi 0, vi 0, .bool false, vi 0, vi 0, (Gh.dec (γ := Value) g)]).toArray) 4 3 rfl) (fun _ _ _ _ _ => rfl) ?_
   refine Fe ([Ha c] : List Entry) Q3 rfl (fun _ => rfl) rfl (fun _ => rfl) rfl rfl (fun ρ R hd j hj => ⟨⟨_, rfl, ⟨_, rfl, hj _ (hd.dep (it := ⟨4, _, _, _, _⟩) (by repeat (first | exact List.Mem.head _ | refine List.Mem.tail _ ?_)) ⟨9, rfl⟩ (List.Mem.head _)), Qm c⟩⟩, trivial⟩) (fun _ _ _ _ _ => rfl) ?_
   refine dtl ?_; intro ρ
   refine J.conseq (L' := row 62 vh (List.replicate k (Ha c)) :: blk b4 30 [.slice none 0 0, vh, .slice none 0 0] :: blk b1 23 c.cells :: blk b2 30 [.slice none 0 0, .slice none 0 0, .slice none 0 0] :: L) (fun w hs => hs) ?_
   generalize (Gh.dec (γ := Value) (ρ 4)) = v32
   generalize (Gh.dec (γ := Value) (ρ 6)) = v34
   refine ap Q3 (hb := fun w hs => by have : maxN = 16777216 := rfl; simp only [List.length_cons, List.length_nil, List.length_replicate]; omega) (k := ?_); intro v35
   refine rn1 ?_
   refine J.know (p := v35.oneCell' = true) (fun w hs => Bx (v := v35) pkk hs) (fun honev35 => ?_)
   refine sc ?_
   refine Gl ?_
   refine kp [1, 2, 3, 4, 25, 26, 27, 28, 29, 30, 31, 32, 33, 34, 35, 36, 37] ?_
   refine ZO ?_
   refine Au (k + 1, v35) (by show ((k + 1 : Nat) : Int) ≤ c.lines; omega) (by show c.lines.toNat - (k + 1) < c.lines.toNat - k; omega) alT (fun w hs => ?_)
   try simp only
   rw [Lr]; exact Ag hs
  ·intro ht27
   refine ZS ?_
   refine JC.shut (v := vh) pkk ?_
   refine JC.know (p := vh.oneCell' = true) (fun w hs => isSlice.one (hs.fact (List.Mem.head _))) (fun honeh => ?_)
   refine JC.rowNil 57 Core ?_
   refine A7 (γ := Nat × Value) (fun g => (g.1 : Int) ≤ c.cores) (fun g => row 57 g.2 (List.replicate g.1 (La c)) :: blk b4 30 [g.2, vh, .slice none 0 0] :: blk b1 23 c.cells :: blk b2 30 [.slice none 0 0, .slice none 0 0, .slice none 0 0] :: L) (fun _ => sl vh (List.replicate k (Ha c)) :: R) (fun g => [(1, bp b1 0), (2, bp b2 0), (4, bp b4 0), (39, vi c.cores), (40, vi (g.1 : Int))]) (fun g => c.cores.toNat - g.1) (0, .slice none 0 0) (by show (0 : Int) ≤ c.cores; omega) alT (fun w hs => Ag hs) ?_
   rintro ⟨k2, vc⟩ hk2
   try simp only at hk2 ⊢
   refine ZA ?_
   refine cdy ?_ ?_
   ·intro ht41
    refine Gl ?_
    refine cq_ (row 57 vc (List.replicate k2 (La c)) :: blk b4 30 [vc, vh, .slice none 0 0] :: blk b1 23 c.cells :: blk b2 30 [.slice none 0 0, .slice none 0 0, .slice none 0 0] :: L) ?_
    refine jd_ (fun ρ S => row 57 vc (List.replicate k2 (La c)) :: blk b4 30 [vc, vh, .slice none 0 0] :: blk b1 23 c.cells :: blk b2 30 [.slice none 0 0, .slice none 0 0, .slice none 0 0] :: L) ?_
    refine dn4 ?_
    refine Aeb (a := c.lines) (x0 := zLine) (zc := zLine.cells) Vj rfl (by decide) (fun _ => rfl) (fun _ => rfl) rfl (fun j => ⟨rfl, by unfold Line.wf Ao zLine; simp only; omega⟩) (by omega) (by omega) (fun _ _ _ _ => rfl) ?_
    refine e_pd (v := fun ρ => .agg ([(Gh.dec (γ := Value) (ρ 4)), vi 0, vi 0, vi 0]).toArray) (fun ρ S R' L' w hd hs => by have h1 : (Gh.dec (γ := Value) (ρ 4)).oneCell' = true := isSlice.one (hs.fact (hd.dep (it := ⟨4, _, _, _, _⟩) (by repeat (first | exact List.Mem.head _ | refine List.Mem.tail _ ?_)) ⟨9, rfl⟩ (List.Mem.head _))); exact Fd Hn) (Ind.gh (h := fun g => Value.agg ([(Gh.dec (γ := Value) g), vi 0, vi 0, vi 0]).toArray) 4 3 rfl) (fun _ _ _ _ _ => rfl) ?_
    refine Fe ([La c] : List Core) Q4 rfl (fun _ => rfl) rfl (fun _ => rfl) rfl rfl (fun ρ R hd j hj => ⟨⟨_, rfl, ⟨_, rfl, hj _ (hd.dep (it := ⟨4, _, _, _, _⟩) (by repeat (first | exact List.Mem.head _ | refine List.Mem.tail _ ?_)) ⟨9, rfl⟩ (List.Mem.head _)), by unfold La zOp Op.wf Ao; simp only; omega⟩⟩, trivial⟩) (fun _ _ _ _ _ => rfl) ?_
    refine dtl ?_; intro ρ
    refine J.conseq (L' := row 57 vc (List.replicate k2 (La c)) :: blk b4 30 [vc, vh, .slice none 0 0] :: blk b1 23 c.cells :: blk b2 30 [.slice none 0 0, .slice none 0 0, .slice none 0 0] :: L) (fun w hs => hs) ?_
    generalize (Gh.dec (γ := Value) (ρ 4)) = v46
    generalize (Gh.dec (γ := Value) (ρ 6)) = v48
    refine ap Q4 (hb := fun w hs => by have : maxN = 16777216 := rfl; simp only [List.length_cons, List.length_nil, List.length_replicate]; omega) (k := ?_); intro v49
    refine rn1 ?_
    refine J.know (p := v49.oneCell' = true) (fun w hs => Bx (v := v49) pkk hs) (fun honev49 => ?_)
    refine sc ?_
    refine Gl ?_
    refine kp [1, 2, 3, 4, 39, 40, 41, 42, 43, 44, 45, 46, 47, 48, 49, 50, 51] ?_
    refine ZO ?_
    refine Au (k2 + 1, v49) (by show ((k2 + 1 : Nat) : Int) ≤ c.cores; omega) (by show c.cores.toNat - (k2 + 1) < c.cores.toNat - k2; omega) alT (fun w hs => ?_)
    try simp only
    rw [Lr]; exact Ag hs
   ·intro ht41
    refine Gl ?_
    refine JC.shut (v := vc) pkk ?_
    refine JC.know (p := vc.oneCell' = true) (fun w hs => isSlice.one (hs.fact (List.Mem.head _))) (fun honec => ?_)
    refine JC.slNil (List UInt8) ?_
    refine ZB ?_
    refine s_B Tryz.sizeOf30 ?_
    refine Ga1 ?_
    have er : A4 c = (⟨List.replicate k2 (La c), List.replicate k (Ha c), []⟩, 0) := by rw [Rh (by omega), show c.lines.toNat = k by omega, show c.cores.toNat = k2 by omega]
    rw [er]
    exact Fr (vc, vh) Tryz.isAgg30 Tryz.sizeOf30
theorem Dk {v : Value} {ls : List Line} {i : Nat} (e : Line) (he : e.wf) (hs : St (foc 92 v ls i e.cells :: L) R w) : St (row 92 v (ls.set i e) :: L) R w := hs.unfocus (fun j _ => ⟨rfl, he⟩)
theorem W5 {v : Value} {ls : List Line} {i : Nat} (he : (ls.getD i zLine).wf) (hs : St (foc 92 v ls i (ls.getD i zLine).cells :: L) R w) : St (row 92 v ls :: L) R w := by
 have h := Dk _ he hs
 rwa [J1] at h
theorem Ek {v : Value} {ls : List Line} {i : Nat} {l : Line} (hl : ls.getD i zLine = l) (he : l.wf) (hs : St (foc 92 v ls i [vi l.state, vi l.value, vi l.want, vi l.serial, vi l.seen, vi l.gave, vi l.given] :: L) R w) : St (row 92 v ls :: L) R w := by
 subst hl
 exact W5 he hs
theorem Hv {P : Program} {n : Nat} {Q : Exit → Act → World → Prop} {L L' : List Chunk} {R : List Fact} {al : List (Nat × Value)} {cd : Code} {vL : Value} {ls : List Line} {l : Line} {i : Int} (hp : Pick L (row 92 vL ls) L') (hl : ls.getD i.toNat zLine = l) (h0 : 0 ≤ i) (hi : i < (ls.length : Int)) (k : l.wf → EpAll vL 7 i.toNat → JC P n cd Q (foc 92 vL ls i.toNat [vi l.state, vi l.value, vi l.want, vi l.serial, vi l.seen, vi l.gave, vi l.given] :: L') R al) : JC P n cd Q L R al := by
 subst hl
 refine JC.focus0 (xs := ls) i.toNat hp (by omega) (fun hw => ?_)
 refine JC.know (p := EpAll vL 7 i.toNat) (fun w hs => Y6 (α := Line) (xs := ls) .hd w hs) (fun hA => ?_)
 exact k hw hA
theorem Rb {LX : List Chunk} {R : List Fact} {w : World} {vL vo vd : Value} {bk : Nat} {q : Op} {id home : Int} {ls : List Line} {l : Line} {ms : List Msg} {line : Int} (hs : St (blk bk 137 [vL, vi q.kind, vi q.line, vi q.value, vi id, vi home, vo, vd] :: row 92 vL ls :: row 76 vo ms :: LX) R w) (hl : ls.getD line.toNat zLine = l) (hi : 0 ≤ line ∧ line < (ls.length : Int)) (hll : ls.length ≤ 100) (hn : ms.length ≤ 1000) (hid : Ao id) (hhome : Ao home) : Calls Tryz.prog 88 [bp bk 0, vi line].toArray w (Bs (fun v : Value => .tuple #[]) (fun v => blk bk 137 [vL, vi q.kind, vi q.line, vi q.value, vi id, vi home, v, vd] :: row 92 vL ls :: row 76 v (ms ++ [(Cd l id home line)]) :: LX) (fun v => R)) := by
 refine Zbe ?_;intro hid0 hhome0
 refine Ai Tryz.func88 rfl Tryz.ntmps88 rfl hs ?_
 clear hs
 refine Gl ?_
 refine Hv (ls := ls) (l := l) (i := line) pkk hl (by omega) (by omega) (fun hlw hA => ?_)
 have hlw0 := hlw
 unfold Line.wf Ao at hlw0
 have honeL : (ep vL 7 line.toNat 0).oneCell' = true := hA.one
 refine Zar ?_
 refine ob (Im (v := vL) (i := line) Ma (hl := Dj (α := Line) (xs := ls) pkk)) ?_
 refine Gb1 ?_
 refine Gb1 ?_
 refine Ga5 ?_
 refine cdy ?_ ?_
 ·intro ht17
  refine Aa ?_
  refine Ga5 ?_
  refine Bq ?_
  refine Aed ?_
  refine dtl ?_; intro ρ
  have er : (Cd l id home line) = ⟨l.want, id, home, line, l.serial, 0, l.value, false⟩ := by unfold Cd; rw [if_pos ht17]
  refine An Tryz.call96 rfl (fun w hs => Fj (vL := vL) (vd := vd) (q := q) (id := id) (home := home) (ms := ms) (kind := l.want) (line := line) (serial := l.serial) (turn := 0) (value := l.value) (LX := foc 92 vL ls line.toNat [vi l.state, vi l.value, vi l.want, vi l.serial, vi l.seen, vi l.gave, vi l.given] :: LX) (Ag hs) hn (by unfold Msg.wf Ao; simp only; omega)) ?_; intro v33
  refine Gl ?_
  rw [er]
  refine Bg (.inl rfl) (fun B w hs => H6 rfl _ w) (fun w hs => ⟨v33, rfl, Ag (Ek hl hlw (hs.pick pkk))⟩)
 ·intro ht17
  refine Gl ?_
  refine Bq ?_
  refine Aed ?_
  refine dtl ?_; intro ρ
  have er : (Cd l id home line) = ⟨l.want, id, home, line, l.serial, 0, 0, false⟩ := by unfold Cd; rw [if_neg ht17]
  refine An Tryz.call96 rfl (fun w hs => Fj (vL := vL) (vd := vd) (q := q) (id := id) (home := home) (ms := ms) (kind := l.want) (line := line) (serial := l.serial) (turn := 0) (value := 0) (LX := foc 92 vL ls line.toNat [vi l.state, vi l.value, vi l.want, vi l.serial, vi l.seen, vi l.gave, vi l.given] :: LX) (Ag hs) hn (by unfold Msg.wf Ao; simp only; omega)) ?_; intro v33
  refine Gl ?_
  rw [er]
  refine Bg (.inl rfl) (fun B w hs => H6 rfl _ w) (fun w hs => ⟨v33, rfl, Ag (Ek hl hlw (hs.pick pkk))⟩)
theorem Su {LX : List Chunk} {R : List Fact} {w : World} {vL vo vd : Value} {bk : Nat} {q : Op} {id home : Int} {ls : List Line} {l : Line} {q0 : Op} {ms : List Msg} {want : Int} (hs : St (blk bk 137 [vL, vi q0.kind, vi q0.line, vi q0.value, vi id, vi home, vo, vd] :: row 92 vL ls :: row 76 vo ms :: LX) R w) (hl : ls.getD q.line.toNat zLine = l) (hi : 0 ≤ q.line ∧ q.line < (ls.length : Int)) (hll : ls.length ≤ 100) (hid : Ao id) (hhome : Ao home) (hn : ms.length ≤ 1000) (hser : l.serial < 65535) (hw : Ao want) : Calls Tryz.prog 68 [bp bk 0, .agg q.cells.toArray, vi want].toArray w (Bs (fun v : Value => .tuple #[]) (fun v => blk bk 137 [vL, vi q.kind, vi q.line, vi q.value, vi id, vi home, v, vd] :: row 92 vL (ls.set q.line.toNat ({ l with want := want, serial := l.serial + 1 })) :: row 76 v (ms ++ [Cd ({ l with want := want, serial := l.serial + 1 }) id home q.line]) :: LX) (fun v => R)) := by
 refine Zbe ?_;intro hid0 hhome0
 have hw0 := hw
 unfold Ao at hw0
 refine Ai Tryz.func68 rfl Tryz.ntmps68 rfl hs ?_
 clear hs
 refine Gm ?_
 refine bx ?_; intro b4
 refine Gl ?_
 refine Zdx ?_;intro hlw hA hlw0 honeL
 refine Zdz ?_
 refine ZT ?_;intro ρ
 refine Gm ?_
 refine rn4 ?_
 refine sc ?_
 refine Gm ?_
 refine rn7 ?_
 refine sc ?_
 refine Gm ?_
 refine rn5 ?_
 refine s_N [vL, vi q.kind, vi q.line, vi q.value, vi id, vi home, vo, vd] Tryz.sizeOf36 ?_
 refine Gl ?_
 refine JC.conseq (L' := row 92 vL (ls.set q.line.toNat ({ l with want := want, serial := l.serial + 1 })) :: blk bk 137 [vL, vi q.kind, vi q.line, vi q.value, vi id, vi home, vo, vd] :: row 76 vo ms :: blk b4 36 q.cells :: LX) (fun w hs => Ag (Dk ({ l with want := want, serial := l.serial + 1 }) (by unfold Line.wf Ao; simp only; omega) (hs.pick pkk))) ?_
 refine ZL ?_
 refine An Tryz.call88 rfl (fun w hs => Rb (vL := vL) (vd := vd) (q := q) (id := id) (home := home) (ms := ms) (line := q.line) (ls := (ls.set q.line.toNat ({ l with want := want, serial := l.serial + 1 }))) (l := { l with want := want, serial := l.serial + 1 }) (LX := LX) (Ag hs) (by rw [List.getD_eq_getElem?_getD, List.getElem?_set_self (by omega)]; rfl) (by rw [List.length_set]; exact hi) (by rw [List.length_set]; exact hll) hn hid hhome) ?_; intro v34
 refine Gl ?_
 refine Bg (.inl rfl) (fun B w hs => H6 rfl _ w) (fun w hs => ⟨v34, rfl, Ag hs⟩)
theorem K2 {LX : List Chunk} {R : List Fact} {w : World} {vL vo vd : Value} {bk : Nat} {q : Op} {id home : Int} {ls : List Line} {l : Line} {q0 : Op} {ds : List Done} (hs : St (blk bk 137 [vL, vi q0.kind, vi q0.line, vi q0.value, vi id, vi home, vo, vd] :: row 92 vL ls :: row 119 vd ds :: LX) R w) (hl : ls.getD q.line.toNat zLine = l) (hi : 0 ≤ q.line ∧ q.line < (ls.length : Int)) (hll : ls.length ≤ 100) (hid : Ao id) (hhome : Ao home) (hn : ds.length ≤ 1000) (hq : q.wf) (hk : 1 ≤ q.kind ∧ q.kind ≤ 4) (hval : 0 ≤ q.value ∧ q.value ≤ 255) : Calls Tryz.prog 69 [bp bk 0, .agg q.cells.toArray].toArray w (Bs (fun v : Value => .tuple #[]) (fun v => blk bk 137 [vL, vi 0, vi 0, vi 0, vi id, vi home, vo, v] :: row 92 vL (ls.set q.line.toNat ({ l with value := (Ax l.value q).1 })) :: row 119 v (ds ++ [(⟨id, q, (Ax l.value q).2⟩ : Done)]) :: LX) (fun v => R)) := by
 refine Zbe ?_;intro hid0 hhome0
 refine Ai Tryz.func69 rfl Tryz.ntmps69 rfl hs ?_
 clear hs
 refine Zap ?_;intro b3
 refine Gl ?_
 refine Zdx ?_;intro hlw hA hlw0 honeL
 refine Zdz ?_
 refine ZT ?_;intro ρ
 refine Gm ?_
 refine rn3 ?_
 refine An Tryz.call89 rfl (fun w hs => Ahz (a := q.line + 1) hs (by omega) (by omega)) ?_; intro v19
 refine Ga1 ?_
 refine ZaK ?_
 refine djc (fun _ _ => Im Wc (h1 := by rw [List.length_replicate]; omega)) ?_
 refine dtl ?_; intro ρ
 refine Et (xs := List.replicate (q.line + 1).toNat 0) Tryz.sizeOf3 rfl rfl pkk (getD_some 0 (by rw [List.length_replicate]; omega)) (by unfold Ao; omega) ?_
 refine Gl ?_
 refine JC.shut (xs := (Jo l.value q)) (v := v19) pkk ?_
 have hml := L8 (v := l.value) hi.1
 refine ZD ?_
 refine An Tryz.call90 rfl (fun w hs => by have h := Aia (o := q) hs (List.Mem.head _); rw [Adl hk hi.1 hval] at h; exact h) ?_; intro v31
 refine Ga7 ?_
 refine JC.open0 (xs := (dX (Jo l.value q) q)) (v := v31) q.line.toNat mm (by unfold dX; rw [List.length_set, hml]; omega) (fun hw => ?_)
 have e9 : (dX (Jo l.value q) q).getD q.line.toNat 0 = (Ax l.value q).1 := by rw [dX_at (by rw [hml]; omega), Lp hi.1]
 refine kp [0, 3, 4, 5, 6, 35, 36, 37, 38, 39, 40, 41, 42] ?_
 refine ZE ?_
 refine ob (Im Wc (len := (dX (Jo l.value q) q).length) (hl := El (.tail _ (.head _))) (h1 := by unfold dX; rw [List.length_set, hml]; omega)) ?_
 refine rn3 ?_
 refine sc ?_
 refine Gl ?_
 have hvb := O5 (o := q) hlw.2.1 hval.1 hval.2
 have hvb2 := Ms (o := q) hlw.2.1
 unfold Ao at hvb hvb2
 have e9 : (dX (Jo l.value q) q).getD q.line.toNat El0.df = (Ax l.value q).1 := e9
 rw [e9]
 refine cq_ (blk bk 137 [vL, vi q0.kind, vi q0.line, vi q0.value, vi id, vi home, vo, vd] :: row 119 vd ds :: foc 92 vL ls q.line.toNat [vi l.state, vi (Ax l.value q).1, vi l.want, vi l.serial, vi l.seen, vi l.gave, vi l.given] :: blk b3 36 q.cells :: LX) ?_
 refine jd_ (fun ρ S => blk bk 137 (bif S 16 then [vL, vi q0.kind, vi q0.line, vi q0.value, vi id, vi home, vo, (Gh.dec (γ := Value) (ρ 13))] else [vL, vi q0.kind, vi q0.line, vi q0.value, vi id, vi home, vo, vd]) :: (bif S 13 then row 119 (Gh.dec (γ := Value) (ρ 13)) (ds ++ [(⟨id, q, (Ax l.value q).2⟩ : Done)]) else row 119 vd ds) :: foc 92 vL ls q.line.toNat [vi l.state, vi (Ax l.value q).1, vi l.want, vi l.serial, vi l.seen, vi l.gave, vi l.given] :: blk b3 36 q.cells :: (LX)) ?_
 refine dn4 ?_
 refine Ib (v := vd) (fun ρ S hS hB hA => by have h16 : S 16 = false := hA 16 ⟨0, rfl⟩; simp only [h16, cond_false]; exact Cz (hc := A0 pkk (by repeat (first | exact rfl | refine C5 rfl ?_))) Tryz.isAgg31) (fun _ _ _ _ _ => rfl) ?_
 refine dn3 ?_
 refine Ib (v := vi id) (fun ρ S hS hB hA => by have h16 : S 16 = false := hA 16 ⟨0, rfl⟩; simp only [h16, cond_false]; exact Cz (hc := A0 pkk (by repeat (first | exact rfl | refine C5 rfl ?_))) Tryz.isAgg3) (fun _ _ _ _ _ => rfl) ?_
 refine dn2 ?_
 first | refine epc (fun _ _ => Dx Fw) ?_ | refine epc (fun _ _ => Fd Fw) ?_ | refine epp (fun _ _ => Dx Fw) ?_ | refine epp (fun _ _ => Fd Fw) ?_
 refine Fe ([(⟨id, q, (Ax l.value q).2⟩ : Done)] : List Done) Gq rfl (fun _ => rfl) rfl (fun _ => rfl) rfl rfl (fun ρ R hd => F2 ⟨hid, hq.1, hq.2.1, hq.2.2, by unfold Ao; simp only; omega⟩) (fun _ _ _ _ _ => rfl) ?_
 refine Fi (e := 119) (xs := ds) (ys := [(⟨id, q, (Ax l.value q).2⟩ : Done)]) (v := vd) Gq (fun _ => rfl) (fun _ => rfl) rfl (by decide) (fun ρ R hd => (hd.dep (it := ⟨12, _, _, _, _⟩) (by repeat (first | exact List.Mem.head _ | refine List.Mem.tail _ ?_)) ⟨9, rfl⟩ (List.Mem.head _))) (by have : maxN = 16777216 := rfl; simp only [List.length_cons, List.length_nil]; omega) (fun ρ g S hS hB hA => ?_) ?_
 ·exact Zf6
 refine dn2 ?_
 refine Eb (T0 := 137) (f := 7) (vs := fun ρ => [vL, vi q0.kind, vi q0.line, vi q0.value, vi id, vi home, vo, vd]) (v := fun ρ => (Gh.dec (γ := Value) (ρ 13))) (fun ρ => bk) Tryz.sizeOf31 (fun _ => rfl) (fun _ => rfl) (fun ρ S R w L9 hB hd hs => by have h13 : S 13 = true := hB 13 ⟨9, rfl⟩; simp only [h13, cond_true] at hs; exact Bx pkk hs) (fun _ => rfl) (fun ρ g S hS hB hA => ?_) ?_
 ·exact ZfM
 refine dnl ?_; intro ρ
 refine xq_ (blk bk 137 [vL, vi q0.kind, vi q0.line, vi q0.value, vi id, vi home, vo, (Gh.dec (γ := Value) (ρ 13))] :: row 119 (Gh.dec (γ := Value) (ρ 13)) (ds ++ [(⟨id, q, (Ax l.value q).2⟩ : Done)]) :: foc 92 vL ls q.line.toNat [vi l.state, vi (Ax l.value q).1, vi l.want, vi l.serial, vi l.seen, vi l.gave, vi l.given] :: blk b3 36 q.cells :: (LX)) ?_
 generalize (Gh.dec (γ := Value) (ρ 12)) = v55
 generalize (Gh.dec (γ := Value) (ρ 13)) = v56
 refine ZI ?_
 refine Zbt ?_
 refine rn3 ?_
 refine s_N [vL, vi 0, vi 0, vi 0, vi id, vi home, vo, v56] Tryz.sizeOf36 ?_
 refine Gl ?_
 refine Bg (.inl rfl) (fun B w hs => H6 rfl _ w) (fun w hs => ⟨v56, rfl, Ag (Dk ({ l with value := (Ax l.value q).1 }) (by unfold Line.wf Ao; simp only; omega) (hs.pick pkk))⟩)
section
variable {ls : List Line} {q : Op} {id home : Int} {m : Msg} {l : Line}
theorem I7 (hl : ls.getD m.line.toNat zLine = l) (hi : 0 ≤ m.line ∧ m.line < (ls.length : Int)) (hk : m.kind = 5 ∨ m.kind = 6) : Ae ⟨ls, q⟩ id home m = (if D2 l m.turn then (⟨ls.set m.line.toNat (Cw l m.kind m.turn), if l.want = 3 then zOp else q⟩, [Bj 9 id home m.line m.turn l.value], if l.want = 3 then [⟨id, q, 0⟩] else []) else if m.turn = l.gave ∧ 0 < m.turn then (⟨ls, q⟩, [Bj 9 id home m.line l.gave l.given], []) else (⟨ls, q⟩, [], [])) := by
 subst hl
 unfold Ae
 rw [if_neg (by simp only; omega), if_neg (by omega), if_pos hk]; rfl
theorem Kc (hl : ls.getD m.line.toNat zLine = l) (hi : 0 ≤ m.line ∧ m.line < (ls.length : Int)) (hk : m.kind = 7) : Ae ⟨ls, q⟩ id home m = (if l.serial < m.serial then (⟨ls, q⟩, [], []) else if Gg l m then (⟨ls.set m.line.toNat (G0 l m q), zOp⟩, [Bj 10 id home m.line m.turn 0], [⟨id, q, (Ax m.value q).2⟩]) else (⟨ls, q⟩, [Bj 10 id home m.line m.turn 0], [])) := by
 subst hl
 unfold Ae
 rw [if_neg (by simp only; omega), if_neg (by omega), if_neg (by omega), if_pos hk]; rfl
end
theorem Ra {LX : List Chunk} {R : List Fact} {w : World} {vL vo vd : Value} {bk : Nat} {q : Op} {id home : Int} {ls : List Line} {l : Line} {bm : Nat} {ms : List Msg} {ds : List Done} {m : Msg} (hs : St (blk bk 137 [vL, vi q.kind, vi q.line, vi q.value, vi id, vi home, vo, vd] :: row 92 vL ls :: row 76 vo ms :: row 119 vd ds :: blk bm 76 m.cells :: LX) R w) (hl : ls.getD m.line.toNat zLine = l) (hi : 0 ≤ m.line ∧ m.line < (ls.length : Int)) (hll : ls.length ≤ 100) (hm : m.wf) (hid : Ao id) (hhome : Ao home) (hn : ms.length ≤ 1000) (hnd : ds.length ≤ 1000) (hq : q.wf) (hk : m.kind = 5 ∨ m.kind = 6) : Calls Tryz.prog 97 [bp bk 0, bp bm 0].toArray w (Bs (fun g : Value × Value => .tuple #[]) (fun g => blk bk 137 [vL, vi (Ae ⟨ls, q⟩ id home m).1.wait.kind, vi (Ae ⟨ls, q⟩ id home m).1.wait.line, vi (Ae ⟨ls, q⟩ id home m).1.wait.value, vi id, vi home, g.1, g.2] :: row 92 vL (Ae ⟨ls, q⟩ id home m).1.lines :: row 76 g.1 (ms ++ (Ae ⟨ls, q⟩ id home m).2.1) :: row 119 g.2 (ds ++ (Ae ⟨ls, q⟩ id home m).2.2) :: blk bm 76 m.cells :: LX) (fun g => R)) := by
 have hm0 := hm
 unfold Msg.wf Ao at hm0
 refine Zbe ?_;intro hid0 hhome0
 refine Ai Tryz.func97 rfl Tryz.ntmps97 rfl hs ?_
 clear hs
 refine Gl ?_
 refine Zcf ?_;intro hlw hA hlw0 honeL
 refine dn9 ?_
 refine Zci ?_;intro ρ
 refine Gl ?_
 refine kp [0, 1, 4, 15, 16, 17, 18, 19, 20, 21, 22, 23, 24, 25, 26, 27, 28, 29, 30, 31] ?_
 refine Cs 15 (.bool (decide ((m.turn = l.gave) ∧ (0 < m.turn)))) ?_ ?_
 ·rcases (show (¬ (m.turn = l.gave)) ∨ ((m.turn = l.gave) ∧ ¬ (0 < m.turn)) ∨ ((m.turn = l.gave) ∧ (0 < m.turn)) from by omega) with hm | hm | hm
  ·refine Zag ?_
   refine ZaA ?_
   refine djm ?_
   refine dn5 ?_
   refine djf ?_
   refine ZT ?_;intro ρ
   exact ZeV
  ·refine Zag ?_
   refine Zam ?_
   refine dn4 ?_
   refine dj (dgy ?_)
   refine dc (fun _ _ => Am rfl rfl (Pr (by omega))) ?_
   refine Zaq ?_;intro ρ
   exact ZeV
  ·refine kp [0, 1, 4, 15, 16, 17, 18, 19, 20, 21, 22, 23, 24, 25, 26, 27, 28, 29, 30, 31] ?_
   refine Zag ?_
   refine Zam ?_
   refine dn4 ?_
   refine dj (dgy ?_)
   refine dc (fun _ _ => Am rfl rfl (K4 (by omega))) ?_
   refine Zaq ?_;intro ρ
   exact ZeQ
 ·refine Av ?_
  first | (refine cdx (p := ?p1) (hd := ?d1) ?e1 ?_ ?_; case e1 => exact rfl) | (refine A9 (b := ?b1) ?e1 ?_ ?_; case e1 => exact rfl)
  ·intro ht15
   refine Gl ?_
   refine Bq ?_
   refine dn13 ?_
   refine dtl ?_; intro ρ
   refine An Tryz.call96 rfl (fun w hs => Fj (vL := vL) (vd := vd) (q := q) (id := id) (home := home) (ms := ms) (kind := 9) (line := m.line) (serial := 0) (turn := l.gave) (value := l.given) (LX := foc 92 vL ls m.line.toNat [vi l.state, vi l.value, vi l.want, vi l.serial, vi l.seen, vi l.gave, vi l.given] :: row 119 vd ds :: blk bm 76 m.cells :: LX) (Ag hs) hn (by unfold Msg.wf Ao; simp only; omega)) ?_; intro v142
   refine Gl ?_
   have er : (Ae ⟨ls, q⟩ id home m) = (⟨ls, q⟩, [Bj 9 id home m.line l.gave l.given], []) := by rw [I7 hl hi hk, if_neg (by unfold D2; omega), if_pos ht15]
   rw [er, List.append_nil]
   refine Bg (.inl rfl) (fun B w hs => H6 rfl _ w) (fun w hs => ⟨(v142, vd), rfl, Ag (Ek hl hlw (hs.pick pkk))⟩)
  ·intro ht15
   refine Gl ?_
   refine kp [0, 1, 4, 32, 33, 34, 35, 36, 37, 38, 39, 40, 41, 42, 43, 44, 45, 46, 47, 48, 49, 50, 51, 52, 53, 54, 55] ?_
   refine Cs 32 (.bool (decide (l.seen < m.turn ∧ (l.state = 2 ∨ l.state = 3)))) ?_ ?_
   ·rcases (show (m.turn ≤ l.seen) ∨ (l.seen < m.turn ∧ l.state = 2) ∨ (l.seen < m.turn ∧ l.state ≠ 2 ∧ l.state = 3) ∨ (l.seen < m.turn ∧ l.state ≠ 2 ∧ l.state ≠ 3) from by omega) with hm | hm | hm | hm
    ·refine Zag ?_
     refine djc (fun _ _ => Am rfl rfl (Pr (by omega))) ?_
     refine djm ?_
     refine dn12 ?_
     refine djf ?_
     refine ZT ?_;intro ρ
     exact ZeV
    ·refine Zdk ?_
     refine dj (dgy ?_)
     refine ZaE ?_
     refine dj (dgy ?_)
     refine dc (fun _ _ => Ls) ?_
     refine dn5 ?_
     refine dj (dgy ?_)
     refine dc (fun _ _ => Eo) ?_
     refine Zaq ?_;intro ρ
     exact ZeQ
    ·refine kp [0, 1, 4, 32, 33, 34, 35, 36, 37, 38, 39, 40, 41, 42, 43, 44, 45, 46, 47, 48, 49, 50, 51, 52, 53, 54, 55] ?_
     refine Zdk ?_
     refine dj (dgy ?_)
     refine Zaw ?_
     refine dj (dgy ?_)
     refine dc (fun _ _ => Ls) ?_
     refine dn4 ?_
     refine dj (dgy ?_)
     refine ZaE ?_
     refine dj (dgy ?_)
     refine dc (fun _ _ => Adt) ?_
     refine Zaq ?_;intro ρ
     exact ZeQ
    ·refine Zdk ?_
     refine dj (dgy ?_)
     refine Zaw ?_
     refine dj (dgy ?_)
     refine dc (fun _ _ => Ls) ?_
     refine dn4 ?_
     refine dj (dgy ?_)
     refine Zaw ?_
     refine dj (dgy ?_)
     refine dc (fun _ _ => Adt) ?_
     refine Zaq ?_;intro ρ
     exact ZeV
   ·refine Av ?_
    first | (refine cdx (p := ?p2) (hd := ?d2) ?e2 ?_ ?_; case e2 => exact rfl) | (refine A9 (b := ?b2) ?e2 ?_ ?_; case e2 => exact rfl)
    ·intro ht32
     refine Gl ?_
     refine kp [0, 1, 4, 56, 57, 58, 59, 60, 61, 62, 63, 64, 65, 66, 67, 68, 69, 70, 71, 72, 73, 74, 75, 76] ?_
     refine ZdV ?_
     refine jd_ (fun ρ S => foc 92 vL ls m.line.toNat (bif S 23 then [vi l.state, vi l.value, vi l.want, vi l.serial, vi m.turn, vi m.turn, vi l.value] else (bif S 20 then [vi l.state, vi l.value, vi l.want, vi l.serial, vi l.seen, vi m.turn, vi l.value] else (bif S 17 then [vi l.state, vi l.value, vi l.want, vi l.serial, vi l.seen, vi m.turn, vi l.given] else [vi l.state, vi l.value, vi l.want, vi l.serial, vi l.seen, vi l.gave, vi l.given]))) :: blk bk 137 [vL, vi q.kind, vi q.line, vi q.value, vi id, vi home, vo, vd] :: row 76 vo ms :: row 119 vd ds :: blk bm 76 m.cells :: (LX)) ?_
     refine Xv ?_
     refine Jy (v := vi l.value) (fun ρ S => Cz Tryz.isAgg3 (hc := at_f1 (α := Line) (xs := ls) pkk rfl (by repeat (first | exact rfl | refine C5 rfl ?_)))) (fun _ _ _ _ _ => rfl) ?_
     refine dn6 ?_
     refine En (T0 := 92) (f := 5) (k := m.line.toNat) (sz := 7) (hv := vL) (xs := ls) (vs := fun ρ => [vi l.state, vi l.value, vi l.want, vi l.serial, vi l.seen, vi l.gave, vi l.given]) (v := fun ρ => (vi m.turn)) rfl Tryz.sizeOf3 (fun _ => rfl) (fun _ => rfl) (fun _ _ _ _ _ _ _ _ => rfl) (fun _ => rfl) (fun ρ g S hS hB hA => ?_) ?_
     ·have ui : upS S 17 17 = true := rfl; have u20 : upS S 17 20 = S 20 := rfl; have u23 : upS S 17 23 = S 23 := rfl; have h20 : S 20 = false := hA 20 ⟨0, rfl⟩; have h23 : S 23 = false := hA 23 ⟨0, rfl⟩
      simp only [ui, hS, u20, u23, h20, h23, cond_true, cond_false]
      exact pex
     refine dn2 ?_
     refine En (T0 := 92) (f := 6) (k := m.line.toNat) (sz := 7) (hv := vL) (xs := ls) (vs := fun ρ => [vi l.state, vi l.value, vi l.want, vi l.serial, vi l.seen, vi m.turn, vi l.given]) (v := fun ρ => (vi l.value)) rfl Tryz.sizeOf3 (fun _ => rfl) (fun _ => rfl) (fun _ _ _ _ _ _ _ _ => rfl) (fun _ => rfl) (fun ρ g S hS hB hA => ?_) ?_
     ·have ui : upS S 20 20 = true := rfl; have u17 : upS S 20 17 = S 17 := rfl; have u23 : upS S 20 23 = S 23 := rfl; have h17 : S 17 = true := hB 17 ⟨0, rfl⟩; have h23 : S 23 = false := hA 23 ⟨0, rfl⟩
      simp only [ui, hS, u17, u23, h17, h23, cond_true, cond_false]
      exact pex
     refine dn2 ?_
     refine En (T0 := 92) (f := 4) (k := m.line.toNat) (sz := 7) (hv := vL) (xs := ls) (vs := fun ρ => [vi l.state, vi l.value, vi l.want, vi l.serial, vi l.seen, vi m.turn, vi l.value]) (v := fun ρ => (vi m.turn)) rfl Tryz.sizeOf3 (fun _ => rfl) (fun _ => rfl) (fun _ _ _ _ _ _ _ _ => rfl) (fun _ => rfl) (fun ρ g S hS hB hA => ?_) ?_
     ·have ui : upS S 23 23 = true := rfl; have u17 : upS S 23 17 = S 17 := rfl; have u20 : upS S 23 20 = S 20 := rfl; have h17 : S 17 = true := hB 17 ⟨0, rfl⟩; have h20 : S 20 = true := hB 20 ⟨0, rfl⟩
      simp only [ui, hS, u17, u20, h17, h20, cond_true, cond_false]
      exact pex
     refine dnl ?_; intro ρ
     refine xq_ (foc 92 vL ls m.line.toNat [vi l.state, vi l.value, vi l.want, vi l.serial, vi m.turn, vi m.turn, vi l.value] :: blk bk 137 [vL, vi q.kind, vi q.line, vi q.value, vi id, vi home, vo, vd] :: row 76 vo ms :: row 119 vd ds :: blk bm 76 m.cells :: (LX)) ?_
     refine Zad ?_
     refine sc ?_
     refine Zau ?_
     refine cdy ?_ ?_
     ·intro ht84
      refine kp [0, 1, 4, 85, 86, 87, 88, 89, 90] ?_
      refine ZE ?_
      refine sc ?_
      refine Zan ?_
      refine Zau ?_
      refine cdy ?_ ?_
      ·exact ZeD
      ·intro ht95
       refine Gl ?_
       refine Bq ?_
       refine dn13 ?_
       refine dtl ?_; intro ρ
       refine An Tryz.call96 rfl (fun w hs => Fj (vL := vL) (vd := vd) (q := q) (id := id) (home := home) (ms := ms) (kind := 9) (line := m.line) (serial := 0) (turn := m.turn) (value := l.value) (LX := foc 92 vL ls m.line.toNat [vi 0, vi 0, vi l.want, vi l.serial, vi m.turn, vi m.turn, vi l.value] :: row 119 vd ds :: blk bm 76 m.cells :: LX) (Ag hs) hn (by unfold Msg.wf Ao; simp only; omega)) ?_; intro v142
       refine Gl ?_
       have ef : Cw l m.kind m.turn = { l with seen := m.turn, gave := m.turn, given := l.value, state := 0, value := 0 } := by unfold Cw; rw [if_neg ht95, if_pos ht84]
       have er : (Ae ⟨ls, q⟩ id home m) = (⟨ls.set m.line.toNat ({ l with seen := m.turn, gave := m.turn, given := l.value, state := 0, value := 0 }), q⟩, [Bj 9 id home m.line m.turn l.value], []) := by rw [I7 hl hi hk, if_pos (by unfold D2; omega), ef, if_neg ht95, if_neg ht95]
       rw [er, List.append_nil]
       refine Bg (.inl rfl) (fun B w hs => H6 rfl _ w) (fun w hs => ⟨(v142, vd), rfl, Ag (Dk ({ l with seen := m.turn, gave := m.turn, given := l.value, state := 0, value := 0 }) (by unfold Line.wf Ao; simp only; omega) (hs.pick pkk))⟩)
     ·intro ht84
      refine Gl ?_
      refine kp [0, 1, 4, 91, 92, 93, 94, 95] ?_
      refine Aa ?_
      refine Ga5 ?_
      refine cdy ?_ ?_
      ·exact ZeD
      ·intro ht95
       refine Gl ?_
       refine Bq ?_
       refine dn13 ?_
       refine dtl ?_; intro ρ
       refine An Tryz.call96 rfl (fun w hs => Fj (vL := vL) (vd := vd) (q := q) (id := id) (home := home) (ms := ms) (kind := 9) (line := m.line) (serial := 0) (turn := m.turn) (value := l.value) (LX := foc 92 vL ls m.line.toNat [vi 1, vi l.value, vi l.want, vi l.serial, vi m.turn, vi m.turn, vi l.value] :: row 119 vd ds :: blk bm 76 m.cells :: LX) (Ag hs) hn (by unfold Msg.wf Ao; simp only; omega)) ?_; intro v142
       refine Gl ?_
       have ef : Cw l m.kind m.turn = { l with seen := m.turn, gave := m.turn, given := l.value, state := 1 } := by unfold Cw; rw [if_neg ht95, if_neg ht84]
       have er : (Ae ⟨ls, q⟩ id home m) = (⟨ls.set m.line.toNat ({ l with seen := m.turn, gave := m.turn, given := l.value, state := 1 }), q⟩, [Bj 9 id home m.line m.turn l.value], []) := by rw [I7 hl hi hk, if_pos (by unfold D2; omega), ef, if_neg ht95, if_neg ht95]
       rw [er, List.append_nil]
       refine Bg (.inl rfl) (fun B w hs => H6 rfl _ w) (fun w hs => ⟨(v142, vd), rfl, Ag (Dk ({ l with seen := m.turn, gave := m.turn, given := l.value, state := 1 }) (by unfold Line.wf Ao; simp only; omega) (hs.pick pkk))⟩)
    ·intro ht32
     refine Gl ?_
     have er : (Ae ⟨ls, q⟩ id home m) = (⟨ls, q⟩, [], []) := by rw [I7 hl hi hk, if_neg (by unfold D2; omega), if_neg ht15]
     exact ZfT
theorem Yb {LX : List Chunk} {R : List Fact} {w : World} {vL vo vd : Value} {bk : Nat} {q : Op} {id home : Int} {ls : List Line} {l : Line} {bm : Nat} {ms : List Msg} {ds : List Done} {m : Msg} (hs : St (blk bk 137 [vL, vi q.kind, vi q.line, vi q.value, vi id, vi home, vo, vd] :: row 92 vL ls :: row 76 vo ms :: row 119 vd ds :: blk bm 76 m.cells :: LX) R w) (hl : ls.getD m.line.toNat zLine = l) (hi : 0 ≤ m.line ∧ m.line < (ls.length : Int)) (hll : ls.length ≤ 100) (hm : m.wf) (hid : Ao id) (hhome : Ao home) (hn : ms.length ≤ 1000) (hnd : ds.length ≤ 1000) (hq : q.wf) (hk : m.kind = 7) (hqa : Gg l m → q.line = m.line ∧ (1 ≤ q.kind ∧ q.kind ≤ 4) ∧ 0 ≤ q.value ∧ q.value ≤ 255) : Calls Tryz.prog 98 [bp bk 0, bp bm 0].toArray w (Bs (fun g : Value × Value => .tuple #[]) (fun g => blk bk 137 [vL, vi (Ae ⟨ls, q⟩ id home m).1.wait.kind, vi (Ae ⟨ls, q⟩ id home m).1.wait.line, vi (Ae ⟨ls, q⟩ id home m).1.wait.value, vi id, vi home, g.1, g.2] :: row 92 vL (Ae ⟨ls, q⟩ id home m).1.lines :: row 76 g.1 (ms ++ (Ae ⟨ls, q⟩ id home m).2.1) :: row 119 g.2 (ds ++ (Ae ⟨ls, q⟩ id home m).2.2) :: blk bm 76 m.cells :: LX) (fun g => R)) := by
 have hm0 := hm
 unfold Msg.wf Ao at hm0
 refine Zbe ?_;intro hid0 hhome0
 refine Ai Tryz.func98 rfl Tryz.ntmps98 rfl hs ?_
 clear hs
 refine Gl ?_
 refine Zcf ?_;intro hlw hA hlw0 honeL
 refine dn9 ?_
 refine Zci ?_;intro ρ
 refine Gl ?_
 refine Bq ?_
 refine dn9 ?_
 refine dnl ?_; intro ρ
 refine Gl ?_
 refine cdy ?_ ?_
 ·intro ht24
  refine Gl ?_
  have er : (Ae ⟨ls, q⟩ id home m) = (⟨ls, q⟩, [], []) := by rw [Kc hl hi hk, if_pos (by omega)]
  exact ZfT
 ·intro ht24
  refine Gl ?_
  refine Zdf ?_
  refine Cs 5 (.bool (decide ((l.want = 1 ∧ m.alone = false) ∨ (l.want = 2 ∧ m.alone = true)))) ?_ ?_
  ·rcases (show (l.want = 1 ∧ m.alone = false) ∨ (l.want = 1 ∧ m.alone = true) ∨ (l.want = 2 ∧ m.alone = true) ∨ (l.want = 2 ∧ m.alone = false) ∨ (l.want ≠ 1 ∧ l.want ≠ 2) from by rcases Bool.eq_false_or_eq_true m.alone with h1 | h1 <;> simp only [h1, and_true, and_false, or_false, false_or, reduceCtorEq] <;> omega) with hm | hm | hm | hm | hm
   ·obtain ⟨hc1, hal⟩ := hm
    refine Zbv ?_
    refine Zbx ?_
    refine Ga16 ?_
    exact Zfq
   ·obtain ⟨hc1, hal⟩ := hm
    refine Zbv ?_
    refine ZbK ?_
    refine rn7 ?_
    refine gy ?_
    refine Aw ?_
    refine Ga8 ?_
    exact ZeS
   ·obtain ⟨hc1, hal⟩ := hm
    refine Zdf ?_
    refine ZbN ?_
    refine Cf ?_
    refine ZM ?_
    refine ZbK ?_
    refine Ga3 ?_
    exact Zfq
   ·obtain ⟨hc1, hal⟩ := hm
    refine ZbN ?_
    refine Cf ?_
    refine ZM ?_
    refine Zbx ?_
    refine Ga3 ?_
    exact ZeS
   ·refine Zdf ?_
    refine ZbN ?_
    refine Aw ?_
    refine Ga8 ?_
    exact ZeS
  ·refine Av ?_
   refine Gl ?_
   rcases (show (m.serial = l.serial) ∨ (m.serial ≠ l.serial) from by omega) with hc | hc
   ·refine Zag ?_
    refine Zam ?_
    refine dn1 ?_
    refine ZZ ?_
    refine dnl ?_; intro ρ
    refine Gl ?_
    first | (refine cdx (p := ?p2) (hd := ?d2) ?e2 ?_ ?_; case e2 => exact rfl) | (refine A9 (b := ?b2) ?e2 ?_ ?_; case e2 => exact rfl)
    ·intro ht61
     have haq : Gg l m := ⟨hc, ht61⟩
     obtain ⟨hq1, hq2, hq3⟩ := hqa haq
     refine Gl ?_
     refine kp [0, 1, 4, 62, 63, 64, 65, 66, 67, 68, 69, 70, 71, 72, 73, 74, 75, 76, 77, 78, 79, 80, 81] ?_
     refine ZdV ?_
     refine jd_ (fun ρ S => foc 92 vL ls m.line.toNat (bif S 23 then [vi 1, vi m.value, vi 0, vi l.serial, vi m.turn, vi l.gave, vi l.given] else (bif S 20 then [vi 1, vi m.value, vi 0, vi l.serial, vi l.seen, vi l.gave, vi l.given] else (bif S 17 then [vi 1, vi m.value, vi l.want, vi l.serial, vi l.seen, vi l.gave, vi l.given] else (bif S 14 then [vi 1, vi l.value, vi l.want, vi l.serial, vi l.seen, vi l.gave, vi l.given] else [vi l.state, vi l.value, vi l.want, vi l.serial, vi l.seen, vi l.gave, vi l.given])))) :: blk bk 137 [vL, vi q.kind, vi q.line, vi q.value, vi id, vi home, vo, vd] :: row 76 vo ms :: row 119 vd ds :: blk bm 76 m.cells :: (LX)) ?_
     refine dn14 ?_
     refine En (T0 := 92) (f := 0) (k := m.line.toNat) (sz := 7) (hv := vL) (xs := ls) (vs := fun ρ => [vi l.state, vi l.value, vi l.want, vi l.serial, vi l.seen, vi l.gave, vi l.given]) (v := fun ρ => (vi 1)) rfl Tryz.sizeOf3 (fun _ => rfl) (fun _ => rfl) (fun _ _ _ _ _ _ _ _ => rfl) (fun _ => rfl) (fun ρ g S hS hB hA => ?_) ?_
     ·have ui : upS S 14 14 = true := rfl; have u17 : upS S 14 17 = S 17 := rfl; have u20 : upS S 14 20 = S 20 := rfl; have u23 : upS S 14 23 = S 23 := rfl; have h17 : S 17 = false := hA 17 ⟨0, rfl⟩; have h20 : S 20 = false := hA 20 ⟨0, rfl⟩; have h23 : S 23 = false := hA 23 ⟨0, rfl⟩
      simp only [ui, hS, u17, u20, u23, h17, h20, h23, cond_true, cond_false]
      exact pex
     refine dn2 ?_
     refine En (T0 := 92) (f := 1) (k := m.line.toNat) (sz := 7) (hv := vL) (xs := ls) (vs := fun ρ => [vi 1, vi l.value, vi l.want, vi l.serial, vi l.seen, vi l.gave, vi l.given]) (v := fun ρ => (vi m.value)) rfl Tryz.sizeOf3 (fun _ => rfl) (fun _ => rfl) (fun _ _ _ _ _ _ _ _ => rfl) (fun _ => rfl) (fun ρ g S hS hB hA => ?_) ?_
     ·have ui : upS S 17 17 = true := rfl; have u14 : upS S 17 14 = S 14 := rfl; have u20 : upS S 17 20 = S 20 := rfl; have u23 : upS S 17 23 = S 23 := rfl; have h14 : S 14 = true := hB 14 ⟨0, rfl⟩; have h20 : S 20 = false := hA 20 ⟨0, rfl⟩; have h23 : S 23 = false := hA 23 ⟨0, rfl⟩
      simp only [ui, hS, u14, u20, u23, h14, h20, h23, cond_true, cond_false]
      exact pex
     refine dn2 ?_
     refine En (T0 := 92) (f := 2) (k := m.line.toNat) (sz := 7) (hv := vL) (xs := ls) (vs := fun ρ => [vi 1, vi m.value, vi l.want, vi l.serial, vi l.seen, vi l.gave, vi l.given]) (v := fun ρ => (vi 0)) rfl Tryz.sizeOf3 (fun _ => rfl) (fun _ => rfl) (fun _ _ _ _ _ _ _ _ => rfl) (fun _ => rfl) (fun ρ g S hS hB hA => ?_) ?_
     ·have ui : upS S 20 20 = true := rfl; have u14 : upS S 20 14 = S 14 := rfl; have u17 : upS S 20 17 = S 17 := rfl; have u23 : upS S 20 23 = S 23 := rfl; have h14 : S 14 = true := hB 14 ⟨0, rfl⟩; have h17 : S 17 = true := hB 17 ⟨0, rfl⟩; have h23 : S 23 = false := hA 23 ⟨0, rfl⟩
      simp only [ui, hS, u14, u17, u23, h14, h17, h23, cond_true, cond_false]
      exact pex
     refine dn2 ?_
     refine En (T0 := 92) (f := 4) (k := m.line.toNat) (sz := 7) (hv := vL) (xs := ls) (vs := fun ρ => [vi 1, vi m.value, vi 0, vi l.serial, vi l.seen, vi l.gave, vi l.given]) (v := fun ρ => (vi m.turn)) rfl Tryz.sizeOf3 (fun _ => rfl) (fun _ => rfl) (fun _ _ _ _ _ _ _ _ => rfl) (fun _ => rfl) (fun ρ g S hS hB hA => ?_) ?_
     ·have ui : upS S 23 23 = true := rfl; have u14 : upS S 23 14 = S 14 := rfl; have u17 : upS S 23 17 = S 17 := rfl; have u20 : upS S 23 20 = S 20 := rfl; have h14 : S 14 = true := hB 14 ⟨0, rfl⟩; have h17 : S 17 = true := hB 17 ⟨0, rfl⟩; have h20 : S 20 = true := hB 20 ⟨0, rfl⟩
      simp only [ui, hS, u14, u17, u20, h14, h17, h20, cond_true, cond_false]
      exact pex
     refine dnl ?_; intro ρ
     refine xq_ (foc 92 vL ls m.line.toNat [vi 1, vi m.value, vi 0, vi l.serial, vi m.turn, vi l.gave, vi l.given] :: blk bk 137 [vL, vi q.kind, vi q.line, vi q.value, vi id, vi home, vo, vd] :: row 76 vo ms :: row 119 vd ds :: blk bm 76 m.cells :: (LX)) ?_
     refine Zav ?_
     refine A9 (b := ?b3) ?e3 ?_ ?_; case e3 => exact rfl
     ·intro ht85
      refine ZL ?_
      refine sc ?_
      refine Gl ?_
      refine JC.conseq (L' := row 92 vL (ls.set m.line.toNat ({ l with state := 2, value := m.value, want := 0, seen := m.turn })) :: blk bk 137 [vL, vi q.kind, vi q.line, vi q.value, vi id, vi home, vo, vd] :: row 76 vo ms :: row 119 vd ds :: blk bm 76 m.cells :: LX) (fun w hs => Ag (Dk ({ l with state := 2, value := m.value, want := 0, seen := m.turn }) (by unfold Line.wf Ao; simp only; omega) (hs.pick pkk))) ?_
      refine kp [0, 1, 89, 90, 91, 92, 93, 94] ?_
      refine Za2 ?_
      refine ob (Fc 3 Tryz.isAgg36 Tryz.sizeOf36) ?_
      refine An Tryz.call69 rfl (fun w hs => K2 (vL := vL) (vd := vd) (q := q) (q0 := q) (id := id) (home := home) (ds := ds) (ls := ls.set m.line.toNat ({ l with state := 2, value := m.value, want := 0, seen := m.turn })) (l := { l with state := 2, value := m.value, want := 0, seen := m.turn }) (LX := row 76 vo ms :: blk bm 76 m.cells :: LX) (Ag hs) (by rw [hq1, List.getD_eq_getElem?_getD, List.getElem?_set_self (by omega)]; rfl) (by rw [hq1, List.length_set]; exact hi) (by rw [List.length_set]; exact hll) hid hhome hnd hq hq2 hq3) ?_; intro v95
      refine J.conseq (L' := blk bk 137 [vL, vi 0, vi 0, vi 0, vi id, vi home, vo, v95] :: row 92 vL (ls.set m.line.toNat ({ l with state := 2, value := (Ax m.value q).1, want := 0, seen := m.turn })) :: row 119 v95 (ds ++ [(⟨id, q, (Ax m.value q).2⟩ : Done)]) :: row 76 vo ms :: blk bm 76 m.cells :: LX) (fun w hs => by rw [hq1, List.set_set] at hs; exact Ag hs) ?_
      refine Gl ?_
      refine Bq ?_
      refine dn9 ?_
      refine dtl ?_; intro ρ
      refine An Tryz.call96 rfl (fun w hs => Fj (vL := vL) (vd := v95) (q := zOp) (id := id) (home := home) (ms := ms) (kind := 10) (line := m.line) (serial := 0) (turn := m.turn) (value := 0) (LX := row 92 vL (ls.set m.line.toNat ({ l with state := 2, value := (Ax m.value q).1, want := 0, seen := m.turn })) :: row 119 v95 (ds ++ [(⟨id, q, (Ax m.value q).2⟩ : Done)]) :: blk bm 76 m.cells :: LX) (Ag hs) hn (by unfold Msg.wf Ao; simp only; omega)) ?_; intro v105
      refine Gl ?_
      have eg : G0 l m q = { l with state := 2, value := (Ax m.value q).1, want := 0, seen := m.turn } := by unfold G0; rw [ht85, if_pos rfl]
      have er : (Ae ⟨ls, q⟩ id home m) = (⟨ls.set m.line.toNat ({ l with state := 2, value := (Ax m.value q).1, want := 0, seen := m.turn }), zOp⟩, [Bj 10 id home m.line m.turn 0], [⟨id, q, (Ax m.value q).2⟩]) := by rw [Kc hl hi hk, if_neg (by omega), if_pos haq, eg]
      rw [er]
      refine Bg (.inl rfl) (fun B w hs => H6 rfl _ w) (fun w hs => ⟨(v105, v95), rfl, Ag hs⟩)
     ·intro ht85
      refine Gl ?_
      refine JC.conseq (L' := row 92 vL (ls.set m.line.toNat ({ l with state := 1, value := m.value, want := 0, seen := m.turn })) :: blk bk 137 [vL, vi q.kind, vi q.line, vi q.value, vi id, vi home, vo, vd] :: row 76 vo ms :: row 119 vd ds :: blk bm 76 m.cells :: LX) (fun w hs => Ag (Dk ({ l with state := 1, value := m.value, want := 0, seen := m.turn }) (by unfold Line.wf Ao; simp only; omega) (hs.pick pkk))) ?_
      refine Za2 ?_
      refine ob (Fc 3 Tryz.isAgg36 Tryz.sizeOf36) ?_
      refine An Tryz.call69 rfl (fun w hs => K2 (vL := vL) (vd := vd) (q := q) (q0 := q) (id := id) (home := home) (ds := ds) (ls := ls.set m.line.toNat ({ l with state := 1, value := m.value, want := 0, seen := m.turn })) (l := { l with state := 1, value := m.value, want := 0, seen := m.turn }) (LX := row 76 vo ms :: blk bm 76 m.cells :: LX) (Ag hs) (by rw [hq1, List.getD_eq_getElem?_getD, List.getElem?_set_self (by omega)]; rfl) (by rw [hq1, List.length_set]; exact hi) (by rw [List.length_set]; exact hll) hid hhome hnd hq hq2 hq3) ?_; intro v95
      refine J.conseq (L' := blk bk 137 [vL, vi 0, vi 0, vi 0, vi id, vi home, vo, v95] :: row 92 vL (ls.set m.line.toNat ({ l with state := 1, value := (Ax m.value q).1, want := 0, seen := m.turn })) :: row 119 v95 (ds ++ [(⟨id, q, (Ax m.value q).2⟩ : Done)]) :: row 76 vo ms :: blk bm 76 m.cells :: LX) (fun w hs => by rw [hq1, List.set_set] at hs; exact Ag hs) ?_
      refine Gl ?_
      refine kp [0, 1, 96, 97, 98, 99, 100, 101, 102, 103, 104] ?_
      refine Bq ?_
      refine dn9 ?_
      refine dtl ?_; intro ρ
      refine An Tryz.call96 rfl (fun w hs => Fj (vL := vL) (vd := v95) (q := zOp) (id := id) (home := home) (ms := ms) (kind := 10) (line := m.line) (serial := 0) (turn := m.turn) (value := 0) (LX := row 92 vL (ls.set m.line.toNat ({ l with state := 1, value := (Ax m.value q).1, want := 0, seen := m.turn })) :: row 119 v95 (ds ++ [(⟨id, q, (Ax m.value q).2⟩ : Done)]) :: blk bm 76 m.cells :: LX) (Ag hs) hn (by unfold Msg.wf Ao; simp only; omega)) ?_; intro v105
      refine Gl ?_
      have eg : G0 l m q = { l with state := 1, value := (Ax m.value q).1, want := 0, seen := m.turn } := by unfold G0; rw [ht85, if_neg (by decide)]
      have er : (Ae ⟨ls, q⟩ id home m) = (⟨ls.set m.line.toNat ({ l with state := 1, value := (Ax m.value q).1, want := 0, seen := m.turn }), zOp⟩, [Bj 10 id home m.line m.turn 0], [⟨id, q, (Ax m.value q).2⟩]) := by rw [Kc hl hi hk, if_neg (by omega), if_pos haq, eg]
      rw [er]
      refine Bg (.inl rfl) (fun B w hs => H6 rfl _ w) (fun w hs => ⟨(v105, v95), rfl, Ag hs⟩)
    ·intro ht61
     refine Gl ?_
     refine ZdJ ?_;intro ρ v105
     have er : (Ae ⟨ls, q⟩ id home m) = (⟨ls, q⟩, [Bj 10 id home m.line m.turn 0], []) := by rw [Kc hl hi hk, if_neg (by omega), if_neg (fun h => ht61 h.2)]
     rw [er, List.append_nil]
     refine Bg (.inl rfl) (fun B w hs => H6 rfl _ w) (fun w hs => ⟨(v105, vd), rfl, Ag (Ek hl hlw (hs.pick pkk))⟩)
   ·refine Zag ?_
    refine ZaA ?_
    refine djm ?_
    refine dn1 ?_
    refine djf ?_
    refine dnl ?_; intro ρ
    refine Glc ?_
    refine ZdJ ?_;intro ρ v105
    have er : (Ae ⟨ls, q⟩ id home m) = (⟨ls, q⟩, [Bj 10 id home m.line m.turn 0], []) := by rw [Kc hl hi hk, if_neg (by omega), if_neg (fun h => hc h.1)]
    rw [er, List.append_nil]
    refine Bg (.inl rfl) (fun B w hs => H6 rfl _ w) (fun w hs => ⟨(v105, vd), rfl, Ag (Ek hl hlw (hs.pick pkk))⟩)
section
variable {ls : List Line} {q : Op} {id home : Int} {m : Msg} {l : Line}
theorem Pb (hl : ls.getD m.line.toNat zLine = l) (hi : 0 ≤ m.line ∧ m.line < (ls.length : Int)) (hk : m.kind = 4) : Ae ⟨ls, q⟩ id home m = (⟨ls.set m.line.toNat (Db l m.turn), q⟩, [Bj 8 id home m.line m.turn 0], []) := by
 subst hl
 unfold Ae
 rw [if_neg (by simp only; omega), if_pos hk]; rfl
theorem Qx (hl : ls.getD m.line.toNat zLine = l) (hi : 0 ≤ m.line ∧ m.line < (ls.length : Int)) (hk : m.kind = 11) : Ae ⟨ls, q⟩ id home m = (if l.want = 3 ∧ m.serial = l.serial then (⟨ls.set m.line.toNat { l with state := 0, value := 0, want := 0 }, zOp⟩, [], [⟨id, q, 0⟩]) else (⟨ls, q⟩, [], [])) := by
 subst hl
 unfold Ae
 rw [if_neg (by simp only; omega), if_neg (by omega), if_neg (by omega), if_neg (by omega)]
 by_cases h : (ls.getD m.line.toNat zLine).want = 3 ∧ m.serial = (ls.getD m.line.toNat zLine).serial
 ·rw [if_pos h, if_pos ⟨hk, h⟩]; rfl
 ·rw [if_neg h, if_neg (fun g => h g.2)]
theorem Abf (hi : 0 ≤ m.line ∧ m.line < (ls.length : Int)) (hk : m.kind ≠ 4 ∧ m.kind ≠ 5 ∧ m.kind ≠ 6 ∧ m.kind ≠ 7 ∧ m.kind ≠ 11) : Ae ⟨ls, q⟩ id home m = (⟨ls, q⟩, [], []) := by
 unfold Ae
 rw [if_neg (by simp only; omega), if_neg (by omega), if_neg (by omega), if_neg (by omega), if_neg (by omega)]
end
structure KH (c : Core) : Prop where
 n : c.lines.length ≤ 4
 w : CW c c.lines.length
theorem KB.kh {c : Core} (h : KB c) : KH c := ⟨h.n, h.w⟩
theorem KH.wline {c : Core} (h : KH c) (i : Int) (h0 : 0 ≤ i) (hi : i.toNat < c.lines.length) (hw : (Ac c i).want ≠ 0) : c.wait.line = i ∧ (1 ≤ c.wait.kind ∧ c.wait.kind ≤ 4) ∧ 0 ≤ c.wait.value ∧ c.wait.value ≤ 255 := by
 have hb := h.w.busy (fun h0 => hw ((h.w.free h0).2 i.toNat hi))
 have h1 := hb.2.2.2 i.toNat hi
 by_cases e : (i.toNat : Int) = c.wait.line
 ·exact ⟨by omega, hb.1, hb.2.2.1⟩
 ·rw [if_neg e] at h1; exact absurd h1 hw
theorem KH.wwf {c : Core} (h : KH c) : c.wait.wf := by
 by_cases h0 : c.wait.kind = 0
 ·rw [(h.w.free h0).1]; unfold Op.wf Ao; decide
 ·have hb := h.w.busy h0
  have := h.n
  unfold Op.wf Ao; omega
theorem Abe (c : Core) (id home : Int) (m : Msg) : (Ae c id home m).1.lines.length = c.lines.length := by
 unfold Ae
 repeat' split
 all_goals first | rfl | exact List.length_set
theorem KH.hear {c : Core} (h : KH c) (id home : Int) (m : Msg) : KH (Ae c id home m).1 := by
 have n' := Abe c id home m
 refine ⟨by rw [n']; exact h.n, ?_⟩
 rw [n']; clear n'
 by_cases o : m.line < 0 ∨ (c.lines.length : Int) ≤ m.line
 ·unfold Ae; rw [if_pos o]; exact h.w
 obtain ⟨i, hi⟩ := Int.eq_ofNat_of_zero_le (show 0 ≤ m.line by omega)
 have hil : i < c.lines.length := by omega
 have hz : (Ac c m.line).want ≠ 0 → c.wait.line = (i : Int) := fun hw => by rw [(h.wline m.line (by omega) (by omega) hw).1, hi]
 have hla : Ac c m.line = c.lines.getD i zLine := by unfold Ac; rw [hi]; rfl
 unfold Ae; rw [if_neg o]
 generalize Ac c m.line = l at hz hla
 rw [hi]
 split
 ·refine Pg rfl h.w hil ?_
  rw [← hla]; unfold Db; split <;> (try split) <;> rfl
 split
 ·split
  ·by_cases e : l.want = 3
   ·rw [if_pos e]
    refine Hz rfl h.w hil (.inr (hz (by omega))) ?_
    unfold Cw; rw [if_pos e]
   ·rw [if_neg e]
    refine Pg rfl h.w hil ?_
    rw [← hla]; unfold Cw; rw [if_neg e]; split <;> rfl
  split <;> exact h.w
 split
 ·split
  ·exact h.w
  split
  ·rename_i a
   exact Hz rfl h.w hil (.inr (hz (by unfold Gg at a; omega))) rfl
  ·exact h.w
 split
 ·rename_i a
  exact Hz rfl h.w hil (.inr (hz (by omega))) rfl
 ·exact h.w
theorem open_l {P : Program} {n : Nat} {Q : Exit → Act → World → Prop} {L : List Chunk} {R : List Fact} {al : List (Nat × Value)} {cd : Code} {v : Value} {ls : List Line} {l : Line} {i : Int} (hl : ls.getD i.toNat zLine = l) (hm : sl v ls ∈ R) (h0 : 0 ≤ i) (hi : i < (ls.length : Int)) (k : l.wf → JC P n cd Q L (cF v 7 i.toNat l.cells :: R) al) : JC P n cd Q L R al := by
 subst hl
 exact JC.open0 (xs := ls) i.toNat hm (by omega) k
theorem Ya {u : Value} {ls : List Line} {q : Op} {l : Line} {id home : Int} {m : Msg} (hs : St (L) R w) (hu : sl u ls ∈ R) (hk : KH ⟨ls, q⟩) (hid : Ao id) (hhome : Ao home) (hm : m.wf) (hl : ls.getD m.line.toNat zLine = l) (hg : m.line < 0 ∨ (ls.length : Int) ≤ m.line) : Calls Tryz.prog 76 [.agg (Core.cells u ⟨ls, q⟩).toArray, vi id, vi home, .agg m.cells.toArray].toArray w (Bs (fun v : Value × Value × Value => .tuple #[.agg (Core.cells v.1 (Ae ⟨ls, q⟩ id home m).1).toArray, v.2.1, v.2.2]) (fun v => L) (fun v => sl v.1 (Ae ⟨ls, q⟩ id home m).1.lines :: sl v.2.1 (Ae ⟨ls, q⟩ id home m).2.1 :: sl v.2.2 (Ae ⟨ls, q⟩ id home m).2.2 :: R)) := by
 refine Zbf ?_;intro hlen hone0 hn4 hm0 hid0 hhome0
 clear hs
 refine ZbW ?_;intro b4 b7 b8 vL honeV b18
 rcases (show (m.line < 0) ∨ (¬ m.line < 0 ∧ (ls.length : Int) ≤ m.line) from by omega) with hc | hc
 ·refine ZY ?_
  refine Gc8 ?_
  refine ZdW ?_;intro er
  exact ZfJ
 ·refine Zae ?_
  refine Zbo ?_
  refine Gc1 ?_
  refine ZdW ?_;intro er
  exact ZfJ
theorem X9 {u : Value} {ls : List Line} {q : Op} {l : Line} {id home : Int} {m : Msg} (hs : St (L) R w) (hu : sl u ls ∈ R) (hk : KH ⟨ls, q⟩) (hid : Ao id) (hhome : Ao home) (hm : m.wf) (hl : ls.getD m.line.toNat zLine = l) (hg : 0 ≤ m.line ∧ m.line < (ls.length : Int) ∧ m.kind = 4) : Calls Tryz.prog 76 [.agg (Core.cells u ⟨ls, q⟩).toArray, vi id, vi home, .agg m.cells.toArray].toArray w (Bs (fun v : Value × Value × Value => .tuple #[.agg (Core.cells v.1 (Ae ⟨ls, q⟩ id home m).1).toArray, v.2.1, v.2.2]) (fun v => L) (fun v => sl v.1 (Ae ⟨ls, q⟩ id home m).1.lines :: sl v.2.1 (Ae ⟨ls, q⟩ id home m).2.1 :: sl v.2.2 (Ae ⟨ls, q⟩ id home m).2.2 :: R)) := by
 refine Zbf ?_;intro hlen hone0 hn4 hm0 hid0 hhome0
 clear hs
 refine ZbW ?_;intro b4 b7 b8 vL honeV b18
 refine Za8 ?_
 refine Gc1 ?_
 refine Zcf ?_;intro hlw hA hlw0 honeL
 refine dn7 ?_
 refine Zci ?_;intro ρ
 refine Gl ?_
 refine ZcJ ?_
 refine Za3 ?_
 refine ZaK ?_
 refine dnl ?_; intro ρ
 refine Gl ?_
 refine cdy ?_ ?_
 ·intro ht52
  refine Gm ?_
  refine rn5 ?_
  refine sc ?_
  refine Zau ?_
  refine cdy ?_ ?_
  ·intro ht62
   refine ZE ?_
   refine sc ?_
   refine Zan ?_
   refine Gl ?_
   refine ZV ?_
   refine Za2 ?_
   refine An Tryz.call96 rfl (fun w hs => Fj (vL := vL) (vd := .slice none 0 0) (q := q) (id := id) (home := home) (ms := []) (kind := 8) (line := m.line) (serial := 0) (turn := m.turn) (value := 0) (LX := foc 92 vL ls m.line.toNat [vi 0, vi 0, vi l.want, vi l.serial, vi m.turn, vi l.gave, vi l.given] :: blk b8 57 [.slice none 0 0, vi 0, vi 0, vi 0] :: L) (Ag hs) (by simp) (by unfold Msg.wf Ao; simp only; omega)) ?_; intro v74
   refine Gl ?_
   refine JC.conseq (L' := row 92 vL (ls.set m.line.toNat ({ l with seen := m.turn, state := 0, value := 0 })) :: blk b18 137 [vL, vi q.kind, vi q.line, vi q.value, vi id, vi home, v74, .slice none 0 0] :: row 76 v74 [Bj 8 id home m.line m.turn 0] :: blk b8 57 [.slice none 0 0, vi 0, vi 0, vi 0] :: L) (fun w hs => Ag (Dk ({ l with seen := m.turn, state := 0, value := 0 }) (by unfold Line.wf Ao; simp only; omega) (hs.pick pkk))) ?_
   refine JC.shut (v := vL) (xs := (ls.set m.line.toNat ({ l with seen := m.turn, state := 0, value := 0 }))) .hd ?_
   refine Zdo ?_
   refine Zdm ?_
   refine Zc5 ?_;intro ρ
   have eh : Db l m.turn = { l with seen := m.turn, state := 0, value := 0 } := by unfold Db; rw [if_pos (by omega), if_pos (by omega)]
   have er : (Ae ⟨ls, q⟩ id home m) = (⟨ls.set m.line.toNat ({ l with seen := m.turn, state := 0, value := 0 }), q⟩, [Bj 8 id home m.line m.turn 0], []) := by rw [Pb hl (by omega) (by omega), eh]
   exact Zge
  ·intro ht62
   refine Gl ?_
   refine ZV ?_
   refine Za2 ?_
   refine An Tryz.call96 rfl (fun w hs => Fj (vL := vL) (vd := .slice none 0 0) (q := q) (id := id) (home := home) (ms := []) (kind := 8) (line := m.line) (serial := 0) (turn := m.turn) (value := 0) (LX := foc 92 vL ls m.line.toNat [vi l.state, vi l.value, vi l.want, vi l.serial, vi m.turn, vi l.gave, vi l.given] :: blk b8 57 [.slice none 0 0, vi 0, vi 0, vi 0] :: L) (Ag hs) (by simp) (by unfold Msg.wf Ao; simp only; omega)) ?_; intro v74
   refine Gl ?_
   refine JC.conseq (L' := row 92 vL (ls.set m.line.toNat ({ l with seen := m.turn })) :: blk b18 137 [vL, vi q.kind, vi q.line, vi q.value, vi id, vi home, v74, .slice none 0 0] :: row 76 v74 [Bj 8 id home m.line m.turn 0] :: blk b8 57 [.slice none 0 0, vi 0, vi 0, vi 0] :: L) (fun w hs => Ag (Dk ({ l with seen := m.turn }) (by unfold Line.wf Ao; simp only; omega) (hs.pick pkk))) ?_
   refine JC.shut (v := vL) (xs := (ls.set m.line.toNat ({ l with seen := m.turn }))) .hd ?_
   refine Zdo ?_
   refine Zc5 ?_;intro ρ
   have eh : Db l m.turn = { l with seen := m.turn } := by unfold Db; rw [if_pos (by omega), if_neg (by omega)]
   have er : (Ae ⟨ls, q⟩ id home m) = (⟨ls.set m.line.toNat ({ l with seen := m.turn }), q⟩, [Bj 8 id home m.line m.turn 0], []) := by rw [Pb hl (by omega) (by omega), eh]
   exact Zge
 ·intro ht52
  refine Gl ?_
  refine ZV ?_
  refine Za2 ?_
  refine An Tryz.call96 rfl (fun w hs => Fj (vL := vL) (vd := .slice none 0 0) (q := q) (id := id) (home := home) (ms := []) (kind := 8) (line := m.line) (serial := 0) (turn := m.turn) (value := 0) (LX := foc 92 vL ls m.line.toNat [vi l.state, vi l.value, vi l.want, vi l.serial, vi l.seen, vi l.gave, vi l.given] :: blk b8 57 [.slice none 0 0, vi 0, vi 0, vi 0] :: L) (Ag hs) (by simp) (by unfold Msg.wf Ao; simp only; omega)) ?_; intro v74
  refine Gl ?_
  refine JC.conseq (L' := row 92 vL ls :: blk b18 137 [vL, vi q.kind, vi q.line, vi q.value, vi id, vi home, v74, .slice none 0 0] :: row 76 v74 [Bj 8 id home m.line m.turn 0] :: blk b8 57 [.slice none 0 0, vi 0, vi 0, vi 0] :: L) (fun w hs => Ag (Ek hl hlw (hs.pick pkk))) ?_
  refine JC.shut (v := vL) (xs := ls) .hd ?_
  refine Zdo ?_
  refine Zc5 ?_;intro ρ
  have eh : Db l m.turn = l := by unfold Db; rw [if_neg (by omega)]
  have er : (Ae ⟨ls, q⟩ id home m) = (⟨ls, q⟩, [Bj 8 id home m.line m.turn 0], []) := by rw [Pb hl (by omega) (by omega), eh, ← hl, J1]
  exact Zge
theorem X8 {u : Value} {ls : List Line} {q : Op} {l : Line} {id home : Int} {m : Msg} (hs : St (L) R w) (hu : sl u ls ∈ R) (hk : KH ⟨ls, q⟩) (hid : Ao id) (hhome : Ao home) (hm : m.wf) (hl : ls.getD m.line.toNat zLine = l) (hg : 0 ≤ m.line ∧ m.line < (ls.length : Int) ∧ m.kind = 5) : Calls Tryz.prog 76 [.agg (Core.cells u ⟨ls, q⟩).toArray, vi id, vi home, .agg m.cells.toArray].toArray w (Bs (fun v : Value × Value × Value => .tuple #[.agg (Core.cells v.1 (Ae ⟨ls, q⟩ id home m).1).toArray, v.2.1, v.2.2]) (fun v => L) (fun v => sl v.1 (Ae ⟨ls, q⟩ id home m).1.lines :: sl v.2.1 (Ae ⟨ls, q⟩ id home m).2.1 :: sl v.2.2 (Ae ⟨ls, q⟩ id home m).2.2 :: R)) := by
 refine Zbf ?_;intro hlen hone0 hn4 hm0 hid0 hhome0
 clear hs
 refine Zcd ?_;intro b4 b7 b8 vL honeV b18 ρ
 exact ZeO
theorem X7 {u : Value} {ls : List Line} {q : Op} {l : Line} {id home : Int} {m : Msg} (hs : St (L) R w) (hu : sl u ls ∈ R) (hk : KH ⟨ls, q⟩) (hid : Ao id) (hhome : Ao home) (hm : m.wf) (hl : ls.getD m.line.toNat zLine = l) (hg : 0 ≤ m.line ∧ m.line < (ls.length : Int) ∧ m.kind = 6) : Calls Tryz.prog 76 [.agg (Core.cells u ⟨ls, q⟩).toArray, vi id, vi home, .agg m.cells.toArray].toArray w (Bs (fun v : Value × Value × Value => .tuple #[.agg (Core.cells v.1 (Ae ⟨ls, q⟩ id home m).1).toArray, v.2.1, v.2.2]) (fun v => L) (fun v => sl v.1 (Ae ⟨ls, q⟩ id home m).1.lines :: sl v.2.1 (Ae ⟨ls, q⟩ id home m).2.1 :: sl v.2.2 (Ae ⟨ls, q⟩ id home m).2.2 :: R)) := by
 refine Zbf ?_;intro hlen hone0 hn4 hm0 hid0 hhome0
 clear hs
 refine Zcd ?_;intro b4 b7 b8 vL honeV b18 ρ
 refine ZF ?_
 exact ZeO
theorem X6 {u : Value} {ls : List Line} {q : Op} {l : Line} {id home : Int} {m : Msg} (hs : St (L) R w) (hu : sl u ls ∈ R) (hk : KH ⟨ls, q⟩) (hid : Ao id) (hhome : Ao home) (hm : m.wf) (hl : ls.getD m.line.toNat zLine = l) (hg : 0 ≤ m.line ∧ m.line < (ls.length : Int) ∧ m.kind = 7) : Calls Tryz.prog 76 [.agg (Core.cells u ⟨ls, q⟩).toArray, vi id, vi home, .agg m.cells.toArray].toArray w (Bs (fun v : Value × Value × Value => .tuple #[.agg (Core.cells v.1 (Ae ⟨ls, q⟩ id home m).1).toArray, v.2.1, v.2.2]) (fun v => L) (fun v => sl v.1 (Ae ⟨ls, q⟩ id home m).1.lines :: sl v.2.1 (Ae ⟨ls, q⟩ id home m).2.1 :: sl v.2.2 (Ae ⟨ls, q⟩ id home m).2.2 :: R)) := by
 refine Zbf ?_;intro hlen hone0 hn4 hm0 hid0 hhome0
 clear hs
 refine Zcd ?_;intro b4 b7 b8 vL honeV b18 ρ
 refine Zaz ?_
 refine Gc1 ?_
 refine ZV ?_
 refine JC.rowNil 119 Done ?_
 have hkd : m.kind = 7 := by omega
 have hqa : Gg l m → q.line = m.line ∧ (1 ≤ q.kind ∧ q.kind ≤ 4) ∧ 0 ≤ q.value ∧ q.value ≤ 255 := fun ha => by
  have hw : (Ac ⟨ls, q⟩ m.line).want ≠ 0 := by
   show (ls.getD m.line.toNat zLine).want ≠ 0
   rw [hl]; unfold Gg at ha; omega
  exact hk.wline m.line (by omega) (show m.line.toNat < ls.length by omega) hw
 refine ZB ?_
 refine An Tryz.call98 rfl (fun w hs => Yb (vL := vL) (vo := .slice none 0 0) (vd := .slice none 0 0) (bk := b18) (bm := b7) (q := q) (id := id) (home := home) (ls := ls) (l := l) (ms := []) (ds := []) (m := m) (LX := blk b8 57 [.slice none 0 0, vi 0, vi 0, vi 0] :: L) (Ag hs) hl (by omega) (by omega) hm hid hhome (by simp) (by simp) hk.wwf hkd hqa) ?_; intro ⟨g1, g2⟩
 refine J.conseq (L' := blk b18 137 [vL, vi (Ae ⟨ls, q⟩ id home m).1.wait.kind, vi (Ae ⟨ls, q⟩ id home m).1.wait.line, vi (Ae ⟨ls, q⟩ id home m).1.wait.value, vi id, vi home, g1, g2] :: row 92 vL (Ae ⟨ls, q⟩ id home m).1.lines :: row 76 g1 (Ae ⟨ls, q⟩ id home m).2.1 :: row 119 g2 (Ae ⟨ls, q⟩ id home m).2.2 :: blk b8 57 [.slice none 0 0, vi 0, vi 0, vi 0] :: L) (fun w hs => by rw [List.nil_append, List.nil_append] at hs; exact Ag hs) ?_
 refine Zc3 ?_;intro ρ
 exact Cj (vL, g1, g2) Tryz.isAgg57 Tryz.sizeOf57
theorem Vq {u : Value} {ls : List Line} {q : Op} {l : Line} {id home : Int} {m : Msg} (hs : St (L) R w) (hu : sl u ls ∈ R) (hk : KH ⟨ls, q⟩) (hid : Ao id) (hhome : Ao home) (hm : m.wf) (hl : ls.getD m.line.toNat zLine = l) (hg : 0 ≤ m.line ∧ m.line < (ls.length : Int) ∧ m.kind = 11) : Calls Tryz.prog 76 [.agg (Core.cells u ⟨ls, q⟩).toArray, vi id, vi home, .agg m.cells.toArray].toArray w (Bs (fun v : Value × Value × Value => .tuple #[.agg (Core.cells v.1 (Ae ⟨ls, q⟩ id home m).1).toArray, v.2.1, v.2.2]) (fun v => L) (fun v => sl v.1 (Ae ⟨ls, q⟩ id home m).1.lines :: sl v.2.1 (Ae ⟨ls, q⟩ id home m).2.1 :: sl v.2.2 (Ae ⟨ls, q⟩ id home m).2.2 :: R)) := by
 refine Zbf ?_;intro hlen hone0 hn4 hm0 hid0 hhome0
 clear hs
 refine ZbW ?_;intro b4 b7 b8 vL honeV b18
 refine Za8 ?_
 refine Gc1 ?_
 refine Zcf ?_;intro hlw hA hlw0 honeL
 refine dn7 ?_
 refine Zci ?_;intro ρ
 refine Gl ?_
 refine ZcJ ?_
 refine ZaW ?_
 refine Gc1 ?_
 refine kp [1, 7, 8, 9, 10, 11, 12, 86, 87, 88, 89, 90, 91, 92, 93, 94, 95, 96, 97, 98, 99] ?_
 refine Cs 99 (.bool (decide ((l.want = 3) ∧ (m.serial = l.serial)))) ?_ ?_
 ·rcases (show (¬ (l.want = 3)) ∨ ((l.want = 3) ∧ ¬ (m.serial = l.serial)) ∨ ((l.want = 3) ∧ (m.serial = l.serial)) from by omega) with hm | hm | hm
  ·refine Zcx ?_
   refine dn7 ?_
   refine djf ?_
   refine dnl ?_; intro ρ
   refine Aq ?_ (fun w hs => hs)
   exact meF
  ·refine Bq ?_
   refine dn4 ?_
   refine Zam ?_
   refine dn6 ?_
   refine dj (dgy ?_)
   refine Zaw ?_
   refine ZZ ?_
   refine dnl ?_; intro ρ
   refine Aq ?_ (fun w hs => hs)
   exact meF
  ·refine Bq ?_
   refine dn4 ?_
   refine Zam ?_
   refine dn6 ?_
   refine dj (dgy ?_)
   refine ZaE ?_
   refine ZZ ?_
   refine dnl ?_; intro ρ
   refine Aq ?_ (fun w hs => hs)
   exact meT
 ·refine Av ?_
  first | (refine cdx (p := ?p1) (hd := ?d1) ?e1 ?_ ?_; case e1 => exact rfl) | (refine A9 (b := ?b1) ?e1 ?_ ?_; case e1 => exact rfl)
  ·intro ht99
   refine Gl ?_
   refine kp [1, 8, 9, 10, 11, 12, 100, 101, 102, 103, 104, 105, 106, 107, 108] ?_
   refine Za2 ?_
   refine sc ?_
   refine Zan ?_
   refine Zan ?_
   refine Gl ?_
   refine JC.rowNil 119 Done ?_
   have hwq := hk.wwf
   refine cq_ (blk b18 137 [vL, vi q.kind, vi q.line, vi q.value, vi id, vi home, .slice none 0 0, .slice none 0 0] :: row 119 (.slice none 0 0) [] :: foc 92 vL ls m.line.toNat [vi 0, vi 0, vi 0, vi l.serial, vi l.seen, vi l.gave, vi l.given] :: blk b8 57 [.slice none 0 0, vi 0, vi 0, vi 0] :: L) ?_
   refine jd_ (fun ρ S => blk b18 137 (bif S 16 then [vL, vi q.kind, vi q.line, vi q.value, vi id, vi home, .slice none 0 0, (Gh.dec (γ := Value) (ρ 13))] else [vL, vi q.kind, vi q.line, vi q.value, vi id, vi home, .slice none 0 0, .slice none 0 0]) :: (bif S 13 then row 119 (Gh.dec (γ := Value) (ρ 13)) ([] ++ [(⟨id, q, 0⟩ : Done)]) else row 119 (.slice none 0 0) []) :: foc 92 vL ls m.line.toNat [vi 0, vi 0, vi 0, vi l.serial, vi l.seen, vi l.gave, vi l.given] :: blk b8 57 [.slice none 0 0, vi 0, vi 0, vi 0] :: L) ?_
   refine dn4 ?_
   refine Ib (v := .slice none 0 0) (fun ρ S hS hB hA => by have h16 : S 16 = false := hA 16 ⟨0, rfl⟩; simp only [h16, cond_false]; exact Cz (hc := A0 pkk (by repeat (first | exact rfl | refine C5 rfl ?_))) Tryz.isAgg31) (fun _ _ _ _ _ => rfl) ?_
   refine dn5 ?_
   refine Ib (v := .agg q.cells.toArray) (fun ρ S hS hB hA => by have h16 : S 16 = false := hA 16 ⟨9, rfl⟩; simp only [h16, cond_false]; exact Fc (b := b18) (f := 1) (vs := [vL, vi q.kind, vi q.line, vi q.value, vi id, vi home, .slice none 0 0, .slice none 0 0]) 3 Tryz.isAgg36 Tryz.sizeOf36) (fun _ _ _ _ _ => rfl) ?_
   first | refine epc (fun _ _ => Dx Fw) ?_ | refine epc (fun _ _ => Fd Fw) ?_ | refine epp (fun _ _ => Dx Fw) ?_ | refine epp (fun _ _ => Fd Fw) ?_
   refine Fe ([(⟨id, q, 0⟩ : Done)] : List Done) Gq rfl (fun _ => rfl) rfl (fun _ => rfl) rfl rfl (fun ρ R hd => F2 ⟨hid, hwq.1, hwq.2.1, hwq.2.2, by unfold Ao; simp only; omega⟩) (fun _ _ _ _ _ => rfl) ?_
   refine Fi (e := 119) (xs := []) (ys := [(⟨id, q, 0⟩ : Done)]) (v := (.slice none 0 0)) Gq (fun _ => rfl) (fun _ => rfl) rfl (by decide) (fun ρ R hd => (hd.dep (it := ⟨12, _, _, _, _⟩) (by repeat (first | exact List.Mem.head _ | refine List.Mem.tail _ ?_)) ⟨9, rfl⟩ (List.Mem.head _))) (by have : maxN = 16777216 := rfl; simp only [List.length_cons, List.length_nil]; omega) (fun ρ g S hS hB hA => ?_) ?_
   ·exact Zf6
   refine dn2 ?_
   refine Eb (T0 := 137) (f := 7) (vs := fun ρ => [vL, vi q.kind, vi q.line, vi q.value, vi id, vi home, .slice none 0 0, .slice none 0 0]) (v := fun ρ => (Gh.dec (γ := Value) (ρ 13))) (fun ρ => b18) Tryz.sizeOf31 (fun _ => rfl) (fun _ => rfl) (fun ρ S R w L9 hB hd hs => by have h13 : S 13 = true := hB 13 ⟨9, rfl⟩; simp only [h13, cond_true] at hs; exact Bx pkk hs) (fun _ => rfl) (fun ρ g S hS hB hA => ?_) ?_
   ·exact ZfM
   refine dnl ?_; intro ρ
   refine xq_ (blk b18 137 [vL, vi q.kind, vi q.line, vi q.value, vi id, vi home, .slice none 0 0, (Gh.dec (γ := Value) (ρ 13))] :: row 119 (Gh.dec (γ := Value) (ρ 13)) [(⟨id, q, 0⟩ : Done)] :: foc 92 vL ls m.line.toNat [vi 0, vi 0, vi 0, vi l.serial, vi l.seen, vi l.gave, vi l.given] :: blk b8 57 [.slice none 0 0, vi 0, vi 0, vi 0] :: L) ?_
   generalize (Gh.dec (γ := Value) (ρ 12)) = v121
   generalize (Gh.dec (γ := Value) (ρ 13)) = v122
   refine ZI ?_
   refine Zbt ?_
   refine rn3 ?_
   refine s_N [vL, vi 0, vi 0, vi 0, vi id, vi home, .slice none 0 0, v122] Tryz.sizeOf36 ?_
   refine Gl ?_
   refine JC.conseq (L' := row 92 vL (ls.set m.line.toNat ({ l with state := 0, value := 0, want := 0 })) :: blk b18 137 [vL, vi 0, vi 0, vi 0, vi id, vi home, .slice none 0 0, v122] :: row 119 v122 [(⟨id, q, 0⟩ : Done)] :: blk b8 57 [.slice none 0 0, vi 0, vi 0, vi 0] :: L) (fun w hs => Ag (Dk ({ l with state := 0, value := 0, want := 0 }) (by unfold Line.wf Ao; simp only; omega) (hs.pick pkk))) ?_
   refine JC.shut (v := vL) (xs := (ls.set m.line.toNat ({ l with state := 0, value := 0, want := 0 }))) .hd ?_
   refine ZU ?_
   refine JC.shut (v := v122) (xs := [(⟨id, q, 0⟩ : Done)]) pkk ?_
   refine Zdm ?_
   refine cq_ (blk b8 57 [.slice none 0 0, vi 0, vi 0, vi 0] :: blk b18 137 [vL, vi 0, vi 0, vi 0, vi id, vi home, .slice none 0 0, v122] :: L) ?_
   refine jd_ (fun ρ S => blk b8 57 (bif S 12 then [vL, vi 0, vi 0, vi 0] else [.slice none 0 0, vi 0, vi 0, vi 0]) :: blk b18 137 [vL, vi 0, vi 0, vi 0, vi id, vi home, .slice none 0 0, v122] :: L) ?_
   refine dn3 ?_
   refine Jy (v := .agg ([vL, vi 0, vi 0, vi 0]).toArray) (fun _ _ => Fc (b := b18) (f := 0) (vs := [vL, vi 0, vi 0, vi 0, vi id, vi home, .slice none 0 0, v122]) 4 Tryz.isAgg57 Tryz.sizeOf57) (fun _ _ _ _ _ => rfl) ?_
   refine Zev ?_
   refine dn2 ?_
   refine dnl ?_; intro ρ
   refine xq_ (blk b8 57 [vL, vi 0, vi 0, vi 0] :: blk b18 137 [vL, vi 0, vi 0, vi 0, vi id, vi home, .slice none 0 0, v122] :: L) ?_
   refine Gl ?_
   have er : (Ae ⟨ls, q⟩ id home m) = (⟨ls.set m.line.toNat ({ l with state := 0, value := 0, want := 0 }), zOp⟩, [], [⟨id, q, 0⟩]) := by rw [Qx hl (by omega) (by omega), if_pos ht99]
   rw [er]
   exact Cj (vL, .slice none 0 0, v122) Tryz.isAgg57 Tryz.sizeOf57
  ·intro ht99
   refine Gl ?_
   refine JC.conseq (L' := row 92 vL ls :: blk b18 137 [vL, vi q.kind, vi q.line, vi q.value, vi id, vi home, .slice none 0 0, .slice none 0 0] :: blk b8 57 [.slice none 0 0, vi 0, vi 0, vi 0] :: L) (fun w hs => Ag (Ek hl hlw (hs.pick pkk))) ?_
   refine JC.shut (v := vL) (xs := ls) .hd ?_
   refine ZU ?_
   refine ZK ?_
   refine Zdm ?_
   refine ZdF ?_;intro ρ
   have er : (Ae ⟨ls, q⟩ id home m) = (⟨ls, q⟩, [], []) := by rw [Qx hl (by omega) (by omega), if_neg ht99]
   rw [er]
   exact ZfJ
theorem X5 {u : Value} {ls : List Line} {q : Op} {l : Line} {id home : Int} {m : Msg} (hs : St (L) R w) (hu : sl u ls ∈ R) (hk : KH ⟨ls, q⟩) (hid : Ao id) (hhome : Ao home) (hm : m.wf) (hl : ls.getD m.line.toNat zLine = l) (hg : 0 ≤ m.line ∧ m.line < (ls.length : Int) ∧ m.kind ≠ 4 ∧ m.kind ≠ 5 ∧ m.kind ≠ 6 ∧ m.kind ≠ 7 ∧ m.kind ≠ 11) : Calls Tryz.prog 76 [.agg (Core.cells u ⟨ls, q⟩).toArray, vi id, vi home, .agg m.cells.toArray].toArray w (Bs (fun v : Value × Value × Value => .tuple #[.agg (Core.cells v.1 (Ae ⟨ls, q⟩ id home m).1).toArray, v.2.1, v.2.2]) (fun v => L) (fun v => sl v.1 (Ae ⟨ls, q⟩ id home m).1.lines :: sl v.2.1 (Ae ⟨ls, q⟩ id home m).2.1 :: sl v.2.2 (Ae ⟨ls, q⟩ id home m).2.2 :: R)) := by
 refine Zbf ?_;intro hlen hone0 hn4 hm0 hid0 hhome0
 clear hs
 refine Zcd ?_;intro b4 b7 b8 vL honeV b18 ρ
 refine Zdw ?_
 refine cq_ (row 92 vL ls :: blk b18 137 [vL, vi q.kind, vi q.line, vi q.value, vi id, vi home, .slice none 0 0, .slice none 0 0] :: blk b8 57 [.slice none 0 0, vi 0, vi 0, vi 0] :: L) ?_
 refine JC.shut (v := vL) (xs := ls) .hd ?_
 refine ZU ?_
 refine ZK ?_
 refine ZdF ?_;intro ρ
 have er : (Ae ⟨ls, q⟩ id home m) = (⟨ls, q⟩, [], []) := Abf (by omega) (by omega)
 rw [er]
 exact ZfJ
theorem X4 {u : Value} {c : Core} {id home : Int} {m : Msg} (hs : St (L) R w) (hu : sl u c.lines ∈ R) (hk : KH c) (hid : Ao id) (hhome : Ao home) (hm : m.wf) : Calls Tryz.prog 76 [.agg (c.cells u).toArray, vi id, vi home, .agg m.cells.toArray].toArray w (Bs (fun v : Value × Value × Value => .tuple #[.agg (Core.cells v.1 (Ae c id home m).1).toArray, v.2.1, v.2.2]) (fun v => L) (fun v => sl v.1 (Ae c id home m).1.lines :: sl v.2.1 (Ae c id home m).2.1 :: sl v.2.2 (Ae c id home m).2.2 :: R)) := by
 obtain ⟨ls, q⟩ := c
 by_cases h : 0 ≤ m.line ∧ m.line < (ls.length : Int)
 ·by_cases h4 : m.kind = 4
  ·exact X9 hs hu hk hid hhome hm rfl (by omega)
  by_cases h5 : m.kind = 5
  ·exact X8 hs hu hk hid hhome hm rfl (by omega)
  by_cases h6 : m.kind = 6
  ·exact X7 hs hu hk hid hhome hm rfl (by omega)
  by_cases h7 : m.kind = 7
  ·exact X6 hs hu hk hid hhome hm rfl (by omega)
  by_cases h11 : m.kind = 11
  ·exact Vq hs hu hk hid hhome hm rfl (by omega)
  exact X5 hs hu hk hid hhome hm rfl (by omega)
 ·exact Ya hs hu hk hid hhome hm rfl (by omega)
section
variable {ls : List Line} {q q0 : Op} {id home : Int} {l : Line}
theorem beg_1 (h : q.kind < 1 ∨ 4 < q.kind) : Aj ⟨ls, q0⟩ id home q = (Er, [], [], 1) := by unfold Aj; rw [if_pos h]
theorem Acx (h1 : 1 ≤ q.kind ∧ q.kind ≤ 4) (h : q.line < 0 ∨ (ls.length : Int) ≤ q.line ∨ q.value < 0 ∨ 255 < q.value) : Aj ⟨ls, q0⟩ id home q = (Er, [], [], 3) := by
 unfold Aj; rw [if_neg (by omega), if_pos h]
theorem beg_8 (hl : ls.getD q.line.toNat zLine = l) (h1 : 1 ≤ q.kind ∧ q.kind ≤ 4) (h2 : 0 ≤ q.line ∧ q.line < (ls.length : Int)) (h3 : 0 ≤ q.value ∧ q.value ≤ 255) (h : q0.kind ≠ 0 ∨ 65535 ≤ l.serial) : Aj ⟨ls, q0⟩ id home q = (Er, [], [], 8) := by
 subst hl
 unfold Aj; rw [if_neg (by omega), if_neg (by simp only; omega), if_pos (show (⟨ls, q0⟩ : Core).wait.kind ≠ 0 ∨ 65535 ≤ (Ac ⟨ls, q0⟩ q.line).serial from h)]
theorem Rl (hl : ls.getD q.line.toNat zLine = l) (h1 : 1 ≤ q.kind ∧ q.kind ≤ 4) (h2 : 0 ≤ q.line ∧ q.line < (ls.length : Int)) (h3 : 0 ≤ q.value ∧ q.value ≤ 255) (h4 : q0.kind = 0) (h5 : l.serial < 65535) : Aj ⟨ls, q0⟩ id home q = (if A8 l q then (⟨ls.set q.line.toNat (A1 l q), zOp⟩, [], [⟨id, q, Bv l q⟩], 0) else (⟨ls.set q.line.toNat (A1 l q), q⟩, [Cd (A1 l q) id home q.line], [], 0)) := by
 subst hl
 unfold Aj; rw [if_neg (by omega), if_neg (by simp only; omega), if_neg (fun h => by rcases h with h | h; exact h h4; exact absurd h (by show ¬ 65535 ≤ (ls.getD q.line.toNat zLine).serial; omega))]; rfl
end
theorem Vr {u : Value} {c : Core} {id home : Int} {q : Op} (hs : St (L) R w) (hu : sl u c.lines ∈ R) (hk : KB c) (hid : Ao id) (hhome : Ao home) (hq : q.wf) : Calls Tryz.prog 41 [.agg (c.cells u).toArray, vi id, vi home, .agg q.cells.toArray].toArray w (Bs (fun v : Value × Value × Value => .tuple #[.agg (Core.cells v.1 (Aj c id home q).1).toArray, v.2.1, v.2.2, vi (Aj c id home q).2.2.2]) (fun v => L) (fun v => sl v.1 (Aj c id home q).1.lines :: sl v.2.1 (Aj c id home q).2.1 :: sl v.2.2 (Aj c id home q).2.2.1 :: R)) := by
 obtain ⟨ls, q0⟩ := c
 have hu : sl u ls ∈ R := hu
 obtain ⟨l, hl⟩ : ∃ l, ls.getD q.line.toNat zLine = l := ⟨_, rfl⟩
 have hlen := Be hu hs
 refine ZaB ?_;intro hone0
 have hn4 : ls.length ≤ 4 := hk.n
 refine Zbe ?_;intro hid0 hhome0
 refine Ai Tryz.func41 rfl Tryz.ntmps41 rfl hs ?_
 clear hs
 refine Gm ?_
 refine bx ?_; intro b4
 refine ZbA ?_;intro b7 b8
 refine Ga3 ?_
 refine cq_ (blk b4 57 [u, vi q0.kind, vi q0.line, vi q0.value] :: blk b7 36 q.cells :: blk b8 57 [.slice none 0 0, vi 0, vi 0, vi 0] :: L) ?_
 rcases (show (q.kind < 1) ∨ (¬ q.kind < 1 ∧ 4 < q.kind) ∨ (1 ≤ q.kind ∧ q.kind ≤ 4) from by omega) with hc | hc | hc
 ·refine ZY ?_
  refine Gc6 ?_
  exact Zgk
 ·refine ZaX ?_
  refine Gc2 ?_
  exact Zgk
 ·refine Zax ?_
  refine Gc2 ?_
  rcases (show (q.line < 0) ∨ (0 ≤ q.line ∧ (ls.length : Int) ≤ q.line) ∨ (0 ≤ q.line ∧ q.line < (ls.length : Int) ∧ q.value < 0) ∨ (0 ≤ q.line ∧ q.line < (ls.length : Int) ∧ 255 < q.value) ∨ (0 ≤ q.line ∧ q.line < (ls.length : Int) ∧ 0 ≤ q.value ∧ q.value ≤ 255) from by omega) with hc | hc | hc | hc | hc
  ·refine ZY ?_
   refine Gc19 ?_
   exact Zg5
  ·refine Zae ?_
   refine Zbo ?_
   refine Gc12 ?_
   exact Zg5
  ·refine Za8 ?_
   refine Za9 ?_
   refine Gc7 ?_
   exact Zg5
  ·refine Za8 ?_
   refine ZaJ ?_
   refine Gc2 ?_
   exact Zg5
  ·refine Za8 ?_
   refine Za0 ?_
   refine Gc2 ?_
   refine open_l (v := u) hl mm (by omega) (by omega) (fun hlw1 => ?_)
   rcases (show (q0.kind ≠ 0) ∨ (q0.kind = 0 ∧ 65535 ≤ l.serial) ∨ (q0.kind = 0 ∧ l.serial < 65535) from by omega) with hc | hc | hc
   ·refine Zdi ?_
    refine Hr ?_
    refine Gc11 ?_
    exact ZfV
   ·refine Zdi ?_
    refine H9 ?_
    refine rn8 ?_
    refine gy ?_
    refine G8 ?_
    refine Gc2 ?_
    exact ZfV
   ·have hc5 := hc
    refine Zdi ?_
    refine H9 ?_
    refine rn8 ?_
    refine gy ?_
    refine Di ?_
    refine Gd2 ?_
    refine rn1 ?_
    refine An Tryz.call67 rfl (fun w hs => G4 (u := u) (c := ⟨ls, q0⟩) hs mm) ?_; intro vL
    refine J.know (p := vL.oneCell' = true) (fun w hs => Bx .hd hs) (fun honeV => ?_)
    refine rn3 ?_
    refine bx ?_; intro b68
    refine Ga1 ?_
    refine cq_ (row 92 vL ls :: blk b68 137 [vL, vi q0.kind, vi q0.line, vi q0.value, vi id, vi home, .slice none 0 0, .slice none 0 0] :: blk b8 57 [.slice none 0 0, vi 0, vi 0, vi 0] :: blk b7 36 q.cells :: L) ?_
    refine Zdx ?_;intro hlw hA hlw0 honeL
    have hz : q0 = zOp := (hk.w.free hc5.1).1
    refine Zdz ?_
    refine ZT ?_;intro ρ
    refine Gl ?_
    refine kp [1, 7, 8, 9, 10, 11, 12, 13, 80, 81, 82, 83, 84, 85, 86, 87, 88, 89, 90] ?_
    refine Cs 80 (.bool (decide ((q.kind = 4) ∧ (l.state = 2)))) ?_ ?_
    ·rcases (show (¬ (q.kind = 4)) ∨ ((q.kind = 4) ∧ ¬ (l.state = 2)) ∨ ((q.kind = 4) ∧ (l.state = 2)) from by omega) with hm | hm | hm
     ·refine ZD ?_
      refine Aw ?_
      refine Ga8 ?_
      exact ZeV
     ·refine ZD ?_
      refine Cf ?_
      refine ZR ?_
      refine Aw ?_
      refine Ga2 ?_
      exact ZeV
     ·refine ZD ?_
      refine Cf ?_
      refine ZR ?_
      refine Cf ?_
      refine Ga2 ?_
      exact ZeQ
    ·refine Av ?_
     first | (refine cdx (p := ?p1) (hd := ?d1) ?e1 ?_ ?_; case e1 => exact rfl) | (refine A9 (b := ?b1) ?e1 ?_ ?_; case e1 => exact rfl)
     ·intro ht80
      refine Gl ?_
      refine kp [1, 7, 8, 9, 10, 11, 12, 13, 91, 92, 93] ?_
      refine ZL ?_
      refine sc ?_
      refine Gl ?_
      refine JC.conseq (L' := row 92 vL (ls.set q.line.toNat ({ l with state := 3 })) :: blk b68 137 [vL, vi q0.kind, vi q0.line, vi q0.value, vi id, vi home, .slice none 0 0, .slice none 0 0] :: blk b8 57 [.slice none 0 0, vi 0, vi 0, vi 0] :: blk b7 36 q.cells :: L) (fun w hs => Ag (Dk ({ l with state := 3 }) (by unfold Line.wf Ao; simp only; omega) (hs.pick pkk))) ?_
      refine ZV ?_
      refine ZD ?_
      refine An Tryz.call68 rfl (fun w hs => Su (vL := vL) (vo := .slice none 0 0) (vd := .slice none 0 0) (q := q) (q0 := q0) (id := id) (home := home) (ls := (ls.set q.line.toNat ({ l with state := 3 }))) (l := { l with state := 3 }) (ms := []) (want := 3) (bk := b68) (LX := blk b8 57 [.slice none 0 0, vi 0, vi 0, vi 0] :: blk b7 36 q.cells :: L) (Ag hs) (by rw [List.getD_eq_getElem?_getD, List.getElem?_set_self (by omega)]; rfl) (by rw [List.length_set]; omega) (by rw [List.length_set]; omega) hid hhome (by simp) (by first | omega | (simp only; omega)) (by unfold Ao; omega)) ?_; intro v96
      refine J.conseq (L' := row 92 vL (ls.set q.line.toNat ({ l with state := 3, want := 3, serial := l.serial + 1 })) :: blk b68 137 [vL, vi q.kind, vi q.line, vi q.value, vi id, vi home, v96, .slice none 0 0] :: row 76 v96 [Cd ({ l with state := 3, want := 3, serial := l.serial + 1 }) id home q.line] :: blk b8 57 [.slice none 0 0, vi 0, vi 0, vi 0] :: L) (fun w hs => by rw [List.nil_append, List.set_set] at hs; exact Ag hs) ?_
      refine Gl ?_
      refine cq_ (row 92 vL (ls.set q.line.toNat ({ l with state := 3, want := 3, serial := l.serial + 1 })) :: blk b68 137 [vL, vi q.kind, vi q.line, vi q.value, vi id, vi home, v96, .slice none 0 0] :: row 76 v96 [Cd ({ l with state := 3, want := 3, serial := l.serial + 1 }) id home q.line] :: blk b8 57 [.slice none 0 0, vi 0, vi 0, vi 0] :: L) ?_
      refine JC.shut (v := vL) (xs := (ls.set q.line.toNat ({ l with state := 3, want := 3, serial := l.serial + 1 }))) .hd ?_
      refine JC.shut (v := v96) (xs := [Cd ({ l with state := 3, want := 3, serial := l.serial + 1 }) id home q.line]) pkk ?_
      refine ZK ?_
      refine cq_ (blk b8 57 [.slice none 0 0, vi 0, vi 0, vi 0] :: blk b68 137 [vL, vi q.kind, vi q.line, vi q.value, vi id, vi home, v96, .slice none 0 0] :: L) ?_
      refine jd_ (fun ρ S => blk b8 57 (bif S 12 then [vL, vi q.kind, vi q.line, vi q.value] else [.slice none 0 0, vi 0, vi 0, vi 0]) :: blk b68 137 [vL, vi q.kind, vi q.line, vi q.value, vi id, vi home, v96, .slice none 0 0] :: L) ?_
      refine dn3 ?_
      refine Jy (v := .agg ([vL, vi q.kind, vi q.line, vi q.value]).toArray) (fun _ _ => Fc (b := b68) (f := 0) (vs := [vL, vi q.kind, vi q.line, vi q.value, vi id, vi home, v96, .slice none 0 0]) 4 Tryz.isAgg57 Tryz.sizeOf57) (fun _ _ _ _ _ => rfl) ?_
      refine ZbC ?_
      refine dn3 ?_
      refine dnl ?_; intro ρ
      refine xq_ (blk b8 57 [vL, vi q.kind, vi q.line, vi q.value] :: blk b68 137 [vL, vi q.kind, vi q.line, vi q.value, vi id, vi home, v96, .slice none 0 0] :: L) ?_
      refine Gl ?_
      have eb : A1 l q = { l with state := 3, want := 3, serial := l.serial + 1 } := by unfold A1; rw [if_pos (by omega), if_pos (by omega)]
      have ed : A8 l q = false := by unfold A8; split <;> simp <;> omega
      have er : (Aj ⟨ls, q0⟩ id home q) = (⟨ls.set q.line.toNat ({ l with state := 3, want := 3, serial := l.serial + 1 }), q⟩, [Cd ({ l with state := 3, want := 3, serial := l.serial + 1 }) id home q.line], [], 0) := by rw [Rl hl (by omega) (by omega) (by omega) (by omega) (by omega), ed, if_neg (by decide), eb]
      rw [er]
      exact E5 (vL, v96, .slice none 0 0) Tryz.isAgg57 Tryz.sizeOf57
     ·intro ht80
      refine Gl ?_
      refine kp [1, 7, 8, 9, 10, 11, 12, 13, 97, 98, 99, 100] ?_
      refine ZaH ?_
      refine cdy ?_ ?_
      ·intro ht97
       refine Zak ?_
       refine sc ?_
       refine Zan ?_
       refine Gl ?_
       refine JC.rowNil 119 Done ?_
       refine cq_ (blk b68 137 [vL, vi q0.kind, vi q0.line, vi q0.value, vi id, vi home, .slice none 0 0, .slice none 0 0] :: row 119 (.slice none 0 0) [] :: foc 92 vL ls q.line.toNat [vi 0, vi 0, vi l.want, vi l.serial, vi l.seen, vi l.gave, vi l.given] :: blk b8 57 [.slice none 0 0, vi 0, vi 0, vi 0] :: blk b7 36 q.cells :: L) ?_
       refine jd_ (fun ρ S => blk b68 137 (bif S 12 then [vL, vi q0.kind, vi q0.line, vi q0.value, vi id, vi home, .slice none 0 0, (Gh.dec (γ := Value) (ρ 9))] else [vL, vi q0.kind, vi q0.line, vi q0.value, vi id, vi home, .slice none 0 0, .slice none 0 0]) :: (bif S 9 then row 119 (Gh.dec (γ := Value) (ρ 9)) ([] ++ [(⟨id, q, 0⟩ : Done)]) else row 119 (.slice none 0 0) []) :: foc 92 vL ls q.line.toNat [vi 0, vi 0, vi l.want, vi l.serial, vi l.seen, vi l.gave, vi l.given] :: blk b8 57 [.slice none 0 0, vi 0, vi 0, vi 0] :: blk b7 36 q.cells :: L) ?_
       refine dn4 ?_
       refine Ib (v := .slice none 0 0) (fun ρ S hS hB hA => by have h12 : S 12 = false := hA 12 ⟨0, rfl⟩; simp only [h12, cond_false]; exact Cz (hc := A0 pkk (by repeat (first | exact rfl | refine C5 rfl ?_))) Tryz.isAgg31) (fun _ _ _ _ _ => rfl) ?_
       refine dn3 ?_
       refine ZcQ ?_
       refine Fi (e := 119) (xs := []) (ys := [(⟨id, q, 0⟩ : Done)]) (v := (.slice none 0 0)) Gq (fun _ => rfl) (fun _ => rfl) rfl (by decide) (fun ρ R hd => (hd.dep (it := ⟨8, _, _, _, _⟩) (by repeat (first | exact List.Mem.head _ | refine List.Mem.tail _ ?_)) ⟨9, rfl⟩ (List.Mem.head _))) (by have : maxN = 16777216 := rfl; simp only [List.length_cons, List.length_nil]; omega) (fun ρ g S hS hB hA => ?_) ?_
       ·have ui : upS S 9 9 = true := rfl; have u12 : upS S 9 12 = S 12 := rfl; have h12 : S 12 = false := hA 12 ⟨0, rfl⟩; have rs : (Gh.dec (γ := Value) (Rho.set ρ 9 (Gh.enc g) 9)) = g := rfl
        simp only [ui, hS, u12, h12, rs, cond_true, cond_false]
        exact pex
       refine dn2 ?_
       refine Eb (T0 := 137) (f := 7) (vs := fun ρ => [vL, vi q0.kind, vi q0.line, vi q0.value, vi id, vi home, .slice none 0 0, .slice none 0 0]) (v := fun ρ => (Gh.dec (γ := Value) (ρ 9))) (fun ρ => b68) Tryz.sizeOf31 (fun _ => rfl) (fun _ => rfl) (fun ρ S R w L9 hB hd hs => by have h9 : S 9 = true := hB 9 ⟨9, rfl⟩; simp only [h9, cond_true] at hs; exact Bx pkk hs) (fun _ => rfl) (fun ρ g S hS hB hA => ?_) ?_
       ·have ui : upS S 12 12 = true := rfl; have u9 : upS S 12 9 = S 9 := rfl; have r9 : Rho.set ρ 12 g 9 = ρ 9 := rfl
        simp only [ui, hS, u9, r9, cond_true, cond_false]
        exact pex
       refine dnl ?_; intro ρ
       refine xq_ (blk b68 137 [vL, vi q0.kind, vi q0.line, vi q0.value, vi id, vi home, .slice none 0 0, (Gh.dec (γ := Value) (ρ 9))] :: row 119 (Gh.dec (γ := Value) (ρ 9)) [(⟨id, q, 0⟩ : Done)] :: foc 92 vL ls q.line.toNat [vi 0, vi 0, vi l.want, vi l.serial, vi l.seen, vi l.gave, vi l.given] :: blk b8 57 [.slice none 0 0, vi 0, vi 0, vi 0] :: blk b7 36 q.cells :: L) ?_
       generalize (Gh.dec (γ := Value) (ρ 8)) = v115
       generalize (Gh.dec (γ := Value) (ρ 9)) = v116
       refine Gl ?_
       refine JC.conseq (L' := row 92 vL (ls.set q.line.toNat ({ l with state := 0, value := 0 })) :: blk b68 137 [vL, vi q0.kind, vi q0.line, vi q0.value, vi id, vi home, .slice none 0 0, v116] :: row 119 v116 [(⟨id, q, 0⟩ : Done)] :: blk b8 57 [.slice none 0 0, vi 0, vi 0, vi 0] :: L) (fun w hs => Ag (Dk ({ l with state := 0, value := 0 }) (by unfold Line.wf Ao; simp only; omega) (hs.pick pkk))) ?_
       refine JC.shut (v := vL) (xs := (ls.set q.line.toNat ({ l with state := 0, value := 0 }))) .hd ?_
       refine ZU ?_
       refine JC.shut (v := v116) (xs := [(⟨id, q, 0⟩ : Done)]) pkk ?_
       refine cq_ (blk b8 57 [.slice none 0 0, vi 0, vi 0, vi 0] :: blk b68 137 [vL, vi q0.kind, vi q0.line, vi q0.value, vi id, vi home, .slice none 0 0, v116] :: L) ?_
       refine jd_ (fun ρ S => blk b8 57 (bif S 12 then [vL, vi q0.kind, vi q0.line, vi q0.value] else [.slice none 0 0, vi 0, vi 0, vi 0]) :: blk b68 137 [vL, vi q0.kind, vi q0.line, vi q0.value, vi id, vi home, .slice none 0 0, v116] :: L) ?_
       refine dn3 ?_
       refine Jy (v := .agg ([vL, vi q0.kind, vi q0.line, vi q0.value]).toArray) (fun _ _ => Fc (b := b68) (f := 0) (vs := [vL, vi q0.kind, vi q0.line, vi q0.value, vi id, vi home, .slice none 0 0, v116]) 4 Tryz.isAgg57 Tryz.sizeOf57) (fun _ _ _ _ _ => rfl) ?_
       refine dn8 ?_
       refine es_ 57 0 [] [] (fun ρ => b8) (fun ρ => [.slice none 0 0, vi 0, vi 0, vi 0]) (fun ρ => [vL, vi q0.kind, vi q0.line, vi q0.value]) Tryz.sizeOf57 ?_
       refine dn3 ?_
       refine dnl ?_; intro ρ
       refine xq_ (blk b8 57 [vL, vi q0.kind, vi q0.line, vi q0.value] :: blk b68 137 [vL, vi q0.kind, vi q0.line, vi q0.value, vi id, vi home, .slice none 0 0, v116] :: L) ?_
       refine Gl ?_
       have eb : A1 l q = { l with state := 0, value := 0 } := by unfold A1; rw [if_pos (by omega), if_neg (by omega)]
       have ed : A8 l q = true := by unfold A8; split <;> simp <;> omega
       have et : Bv l q = 0 := by unfold Bv; rw [if_pos (by omega)]
       have er : (Aj ⟨ls, q0⟩ id home q) = (⟨ls.set q.line.toNat ({ l with state := 0, value := 0 }), q0⟩, [], [(⟨id, q, 0⟩ : Done)], 0) := by rw [Rl hl (by omega) (by omega) (by omega) (by omega) (by omega), ed, if_pos rfl, eb, et, hz]
       rw [er]
       exact E5 (vL, .slice none 0 0, v116) Tryz.isAgg57 Tryz.sizeOf57
      ·intro ht97
       refine Gl ?_
       refine Ze8 ?_
       refine Cs 119 (.bool (decide (l.state = 2 ∨ (l.state = 1 ∧ q.kind = 1)))) ?_ ?_
       ·rcases (show (l.state = 2) ∨ (l.state = 1 ∧ q.kind = 1) ∨ (l.state = 1 ∧ q.kind ≠ 1) ∨ (l.state ≠ 1 ∧ l.state ≠ 2) from by omega) with hm | hm | hm | hm
        ·refine ZE ?_
         refine Cf ?_
         refine Ga13 ?_
         exact ZeQ
        ·refine ZE ?_
         refine Aw ?_
         refine ZR ?_
         refine Cf ?_
         refine ZP ?_
         refine Cf ?_
         refine Ga3 ?_
         exact ZeQ
        ·refine Ze8 ?_
         refine ZE ?_
         refine Aw ?_
         refine ZR ?_
         refine Cf ?_
         refine ZP ?_
         refine Aw ?_
         refine Ga3 ?_
         exact ZeV
        ·refine ZE ?_
         refine Aw ?_
         refine ZR ?_
         refine Aw ?_
         refine Ga7 ?_
         exact ZeV
       ·refine Av ?_
        first | (refine cdx (p := ?p3) (hd := ?d3) ?e3 ?_ ?_; case e3 => exact rfl) | (refine A9 (b := ?b3) ?e3 ?_ ?_; case e3 => exact rfl)
        ·intro ht119
         refine ZcM ?_
         refine JC.rowNil 119 Done ?_
         refine kp [7, 8, 9, 10, 11, 12, 137, 138] ?_
         refine ZD ?_
         refine An Tryz.call69 rfl (fun w hs => K2 (vL := vL) (vo := .slice none 0 0) (vd := .slice none 0 0) (q := q) (q0 := q0) (id := id) (home := home) (ls := ls) (l := l) (ds := []) (bk := b68) (LX := blk b8 57 [.slice none 0 0, vi 0, vi 0, vi 0] :: blk b7 36 q.cells :: L) (Ag hs) hl (by omega) (by omega) hid hhome (by simp) hq (by omega) (by omega)) ?_; intro v139
         refine J.conseq (L' := row 92 vL (ls.set q.line.toNat ({ l with value := (Ax l.value q).1 })) :: blk b68 137 [vL, vi 0, vi 0, vi 0, vi id, vi home, .slice none 0 0, v139] :: row 119 v139 [(⟨id, q, (Ax l.value q).2⟩ : Done)] :: blk b8 57 [.slice none 0 0, vi 0, vi 0, vi 0] :: L) (fun w hs => by rw [List.nil_append] at hs; exact Ag hs) ?_
         refine Gl ?_
         refine cq_ (row 92 vL (ls.set q.line.toNat ({ l with value := (Ax l.value q).1 })) :: blk b68 137 [vL, vi 0, vi 0, vi 0, vi id, vi home, .slice none 0 0, v139] :: row 119 v139 [(⟨id, q, (Ax l.value q).2⟩ : Done)] :: blk b8 57 [.slice none 0 0, vi 0, vi 0, vi 0] :: L) ?_
         refine JC.shut (v := vL) (xs := (ls.set q.line.toNat ({ l with value := (Ax l.value q).1 }))) .hd ?_
         refine ZU ?_
         refine JC.shut (v := v139) (xs := [(⟨id, q, (Ax l.value q).2⟩ : Done)]) pkk ?_
         refine cq_ (blk b8 57 [.slice none 0 0, vi 0, vi 0, vi 0] :: blk b68 137 [vL, vi 0, vi 0, vi 0, vi id, vi home, .slice none 0 0, v139] :: L) ?_
         refine jd_ (fun ρ S => blk b8 57 (bif S 12 then [vL, vi 0, vi 0, vi 0] else [.slice none 0 0, vi 0, vi 0, vi 0]) :: blk b68 137 [vL, vi 0, vi 0, vi 0, vi id, vi home, .slice none 0 0, v139] :: L) ?_
         refine dn3 ?_
         refine Jy (v := .agg ([vL, vi 0, vi 0, vi 0]).toArray) (fun _ _ => Fc (b := b68) (f := 0) (vs := [vL, vi 0, vi 0, vi 0, vi id, vi home, .slice none 0 0, v139]) 4 Tryz.isAgg57 Tryz.sizeOf57) (fun _ _ _ _ _ => rfl) ?_
         refine Zev ?_
         refine dn3 ?_
         refine dnl ?_; intro ρ
         refine xq_ (blk b8 57 [vL, vi 0, vi 0, vi 0] :: blk b68 137 [vL, vi 0, vi 0, vi 0, vi id, vi home, .slice none 0 0, v139] :: L) ?_
         refine Gl ?_
         have eb : A1 l q = { l with value := (Ax l.value q).1 } := by unfold A1; rw [if_neg (by omega), if_pos (by omega)]
         have ed : A8 l q = true := by unfold A8; split <;> simp <;> omega
         have et : Bv l q = (Ax l.value q).2 := by unfold Bv; rw [if_neg (by omega)]
         have er : (Aj ⟨ls, q0⟩ id home q) = (⟨ls.set q.line.toNat ({ l with value := (Ax l.value q).1 }), zOp⟩, [], [(⟨id, q, (Ax l.value q).2⟩ : Done)], 0) := by rw [Rl hl (by omega) (by omega) (by omega) (by omega) (by omega), ed, if_pos rfl, eb, et]
         rw [er]
         exact E5 (vL, .slice none 0 0, v139) Tryz.isAgg57 Tryz.sizeOf57
        ·intro ht119
         refine Gl ?_
         refine kp [7, 8, 9, 10, 11, 12, 140, 141, 142, 143] ?_
         refine ZaH ?_
         refine cdy ?_ ?_
         ·intro ht140
          refine ZcM ?_
          refine ZV ?_
          refine ZD ?_
          refine An Tryz.call68 rfl (fun w hs => Su (vL := vL) (vo := .slice none 0 0) (vd := .slice none 0 0) (q := q) (q0 := q0) (id := id) (home := home) (ls := ls) (l := l) (ms := []) (want := 1) (bk := b68) (LX := blk b8 57 [.slice none 0 0, vi 0, vi 0, vi 0] :: blk b7 36 q.cells :: L) (Ag hs) hl (by omega) (by omega) hid hhome (by simp) (by first | omega | (simp only; omega)) (by unfold Ao; omega)) ?_; intro v146
          refine J.conseq (L' := row 92 vL (ls.set q.line.toNat ({ l with want := 1, serial := l.serial + 1 })) :: blk b68 137 [vL, vi q.kind, vi q.line, vi q.value, vi id, vi home, v146, .slice none 0 0] :: row 76 v146 [Cd ({ l with want := 1, serial := l.serial + 1 }) id home q.line] :: blk b8 57 [.slice none 0 0, vi 0, vi 0, vi 0] :: L) (fun w hs => by rw [List.nil_append] at hs; exact Ag hs) ?_
          refine Gl ?_
          refine cq_ (row 92 vL (ls.set q.line.toNat ({ l with want := 1, serial := l.serial + 1 })) :: blk b68 137 [vL, vi q.kind, vi q.line, vi q.value, vi id, vi home, v146, .slice none 0 0] :: row 76 v146 [Cd ({ l with want := 1, serial := l.serial + 1 }) id home q.line] :: blk b8 57 [.slice none 0 0, vi 0, vi 0, vi 0] :: L) ?_
          refine JC.shut (v := vL) (xs := (ls.set q.line.toNat ({ l with want := 1, serial := l.serial + 1 }))) .hd ?_
          refine JC.shut (v := v146) (xs := [Cd ({ l with want := 1, serial := l.serial + 1 }) id home q.line]) pkk ?_
          refine ZK ?_
          refine cq_ (blk b8 57 [.slice none 0 0, vi 0, vi 0, vi 0] :: blk b68 137 [vL, vi q.kind, vi q.line, vi q.value, vi id, vi home, v146, .slice none 0 0] :: L) ?_
          refine jd_ (fun ρ S => blk b8 57 (bif S 12 then [vL, vi q.kind, vi q.line, vi q.value] else [.slice none 0 0, vi 0, vi 0, vi 0]) :: blk b68 137 [vL, vi q.kind, vi q.line, vi q.value, vi id, vi home, v146, .slice none 0 0] :: L) ?_
          refine dn3 ?_
          refine Jy (v := .agg ([vL, vi q.kind, vi q.line, vi q.value]).toArray) (fun _ _ => Fc (b := b68) (f := 0) (vs := [vL, vi q.kind, vi q.line, vi q.value, vi id, vi home, v146, .slice none 0 0]) 4 Tryz.isAgg57 Tryz.sizeOf57) (fun _ _ _ _ _ => rfl) ?_
          refine ZbC ?_
          refine dn3 ?_
          refine dnl ?_; intro ρ
          refine xq_ (blk b8 57 [vL, vi q.kind, vi q.line, vi q.value] :: blk b68 137 [vL, vi q.kind, vi q.line, vi q.value, vi id, vi home, v146, .slice none 0 0] :: L) ?_
          refine Gl ?_
          have eb : A1 l q = { l with want := 1, serial := l.serial + 1 } := by unfold A1; rw [if_neg (by omega), if_neg (by omega), if_pos (by omega)]
          have ed : A8 l q = false := by unfold A8; split <;> simp <;> omega
          have er : (Aj ⟨ls, q0⟩ id home q) = (⟨ls.set q.line.toNat ({ l with want := 1, serial := l.serial + 1 }), q⟩, [Cd ({ l with want := 1, serial := l.serial + 1 }) id home q.line], [], 0) := by rw [Rl hl (by omega) (by omega) (by omega) (by omega) (by omega), ed, if_neg (by decide), eb]
          rw [er]
          exact E5 (vL, v146, .slice none 0 0) Tryz.isAgg57 Tryz.sizeOf57
         ·intro ht140
          refine ZcM ?_
          refine ZV ?_
          refine ZD ?_
          refine An Tryz.call68 rfl (fun w hs => Su (vL := vL) (vo := .slice none 0 0) (vd := .slice none 0 0) (q := q) (q0 := q0) (id := id) (home := home) (ls := ls) (l := l) (ms := []) (want := 2) (bk := b68) (LX := blk b8 57 [.slice none 0 0, vi 0, vi 0, vi 0] :: blk b7 36 q.cells :: L) (Ag hs) hl (by omega) (by omega) hid hhome (by simp) (by first | omega | (simp only; omega)) (by unfold Ao; omega)) ?_; intro v79
          refine J.conseq (L' := row 92 vL (ls.set q.line.toNat ({ l with want := 2, serial := l.serial + 1 })) :: blk b68 137 [vL, vi q.kind, vi q.line, vi q.value, vi id, vi home, v79, .slice none 0 0] :: row 76 v79 [Cd ({ l with want := 2, serial := l.serial + 1 }) id home q.line] :: blk b8 57 [.slice none 0 0, vi 0, vi 0, vi 0] :: L) (fun w hs => by rw [List.nil_append] at hs; exact Ag hs) ?_
          refine Gl ?_
          refine cq_ (row 92 vL (ls.set q.line.toNat ({ l with want := 2, serial := l.serial + 1 })) :: blk b68 137 [vL, vi q.kind, vi q.line, vi q.value, vi id, vi home, v79, .slice none 0 0] :: row 76 v79 [Cd ({ l with want := 2, serial := l.serial + 1 }) id home q.line] :: blk b8 57 [.slice none 0 0, vi 0, vi 0, vi 0] :: L) ?_
          refine JC.shut (v := vL) (xs := (ls.set q.line.toNat ({ l with want := 2, serial := l.serial + 1 }))) .hd ?_
          refine JC.shut (v := v79) (xs := [Cd ({ l with want := 2, serial := l.serial + 1 }) id home q.line]) pkk ?_
          refine ZK ?_
          refine cq_ (blk b8 57 [.slice none 0 0, vi 0, vi 0, vi 0] :: blk b68 137 [vL, vi q.kind, vi q.line, vi q.value, vi id, vi home, v79, .slice none 0 0] :: L) ?_
          refine jd_ (fun ρ S => blk b8 57 (bif S 12 then [vL, vi q.kind, vi q.line, vi q.value] else [.slice none 0 0, vi 0, vi 0, vi 0]) :: blk b68 137 [vL, vi q.kind, vi q.line, vi q.value, vi id, vi home, v79, .slice none 0 0] :: L) ?_
          refine dn3 ?_
          refine Jy (v := .agg ([vL, vi q.kind, vi q.line, vi q.value]).toArray) (fun _ _ => Fc (b := b68) (f := 0) (vs := [vL, vi q.kind, vi q.line, vi q.value, vi id, vi home, v79, .slice none 0 0]) 4 Tryz.isAgg57 Tryz.sizeOf57) (fun _ _ _ _ _ => rfl) ?_
          refine ZbC ?_
          refine dn3 ?_
          refine dnl ?_; intro ρ
          refine xq_ (blk b8 57 [vL, vi q.kind, vi q.line, vi q.value] :: blk b68 137 [vL, vi q.kind, vi q.line, vi q.value, vi id, vi home, v79, .slice none 0 0] :: L) ?_
          refine Gl ?_
          have eb : A1 l q = { l with want := 2, serial := l.serial + 1 } := by unfold A1; rw [if_neg (by omega), if_neg (by omega), if_neg (by omega)]
          have ed : A8 l q = false := by unfold A8; split <;> simp <;> omega
          have er : (Aj ⟨ls, q0⟩ id home q) = (⟨ls.set q.line.toNat ({ l with want := 2, serial := l.serial + 1 }), q⟩, [Cd ({ l with want := 2, serial := l.serial + 1 }) id home q.line], [], 0) := by rw [Rl hl (by omega) (by omega) (by omega) (by omega) (by omega), ed, if_neg (by decide), eb]
          rw [er]
          exact E5 (vL, v79, .slice none 0 0) Tryz.isAgg57 Tryz.sizeOf57
theorem Vp {u : Value} {c : Core} {id home : Int} (hs : St (L) R w) (hu : sl u c.lines ∈ R) (hn4 : c.lines.length ≤ 100) (hid : Ao id) (hhome : Ao home) : Calls Tryz.prog 79 [.agg (c.cells u).toArray, vi id, vi home].toArray w (Bs (fun v : Value => v) (fun v => L) (fun v => sl v (Dl c id home) :: R)) := by
 obtain ⟨ls, q⟩ := c
 have hu : sl u ls ∈ R := hu
 have hn4 : ls.length ≤ 100 := hn4
 refine ZaB ?_;intro hone0
 refine Ai Tryz.func79 rfl Tryz.ntmps79 rfl hs ?_
 clear hs
 refine Zap ?_;intro b3
 refine Gb1 ?_
 refine Zd1 ?_;intro vL honeV
 refine bx ?_; intro b14
 refine Ga1 ?_
 refine cq_ (row 92 vL ls :: blk b14 137 [vL, vi q.kind, vi q.line, vi q.value, vi id, vi home, .slice none 0 0, .slice none 0 0] :: L) ?_
 refine Aa ?_
 refine Ga7 ?_
 refine ZV ?_
 refine A7 (γ := Nat × Value) (fun g => g.1 ≤ ls.length) (fun g => blk b14 137 [vL, vi q.kind, vi q.line, vi q.value, vi id, vi home, g.2, .slice none 0 0] :: row 92 vL ls :: row 76 g.2 (Cu id home 0 (ls.take g.1)) :: L) (fun _ => R) (fun g => [(7, bp b14 0), (20, vi (ls.length : Int)), (21, vi (g.1 : Int))]) (fun g => ls.length - g.1) (0, .slice none 0 0) (Nat.zero_le _) alT (fun w hs => Ag hs) ?_
 rintro ⟨k, vs⟩ hk9
 try simp only at hk9 ⊢
 have htl := L7 id home (ls.take k) 0
 rw [List.length_take] at htl
 refine ZA ?_
 refine cdy ?_ ?_
 ·intro ht22
  refine ZC ?_
  obtain ⟨l, hl⟩ : ∃ l, ls.getD ((k : Int)).toNat zLine = l := ⟨_, rfl⟩
  refine Hv (ls := ls) (l := l) (i := (k : Int)) pkk hl (by omega) (by omega) (fun hlw hA => ?_)
  have hlw0 := hlw
  unfold Line.wf Ao at hlw0
  have honeL : (ep vL 7 (k : Int).toNat 0).oneCell' = true := hA.one
  refine Zar ?_
  refine ob (Im (v := vL) (i := (k : Int)) Ma (hl := Dj (α := Line) (xs := ls) pkk)) ?_
  refine Ga3 ?_
  refine cdy ?_ ?_
  ·intro ht33
   refine JC.conseq (L' := row 92 vL ls :: blk b14 137 [vL, vi q.kind, vi q.line, vi q.value, vi id, vi home, vs, .slice none 0 0] :: row 76 vs (Cu id home 0 (ls.take k)) :: L) (fun w hs => Ag (Ek hl hlw (hs.pick pkk))) ?_
   refine ZD ?_
   refine An Tryz.call88 rfl (fun w hs => Rb (vL := vL) (vd := .slice none 0 0) (q := q) (id := id) (home := home) (ms := Cu id home 0 (ls.take k)) (line := (k : Int)) (ls := ls) (l := l) (LX := L) (Ag hs) hl (by omega) (by omega) (by omega) hid hhome) ?_; intro v36
   refine Gl ?_
   refine kp [6, 7, 8, 20, 21, 22, 23, 24, 25, 26, 27, 28, 29, 30, 31, 32, 33, 34, 35, 37] ?_
   refine ZO ?_
   refine Au (k + 1, v36) (by show k + 1 ≤ ls.length; omega) (by show ls.length - (k + 1) < ls.length - k; omega) alT (fun w hs => ?_)
   try simp only
   rw [Es zLine (by omega), G5, show ls.getD k zLine = l from hl, if_pos ht33, List.length_take, Nat.min_eq_left (by omega), Int.zero_add]
   exact Ag hs
  ·intro ht33
   refine ZC ?_
   refine Au (k + 1, vs) (by show k + 1 ≤ ls.length; omega) (by show ls.length - (k + 1) < ls.length - k; omega) alT (fun w hs => ?_)
   try simp only
   rw [Es zLine (by omega), G5, show ls.getD k zLine = l from hl, if_neg ht33, List.append_nil]
   exact Ag (Ek hl hlw (hs.pick pkk))
 ·intro ht22
  refine Gl ?_
  refine JC.shut (v := vs) (xs := Cu id home 0 (ls.take k)) pkk ?_
  refine Aa ?_
  refine Ga5 ?_
  have hkl : k = ls.length := by omega
  rw [show Dl ⟨ls, q⟩ id home = Cu id home 0 (ls.take k) from by rw [hkl, List.take_length]; rfl]
  exact Bb vs
theorem Acc {lines : Int} (hs : St (L) R w) (hl : 0 ≤ lines ∧ lines ≤ 4) : Calls Tryz.prog 39 [vi lines].toArray w (Bs (fun v : Value => .agg (Core.cells v (Ej lines)).toArray) (fun v => L) (fun v => sl v (Ej lines).lines :: R)) := by
 refine Ai Tryz.func39 rfl Tryz.ntmps39 rfl hs ?_
 clear hs
 refine Gm ?_
 refine al_ (cs := [.slice none 0 0, vi 0, vi 0, vi 0]) Tryz.zeroValue57 ?_; intro b2
 refine ZI ?_
 refine ob (q_mx (a := lines) rfl (by omega)) ?_
 refine Th (α := Line) (x0 := zLine) (zc := zLine.cells) Vj rfl (by decide) rfl rfl rfl (fun j => ⟨rfl, by unfold Line.wf Ao; decide⟩) (by omega) (by omega) ?_; intro v5
 refine J.shut .hd ?_
 refine J.know (p := v5.oneCell' = true) (fun w hs => isSlice.one (hs.fact (.head _))) (fun honev5 => ?_)
 refine rn1 ?_
 refine s_B (cs := [v5, vi 0, vi 0, vi 0]) Tryz.sizeOf57 ?_
 refine Gl ?_
 exact Mh v5 Tryz.isAgg57 Tryz.sizeOf57
section
variable {P : Program} {T : TypeId} {s k : Int}
theorem Rm (h2 : 0 ≤ k) (h3 : k < 4) (w : World) : (binOp .shl T (vi 1) (vi k)).run P w = .ok (vi ((2 ^ k.toNat : Nat) : Int)) w := by
 rcases (show k = 0 ∨ k = 1 ∨ k = 2 ∨ k = 3 by omega) with g | g | g | g <;> subst g <;> rfl
theorem Ni (h0 : 0 ≤ s) (h1 : s < 16) (h2 : 0 ≤ k) (h3 : k < 4) (w : World) : (binOp .andNot T (vi s) (vi ((2 ^ k.toNat : Nat) : Int))).run P w = .ok (vi (Hl s k)) w := by
 exact ZeN
theorem b_orB (h0 : 0 ≤ s) (h1 : s < 16) (h2 : 0 ≤ k) (h3 : k < 4) (w : World) : (binOp .or T (vi s) (vi ((2 ^ k.toNat : Nat) : Int))).run P w = .ok (vi (H5 s k)) w := by
 exact ZeN
theorem Nf (h0 : 0 ≤ s) (h1 : s < 16) (h2 : 0 ≤ k) (h3 : k < 4) (w : World) : (binOp .shr T (vi s) (vi k)).run P w = .ok (vi ((s.toNat / 2 ^ k.toNat : Nat) : Int)) w := by
 exact ZeN
theorem Jv (h0 : 0 ≤ s) (h1 : s < 16) (h2 : 0 ≤ k) (h3 : k < 4) (w : World) : (binOp .and T (vi ((s.toNat / 2 ^ k.toNat : Nat) : Int)) (vi 1)).run P w = .ok (vi (if Jk s k then 1 else 0)) w := by
 exact ZeN
theorem Xl (h0 : 0 ≤ s) (h1 : s < 16) (hk : Jx s ≤ k) (h2 : 0 ≤ k) (h3 : k < 4) : Jk s k = false := by
 revert hk
 rcases (show s = 0 ∨ s = 1 ∨ s = 2 ∨ s = 3 ∨ s = 4 ∨ s = 5 ∨ s = 6 ∨ s = 7 ∨ s = 8 ∨ s = 9 ∨ s = 10 ∨ s = 11 ∨ s = 12 ∨ s = 13 ∨ s = 14 ∨ s = 15 by omega) with h | h | h | h | h | h | h | h | h | h | h | h | h | h | h | h <;> rcases (show k = 0 ∨ k = 1 ∨ k = 2 ∨ k = 3 by omega) with g | g | g | g <;> subst h <;> subst g <;> intro hk <;> first | rfl | (exfalso; revert hk; decide)
end
theorem Jp {e : Entry} {line id : Int} {k : Nat} : Ex e line id (k + 1) = Ex e line id k ++ (if Jk e.need (k : Int) then [⟨4, id, (k : Int), line, 0, e.turn, 0, false⟩] else []) := by
 unfold Jk
 rw [Int.toNat_natCast]
 cases h : e.need.toNat.testBit k with
 | true => rw [Ny h, if_pos rfl]
 | false => rw [P2 h]; simp
theorem N0 {e : Entry} {line id : Int} (he : EB e) : ∀ j : Nat, (Jx e.need).toNat + j ≤ 4 → Ex e line id ((Jx e.need).toNat + j) = Ex e line id (Jx e.need).toNat
 | 0, _ => rfl
 | j + 1, h => by
  have ih := N0 (line := line) (id := id) he j (by omega)
  have hl : 0 ≤ Jx e.need := by unfold Jx; split <;> (try split) <;> (try split) <;> (try split) <;> omega
  rw [← Nat.add_assoc, Jp, Xl he.2.2.1.1 he.2.2.1.2 (by omega) (by omega) (by omega), ih]; simp
theorem W7 {s : Int} : 0 ≤ Jx s ∧ Jx s ≤ 4 := by unfold Jx; split <;> (try split) <;> (try split) <;> (try split) <;> omega
theorem R5 {e : Entry} {line id : Int} (he : EB e) : Ex e line id (Jx e.need).toNat = Ex e line id 4 := by
 have h := W7 (s := e.need)
 have := N0 (line := line) (id := id) he (4 - (Jx e.need).toNat) (by omega)
 rw [← this]; congr 1; omega
theorem Pa {LX : List Chunk} {R : List Fact} {w : World} {vh vo u : Value} {i bk : Nat} {e : Entry} {ms : List Msg} {line id : Int} {kind to serial value : Int} {al : Bool} (hs : St (blk bk 162 [(ep vh 10 i 0), vi line, vi id, vo] :: row 76 vo ms :: LX) R w) (hE : Cx LX R (ep vh 10 i 0) (Entry.cells u e)) (hA : EpAll vh 10 i) (hn : ms.length ≤ 1000) (hwf : (⟨kind, id, to, line, serial, e.turn, value, al⟩ : Msg).wf) : Calls Tryz.prog 103 [bp bk 0, vi kind, vi to, vi serial, vi value, .bool al].toArray w (Bs (fun v : Value => .tuple #[]) (fun v => blk bk 162 [(ep vh 10 i 0), vi line, vi id, v] :: row 76 v (ms ++ [(⟨kind, id, to, line, serial, e.turn, value, al⟩ : Msg)]) :: LX) (fun v => R)) := by
 refine Ai Tryz.func103 rfl Tryz.ntmps103 rfl hs ?_
 clear hs
 refine cq_ (blk bk 162 [(ep vh 10 i 0), vi line, vi id, vo] :: row 76 vo ms :: LX) ?_
 refine jd_ (fun ρ S => blk bk 162 (bif S 30 then [(ep vh 10 i 0), vi line, vi id, (Gh.dec (γ := Value) (ρ 27))] else [(ep vh 10 i 0), vi line, vi id, vo]) :: (bif S 27 then row 76 (Gh.dec (γ := Value) (ρ 27)) (ms ++ [(⟨kind, id, to, line, serial, e.turn, value, al⟩ : Msg)]) else row 76 vo ms) :: (LX)) ?_
 refine dn4 ?_
 refine Ib (v := vo) (fun ρ S hS hB hA => by have h30 : S 30 = false := hA 30 ⟨0, rfl⟩; simp only [h30, cond_false]; exact Cz (hc := A0 pkk (by repeat (first | exact rfl | refine C5 rfl ?_))) Tryz.isAgg64) (fun _ _ _ _ _ => rfl) ?_
 refine dn4 ?_
 refine Ib (v := vi id) (fun ρ S hS hB hA => by have h30 : S 30 = false := hA 30 ⟨0, rfl⟩; simp only [h30, cond_false]; exact Cz (hc := A0 pkk (by repeat (first | exact rfl | refine C5 rfl ?_))) Tryz.isAgg3) (fun _ _ _ _ _ => rfl) ?_
 refine dn4 ?_
 refine Ib (v := vi line) (fun ρ S hS hB hA => by have h30 : S 30 = false := hA 30 ⟨0, rfl⟩; simp only [h30, cond_false]; exact Cz (hc := A0 pkk (by repeat (first | exact rfl | refine C5 rfl ?_))) Tryz.isAgg3) (fun _ _ _ _ _ => rfl) ?_
 refine dn4 ?_
 refine Ib (v := (ep vh 10 i 0)) (fun ρ S hS hB hA => by have h30 : S 30 = false := hA 30 ⟨0, rfl⟩; simp only [h30, cond_false]; exact Cz (hc := A0 pkk (by repeat (first | exact rfl | refine C5 rfl ?_))) Tryz.isAgg159) (fun _ _ _ _ _ => rfl) ?_
 first | refine epc (fun _ _ => q_nb) ?_ | refine epc (fun _ _ => q_ne) ?_ | refine epp (fun _ _ => q_nb) ?_ | refine epp (fun _ _ => q_ne) ?_
 first | refine epc (fun _ _ => Y5 M8) ?_ | refine epc (fun _ _ => Y4 M8) ?_ | refine epp (fun _ _ => Y5 M8) ?_ | refine epp (fun _ _ => Y4 M8) ?_
 first | refine epc (fun _ _ => Cz Tryz.isAgg3) ?_ | refine epp (fun _ _ => Cz Tryz.isAgg3) ?_
 refine dn2 ?_
 first | refine epc (fun _ _ => Dx D8) ?_ | refine epc (fun _ _ => Fd D8) ?_ | refine epp (fun _ _ => Dx D8) ?_ | refine epp (fun _ _ => Fd D8) ?_
 refine Fe ([(⟨kind, id, to, line, serial, e.turn, value, al⟩ : Msg)] : List Msg) Fp rfl (fun _ => rfl) rfl (fun _ => rfl) rfl rfl (fun ρ R hd => Il hwf) (fun _ _ _ _ _ => rfl) ?_
 refine Fi (e := 76) (xs := ms) (ys := [(⟨kind, id, to, line, serial, e.turn, value, al⟩ : Msg)]) (v := vo) Fp (fun _ => rfl) (fun _ => rfl) rfl (by decide) (fun ρ R hd => (hd.dep (it := ⟨26, _, _, _, _⟩) (by repeat (first | exact List.Mem.head _ | refine List.Mem.tail _ ?_)) ⟨9, rfl⟩ (List.Mem.head _))) (by have : maxN = 16777216 := rfl; simp only [List.length_cons, List.length_nil]; omega) (fun ρ g S hS hB hA => ?_) ?_
 ·have ui : upS S 27 27 = true := rfl; have u30 : upS S 27 30 = S 30 := rfl; have h30 : S 30 = false := hA 30 ⟨0, rfl⟩; have rs : (Gh.dec (γ := Value) (Rho.set ρ 27 (Gh.enc g) 27)) = g := rfl
  simp only [ui, hS, u30, h30, rs, cond_true, cond_false]
  exact pex
 refine dn2 ?_
 refine Eb (T0 := 162) (f := 3) (vs := fun ρ => [(ep vh 10 i 0), vi line, vi id, vo]) (v := fun ρ => (Gh.dec (γ := Value) (ρ 27))) (fun ρ => bk) Tryz.sizeOf64 (fun _ => rfl) (fun _ => rfl) (fun ρ S R w L9 hB hd hs => by have h27 : S 27 = true := hB 27 ⟨9, rfl⟩; simp only [h27, cond_true] at hs; exact Bx pkk hs) (fun _ => rfl) (fun ρ g S hS hB hA => ?_) ?_
 ·have ui : upS S 30 30 = true := rfl; have u27 : upS S 30 27 = S 27 := rfl; have r27 : Rho.set ρ 30 g 27 = ρ 27 := rfl
  simp only [ui, hS, u27, r27, cond_true, cond_false]
  exact pex
 refine dnl ?_; intro ρ
 refine xq_ (blk bk 162 [(ep vh 10 i 0), vi line, vi id, (Gh.dec (γ := Value) (ρ 27))] :: row 76 (Gh.dec (γ := Value) (ρ 27)) (ms ++ [(⟨kind, id, to, line, serial, e.turn, value, al⟩ : Msg)]) :: (LX)) ?_
 generalize (Gh.dec (γ := Value) (ρ 26)) = v38
 generalize (Gh.dec (γ := Value) (ρ 27)) = v39
 refine Bg (.inl rfl) (fun B w hs => H6 rfl _ w) (fun w hs => ⟨v39, rfl, Ag hs⟩)
theorem V7 {s : Int} (h0 : 0 ≤ s) (h1 : s < 16) : IntKind.u64.wrap s = s := by
 rcases (show s = 0 ∨ s = 1 ∨ s = 2 ∨ s = 3 ∨ s = 4 ∨ s = 5 ∨ s = 6 ∨ s = 7 ∨ s = 8 ∨ s = 9 ∨ s = 10 ∨ s = 11 ∨ s = 12 ∨ s = 13 ∨ s = 14 ∨ s = 15 by omega) with h | h | h | h | h | h | h | h | h | h | h | h | h | h | h | h <;> subst h <;> rfl
theorem Ir {LX : List Chunk} {R : List Fact} {w : World} {vh vo u : Value} {i bk : Nat} {e : Entry} {ms : List Msg} {line id : Int} (hs : St (blk bk 162 [(ep vh 10 i 0), vi line, vi id, vo] :: row 76 vo ms :: LX) R w) (hE : Cx LX R (ep vh 10 i 0) (Entry.cells u e)) (hA : EpAll vh 10 i) (hn : ms.length ≤ 500) (hb : EB e) (hl : Ao line) (hid : Ao id) : Calls Tryz.prog 100 [bp bk 0].toArray w (Bs (fun v : Value => .tuple #[]) (fun v => blk bk 162 [(ep vh 10 i 0), vi line, vi id, v] :: row 76 v (ms ++ Fm e line id) :: LX) (fun v => R)) := by
 have hb0 := hb
 unfold EB Entry.wf Ao at hb0
 unfold Ao at hl hid
 refine Ai Tryz.func100 rfl Tryz.ntmps100 rfl hs ?_
 clear hs
 refine Gm ?_
 refine Gb7 ?_
 refine Ga2 ?_
 refine cdy ?_ ?_
 ·intro ht11
  refine ZN ?_
  refine Ga7 ?_
  refine A9 (b := ?b2) ?e2 ?_ ?_; case e2 => exact rfl
  ·intro ht19
   refine Aa ?_
   refine Gb1 ?_
   refine rn9 ?_
   refine An Tryz.call103 rfl (fun w hs => Pa (e := e) (ms := ms) (kind := 6) (to := e.owner) (serial := 0) (value := 0) (al := false) hs hE hA (by omega) (by unfold Msg.wf Ao; simp only; omega)) ?_; intro v29
   refine Gl ?_
   have er : Fm e line id = [⟨6, id, e.owner, line, 0, e.turn, 0, false⟩] := by unfold Fm; rw [if_pos ht11, ht19]; rfl
   exact Zgx
  ·intro ht19
   refine Gm ?_
   refine rn9 ?_
   refine An Tryz.call103 rfl (fun w hs => Pa (e := e) (ms := ms) (kind := 5) (to := e.owner) (serial := 0) (value := 0) (al := false) hs hE hA (by omega) (by unfold Msg.wf Ao; simp only; omega)) ?_; intro v29
   refine Gl ?_
   have er : Fm e line id = [⟨5, id, e.owner, line, 0, e.turn, 0, false⟩] := by unfold Fm; rw [if_pos ht11, ht19]; rfl
   exact Zgx
 ·intro ht11
  refine ZC ?_
  refine cdy ?_ ?_
  ·intro ht30
   refine Gm ?_
   refine rn7 ?_
   refine ob (Ar (v := .int .u64 e.need) Tryz.underlying3 Tryz.underlying129 rfl (by rw [show IntKind.u64.wrap e.need = e.need from V7 hb0.2.2.1.1 hb0.2.2.1.2])) ?_
   refine An Tryz.call104 rfl (fun w hs => Ajg hs hb0.2.2.1.1 hb0.2.2.1.2) ?_; intro _
   refine Ga1 ?_
   have hlb := W7 (s := e.need)
   refine A7 (γ := Nat × Value) (fun g => (g.1 : Int) ≤ Jx e.need) (fun g => blk bk 162 [(ep vh 10 i 0), vi line, vi id, g.2] :: row 76 g.2 (ms ++ Ex e line id g.1) :: LX) (fun _ => R) (fun g => [(0, bp bk 0), (40, vi (Jx e.need)), (41, vi (g.1 : Int))]) (fun g => (Jx e.need).toNat - g.1) (0, vo) (by show (0 : Int) ≤ Jx e.need; omega) alT (fun w hs => by have e0 : Ex e line id 0 = [] := rfl; rw [e0, List.append_nil]; exact hs) ?_
   rintro ⟨k, vs⟩ hk
   try simp only at hk ⊢
   have hsl := Nz e line id k
   refine ZA ?_
   refine cdy ?_ ?_
   ·intro ht42
    refine Za1 ?_
    refine rn8 ?_
    refine ob (E6 (a := e.need) (b := (k : Int)) (Nf hb0.2.2.1.1 hb0.2.2.1.2 (by omega) (by omega))) ?_
    refine ob (E6 (a := ((e.need.toNat / 2 ^ (k : Int).toNat : Nat) : Int)) (b := 1) (Jv hb0.2.2.1.1 hb0.2.2.1.2 (by omega) (by omega))) ?_
    refine Ga1 ?_
    refine cdy ?_ ?_
    ·intro ht54
     refine kp [0, 3, 10, 40, 41, 42, 43, 44, 45, 46, 47, 48, 49, 50, 51, 52, 53, 54, 55, 56] ?_
     refine ZD ?_
     refine An Tryz.call103 rfl (fun w hs => Pa (e := e) (ms := (ms ++ Ex e line id k)) (kind := 4) (to := (k : Int)) (serial := 0) (value := 0) (al := false) hs hE hA (by simp only [List.length_append]; omega) (by unfold Msg.wf Ao; simp only; omega)) ?_; intro v57
     refine ZC ?_
     refine Au (k + 1, v57) (by show ((k + 1 : Nat) : Int) ≤ Jx e.need; omega) (by show (Jx e.need).toNat - (k + 1) < (Jx e.need).toNat - k; omega) alT (fun w hs => ?_)
     try simp only
     have hb9 : Jk e.need (k : Int) = true := by revert ht54; cases Jk e.need (k : Int) <;> simp
     rw [Jp, hb9, if_pos rfl, ← List.append_assoc]; exact Ag hs
    ·intro ht54
     refine Gl ?_
     refine kp [0, 3, 10, 40, 41, 42, 43, 44, 45, 46, 47, 48, 49, 50, 51, 52, 53, 54, 55, 56, 58] ?_
     refine ZO ?_
     refine Au (k + 1, vs) (by show ((k + 1 : Nat) : Int) ≤ Jx e.need; omega) (by show (Jx e.need).toNat - (k + 1) < (Jx e.need).toNat - k; omega) alT (fun w hs => ?_)
     try simp only
     have hb9 : Jk e.need (k : Int) = false := by revert ht54; cases Jk e.need (k : Int) <;> simp
     rw [Jp, hb9, if_neg (by decide), List.append_nil]; exact Ag hs
   ·intro ht42
    refine Gl ?_
    have hk4 : k = (Jx e.need).toNat := by omega
    subst hk4
    have er : Fm e line id = Ex e line id (Jx e.need).toNat := by rw [R5 hb, N1 ht30]
    rw [er]
    refine Bg (.inl rfl) (fun B w hs => H6 rfl _ w) (fun w hs => ⟨vs, rfl, Ag hs⟩)
  ·intro ht30
   refine ZC ?_
   refine cdy ?_ ?_
   ·intro ht59
    refine Bq ?_
    refine dn29 ?_
    refine dtl ?_; intro ρ
    refine An Tryz.call103 rfl (fun w hs => Pa (e := e) (ms := ms) (kind := 7) (to := e.who) (serial := e.serial) (value := e.value) (al := e.alone) hs hE hA (by omega) (by unfold Msg.wf Ao; simp only; omega)) ?_; intro v90
    refine Gl ?_
    have er : Fm e line id = [⟨7, id, e.who, line, e.serial, e.turn, e.value, e.alone⟩] := by unfold Fm; rw [if_neg ht11, if_neg ht30, if_pos ht59]
    rw [er]
    refine Bg (.inl rfl) (fun B w hs => H6 rfl _ w) (fun w hs => ⟨v90, rfl, Ag hs⟩)
   ·intro ht59
    refine Gl ?_
    have er : Fm e line id = [] := by unfold Fm; rw [if_neg ht11, if_neg ht30, if_neg ht59]
    rw [er, List.append_nil]
    refine Bg (.inl rfl) (fun B w hs => H6 rfl _ w) (fun w hs => ⟨vo, rfl, Ag hs⟩)
theorem Lw {LX : List Chunk} {R : List Fact} {w : World} {vh vo u : Value} {i bk : Nat} {e : Entry} {ms : List Msg} {line id : Int} {xs : List Entry} (hs : St (blk bk 162 [(ep vh 10 i 0), vi line, vi id, vo] :: row 76 vo ms :: foc 62 vh xs i (Entry.cells u e) :: LX) R w) (hA : EpAll vh 10 i) (hone : u.oneCell' = true) (hn : ms.length ≤ 500) (hb : EB e) (hl : Ao line) (hid : Ao id) : Calls Tryz.prog 95 [bp bk 0].toArray w (Bs (fun v : Value => .tuple #[]) (fun v => blk bk 162 [(ep vh 10 i 0), vi line, vi id, v] :: row 76 v (ms ++ Fm (Bd e) line id) :: foc 62 vh xs i (Entry.cells u (Bd e)) :: LX) (fun v => R)) := by
 have hb0 := hb
 unfold EB Entry.wf Ao at hb0
 have hl0 := hl
 have hid0 := hid
 unfold Ao at hl0 hid0
 refine Ai Tryz.func95 rfl Tryz.ntmps95 rfl hs ?_
 clear hs
 refine Gm ?_
 refine rn6 ?_
 refine sc ?_
 refine Gl ?_
 refine Bq ?_
 refine dn14 ?_
 refine djc (fun _ _ => E6 (a := 1) (b := e.who) (Rm (by omega) (by omega))) ?_
 refine djc (fun _ _ => E6 (a := e.sharers) (b := ((2 ^ e.who.toNat : Nat) : Int)) (Ni (by omega) (by omega) (by omega) (by omega))) ?_
 refine ZT ?_;intro ρ
 refine Gm ?_
 refine Ga9 ?_
 refine cdy ?_ ?_
 ·intro ht31
  refine kp [0, 2, 40, 41, 42, 43, 44, 45] ?_
  refine Zar ?_
  refine sc ?_
  refine ZI ?_
  have en : Bd e = { e with need := 0, phase := 1 } := by unfold Bd; rw [if_pos ht31]
  have hbn : EB ({ e with need := 0, phase := 1 }) := en ▸ C8 hb
  refine An Tryz.call100 rfl (fun w hs => Ir (e := { e with need := 0, phase := 1 }) (u := u) (ms := ms) (line := line) (id := id) (LX := foc 62 vh xs i [vi e.value, vi e.owner, vi e.sharers, vi 1, vi e.who, vi e.serial, .bool e.alone, vi e.turn, vi 0, u] :: LX) (Ag hs) (Nj .hd rfl) hA hn hbn hl hid) ?_; intro v72
  refine Gl ?_
  rw [en]
  refine Bg (.inl rfl) (fun B w hs => H6 rfl _ w) (fun w hs => ⟨v72, rfl, Ag hs⟩)
 ·intro ht31
  refine Gl ?_
  refine kp [0, 2, 46, 47, 48, 49, 50, 51, 52, 53, 54, 55, 56, 57] ?_
  refine Aa ?_
  refine rn8 ?_
  refine Jr (t := 54) (b := ?b2) ?e2 ?_ ?_; case e2 => exact rfl
  ·intro ht54
   refine Ga4 ?_
   refine cdy ?_ ?_
   ·intro ht46
    refine cq_ (foc 62 vh xs i [vi e.value, vi e.owner, vi e.sharers, vi e.phase, vi e.who, vi e.serial, .bool e.alone, vi e.turn, vi 0, u] :: blk bk 162 [(ep vh 10 i 0), vi line, vi id, vo] :: row 76 vo ms :: LX) ?_
    refine jd_ (fun ρ S => foc 62 vh xs i (bif S 14 then [vi e.value, vi e.owner, vi e.sharers, vi 2, vi e.who, vi e.serial, .bool e.alone, vi e.turn, vi (Hl e.sharers e.who), u] else (bif S 11 then [vi e.value, vi e.owner, vi e.sharers, vi 2, vi e.who, vi e.serial, .bool e.alone, vi e.turn, vi 0, u] else [vi e.value, vi e.owner, vi e.sharers, vi e.phase, vi e.who, vi e.serial, .bool e.alone, vi e.turn, vi 0, u])) :: blk bk 162 [(ep vh 10 i 0), vi line, vi id, vo] :: row 76 vo ms :: (LX)) ?_
    refine Aed ?_
    refine En (T0 := 62) (f := 3) (k := i) (sz := 10) (hv := vh) (xs := xs) (vs := fun ρ => [vi e.value, vi e.owner, vi e.sharers, vi e.phase, vi e.who, vi e.serial, .bool e.alone, vi e.turn, vi 0, u]) (v := fun ρ => (vi 2)) rfl Tryz.sizeOf3 (fun _ => rfl) (fun _ => rfl) (fun _ _ _ _ _ _ _ _ => rfl) (fun _ => rfl) (fun ρ g S hS hB hA => ?_) ?_
    ·have ui : upS S 11 11 = true := rfl; have u14 : upS S 11 14 = S 14 := rfl; have h14 : S 14 = false := hA 14 ⟨0, rfl⟩
     simp only [ui, hS, u14, h14, cond_true, cond_false]
     exact pex
    refine dn2 ?_
    refine En (T0 := 62) (f := 8) (k := i) (sz := 10) (hv := vh) (xs := xs) (vs := fun ρ => [vi e.value, vi e.owner, vi e.sharers, vi 2, vi e.who, vi e.serial, .bool e.alone, vi e.turn, vi 0, u]) (v := fun ρ => (vi (Hl e.sharers e.who))) rfl Tryz.sizeOf3 (fun _ => rfl) (fun _ => rfl) (fun _ _ _ _ _ _ _ _ => rfl) (fun _ => rfl) (fun ρ g S hS hB hA => ?_) ?_
    ·have ui : upS S 14 14 = true := rfl; have u11 : upS S 14 11 = S 11 := rfl; have h11 : S 11 = true := hB 11 ⟨0, rfl⟩
     simp only [ui, hS, u11, h11, cond_true, cond_false]
     exact pex
    refine dnl ?_; intro ρ
    refine xq_ (foc 62 vh xs i [vi e.value, vi e.owner, vi e.sharers, vi 2, vi e.who, vi e.serial, .bool e.alone, vi e.turn, vi (Hl e.sharers e.who), u] :: blk bk 162 [(ep vh 10 i 0), vi line, vi id, vo] :: row 76 vo ms :: (LX)) ?_
    refine ZI ?_
    have en : Bd e = { e with need := (Hl e.sharers e.who), phase := 2 } := by unfold Bd; rw [if_neg ht31, if_pos ⟨ht54, ht46⟩]
    have hbn : EB ({ e with need := (Hl e.sharers e.who), phase := 2 }) := en ▸ C8 hb
    refine An Tryz.call100 rfl (fun w hs => Ir (e := { e with need := (Hl e.sharers e.who), phase := 2 }) (u := u) (ms := ms) (line := line) (id := id) (LX := foc 62 vh xs i [vi e.value, vi e.owner, vi e.sharers, vi 2, vi e.who, vi e.serial, .bool e.alone, vi e.turn, vi (Hl e.sharers e.who), u] :: LX) (Ag hs) (Nj .hd rfl) hA hn hbn hl hid) ?_; intro v72
    refine Gl ?_
    rw [en]
    refine Bg (.inl rfl) (fun B w hs => H6 rfl _ w) (fun w hs => ⟨v72, rfl, Ag hs⟩)
   ·intro ht46
    refine Zar ?_
    refine sc ?_
    refine ZI ?_
    have en : Bd e = { e with need := 0, phase := 3 } := by unfold Bd; rw [if_neg ht31, if_neg (fun h => h.2 (by omega))]
    exact Zfh
  ·intro ht54
   refine Gd4 ?_
   refine rn6 ?_
   refine sc ?_
   refine ZI ?_
   have en : Bd e = { e with need := 0, phase := 3 } := by unfold Bd; rw [if_neg ht31, if_neg (fun h => by rw [h.1] at ht54; cases ht54)]
   exact Zfh
theorem Xj {LX : List Chunk} {R : List Fact} {w : World} {vh vo u : Value} {i bk : Nat} {e : Entry} {ms : List Msg} {line id : Int} {xs : List Entry} {bm : Nat} {m : Msg} (hs : St (blk bk 162 [(ep vh 10 i 0), vi line, vi id, vo] :: row 76 vo ms :: foc 62 vh xs i (Entry.cells u e) :: row 3 u e.last :: blk bm 76 m.cells :: LX) R w) (hA : EpAll vh 10 i) (hone : u.oneCell' = true) (hn : ms.length ≤ 500) (hb : EB e) (hl : Ao line) (hid : Ao id) (hm : m.wf) (hline : m.line = line) (hsrc : 0 ≤ m.src ∧ m.src < (e.last.length : Int)) (hla : e.last.length ≤ 4) (hk : m.kind = 1 ∨ m.kind = 2) : Calls Tryz.prog 93 [bp bk 0, bp bm 0].toArray w (Bs (fun v : Value => .tuple #[]) (fun v => blk bk 162 [(ep vh 10 i 0), vi line, vi id, v] :: row 76 v (ms ++ (Ah e id m).2) :: foc 62 vh xs i (Entry.cells u (Ah e id m).1) :: row 3 u (Ah e id m).1.last :: blk bm 76 m.cells :: LX) (fun v => R)) := by
 have hb0 := hb
 unfold EB Entry.wf Ao at hb0
 have hl0 := hl
 have hid0 := hid
 unfold Ao at hl0 hid0
 have hm0 := hm
 unfold Msg.wf Ao at hm0
 refine Ai Tryz.func93 rfl Tryz.ntmps93 rfl hs ?_
 clear hs
 refine Gl ?_
 rcases (show (e.phase ≠ 0) ∨ (e.phase = 0 ∧ m.serial ≤ e.last.getD m.src.toNat 0) ∨ (e.phase = 0 ∧ e.last.getD m.src.toNat 0 < m.serial ∧ 65535 ≤ e.turn) ∨ (e.phase = 0 ∧ e.last.getD m.src.toNat 0 < m.serial ∧ e.turn < 65535) from by omega) with hc | hc | hc | hc
 ·refine ZaK ?_
  refine djc (fun _ _ => Am rfl rfl (E4 (by omega))) ?_
  refine djm ?_
  refine dn18 ?_
  refine Zal ?_
  refine dn8 ?_
  refine ZZ ?_
  refine Zda ?_;intro ρ er
  exact ZfE
 ·refine Zdh ?_
  refine dj (dgy ?_)
  refine Zdr ?_
  refine dj (dgy ?_)
  refine dc (fun _ _ => Am rfl rfl (Pq (by omega))) ?_
  refine Zaa ?_
  refine dn8 ?_
  refine ZZ ?_
  refine Zda ?_;intro ρ er
  exact ZfE
 ·refine Zdh ?_
  refine dj (dgy ?_)
  refine Zdr ?_
  refine dj (dgy ?_)
  refine Zb1 ?_
  refine dn7 ?_
  refine dj (dgy ?_)
  refine ZbO ?_
  refine djf ?_
  refine Zda ?_;intro ρ er
  exact ZfE
 ·refine Zdh ?_
  refine dj (dgy ?_)
  refine Zdr ?_
  refine dj (dgy ?_)
  refine Zb1 ?_
  refine dn7 ?_
  refine dj (dgy ?_)
  refine dc (fun _ _ => Am rfl rfl (Cc (by omega))) ?_
  refine djf ?_
  refine dnl ?_; intro ρ
  refine Glc ?_
  refine kp [0, 1, 42, 43, 44, 45, 46, 47, 48, 49, 50, 51, 52, 53, 54, 55, 56, 57] ?_
  refine Bq ?_
  refine dn16 ?_
  refine dtl ?_; intro ρ
  refine Et (xs := e.last) Tryz.sizeOf3 rfl rfl pkk (getD_some 0 (by omega)) hm.2.2.2.2.1 ?_
  refine Gl ?_
  refine ZdS ?_
  refine jd_ (fun ρ S => foc 62 vh xs i (bif S 33 then [vi e.value, vi e.owner, vi e.sharers, vi e.phase, vi m.src, vi m.serial, .bool (decide (m.kind = 2)), vi e.turn, vi e.need, u] else (bif S 30 then [vi e.value, vi e.owner, vi e.sharers, vi e.phase, vi m.src, vi m.serial, .bool e.alone, vi e.turn, vi e.need, u] else (bif S 27 then [vi e.value, vi e.owner, vi e.sharers, vi e.phase, vi m.src, vi e.serial, .bool e.alone, vi e.turn, vi e.need, u] else [vi e.value, vi e.owner, vi e.sharers, vi e.phase, vi e.who, vi e.serial, .bool e.alone, vi e.turn, vi e.need, u]))) :: blk bk 162 [(ep vh 10 i 0), vi line, vi id, vo] :: row 76 vo ms :: row 3 u (e.last.set m.src.toNat m.serial) :: blk bm 76 m.cells :: (LX)) ?_
  refine dn27 ?_
  refine En (T0 := 62) (f := 4) (k := i) (sz := 10) (hv := vh) (xs := xs) (vs := fun ρ => [vi e.value, vi e.owner, vi e.sharers, vi e.phase, vi e.who, vi e.serial, .bool e.alone, vi e.turn, vi e.need, u]) (v := fun ρ => (vi m.src)) rfl Tryz.sizeOf3 (fun _ => rfl) (fun _ => rfl) (fun _ _ _ _ _ _ _ _ => rfl) (fun _ => rfl) (fun ρ g S hS hB hA => ?_) ?_
  ·have ui : upS S 27 27 = true := rfl; have u30 : upS S 27 30 = S 30 := rfl; have u33 : upS S 27 33 = S 33 := rfl; have h30 : S 30 = false := hA 30 ⟨0, rfl⟩; have h33 : S 33 = false := hA 33 ⟨0, rfl⟩
   simp only [ui, hS, u30, u33, h30, h33, cond_true, cond_false]
   exact pex
  refine dn2 ?_
  refine En (T0 := 62) (f := 5) (k := i) (sz := 10) (hv := vh) (xs := xs) (vs := fun ρ => [vi e.value, vi e.owner, vi e.sharers, vi e.phase, vi m.src, vi e.serial, .bool e.alone, vi e.turn, vi e.need, u]) (v := fun ρ => (vi m.serial)) rfl Tryz.sizeOf3 (fun _ => rfl) (fun _ => rfl) (fun _ _ _ _ _ _ _ _ => rfl) (fun _ => rfl) (fun ρ g S hS hB hA => ?_) ?_
  ·have ui : upS S 30 30 = true := rfl; have u27 : upS S 30 27 = S 27 := rfl; have u33 : upS S 30 33 = S 33 := rfl; have h27 : S 27 = true := hB 27 ⟨0, rfl⟩; have h33 : S 33 = false := hA 33 ⟨0, rfl⟩
   simp only [ui, hS, u27, u33, h27, h33, cond_true, cond_false]
   exact pex
  refine dn2 ?_
  refine En (T0 := 62) (f := 6) (k := i) (sz := 10) (hv := vh) (xs := xs) (vs := fun ρ => [vi e.value, vi e.owner, vi e.sharers, vi e.phase, vi m.src, vi m.serial, .bool e.alone, vi e.turn, vi e.need, u]) (v := fun ρ => (.bool (decide (m.kind = 2)))) rfl Tryz.sizeOf4 (fun _ => rfl) (fun _ => rfl) (fun _ _ _ _ _ _ _ _ => rfl) (fun _ => rfl) (fun ρ g S hS hB hA => ?_) ?_
  ·have ui : upS S 33 33 = true := rfl; have u27 : upS S 33 27 = S 27 := rfl; have u30 : upS S 33 30 = S 30 := rfl; have h27 : S 27 = true := hB 27 ⟨0, rfl⟩; have h30 : S 30 = true := hB 30 ⟨0, rfl⟩
   simp only [ui, hS, u27, u30, h27, h30, cond_true, cond_false]
   exact pex
  refine dnl ?_; intro ρ
  refine xq_ (foc 62 vh xs i [vi e.value, vi e.owner, vi e.sharers, vi e.phase, vi m.src, vi m.serial, .bool (decide (m.kind = 2)), vi e.turn, vi e.need, u] :: blk bk 162 [(ep vh 10 i 0), vi line, vi id, vo] :: row 76 vo ms :: row 3 u (e.last.set m.src.toNat m.serial) :: blk bm 76 m.cells :: (LX)) ?_
  refine Gl ?_
  refine kp [0, 89, 90, 91, 92, 93, 94, 95, 96, 97, 98] ?_
  refine Aa ?_
  refine rn10 ?_
  refine sc ?_
  refine ZI ?_
  have hX : EB ({ e with last := (e.last.set m.src.toNat m.serial), who := m.src, serial := m.serial, alone := m.kind == 2, turn := e.turn + 1 }) := by unfold EB Entry.wf Ao; simp only; omega
  refine An Tryz.call95 rfl (fun w hs => Lw (e := { e with last := (e.last.set m.src.toNat m.serial), who := m.src, serial := m.serial, alone := m.kind == 2, turn := e.turn + 1 }) (u := u) (ms := ms) (line := line) (id := id) (xs := xs) (LX := row 3 u (e.last.set m.src.toNat m.serial) :: blk bm 76 m.cells :: LX) (Ag hs) hA hone hn hX hl hid) ?_; intro v100
  refine Gl ?_
  have er : Ah e id m = (Bd ({ e with last := (e.last.set m.src.toNat m.serial), who := m.src, serial := m.serial, alone := m.kind == 2, turn := e.turn + 1 }), Fm (Bd ({ e with last := (e.last.set m.src.toNat m.serial), who := m.src, serial := m.serial, alone := m.kind == 2, turn := e.turn + 1 })) m.line id) := by unfold Ah; rw [if_pos (by omega), if_neg (by unfold Eg; omega)]; rfl
  rw [er, hline, D1]
  refine Bg (.inl rfl) (fun B w hs => H6 rfl _ w) (fun w hs => ⟨v100, rfl, Ag hs⟩)
theorem Age {LX : List Chunk} {R : List Fact} {w : World} {vh vo u : Value} {i bk : Nat} {e : Entry} {ms : List Msg} {line id : Int} {xs : List Entry} {bm : Nat} {m : Msg} (hs : St (blk bk 162 [(ep vh 10 i 0), vi line, vi id, vo] :: row 76 vo ms :: foc 62 vh xs i (Entry.cells u e) :: row 3 u e.last :: blk bm 76 m.cells :: LX) R w) (hA : EpAll vh 10 i) (hone : u.oneCell' = true) (hn : ms.length ≤ 500) (hb : EB e) (hl : Ao line) (hid : Ao id) (hm : m.wf) (hline : m.line = line) (hsrc : 0 ≤ m.src ∧ m.src < (e.last.length : Int)) (hla : e.last.length ≤ 4) (hk : m.kind = 3) : Calls Tryz.prog 94 [bp bk 0, bp bm 0].toArray w (Bs (fun v : Value => .tuple #[]) (fun v => blk bk 162 [(ep vh 10 i 0), vi line, vi id, v] :: row 76 v (ms ++ (Ah e id m).2) :: foc 62 vh xs i (Entry.cells u (Ah e id m).1) :: row 3 u (Ah e id m).1.last :: blk bm 76 m.cells :: LX) (fun v => R)) := by
 have hb0 := hb
 unfold EB Entry.wf Ao at hb0
 have hl0 := hl
 have hid0 := hid
 unfold Ao at hl0 hid0
 have hm0 := hm
 unfold Msg.wf Ao at hm0
 refine Ai Tryz.func94 rfl Tryz.ntmps94 rfl hs ?_
 clear hs
 refine Gm ?_
 refine Ga8 ?_
 refine cdy ?_ ?_
 ·intro ht11
  refine Gl ?_
  have er : Ah e id m = (e, []) := by unfold Ah; rw [if_neg (by omega), if_pos (by omega), if_pos ht11]
  rw [er, List.append_nil]
  exact ZfE
 ·intro ht11
  refine Gl ?_
  refine Bq ?_
  refine dn16 ?_
  refine djc (fun _ _ => Cz (hc := D4 (xs := e.last) pkk (by omega)) Tryz.isAgg3) ?_
  refine djc (fun _ _ => E6 Ro) ?_
  refine dnl ?_; intro ρ
  refine Gl ?_
  refine cdy ?_ ?_
  ·intro ht29
   refine Gl ?_
   refine Bq ?_
   refine dn16 ?_
   refine dtl ?_; intro ρ
   refine Et (xs := e.last) Tryz.sizeOf3 rfl rfl pkk (getD_some 0 (by omega)) hm.2.2.2.2.1 ?_
   refine Gl ?_
   refine kp [0, 1, 46, 47, 48, 49, 50, 51, 52, 53, 54, 55, 56, 57] ?_
   refine Bq ?_
   refine dn12 ?_
   refine dnl ?_; intro ρ
   refine Gl ?_
   refine cdy ?_ ?_
   ·intro ht57
    refine ZdS ?_
    refine jd_ (fun ρ S => foc 62 vh xs i (bif S 17 then [vi m.value, vi (-1), vi e.sharers, vi e.phase, vi e.who, vi e.serial, .bool e.alone, vi e.turn, vi e.need, u] else (bif S 14 then [vi m.value, vi e.owner, vi e.sharers, vi e.phase, vi e.who, vi e.serial, .bool e.alone, vi e.turn, vi e.need, u] else [vi e.value, vi e.owner, vi e.sharers, vi e.phase, vi e.who, vi e.serial, .bool e.alone, vi e.turn, vi e.need, u])) :: blk bk 162 [(ep vh 10 i 0), vi line, vi id, vo] :: row 76 vo ms :: row 3 u (e.last.set m.src.toNat m.serial) :: blk bm 76 m.cells :: (LX)) ?_
    refine dn14 ?_
    refine En (T0 := 62) (f := 0) (k := i) (sz := 10) (hv := vh) (xs := xs) (vs := fun ρ => [vi e.value, vi e.owner, vi e.sharers, vi e.phase, vi e.who, vi e.serial, .bool e.alone, vi e.turn, vi e.need, u]) (v := fun ρ => (vi m.value)) rfl Tryz.sizeOf3 (fun _ => rfl) (fun _ => rfl) (fun _ _ _ _ _ _ _ _ => rfl) (fun _ => rfl) (fun ρ g S hS hB hA => ?_) ?_
    ·have ui : upS S 14 14 = true := rfl; have u17 : upS S 14 17 = S 17 := rfl; have h17 : S 17 = false := hA 17 ⟨0, rfl⟩
     simp only [ui, hS, u17, h17, cond_true, cond_false]
     exact pex
    refine dn2 ?_
    refine En (T0 := 62) (f := 1) (k := i) (sz := 10) (hv := vh) (xs := xs) (vs := fun ρ => [vi m.value, vi e.owner, vi e.sharers, vi e.phase, vi e.who, vi e.serial, .bool e.alone, vi e.turn, vi e.need, u]) (v := fun ρ => (vi (-1))) rfl Tryz.sizeOf3 (fun _ => rfl) (fun _ => rfl) (fun _ _ _ _ _ _ _ _ => rfl) (fun _ => rfl) (fun ρ g S hS hB hA => ?_) ?_
    ·have ui : upS S 17 17 = true := rfl; have u14 : upS S 17 14 = S 14 := rfl; have h14 : S 14 = true := hB 14 ⟨0, rfl⟩
     simp only [ui, hS, u14, h14, cond_true, cond_false]
     exact pex
    refine dnl ?_; intro ρ
    refine xq_ (foc 62 vh xs i [vi m.value, vi (-1), vi e.sharers, vi e.phase, vi e.who, vi e.serial, .bool e.alone, vi e.turn, vi e.need, u] :: blk bk 162 [(ep vh 10 i 0), vi line, vi id, vo] :: row 76 vo ms :: row 3 u (e.last.set m.src.toNat m.serial) :: blk bm 76 m.cells :: (LX)) ?_
    refine Gl ?_
    refine Zdl ?_;intro hwf
    refine cq_ (blk bk 162 [(ep vh 10 i 0), vi line, vi id, vo] :: row 76 vo ms :: foc 62 vh xs i [vi m.value, vi (-1), vi e.sharers, vi e.phase, vi e.who, vi e.serial, .bool e.alone, vi e.turn, vi e.need, u] :: row 3 u (e.last.set m.src.toNat m.serial) :: blk bm 76 m.cells :: LX) ?_
    refine jd_ (fun ρ S => blk bk 162 (bif S 26 then [(ep vh 10 i 0), vi line, vi id, (Gh.dec (γ := Value) (ρ 23))] else [(ep vh 10 i 0), vi line, vi id, vo]) :: (bif S 23 then row 76 (Gh.dec (γ := Value) (ρ 23)) (ms ++ [(⟨11, id, m.src, line, m.serial, 0, 0, false⟩ : Msg)]) else row 76 vo ms) :: foc 62 vh xs i [vi m.value, vi (-1), vi e.sharers, vi e.phase, vi e.who, vi e.serial, .bool e.alone, vi e.turn, vi e.need, u] :: row 3 u (e.last.set m.src.toNat m.serial) :: blk bm 76 m.cells :: (LX)) ?_
    refine dn4 ?_
    refine Ib (v := vo) (fun ρ S hS hB hA => by have h26 : S 26 = false := hA 26 ⟨0, rfl⟩; simp only [h26, cond_false]; exact Cz (hc := A0 pkk (by repeat (first | exact rfl | refine C5 rfl ?_))) Tryz.isAgg64) (fun _ _ _ _ _ => rfl) ?_
    refine dn3 ?_
    refine Ib (v := vi id) (fun ρ S hS hB hA => by have h26 : S 26 = false := hA 26 ⟨0, rfl⟩; simp only [h26, cond_false]; exact Cz (hc := A0 pkk (by repeat (first | exact rfl | refine C5 rfl ?_))) Tryz.isAgg3) (fun _ _ _ _ _ => rfl) ?_
    refine dn7 ?_
    refine Ib (v := vi line) (fun ρ S hS hB hA => by have h26 : S 26 = false := hA 26 ⟨0, rfl⟩; simp only [h26, cond_false]; exact Cz (hc := A0 pkk (by repeat (first | exact rfl | refine C5 rfl ?_))) Tryz.isAgg3) (fun _ _ _ _ _ => rfl) ?_
    refine dn4 ?_
    first | refine epc (fun _ _ => Dx D8) ?_ | refine epc (fun _ _ => Fd D8) ?_ | refine epp (fun _ _ => Dx D8) ?_ | refine epp (fun _ _ => Fd D8) ?_
    refine ZcT ?_
    refine Fi (e := 76) (xs := ms) (ys := [(⟨11, id, m.src, line, m.serial, 0, 0, false⟩ : Msg)]) (v := vo) Fp (fun _ => rfl) (fun _ => rfl) rfl (by decide) (fun ρ R hd => (hd.dep (it := ⟨22, _, _, _, _⟩) (by repeat (first | exact List.Mem.head _ | refine List.Mem.tail _ ?_)) ⟨9, rfl⟩ (List.Mem.head _))) (by have : maxN = 16777216 := rfl; simp only [List.length_cons, List.length_nil]; omega) (fun ρ g S hS hB hA => ?_) ?_
    ·exact Zff
    refine dn2 ?_
    refine Eb (T0 := 162) (f := 3) (vs := fun ρ => [(ep vh 10 i 0), vi line, vi id, vo]) (v := fun ρ => (Gh.dec (γ := Value) (ρ 23))) (fun ρ => bk) Tryz.sizeOf64 (fun _ => rfl) (fun _ => rfl) (fun ρ S R w L9 hB hd hs => by have h23 : S 23 = true := hB 23 ⟨9, rfl⟩; simp only [h23, cond_true] at hs; exact Bx pkk hs) (fun _ => rfl) (fun ρ g S hS hB hA => ?_) ?_
    ·exact Zfs
    refine dnl ?_; intro ρ
    refine xq_ (blk bk 162 [(ep vh 10 i 0), vi line, vi id, (Gh.dec (γ := Value) (ρ 23))] :: row 76 (Gh.dec (γ := Value) (ρ 23)) (ms ++ [(⟨11, id, m.src, line, m.serial, 0, 0, false⟩ : Msg)]) :: foc 62 vh xs i [vi m.value, vi (-1), vi e.sharers, vi e.phase, vi e.who, vi e.serial, .bool e.alone, vi e.turn, vi e.need, u] :: row 3 u (e.last.set m.src.toNat m.serial) :: blk bm 76 m.cells :: (LX)) ?_
    generalize (Gh.dec (γ := Value) (ρ 22)) = v96
    generalize (Gh.dec (γ := Value) (ρ 23)) = v97
    have er : Ah e id m = ({ e with last := (e.last.set m.src.toNat m.serial), value := m.value, owner := -1 }, [(⟨11, id, m.src, line, m.serial, 0, 0, false⟩ : Msg)]) := by unfold Ah; rw [if_neg (by omega), if_pos (by omega), if_neg ht11]; rw [hline]; unfold H7; rw [if_pos (by unfold Eg; omega), if_pos ht57]
    rw [er]
    refine Bg (.inl rfl) (fun B w hs => H6 rfl _ w) (fun w hs => ⟨v97, rfl, Ag hs⟩)
   ·intro ht57
    refine Gl ?_
    refine Zdl ?_;intro hwf
    refine cq_ (blk bk 162 [(ep vh 10 i 0), vi line, vi id, vo] :: row 76 vo ms :: foc 62 vh xs i [vi e.value, vi e.owner, vi e.sharers, vi e.phase, vi e.who, vi e.serial, .bool e.alone, vi e.turn, vi e.need, u] :: row 3 u (e.last.set m.src.toNat m.serial) :: blk bm 76 m.cells :: LX) ?_
    refine jd_ (fun ρ S => blk bk 162 (bif S 26 then [(ep vh 10 i 0), vi line, vi id, (Gh.dec (γ := Value) (ρ 23))] else [(ep vh 10 i 0), vi line, vi id, vo]) :: (bif S 23 then row 76 (Gh.dec (γ := Value) (ρ 23)) (ms ++ [(⟨11, id, m.src, line, m.serial, 0, 0, false⟩ : Msg)]) else row 76 vo ms) :: foc 62 vh xs i [vi e.value, vi e.owner, vi e.sharers, vi e.phase, vi e.who, vi e.serial, .bool e.alone, vi e.turn, vi e.need, u] :: row 3 u (e.last.set m.src.toNat m.serial) :: blk bm 76 m.cells :: (LX)) ?_
    refine dn4 ?_
    refine Ib (v := vo) (fun ρ S hS hB hA => by have h26 : S 26 = false := hA 26 ⟨0, rfl⟩; simp only [h26, cond_false]; exact Cz (hc := A0 pkk (by repeat (first | exact rfl | refine C5 rfl ?_))) Tryz.isAgg64) (fun _ _ _ _ _ => rfl) ?_
    refine dn3 ?_
    refine Ib (v := vi id) (fun ρ S hS hB hA => by have h26 : S 26 = false := hA 26 ⟨0, rfl⟩; simp only [h26, cond_false]; exact Cz (hc := A0 pkk (by repeat (first | exact rfl | refine C5 rfl ?_))) Tryz.isAgg3) (fun _ _ _ _ _ => rfl) ?_
    refine dn7 ?_
    refine Ib (v := vi line) (fun ρ S hS hB hA => by have h26 : S 26 = false := hA 26 ⟨0, rfl⟩; simp only [h26, cond_false]; exact Cz (hc := A0 pkk (by repeat (first | exact rfl | refine C5 rfl ?_))) Tryz.isAgg3) (fun _ _ _ _ _ => rfl) ?_
    refine dn4 ?_
    first | refine epc (fun _ _ => Dx D8) ?_ | refine epc (fun _ _ => Fd D8) ?_ | refine epp (fun _ _ => Dx D8) ?_ | refine epp (fun _ _ => Fd D8) ?_
    refine ZcT ?_
    refine Fi (e := 76) (xs := ms) (ys := [(⟨11, id, m.src, line, m.serial, 0, 0, false⟩ : Msg)]) (v := vo) Fp (fun _ => rfl) (fun _ => rfl) rfl (by decide) (fun ρ R hd => (hd.dep (it := ⟨22, _, _, _, _⟩) (by repeat (first | exact List.Mem.head _ | refine List.Mem.tail _ ?_)) ⟨9, rfl⟩ (List.Mem.head _))) (by have : maxN = 16777216 := rfl; simp only [List.length_cons, List.length_nil]; omega) (fun ρ g S hS hB hA => ?_) ?_
    ·exact Zff
    refine dn2 ?_
    refine Eb (T0 := 162) (f := 3) (vs := fun ρ => [(ep vh 10 i 0), vi line, vi id, vo]) (v := fun ρ => (Gh.dec (γ := Value) (ρ 23))) (fun ρ => bk) Tryz.sizeOf64 (fun _ => rfl) (fun _ => rfl) (fun ρ S R w L9 hB hd hs => by have h23 : S 23 = true := hB 23 ⟨9, rfl⟩; simp only [h23, cond_true] at hs; exact Bx pkk hs) (fun _ => rfl) (fun ρ g S hS hB hA => ?_) ?_
    ·exact Zfs
    refine dnl ?_; intro ρ
    refine xq_ (blk bk 162 [(ep vh 10 i 0), vi line, vi id, (Gh.dec (γ := Value) (ρ 23))] :: row 76 (Gh.dec (γ := Value) (ρ 23)) (ms ++ [(⟨11, id, m.src, line, m.serial, 0, 0, false⟩ : Msg)]) :: foc 62 vh xs i [vi e.value, vi e.owner, vi e.sharers, vi e.phase, vi e.who, vi e.serial, .bool e.alone, vi e.turn, vi e.need, u] :: row 3 u (e.last.set m.src.toNat m.serial) :: blk bm 76 m.cells :: (LX)) ?_
    generalize (Gh.dec (γ := Value) (ρ 22)) = v96
    generalize (Gh.dec (γ := Value) (ρ 23)) = v97
    have er : Ah e id m = ({ e with last := (e.last.set m.src.toNat m.serial) }, [(⟨11, id, m.src, line, m.serial, 0, 0, false⟩ : Msg)]) := by unfold Ah; rw [if_neg (by omega), if_pos (by omega), if_neg ht11]; rw [hline]; unfold H7; rw [if_pos (by unfold Eg; omega), if_neg ht57]
    rw [er]
    refine Bg (.inl rfl) (fun B w hs => H6 rfl _ w) (fun w hs => ⟨v97, rfl, Ag hs⟩)
  ·intro ht29
   refine Gl ?_
   refine Zdl ?_;intro hwf
   refine cq_ (blk bk 162 [(ep vh 10 i 0), vi line, vi id, vo] :: row 76 vo ms :: foc 62 vh xs i [vi e.value, vi e.owner, vi e.sharers, vi e.phase, vi e.who, vi e.serial, .bool e.alone, vi e.turn, vi e.need, u] :: row 3 u e.last :: blk bm 76 m.cells :: LX) ?_
   refine jd_ (fun ρ S => blk bk 162 (bif S 26 then [(ep vh 10 i 0), vi line, vi id, (Gh.dec (γ := Value) (ρ 23))] else [(ep vh 10 i 0), vi line, vi id, vo]) :: (bif S 23 then row 76 (Gh.dec (γ := Value) (ρ 23)) (ms ++ [(⟨11, id, m.src, line, m.serial, 0, 0, false⟩ : Msg)]) else row 76 vo ms) :: foc 62 vh xs i [vi e.value, vi e.owner, vi e.sharers, vi e.phase, vi e.who, vi e.serial, .bool e.alone, vi e.turn, vi e.need, u] :: row 3 u e.last :: blk bm 76 m.cells :: (LX)) ?_
   refine dn4 ?_
   refine Ib (v := vo) (fun ρ S hS hB hA => by have h26 : S 26 = false := hA 26 ⟨0, rfl⟩; simp only [h26, cond_false]; exact Cz (hc := A0 pkk (by repeat (first | exact rfl | refine C5 rfl ?_))) Tryz.isAgg64) (fun _ _ _ _ _ => rfl) ?_
   refine dn3 ?_
   refine Ib (v := vi id) (fun ρ S hS hB hA => by have h26 : S 26 = false := hA 26 ⟨0, rfl⟩; simp only [h26, cond_false]; exact Cz (hc := A0 pkk (by repeat (first | exact rfl | refine C5 rfl ?_))) Tryz.isAgg3) (fun _ _ _ _ _ => rfl) ?_
   refine dn7 ?_
   refine Ib (v := vi line) (fun ρ S hS hB hA => by have h26 : S 26 = false := hA 26 ⟨0, rfl⟩; simp only [h26, cond_false]; exact Cz (hc := A0 pkk (by repeat (first | exact rfl | refine C5 rfl ?_))) Tryz.isAgg3) (fun _ _ _ _ _ => rfl) ?_
   refine dn4 ?_
   first | refine epc (fun _ _ => Dx D8) ?_ | refine epc (fun _ _ => Fd D8) ?_ | refine epp (fun _ _ => Dx D8) ?_ | refine epp (fun _ _ => Fd D8) ?_
   refine ZcT ?_
   refine Fi (e := 76) (xs := ms) (ys := [(⟨11, id, m.src, line, m.serial, 0, 0, false⟩ : Msg)]) (v := vo) Fp (fun _ => rfl) (fun _ => rfl) rfl (by decide) (fun ρ R hd => (hd.dep (it := ⟨22, _, _, _, _⟩) (by repeat (first | exact List.Mem.head _ | refine List.Mem.tail _ ?_)) ⟨9, rfl⟩ (List.Mem.head _))) (by have : maxN = 16777216 := rfl; simp only [List.length_cons, List.length_nil]; omega) (fun ρ g S hS hB hA => ?_) ?_
   ·exact Zff
   refine dn2 ?_
   refine Eb (T0 := 162) (f := 3) (vs := fun ρ => [(ep vh 10 i 0), vi line, vi id, vo]) (v := fun ρ => (Gh.dec (γ := Value) (ρ 23))) (fun ρ => bk) Tryz.sizeOf64 (fun _ => rfl) (fun _ => rfl) (fun ρ S R w L9 hB hd hs => by have h23 : S 23 = true := hB 23 ⟨9, rfl⟩; simp only [h23, cond_true] at hs; exact Bx pkk hs) (fun _ => rfl) (fun ρ g S hS hB hA => ?_) ?_
   ·exact Zfs
   refine dnl ?_; intro ρ
   refine xq_ (blk bk 162 [(ep vh 10 i 0), vi line, vi id, (Gh.dec (γ := Value) (ρ 23))] :: row 76 (Gh.dec (γ := Value) (ρ 23)) (ms ++ [(⟨11, id, m.src, line, m.serial, 0, 0, false⟩ : Msg)]) :: foc 62 vh xs i [vi e.value, vi e.owner, vi e.sharers, vi e.phase, vi e.who, vi e.serial, .bool e.alone, vi e.turn, vi e.need, u] :: row 3 u e.last :: blk bm 76 m.cells :: (LX)) ?_
   generalize (Gh.dec (γ := Value) (ρ 22)) = v96
   generalize (Gh.dec (γ := Value) (ρ 23)) = v97
   have er : Ah e id m = (e, [(⟨11, id, m.src, line, m.serial, 0, 0, false⟩ : Msg)]) := by unfold Ah; rw [if_neg (by omega), if_pos (by omega), if_neg ht11]; rw [hline]; unfold H7; rw [if_neg (by unfold Eg; omega)]
   rw [er]
   refine Bg (.inl rfl) (fun B w hs => H6 rfl _ w) (fun w hs => ⟨v97, rfl, Ag hs⟩)
theorem Ee {e : Entry} {id : Int} {m : Msg} (he : EB e) (hm : m.wf) (hs : 0 ≤ m.src ∧ m.src < 4) : EB (Ah e id m).1 := by
 have h0 := he
 unfold EB Entry.wf Ao at h0
 have hm0 := hm
 unfold Msg.wf Ao at hm0
 have b1 := Cm h0.2.1.1 h0.2.1.2 hs.1 hs.2
 have b2 := Cm h0.2.2.1.1 h0.2.2.1.2 hs.1 hs.2
 unfold Ah
 split
 ·split
  ·exact he
  ·refine C8 ?_
   exact ZfO
 split
 ·split
  ·exact he
  ·show EB (H7 e m)
   unfold H7
   split
   ·split
    ·exact ZfO
    ·exact he
   ·exact he
 split
 ·rename_i k3
  have hs4 : 0 ≤ (if e.alone = true then e.sharers else H5 e.sharers e.owner) ∧ (if e.alone = true then e.sharers else H5 e.sharers e.owner) < 16 := by
   split
   ·omega
   ·obtain ⟨_, _, r, _⟩ := Cm h0.2.1.1 h0.2.1.2 (show 0 ≤ e.owner by omega) h0.2.2.2.2.1.2; exact r
  refine C8 ?_
  exact Zgp
 have hg : EB (Ct e m) := by
  have c1 := b1.2.2.2; have c2 := b2.2.2.2
  unfold Ct EB Entry.wf Ao; simp only; omega
 split
 ·split
  ·exact C8 hg
  ·exact hg
 split
 ·show EB (D3 e)
  unfold D3
  split
  ·exact ZfO
  ·obtain ⟨_, _, r, _⟩ := Cm h0.2.1.1 h0.2.1.2 h0.2.2.2.1.1 h0.2.2.2.1.2
   exact ZfO
 ·exact he
theorem S8 (e : Entry) (i id : Int) : (Fm e i id).length ≤ 4 := by
 unfold Fm; split
 ·simp
 split
 ·rw [List.length_map]; exact Nat.le_trans (List.length_filter_le ..) (by simp)
 split <;> simp
theorem K7 (id : Int) : ∀ (l : List Entry) (i : Int), (C1 id i l).length ≤ 4 * l.length
 | [], _ => by simp [C1]
 | e :: l, i => by
  have := K7 id l (i + 1)
  have := S8 e i id
  simp only [C1, List.length_append, List.length_cons]; omega
theorem q_max {P : Program} {n : Nat} {L : List Chunk} {R : List Fact} {al : List (Nat × Value)} {d : Nat} {x : Operand} {T ty : TypeId} {pos : String} {aft : Array Edge} {a : Int} (hx : ev n al x = some (vi a)) (h0 : 0 ≤ a) : A2 P n al L R ⟨some d, .call { callee := .builtin .max, args := #[x, .const (.int .i64 0)], argTypes := #[T, T] }, ty, pos, aft, none⟩ (vi a) :=
 ⟨rfl, fun ρ w h _ => by
  have hx' := h x (by simp [Op.operands, Call.operands]) _ hx
  have hc' := h (.const (.int .i64 0)) (by simp [Op.operands, Call.operands]) _ rfl
  simp [execOp, resolve, invoke, builtin, hx', hc', Builtin.max_, Builtin.max2, show ¬ (a < 0) from by omega]⟩
theorem Vd {v0 : Value} {l : List Entry} {id : Int} {m : Msg} (hs : St (L) R w) (h0 : sl v0 l ∈ R) (hb : ∀ i, i < l.length → EB (l.getD i Az)) (hla : ∀ i, i < l.length → (l.getD i Az).last.length ≤ 4) (hm : m.wf) (hid : Ao id) (hk : ¬ (0 ≤ m.line ∧ m.line < (l.length : Int) ∧ 0 ≤ m.src ∧ m.src < ((Ad l m.line).last.length : Int))) : Calls Tryz.prog 75 [v0, vi id, .agg m.cells.toArray].toArray w (Bs (fun v : Value × Value => .tuple #[v.1, v.2]) (fun v => L) (fun v => sl v.1 (Ak l id m).1 :: sl v.2 (Ak l id m).2 :: R)) := by
 refine ZaS ?_;intro hlen hm0 hid0
 clear hs
 refine ZaO ?_;intro b5 g13
 rcases (show (m.line < 0) ∨ (¬ m.line < 0 ∧ (l.length : Int) ≤ m.line) ∨ (¬ m.line < 0 ∧ m.line < (l.length : Int) ∧ m.src < 0) ∨ (¬ m.line < 0 ∧ m.line < (l.length : Int) ∧ 0 ≤ m.src ∧ ((Ad l m.line).last.length : Int) ≤ m.src) from by omega) with hc | hc | hc | hc
 ·refine JC.conseq (L' := blk b5 76 m.cells :: L) (R' := sl g13.1 l :: R) (fun w hs => by
   have h1 : g13.2.map EV.e = l := G6 (.head _) hs
   have h2 := Nb hs
   rw [h1] at h2
   exact h2.sub .refl (fun f hf => by
    rcases List.mem_cons.1 hf with e | e
    ·
     exact List.mem_cons.2 (.inl e)
    ·
     exact List.mem_cons.2 (.inr (.tail _ e)))) ?_
  refine Zen ?_
  refine Zcp ?_;intro ρ er
  exact Ce (g13.1, .slice none 0 0) (hs := fun w hs => Ag (St.shut (hs.rowNil 76 Msg)))
 ·refine JC.conseq (L' := blk b5 76 m.cells :: L) (R' := sl g13.1 l :: R) (fun w hs => by
   have h1 : g13.2.map EV.e = l := G6 (.head _) hs
   have h2 := Nb hs
   rw [h1] at h2
   exact h2.sub .refl (fun f hf => by
    rcases List.mem_cons.1 hf with e | e
    ·
     exact List.mem_cons.2 (.inl e)
    ·
     exact List.mem_cons.2 (.inr (.tail _ e)))) ?_
  refine Zb8 ?_
  refine dj (dgy ?_)
  refine ZbO ?_
  refine Zaa ?_
  refine dn3 ?_
  refine Zal ?_
  refine Xv ?_
  refine ZZ ?_
  refine Zcp ?_;intro ρ er
  exact Ce (g13.1, .slice none 0 0) (hs := fun w hs => Ag (St.shut (hs.rowNil 76 Msg)))
 ·refine JC.conseq (L' := blk b5 76 m.cells :: L) (R' := sl g13.1 l :: R) (fun w hs => by
   have h1 : g13.2.map EV.e = l := G6 (.head _) hs
   have h2 := Nb hs
   rw [h1] at h2
   exact h2.sub .refl (fun f hf => by
    rcases List.mem_cons.1 hf with e | e
    ·
     exact List.mem_cons.2 (.inl e)
    ·
     exact List.mem_cons.2 (.inr (.tail _ e)))) ?_
  refine Zb8 ?_
  refine dj (dgy ?_)
  refine ZX ?_
  refine dj (dgy ?_)
  refine dc (fun _ _ => Am rfl rfl (Nh (by omega))) ?_
  refine Zaa ?_
  refine Xv ?_
  refine ZZ ?_
  refine Zcp ?_;intro ρ er
  exact Ce (g13.1, .slice none 0 0) (hs := fun w hs => Ag (St.shut (hs.rowNil 76 Msg)))
 ·refine JC.conseq (L' := blk b5 76 m.cells :: L) (R' := sl g13.1 l :: R) (fun w hs => by
   have h1 : g13.2.map EV.e = l := G6 (.head _) hs
   have h2 := Nb hs
   rw [h1] at h2
   exact h2.sub .refl (fun f hf => by
    rcases List.mem_cons.1 hf with e | e
    ·
     exact List.mem_cons.2 (.inl e)
    ·
     exact List.mem_cons.2 (.inr (.tail _ e)))) ?_
  refine ZbR ?_;intro hEw u hE hE0 hL hone hlin
  refine dj (dgy ?_)
  refine ZX ?_
  refine dj (dgy ?_)
  refine Zac ?_
  refine dj (dgy ?_)
  refine dc (fun _ _ => Am rfl rfl (Iw (show ((Ad l m.line).last.length : Int) ≤ m.src by omega))) ?_
  refine djf ?_
  refine Zcp ?_;intro ρ er
  exact Ce (g13.1, .slice none 0 0) (hs := fun w hs => Ag (St.shut (hs.rowNil 76 Msg)))
theorem Vc {v0 : Value} {l : List Entry} {id : Int} {m : Msg} (hs : St (L) R w) (h0 : sl v0 l ∈ R) (hb : ∀ i, i < l.length → EB (l.getD i Az)) (hla : ∀ i, i < l.length → (l.getD i Az).last.length ≤ 4) (hm : m.wf) (hid : Ao id) (hk : 0 ≤ m.line ∧ m.line < (l.length : Int) ∧ 0 ≤ m.src ∧ m.src < ((Ad l m.line).last.length : Int) ∧ m.kind = 1) : Calls Tryz.prog 75 [v0, vi id, .agg m.cells.toArray].toArray w (Bs (fun v : Value × Value => .tuple #[v.1, v.2]) (fun v => L) (fun v => sl v.1 (Ak l id m).1 :: sl v.2 (Ak l id m).2 :: R)) := by
 refine ZaS ?_;intro hlen hm0 hid0
 clear hs
 refine ZaO ?_;intro b5 g13
 refine JC.conseqEx (γ := Value) (L' := fun u => foc 62 g13.1 l m.line.toNat (Entry.cells u (Ad l m.line)) :: row 3 u (Ad l m.line).last :: blk b5 76 m.cells :: L) (R' := fun u => pr (u.oneCell' = true) :: R) (fun w hs => by
  have h1 : g13.2.map EV.e = l := G6 (.head _) hs
  obtain ⟨u, h2, h3, h4⟩ := Js m.line.toNat h1 (by omega) hs
  exact ⟨u, St.pr h3 (h4.sub .refl (fun f hf => .tail _ hf))⟩) (fun uo => ?_)
 refine Zbl ?_;intro honeo hEw u hE hE0 hL hone hlin
 refine dj (dgy ?_)
 refine ZX ?_
 refine dj (dgy ?_)
 refine Zac ?_
 refine dj (dgy ?_)
 refine Zba ?_;intro ρ hA honeE b51
 refine Zag ?_
 refine dnl ?_; intro ρ
 refine ZJ ?_
 refine Cf ?_
 refine Gd6 ?_
 refine ZdT ?_;intro v69
 refine J.conseq (L' := foc 62 g13.1 l m.line.toNat (Entry.cells uo (Ah (Ad l m.line) id m).1) :: row 3 uo (Ah (Ad l m.line) id m).1.last :: blk b51 162 [ep g13.1 10 m.line.toNat 0, vi m.line, vi id, v69] :: row 76 v69 (Ah (Ad l m.line) id m).2 :: L) (fun w hs => by rw [List.nil_append] at hs; exact Ag hs) ?_
 refine Gl ?_
 refine ZcB ?_;intro hEB ρ er
 exact Ce (g13.1, v69) (hs := fun w hs => Ag (St.shut (hs.pick pkk)))
theorem Vb {v0 : Value} {l : List Entry} {id : Int} {m : Msg} (hs : St (L) R w) (h0 : sl v0 l ∈ R) (hb : ∀ i, i < l.length → EB (l.getD i Az)) (hla : ∀ i, i < l.length → (l.getD i Az).last.length ≤ 4) (hm : m.wf) (hid : Ao id) (hk : 0 ≤ m.line ∧ m.line < (l.length : Int) ∧ 0 ≤ m.src ∧ m.src < ((Ad l m.line).last.length : Int) ∧ m.kind = 2) : Calls Tryz.prog 75 [v0, vi id, .agg m.cells.toArray].toArray w (Bs (fun v : Value × Value => .tuple #[v.1, v.2]) (fun v => L) (fun v => sl v.1 (Ak l id m).1 :: sl v.2 (Ak l id m).2 :: R)) := by
 refine ZaS ?_;intro hlen hm0 hid0
 clear hs
 refine ZaO ?_;intro b5 g13
 refine JC.conseqEx (γ := Value) (L' := fun u => foc 62 g13.1 l m.line.toNat (Entry.cells u (Ad l m.line)) :: row 3 u (Ad l m.line).last :: blk b5 76 m.cells :: L) (R' := fun u => pr (u.oneCell' = true) :: R) (fun w hs => by
  have h1 : g13.2.map EV.e = l := G6 (.head _) hs
  obtain ⟨u, h2, h3, h4⟩ := Js m.line.toNat h1 (by omega) hs
  exact ⟨u, St.pr h3 (h4.sub .refl (fun f hf => .tail _ hf))⟩) (fun uo => ?_)
 refine Zbl ?_;intro honeo hEw u hE hE0 hL hone hlin
 refine dj (dgy ?_)
 refine ZX ?_
 refine dj (dgy ?_)
 refine Zac ?_
 refine dj (dgy ?_)
 refine Zba ?_;intro ρ hA honeE b51
 refine Zag ?_
 refine dnl ?_; intro ρ
 refine ZJ ?_
 refine Aw ?_
 refine ZP ?_
 refine Cf ?_
 refine Gd2 ?_
 refine ZdT ?_;intro v69
 refine J.conseq (L' := foc 62 g13.1 l m.line.toNat (Entry.cells uo (Ah (Ad l m.line) id m).1) :: row 3 uo (Ah (Ad l m.line) id m).1.last :: blk b51 162 [ep g13.1 10 m.line.toNat 0, vi m.line, vi id, v69] :: row 76 v69 (Ah (Ad l m.line) id m).2 :: L) (fun w hs => by rw [List.nil_append] at hs; exact Ag hs) ?_
 refine Gl ?_
 refine ZcB ?_;intro hEB ρ er
 exact Ce (g13.1, v69) (hs := fun w hs => Ag (St.shut (hs.pick pkk)))
theorem Va {v0 : Value} {l : List Entry} {id : Int} {m : Msg} (hs : St (L) R w) (h0 : sl v0 l ∈ R) (hb : ∀ i, i < l.length → EB (l.getD i Az)) (hla : ∀ i, i < l.length → (l.getD i Az).last.length ≤ 4) (hm : m.wf) (hid : Ao id) (hk : 0 ≤ m.line ∧ m.line < (l.length : Int) ∧ 0 ≤ m.src ∧ m.src < ((Ad l m.line).last.length : Int) ∧ m.kind = 3) : Calls Tryz.prog 75 [v0, vi id, .agg m.cells.toArray].toArray w (Bs (fun v : Value × Value => .tuple #[v.1, v.2]) (fun v => L) (fun v => sl v.1 (Ak l id m).1 :: sl v.2 (Ak l id m).2 :: R)) := by
 refine ZaS ?_;intro hlen hm0 hid0
 clear hs
 refine ZaO ?_;intro b5 g13
 refine JC.conseqEx (γ := Value) (L' := fun u => foc 62 g13.1 l m.line.toNat (Entry.cells u (Ad l m.line)) :: row 3 u (Ad l m.line).last :: blk b5 76 m.cells :: L) (R' := fun u => pr (u.oneCell' = true) :: R) (fun w hs => by
  have h1 : g13.2.map EV.e = l := G6 (.head _) hs
  obtain ⟨u, h2, h3, h4⟩ := Js m.line.toNat h1 (by omega) hs
  exact ⟨u, St.pr h3 (h4.sub .refl (fun f hf => .tail _ hf))⟩) (fun uo => ?_)
 refine Zbl ?_;intro honeo hEw u hE hE0 hL hone hlin
 refine dj (dgy ?_)
 refine ZX ?_
 refine dj (dgy ?_)
 refine Zac ?_
 refine dj (dgy ?_)
 refine Zba ?_;intro ρ hA honeE b51
 refine Zag ?_
 refine dnl ?_; intro ρ
 refine ZJ ?_
 refine Aw ?_
 refine ZP ?_
 refine Aw ?_
 refine Gd2 ?_
 refine rn2 ?_
 refine Za3 ?_
 refine kp [5, 6, 7, 8, 9, 10, 11, 74] ?_
 refine ZB ?_
 refine An Tryz.call94 rfl (fun w hs => Age (vh := g13.1) (vo := .slice none 0 0) (u := uo) (i := m.line.toNat) (e := (Ad l m.line)) (ms := []) (line := m.line) (id := id) (xs := l) (m := m) (bm := b5) (LX := L) (Ag hs) hA honeo (by simp) hE hm.2.2.2.1 hid hm rfl (by omega) hL (by omega)) ?_; intro v75
 refine J.conseq (L' := foc 62 g13.1 l m.line.toNat (Entry.cells uo (Ah (Ad l m.line) id m).1) :: row 3 uo (Ah (Ad l m.line) id m).1.last :: blk b51 162 [ep g13.1 10 m.line.toNat 0, vi m.line, vi id, v75] :: row 76 v75 (Ah (Ad l m.line) id m).2 :: L) (fun w hs => by rw [List.nil_append] at hs; exact Ag hs) ?_
 refine Zca ?_;intro hEB ρ er
 exact Ce (g13.1, v75) (hs := fun w hs => Ag (St.shut (hs.pick pkk)))
theorem U7 {v0 : Value} {l : List Entry} {id : Int} {m : Msg} (hs : St (L) R w) (h0 : sl v0 l ∈ R) (hb : ∀ i, i < l.length → EB (l.getD i Az)) (hla : ∀ i, i < l.length → (l.getD i Az).last.length ≤ 4) (hm : m.wf) (hid : Ao id) (hk : 0 ≤ m.line ∧ m.line < (l.length : Int) ∧ 0 ≤ m.src ∧ m.src < ((Ad l m.line).last.length : Int) ∧ m.kind ≠ 1 ∧ m.kind ≠ 2 ∧ m.kind ≠ 3 ∧ m.kind ≠ 9 ∧ m.kind ≠ 8 ∧ m.kind ≠ 10) : Calls Tryz.prog 75 [v0, vi id, .agg m.cells.toArray].toArray w (Bs (fun v : Value × Value => .tuple #[v.1, v.2]) (fun v => L) (fun v => sl v.1 (Ak l id m).1 :: sl v.2 (Ak l id m).2 :: R)) := by
 refine ZaS ?_;intro hlen hm0 hid0
 clear hs
 refine ZaO ?_;intro b5 g13
 refine JC.conseqEx (γ := Value) (L' := fun u => foc 62 g13.1 l m.line.toNat (Entry.cells u (Ad l m.line)) :: row 3 u (Ad l m.line).last :: blk b5 76 m.cells :: L) (R' := fun u => pr (u.oneCell' = true) :: R) (fun w hs => by
  have h1 : g13.2.map EV.e = l := G6 (.head _) hs
  obtain ⟨u, h2, h3, h4⟩ := Js m.line.toNat h1 (by omega) hs
  exact ⟨u, St.pr h3 (h4.sub .refl (fun f hf => .tail _ hf))⟩) (fun uo => ?_)
 refine Zbl ?_;intro honeo hEw u hE hE0 hL hone hlin
 refine dj (dgy ?_)
 refine ZX ?_
 refine dj (dgy ?_)
 refine Zac ?_
 refine dj (dgy ?_)
 refine Zba ?_;intro ρ hA honeE b51
 refine Zag ?_
 refine ZbU ?_;intro ρ
 refine ZaL ?_
 refine Zb3 ?_;intro eh hEB ρ er
 exact Ce (g13.1, .slice none 0 0) (hs := fun w hs => Ag (St.shut (hs.pick pkk)))
theorem U8 {v0 : Value} {l : List Entry} {id : Int} {m : Msg} (hs : St (L) R w) (h0 : sl v0 l ∈ R) (hb : ∀ i, i < l.length → EB (l.getD i Az)) (hla : ∀ i, i < l.length → (l.getD i Az).last.length ≤ 4) (hm : m.wf) (hid : Ao id) (hk : 0 ≤ m.line ∧ m.line < (l.length : Int) ∧ 0 ≤ m.src ∧ m.src < ((Ad l m.line).last.length : Int) ∧ m.kind = 9) : Calls Tryz.prog 75 [v0, vi id, .agg m.cells.toArray].toArray w (Bs (fun v : Value × Value => .tuple #[v.1, v.2]) (fun v => L) (fun v => sl v.1 (Ak l id m).1 :: sl v.2 (Ak l id m).2 :: R)) := by
 refine ZaS ?_;intro hlen hm0 hid0
 clear hs
 refine ZaO ?_;intro b5 g13
 refine JC.conseqEx (γ := Value) (L' := fun u => foc 62 g13.1 l m.line.toNat (Entry.cells u (Ad l m.line)) :: row 3 u (Ad l m.line).last :: blk b5 76 m.cells :: L) (R' := fun u => pr (u.oneCell' = true) :: R) (fun w hs => by
  have h1 : g13.2.map EV.e = l := G6 (.head _) hs
  obtain ⟨u, h2, h3, h4⟩ := Js m.line.toNat h1 (by omega) hs
  exact ⟨u, St.pr h3 (h4.sub .refl (fun f hf => .tail _ hf))⟩) (fun uo => ?_)
 refine Zbl ?_;intro honeo hEw u hE hE0 hL hone hlin
 refine dj (dgy ?_)
 refine ZX ?_
 refine dj (dgy ?_)
 refine Zac ?_
 refine dj (dgy ?_)
 refine Zba ?_;intro ρ hA honeE b51
 rcases (show (m.turn ≠ (Ad l m.line).turn) ∨ (m.turn = (Ad l m.line).turn ∧ (Ad l m.line).phase ≠ 1) ∨ (m.turn = (Ad l m.line).turn ∧ (Ad l m.line).phase = 1 ∧ m.src ≠ (Ad l m.line).owner) ∨ (m.turn = (Ad l m.line).turn ∧ (Ad l m.line).phase = 1 ∧ m.src = (Ad l m.line).owner) from by omega) with hc | hc | hc | hc
 ·refine Zao ?_
  refine ZaA ?_
  refine ZT ?_;intro ρ
  refine Zb9 ?_
  refine ZbE ?_
  refine dn5 ?_
  refine Zaa ?_
  refine ZaY ?_;intro ρ
  exact ZgL
 ·refine Zao ?_
  refine ZbF ?_
  refine ZT ?_;intro ρ
  refine Zb9 ?_
  refine ZbE ?_
  refine dn4 ?_
  refine dj (dgy ?_)
  refine Zaw ?_
  refine Zal ?_
  refine ZaY ?_;intro ρ
  exact ZgL
 ·refine Zao ?_
  refine ZbF ?_
  refine ZT ?_;intro ρ
  refine Zb9 ?_
  refine ZbE ?_
  refine dn4 ?_
  refine dj (dgy ?_)
  refine ZaV ?_
  refine dj (dgy ?_)
  refine Zaw ?_
  refine Zaq ?_;intro ρ
  refine Glc ?_
  exact ZgL
 ·refine Zao ?_
  refine ZbF ?_
  refine ZT ?_;intro ρ
  refine Zb9 ?_
  refine ZbE ?_
  refine dn4 ?_
  refine dj (dgy ?_)
  refine ZaV ?_
  refine dj (dgy ?_)
  refine ZaE ?_
  refine Zaq ?_;intro ρ
  refine Gmc ?_
  refine rn5 ?_
  refine sc ?_
  refine Zau ?_
  refine A9 (b := ?b1) ?e1 ?_ ?_; case e1 => exact rfl
  ·intro ht108
   refine kp [5, 6, 7, 8, 9, 10, 11, 109, 110, 111, 112, 113, 114, 115, 116, 117, 118, 119, 120] ?_
   refine Zag ?_
   refine djc (fun _ _ => E6 (a := 1) (b := (Ad l m.line).owner) (Rm (by omega) (by omega))) ?_
   refine djc (fun _ _ => E6 (a := (Ad l m.line).sharers) (b := ((2 ^ (Ad l m.line).owner.toNat : Nat) : Int)) (b_orB (by omega) (by omega) (by omega) (by omega))) ?_
   refine dn2 ?_
   refine dtl ?_; intro ρ
   refine sc ?_
   refine Zad ?_
   refine sc ?_
   refine ZI ?_
   have hX : EB ({ (Ad l m.line) with value := m.value, sharers := (H5 (Ad l m.line).sharers (Ad l m.line).owner), owner := -1 }) := by obtain ⟨_, _, r9, _⟩ := Cm hE0.2.1.1 hE0.2.1.2 (show 0 ≤ (Ad l m.line).owner by omega) hE0.2.2.2.2.1.2; unfold EB Entry.wf Ao; simp only; omega
   have eh : (Ah (Ad l m.line) id m) = (Bd ({ (Ad l m.line) with value := m.value, sharers := (H5 (Ad l m.line).sharers (Ad l m.line).owner), owner := -1 }), Fm (Bd ({ (Ad l m.line) with value := m.value, sharers := (H5 (Ad l m.line).sharers (Ad l m.line).owner), owner := -1 })) m.line id) := by
    have hal : (Ad l m.line).alone = false := by simpa using ht108
    unfold Ah
    rw [if_neg (by omega), if_neg (by omega), if_pos (by omega)]
    unfold G2
    rw [if_neg (by rw [hal]; decide)]
   refine An Tryz.call95 rfl (fun w hs => Lw (vh := g13.1) (vo := .slice none 0 0) (u := uo) (i := m.line.toNat) (e := { (Ad l m.line) with value := m.value, sharers := (H5 (Ad l m.line).sharers (Ad l m.line).owner), owner := -1 }) (ms := []) (line := m.line) (id := id) (xs := l) (LX := row 3 uo (Ad l m.line).last :: blk b5 76 m.cells :: L) (Ag hs) hA honeo (by simp) hX hm.2.2.2.1 hid) ?_; intro v125
   refine J.conseq (L' := foc 62 g13.1 l m.line.toNat (Entry.cells uo (Ah (Ad l m.line) id m).1) :: row 3 uo (Ah (Ad l m.line) id m).1.last :: blk b51 162 [ep g13.1 10 m.line.toNat 0, vi m.line, vi id, v125] :: row 76 v125 (Ah (Ad l m.line) id m).2 :: L) (fun w hs => by rw [List.nil_append] at hs; rw [eh, D1]; exact Ag hs) ?_
   refine Zca ?_;intro hEB ρ er
   exact Ce (g13.1, v125) (hs := fun w hs => Ag (St.shut (hs.pick pkk)))
  ·intro ht108
   refine Gl ?_
   refine kp [5, 6, 7, 8, 9, 10, 11, 121, 122, 123] ?_
   refine ZL ?_
   refine sc ?_
   refine ZI ?_
   refine Zde ?_;intro hX
   have eh : (Ah (Ad l m.line) id m) = (Bd ({ (Ad l m.line) with value := m.value, sharers := (Ad l m.line).sharers, owner := -1 }), Fm (Bd ({ (Ad l m.line) with value := m.value, sharers := (Ad l m.line).sharers, owner := -1 })) m.line id) := by
    have hal : (Ad l m.line).alone = true := by simpa using ht108
    unfold Ah
    rw [if_neg (by omega), if_neg (by omega), if_pos (by omega)]
    unfold G2
    rw [if_pos hal]
   refine An Tryz.call95 rfl (fun w hs => Lw (vh := g13.1) (vo := .slice none 0 0) (u := uo) (i := m.line.toNat) (e := { (Ad l m.line) with value := m.value, sharers := (Ad l m.line).sharers, owner := -1 }) (ms := []) (line := m.line) (id := id) (xs := l) (LX := row 3 uo (Ad l m.line).last :: blk b5 76 m.cells :: L) (Ag hs) hA honeo (by simp) hX hm.2.2.2.1 hid) ?_; intro v125
   refine J.conseq (L' := foc 62 g13.1 l m.line.toNat (Entry.cells uo (Ah (Ad l m.line) id m).1) :: row 3 uo (Ah (Ad l m.line) id m).1.last :: blk b51 162 [ep g13.1 10 m.line.toNat 0, vi m.line, vi id, v125] :: row 76 v125 (Ah (Ad l m.line) id m).2 :: L) (fun w hs => by rw [List.nil_append] at hs; rw [eh, D1]; exact Ag hs) ?_
   refine Zca ?_;intro hEB ρ er
   exact Ce (g13.1, v125) (hs := fun w hs => Ag (St.shut (hs.pick pkk)))
theorem U9 {v0 : Value} {l : List Entry} {id : Int} {m : Msg} (hs : St (L) R w) (h0 : sl v0 l ∈ R) (hb : ∀ i, i < l.length → EB (l.getD i Az)) (hla : ∀ i, i < l.length → (l.getD i Az).last.length ≤ 4) (hm : m.wf) (hid : Ao id) (hk : 0 ≤ m.line ∧ m.line < (l.length : Int) ∧ 0 ≤ m.src ∧ m.src < ((Ad l m.line).last.length : Int) ∧ m.kind = 8) : Calls Tryz.prog 75 [v0, vi id, .agg m.cells.toArray].toArray w (Bs (fun v : Value × Value => .tuple #[v.1, v.2]) (fun v => L) (fun v => sl v.1 (Ak l id m).1 :: sl v.2 (Ak l id m).2 :: R)) := by
 refine ZaS ?_;intro hlen hm0 hid0
 clear hs
 refine ZaO ?_;intro b5 g13
 refine JC.conseqEx (γ := Value) (L' := fun u => foc 62 g13.1 l m.line.toNat (Entry.cells u (Ad l m.line)) :: row 3 u (Ad l m.line).last :: blk b5 76 m.cells :: L) (R' := fun u => pr (u.oneCell' = true) :: R) (fun w hs => by
  have h1 : g13.2.map EV.e = l := G6 (.head _) hs
  obtain ⟨u, h2, h3, h4⟩ := Js m.line.toNat h1 (by omega) hs
  exact ⟨u, St.pr h3 (h4.sub .refl (fun f hf => .tail _ hf))⟩) (fun uo => ?_)
 refine Zbl ?_;intro honeo hEw u hE hE0 hL hone hlin
 refine dj (dgy ?_)
 refine ZX ?_
 refine dj (dgy ?_)
 refine Zac ?_
 refine dj (dgy ?_)
 refine Zba ?_;intro ρ hA honeE b51
 rcases (show (m.turn ≠ (Ad l m.line).turn) ∨ (m.turn = (Ad l m.line).turn ∧ (Ad l m.line).phase ≠ 2) ∨ (m.turn = (Ad l m.line).turn ∧ (Ad l m.line).phase = 2 ∧ Jk (Ad l m.line).need m.src = false) ∨ (m.turn = (Ad l m.line).turn ∧ (Ad l m.line).phase = 2 ∧ Jk (Ad l m.line).need m.src = true) from by rcases Bool.eq_false_or_eq_true (Jk (Ad l m.line).need m.src) with h1 | h1 <;> simp only [h1, and_true, and_false, or_false, false_or, reduceCtorEq] <;> omega) with hc | hc | hc | hc
 ·refine Zao ?_
  refine ZaA ?_
  refine djc (fun _ _ => Df) ?_
  refine ZbU ?_;intro ρ
  refine Zam ?_
  refine dn1 ?_
  refine Zal ?_
  refine dn5 ?_
  refine Zaa ?_
  exact ZfU
 ·refine Zb2 ?_;intro ρ
  refine Zam ?_
  refine dn1 ?_
  refine Zal ?_
  refine dn4 ?_
  refine dj (dgy ?_)
  refine Zaw ?_
  refine Zal ?_
  exact ZfU
 ·refine Zb2 ?_;intro ρ
  refine Zam ?_
  refine dn1 ?_
  refine Zal ?_
  refine dn4 ?_
  refine dj (dgy ?_)
  refine ZaV ?_
  refine dj (dgy ?_)
  refine dc (fun _ _ => E6 (a := (Ad l m.line).need) (b := m.src) (Nf (by omega) (by omega) (by omega) (by omega))) ?_
  refine dj (dgy ?_)
  refine Zeu ?_
  refine dj (dgy ?_)
  refine dc (fun _ _ => Am rfl rfl (Bh (by rw [if_neg (by rw [hc.2.2]; decide)]; decide))) ?_
  refine ZZ ?_
  refine ZT ?_;intro ρ
  refine Zc8 ?_
  refine ZaL ?_
  refine ZaY ?_;intro ρ
  have eh : (Ah (Ad l m.line) id m) = ((Ad l m.line), []) := by unfold Ah; rw [if_neg (by omega), if_neg (by omega), if_neg (by omega), if_neg (fun h => by have h4 := h.2.2.2; rw [hc.2.2] at h4; cases h4), if_neg (by omega)]
  exact ZgM
 ·have hhas := hc.2.2
  refine Zb2 ?_;intro ρ
  refine Zam ?_
  refine dn1 ?_
  refine Zal ?_
  refine dn4 ?_
  refine dj (dgy ?_)
  refine ZaV ?_
  refine dj (dgy ?_)
  refine dc (fun _ _ => E6 (a := (Ad l m.line).need) (b := m.src) (Nf (by omega) (by omega) (by omega) (by omega))) ?_
  refine dj (dgy ?_)
  refine Zeu ?_
  refine dj (dgy ?_)
  refine dc (fun _ _ => Am rfl rfl (Ba (by rw [if_pos hc.2.2]))) ?_
  refine Zaq ?_;intro ρ
  refine Glc ?_
  refine kp [5, 6, 7, 8, 9, 10, 11, 151, 152, 153, 154, 155, 156, 157, 158, 159, 160] ?_
  refine Zao ?_
  refine djc (fun _ _ => E6 (a := 1) (b := m.src) (Rm (by omega) (by omega))) ?_
  refine djc (fun _ _ => E6 (a := (Ad l m.line).need) (b := ((2 ^ m.src.toNat : Nat) : Int)) (Ni (by omega) (by omega) (by omega) (by omega))) ?_
  refine dn2 ?_
  refine dtl ?_; intro ρ
  refine sc ?_
  refine Gl ?_
  refine Zao ?_
  refine djc (fun _ _ => E6 (a := 1) (b := m.src) (Rm (by omega) (by omega))) ?_
  refine djc (fun _ _ => E6 (a := (Ad l m.line).sharers) (b := ((2 ^ m.src.toNat : Nat) : Int)) (Ni (by omega) (by omega) (by omega) (by omega))) ?_
  refine dn2 ?_
  refine dtl ?_; intro ρ
  refine sc ?_
  refine Zau ?_
  refine cdy ?_ ?_
  ·intro ht175
   refine ZB ?_
   have hX : EB ((Ct (Ad l m.line) m)) := by have c1 := (Cm hE0.2.1.1 hE0.2.1.2 (show 0 ≤ m.src by omega) (show m.src < 4 by omega)).2.2.2; have c2 := (Cm hE0.2.2.1.1 hE0.2.2.1.2 (show 0 ≤ m.src by omega) (show m.src < 4 by omega)).2.2.2; unfold Ct EB Entry.wf Ao; simp only; omega
   have eh : (Ah (Ad l m.line) id m) = (Bd ((Ct (Ad l m.line) m)), Fm (Bd ((Ct (Ad l m.line) m))) m.line id) := by
    unfold Ah
    rw [if_neg (by omega), if_neg (by omega), if_neg (by omega), if_pos ⟨by omega, by omega, by omega, hhas⟩, if_pos (by unfold Ct; simp only; omega)]
   refine An Tryz.call95 rfl (fun w hs => Lw (vh := g13.1) (vo := .slice none 0 0) (u := uo) (i := m.line.toNat) (e := (Ct (Ad l m.line) m)) (ms := []) (line := m.line) (id := id) (xs := l) (LX := row 3 uo (Ad l m.line).last :: blk b5 76 m.cells :: L) (Ag hs) hA honeo (by simp) hX hm.2.2.2.1 hid) ?_; intro v177
   refine J.conseq (L' := foc 62 g13.1 l m.line.toNat (Entry.cells uo (Ah (Ad l m.line) id m).1) :: row 3 uo (Ah (Ad l m.line) id m).1.last :: blk b51 162 [ep g13.1 10 m.line.toNat 0, vi m.line, vi id, v177] :: row 76 v177 (Ah (Ad l m.line) id m).2 :: L) (fun w hs => by rw [List.nil_append] at hs; rw [eh, D1]; exact Ag hs) ?_
   refine Zca ?_;intro hEB ρ er
   exact Ce (g13.1, v177) (hs := fun w hs => Ag (St.shut (hs.pick pkk)))
  ·intro ht175
   refine Gl ?_
   have eh : (Ah (Ad l m.line) id m) = ((Ct (Ad l m.line) m), []) := by
    unfold Ah
    rw [if_neg (by omega), if_neg (by omega), if_neg (by omega), if_pos ⟨by omega, by omega, by omega, hhas⟩, if_neg (by unfold Ct; simp only; omega)]
   exact ZgM
theorem Sm {v0 : Value} {l : List Entry} {id : Int} {m : Msg} (hs : St (L) R w) (h0 : sl v0 l ∈ R) (hb : ∀ i, i < l.length → EB (l.getD i Az)) (hla : ∀ i, i < l.length → (l.getD i Az).last.length ≤ 4) (hm : m.wf) (hid : Ao id) (hk : 0 ≤ m.line ∧ m.line < (l.length : Int) ∧ 0 ≤ m.src ∧ m.src < ((Ad l m.line).last.length : Int) ∧ m.kind = 10) : Calls Tryz.prog 75 [v0, vi id, .agg m.cells.toArray].toArray w (Bs (fun v : Value × Value => .tuple #[v.1, v.2]) (fun v => L) (fun v => sl v.1 (Ak l id m).1 :: sl v.2 (Ak l id m).2 :: R)) := by
 refine ZaS ?_;intro hlen hm0 hid0
 clear hs
 refine ZaO ?_;intro b5 g13
 refine JC.conseqEx (γ := Value) (L' := fun u => foc 62 g13.1 l m.line.toNat (Entry.cells u (Ad l m.line)) :: row 3 u (Ad l m.line).last :: blk b5 76 m.cells :: L) (R' := fun u => pr (u.oneCell' = true) :: R) (fun w hs => by
  have h1 : g13.2.map EV.e = l := G6 (.head _) hs
  obtain ⟨u, h2, h3, h4⟩ := Js m.line.toNat h1 (by omega) hs
  exact ⟨u, St.pr h3 (h4.sub .refl (fun f hf => .tail _ hf))⟩) (fun uo => ?_)
 refine Zbl ?_;intro honeo hEw u hE hE0 hL hone hlin
 refine dj (dgy ?_)
 refine ZX ?_
 refine dj (dgy ?_)
 refine Zac ?_
 refine dj (dgy ?_)
 refine Zba ?_;intro ρ hA honeE b51
 rcases (show (m.turn ≠ (Ad l m.line).turn) ∨ (m.turn = (Ad l m.line).turn ∧ (Ad l m.line).phase ≠ 3) ∨ (m.turn = (Ad l m.line).turn ∧ (Ad l m.line).phase = 3 ∧ m.src ≠ (Ad l m.line).who) ∨ (m.turn = (Ad l m.line).turn ∧ (Ad l m.line).phase = 3 ∧ m.src = (Ad l m.line).who) from by omega) with hc | hc | hc | hc
 ·refine Zao ?_
  refine ZaA ?_
  refine djc (fun _ _ => Df) ?_
  refine ZbU ?_;intro ρ
  refine ZbZ ?_;intro ρ
  refine dn5 ?_
  refine Zaa ?_
  refine ZaY ?_;intro ρ
  exact ZgC
 ·refine Zb2 ?_;intro ρ
  refine ZbZ ?_;intro ρ
  refine dn4 ?_
  refine dj (dgy ?_)
  refine Zaw ?_
  refine Zal ?_
  refine ZaY ?_;intro ρ
  exact ZgC
 ·refine Zb2 ?_;intro ρ
  refine ZbZ ?_;intro ρ
  refine dn4 ?_
  refine dj (dgy ?_)
  refine ZaV ?_
  refine dj (dgy ?_)
  refine Zaw ?_
  refine Zaq ?_;intro ρ
  refine Glc ?_
  exact ZgC
 ·refine Zb2 ?_;intro ρ
  refine ZbZ ?_;intro ρ
  refine dn4 ?_
  refine dj (dgy ?_)
  refine ZaV ?_
  refine dj (dgy ?_)
  refine ZaE ?_
  refine Zaq ?_;intro ρ
  refine Glc ?_
  refine Zag ?_
  refine djc (fun _ _ => E6 (a := 1) (b := (Ad l m.line).who) (Rm (by omega) (by omega))) ?_
  refine djc (fun _ _ => E6 (a := (Ad l m.line).sharers) (b := ((2 ^ (Ad l m.line).who.toNat : Nat) : Int)) (b_orB (by omega) (by omega) (by omega) (by omega))) ?_
  refine dn2 ?_
  refine dtl ?_; intro ρ
  refine sc ?_
  refine Gl ?_
  refine kp [6, 7, 8, 9, 10, 213, 214, 215, 216] ?_
  refine ZaH ?_
  refine A9 (b := ?b1) ?e1 ?_ ?_; case e1 => exact rfl
  ·intro ht216
   refine Aa ?_
   refine rn8 ?_
   refine sc ?_
   refine Zan ?_
   refine Gm ?_
   refine rn6 ?_
   refine sc ?_
   refine Zan ?_
   refine Zan ?_
   refine Zan ?_
   refine Gl ?_
   have eh : (Ah (Ad l m.line) id m) = ({ (Ad l m.line) with owner := (Ad l m.line).who, sharers := 0, phase := 0, who := 0, serial := 0, alone := false }, []) := by
    unfold Ah
    rw [if_neg (by omega), if_neg (by omega), if_neg (by omega), if_neg (by omega), if_pos (by omega)]
    unfold D3
    rw [if_pos ht216]
   refine Zd0 ?_
   refine ZcB ?_;intro hEB ρ er
   exact ZeR
  ·intro ht216
   refine Gm ?_
   refine rn6 ?_
   refine sc ?_
   refine Zan ?_
   refine Zan ?_
   refine Zan ?_
   refine Gl ?_
   have eh : (Ah (Ad l m.line) id m) = ({ (Ad l m.line) with sharers := H5 (Ad l m.line).sharers (Ad l m.line).who, phase := 0, who := 0, serial := 0, alone := false }, []) := by
    unfold Ah
    rw [if_neg (by omega), if_neg (by omega), if_neg (by omega), if_neg (by omega), if_pos (by omega)]
    unfold D3
    rw [if_neg (by rw [ht216]; decide)]
   exact ZgM
theorem Qv {v0 : Value} {l : List Entry} {id : Int} {m : Msg} (hs : St (L) R w) (h0 : sl v0 l ∈ R) (hb : ∀ i, i < l.length → EB (l.getD i Az)) (hla : ∀ i, i < l.length → (l.getD i Az).last.length ≤ 4) (hm : m.wf) (hid : Ao id) : Calls Tryz.prog 75 [v0, vi id, .agg m.cells.toArray].toArray w (Bs (fun v : Value × Value => .tuple #[v.1, v.2]) (fun v => L) (fun v => sl v.1 (Ak l id m).1 :: sl v.2 (Ak l id m).2 :: R)) := by
 by_cases h : 0 ≤ m.line ∧ m.line < (l.length : Int) ∧ 0 ≤ m.src ∧ m.src < ((Ad l m.line).last.length : Int)
 ·by_cases h1 : m.kind = 1
  ·exact Vc hs h0 hb hla hm hid (by omega)
  by_cases h2 : m.kind = 2
  ·exact Vb hs h0 hb hla hm hid (by omega)
  by_cases h3 : m.kind = 3
  ·exact Va hs h0 hb hla hm hid (by omega)
  by_cases h9 : m.kind = 9
  ·exact U8 hs h0 hb hla hm hid (by omega)
  by_cases h8 : m.kind = 8
  ·exact U9 hs h0 hb hla hm hid (by omega)
  by_cases h10 : m.kind = 10
  ·exact Sm hs h0 hb hla hm hid (by omega)
  exact U7 hs h0 hb hla hm hid (by omega)
 ·exact Vd hs h0 hb hla hm hid h
theorem U6 {v0 : Value} {l : List Entry} {id : Int} (hs : St (L) R w) (h0 : sl v0 l ∈ R) (hb : ∀ i, i < l.length → EB (l.getD i Az)) (hln : l.length ≤ 100) (hid : Ao id) : Calls Tryz.prog 78 [v0, vi id].toArray w (Bs (fun v : Value => v) (fun v => L) (fun v => sl v (Gd l id) :: R)) := by
 have hlen := Be h0 hs
 refine Ai Tryz.func78 rfl Tryz.ntmps78 rfl hs ?_
 clear hs
 refine ZN ?_
 refine Gb1 ?_
 refine rn1 ?_
 refine An Tryz.call65 rfl (fun w hs => Tv (l := l) hs mm) ?_; intro v10
 refine ZaG ?_
 refine ZV ?_
 refine A7 (γ := Nat × Value) (fun g => g.1 ≤ l.length) (fun g => row 76 g.2 (C1 id 0 (l.take g.1)) :: L) (fun _ => sl v10 l :: R) (fun g => [(1, vi id), (5, g.2), (6, v10), (12, vi (l.length : Int)), (13, vi (g.1 : Int))]) (fun g => l.length - g.1) (0, .slice none 0 0) (Nat.zero_le _) alT (fun w hs => hs) ?_
 rintro ⟨k, vs⟩ hk
 try simp only at hk ⊢
 have hsl := K7 id (l.take k) 0
 rw [List.length_take] at hsl
 refine ZA ?_
 refine cdy ?_ ?_
 ·intro ht14
  refine ZC ?_
  refine Lt (l := l) (v := v10) k mm (by omega) (fun _ u => ?_)
  refine JC.know (p := EpAll v10 10 k) (fun w hs => ok_c (v := v10) (i := k) (.head _) w hs) (fun hA => ?_)
  have honeE : (ep v10 10 k 0).oneCell' = true := hA.one
  refine Zar ?_
  refine bx ?_; intro b22
  refine Ga1 ?_
  refine ZV ?_
  refine ZB ?_
  refine An Tryz.call100 rfl (fun w hs => Ir (vh := v10) (vo := .slice none 0 0) (u := u) (i := k) (e := (l.getD k Az)) (ms := []) (line := (k : Int)) (id := id) (LX := row 76 vs (C1 id 0 (l.take k)) :: L) (Ag hs) (Y0 (cs := Entry.cells u (l.getD k Az)) mm) hA (by simp) (hb k (by omega)) (by unfold Ao; omega) hid) ?_; intro vq
  refine Gl ?_
  refine JC.shut (v := vq) pkk ?_
  have hs4 := S8 (l.getD k Az) (k : Int) id
  refine Za2 ?_
  refine ap Fp (hb := fun w hs => by have : maxN = 16777216 := rfl; simp only [List.length_append, List.length_nil]; omega) (k := ?_); intro v30
  refine ZG ?_
  refine Au (k + 1, v30) (by show k + 1 ≤ l.length; omega) (by show l.length - (k + 1) < l.length - k; omega) alT (fun w hs => ?_)
  try simp only
  rw [Es Az (by omega), Ho, List.length_take, Nat.min_eq_left (by omega), Int.zero_add]; exact Ag hs
 ·intro ht14
  refine ZC ?_
  have hkl : k = l.length := by omega
  rw [show C1 id 0 (l.take k) = Gd l id from by rw [hkl, List.take_length]; rfl]
  exact Zgl
theorem Abc {cores lines : Int} (hs : St (L) R w) (hc : 0 ≤ cores ∧ cores ≤ 4) (hl : 0 ≤ lines ∧ lines ≤ 4) : Calls Tryz.prog 38 [vi cores, vi lines].toArray w (Bs (fun v : Value => v) (fun v => L) (fun v => sl v (Mz cores lines) :: R)) := by
 refine Ai Tryz.func38 rfl Tryz.ntmps38 rfl hs ?_
 clear hs
 refine ZN ?_
 refine ZG ?_
 refine JC.rowNil 62 Entry ?_
 refine A7 (γ := Nat × Value) (fun g => (g.1 : Int) ≤ lines) (fun g => row 62 g.2 (List.replicate g.1 (Ha ⟨cores, lines⟩)) :: L) (fun _ => R) (fun g => [(0, vi cores), (5, g.2), (6, vi lines), (7, vi (g.1 : Int))]) (fun g => lines.toNat - g.1) (0, .slice none 0 0) (by show (0 : Int) ≤ lines; omega) alT (fun w hs => hs) ?_
 rintro ⟨k, vs⟩ hk
 try simp only at hk ⊢
 refine ZA ?_
 refine cdy ?_ ?_
 ·intro ht8
  refine ZJ ?_
  refine ob (q_max (a := cores) rfl (by omega)) ?_
  refine Th (α := Int) (x0 := 0) (zc := [vi 0]) Ea rfl (by decide) rfl rfl rfl (fun j => ⟨rfl, by unfold Ao; omega⟩) (by omega) (by omega) ?_; intro v12
  refine J.shut .hd ?_
  refine J.know (p := v12.oneCell' = true) (fun w hs => isSlice.one (hs.fact (.head _))) (fun honev12 => ?_)
  refine rn1 ?_
  refine li (α := Entry) [Ha ⟨cores, lines⟩] Q3 rfl (fun j hj => ⟨⟨_, rfl, ⟨_, rfl, hj _ (.head _), Qm ⟨cores, lines⟩⟩⟩, trivial⟩) ?_; intro v14
  refine ap Q3 (hb := fun w hs => by have : maxN = 16777216 := rfl; simp only [List.length_replicate, List.length_cons, List.length_nil]; omega) (k := ?_); intro v15
  refine ZG ?_
  refine Au (k + 1, v15) (by show ((k + 1 : Nat) : Int) ≤ lines; omega) (by show lines.toNat - (k + 1) < lines.toNat - k; omega) alT (fun w hs => ?_)
  try simp only
  rw [Lr]; exact Ag hs
 ·intro ht8
  refine ZC ?_
  have hkl : k = lines.toNat := by omega
  rw [show List.replicate k (Ha ⟨cores, lines⟩) = Mz cores lines from by rw [hkl]; rfl]
  exact Zgl
theorem Qa {v0 : Value} {l : List Entry} {id : Int} {m : Msg} (hs : St (L) R w) (h0 : sl v0 l ∈ R) (hb : ∀ i, i < l.length → EB (l.getD i Az)) (hla : ∀ i, i < l.length → (l.getD i Az).last.length ≤ 4) (hm : m.wf) (hid : Ao id) (hk : ¬ (0 ≤ m.line ∧ m.line < (l.length : Int) ∧ 0 ≤ m.src ∧ m.src < ((Ad l m.line).last.length : Int))) : Calls Tryz.prog 28 [v0, vi id, .agg m.cells.toArray].toArray w (Bs (fun v : Value × Value => .tuple #[v.1, v.2]) (fun v => L) (fun v => sl v.1 (Ak l id m).1 :: sl v.2 (Ak l id m).2 :: R)) := by
 refine ZaT ?_;intro hlen hm0 hid0
 clear hs
 refine Gm ?_
 refine bx ?_; intro b5
 refine Ga2 ?_
 rcases (show (m.line < 0) ∨ (¬ m.line < 0 ∧ (l.length : Int) ≤ m.line) ∨ (¬ m.line < 0 ∧ m.line < (l.length : Int) ∧ m.src < 0) ∨ (¬ m.line < 0 ∧ m.line < (l.length : Int) ∧ 0 ≤ m.src ∧ ((Ad l m.line).last.length : Int) ≤ m.src) from by omega) with hc | hc | hc | hc
 ·refine Zen ?_
  exact ZfP
 ·refine Zb8 ?_
  refine dj (dgy ?_)
  refine ZbO ?_
  refine Zaa ?_
  refine dn3 ?_
  refine Zal ?_
  refine Xv ?_
  refine ZZ ?_
  exact ZfP
 ·refine Zb8 ?_
  refine dj (dgy ?_)
  refine ZX ?_
  refine dj (dgy ?_)
  refine dc (fun _ _ => Am rfl rfl (Nh (by omega))) ?_
  refine Zaa ?_
  refine Xv ?_
  refine ZZ ?_
  exact ZfP
 ·refine ZbR ?_;intro hEw u hE hE0 hL hone hlin
  refine dj (dgy ?_)
  refine ZX ?_
  refine dj (dgy ?_)
  refine Zac ?_
  refine dj (dgy ?_)
  refine dc (fun _ _ => Am rfl rfl (Iw (show ((Ad l m.line).last.length : Int) ≤ m.src by omega))) ?_
  refine djf ?_
  exact ZfP
theorem P7 {v0 : Value} {l : List Entry} {id : Int} {m : Msg} (hs : St (L) R w) (h0 : sl v0 l ∈ R) (hb : ∀ i, i < l.length → EB (l.getD i Az)) (hla : ∀ i, i < l.length → (l.getD i Az).last.length ≤ 4) (hm : m.wf) (hid : Ao id) (hk : 0 ≤ m.line ∧ m.line < (l.length : Int) ∧ 0 ≤ m.src ∧ m.src < ((Ad l m.line).last.length : Int) ∧ m.kind = 3) : Calls Tryz.prog 28 [v0, vi id, .agg m.cells.toArray].toArray w (Bs (fun v : Value × Value => .tuple #[v.1, v.2]) (fun v => L) (fun v => sl v.1 (Ak l id m).1 :: sl v.2 (Ak l id m).2 :: R)) := by
 refine ZaT ?_;intro hlen hm0 hid0
 clear hs
 refine Zbn ?_;intro b5 hEw u hE hE0 hL hone hlin
 refine dj (dgy ?_)
 refine ZX ?_
 refine dj (dgy ?_)
 refine Zac ?_
 refine dj (dgy ?_)
 refine Zbb ?_;intro ρ b8 v43
 refine ap Ea (hb := fun w hs => by have : maxN = 16777216 := rfl; simp only [List.length_nil]; omega) (k := ?_); intro v46
 refine ZaC ?_
 refine Zaz ?_
 refine Gd1 ?_
 refine Ga3 ?_
 refine cdy ?_ ?_
 ·intro ht100
  refine ZS ?_
  have er : Ak l id m = (l, []) := C3 (by omega) (by unfold Ah; rw [if_neg (by omega), if_pos (by omega), if_pos ht100])
  rw [er]
  exact ZeI
 ·intro ht100
  refine Gl ?_
  refine Zao ?_
  refine djc (fun _ _ => Cz (hc := D4 (xs := (Ad l m.line).last) pkk (by omega)) Tryz.isAgg3) ?_
  refine djc (fun _ _ => E6 Ro) ?_
  refine dnl ?_; intro ρ
  refine Gl ?_
  refine cdy ?_ ?_
  ·intro ht109
   refine Gm ?_
   refine rn6 ?_
   refine Et (xs := (Ad l m.line).last) Tryz.sizeOf3 rfl rfl pkk (getD_some 0 (by omega)) hm.2.2.2.2.1 ?_
   refine Gl ?_
   refine JC.shut (v := v46) pkk ?_
   refine JC.know (p := v46.oneCell' = true) (fun w hs => isSlice.one (hs.fact (List.Mem.head _))) (fun hone9 => ?_)
   refine kp [0, 1, 5, 6, 7, 8, 9, 48, 116, 117] ?_
   refine ZD ?_
   refine sc ?_
   refine Zau ?_
   refine cdy ?_ ?_
   ·intro ht122
    refine ZL ?_
    refine Za4 ?_
    refine Gl ?_
    have er : Ak l id m = (l.set m.line.toNat ({ (Ad l m.line) with last := ((Ad l m.line).last.set m.src.toNat m.serial), value := m.value, owner := -1 }), [⟨11, id, m.src, m.line, m.serial, 0, 0, false⟩]) := E1 (by omega) (by unfold Ah; rw [if_neg (by omega), if_pos (by omega), if_neg ht100]; unfold H7; rw [if_pos (by unfold Eg; omega), if_pos ht122])
    refine cq_ (blk b8 62 (Entry.cells v46 ({ (Ad l m.line) with last := ((Ad l m.line).last.set m.src.toNat m.serial), value := m.value, owner := -1 })) :: blk b5 76 m.cells :: L) ?_
    refine jd_ (fun ρ S => blk b8 62 (Entry.cells v46 ({ (Ad l m.line) with last := ((Ad l m.line).last.set m.src.toNat m.serial), value := m.value, owner := -1 })) :: blk b5 76 m.cells :: L) ?_
    refine dn4 ?_
    refine Bu (γ := Value) (val := fun v => v) (F := fun v => [sl v (l.set m.line.toNat ({ (Ad l m.line) with last := ((Ad l m.line).last.set m.src.toNat m.serial), value := m.value, owner := -1 }))]) Tryz.call59 (fun _ => rfl) (fun ρ L R w hd hs => Ch (e := { (Ad l m.line) with last := ((Ad l m.line).last.set m.src.toNat m.serial), value := m.value, owner := -1 }) (u := v46) hs (hd.base mm) (hd.base mm) (by first | exact hE.1 | (unfold Entry.wf Ao; simp only; omega)) (by omega)) (fun _ _ _ _ _ => rfl) ?_
    refine ZcL ?_;intro ρ
    refine xq_ (blk b8 62 (Entry.cells v46 ({ (Ad l m.line) with last := ((Ad l m.line).last.set m.src.toNat m.serial), value := m.value, owner := -1 })) :: blk b5 76 m.cells :: L) ?_
    exact Zfy
   ·intro ht122
    refine Gl ?_
    have er : Ak l id m = (l.set m.line.toNat ({ (Ad l m.line) with last := ((Ad l m.line).last.set m.src.toNat m.serial) }), [⟨11, id, m.src, m.line, m.serial, 0, 0, false⟩]) := E1 (by omega) (by unfold Ah; rw [if_neg (by omega), if_pos (by omega), if_neg ht100]; unfold H7; rw [if_pos (by unfold Eg; omega), if_neg ht122])
    refine cq_ (blk b8 62 (Entry.cells v46 ({ (Ad l m.line) with last := ((Ad l m.line).last.set m.src.toNat m.serial) })) :: blk b5 76 m.cells :: L) ?_
    refine jd_ (fun ρ S => blk b8 62 (Entry.cells v46 ({ (Ad l m.line) with last := ((Ad l m.line).last.set m.src.toNat m.serial) })) :: blk b5 76 m.cells :: L) ?_
    refine dn4 ?_
    refine Bu (γ := Value) (val := fun v => v) (F := fun v => [sl v (l.set m.line.toNat ({ (Ad l m.line) with last := ((Ad l m.line).last.set m.src.toNat m.serial) }))]) Tryz.call59 (fun _ => rfl) (fun ρ L R w hd hs => Ch (e := { (Ad l m.line) with last := ((Ad l m.line).last.set m.src.toNat m.serial) }) (u := v46) hs (hd.base mm) (hd.base mm) (by first | exact hE.1 | (unfold Entry.wf Ao; simp only; omega)) (by omega)) (fun _ _ _ _ _ => rfl) ?_
    refine ZcL ?_;intro ρ
    refine xq_ (blk b8 62 (Entry.cells v46 ({ (Ad l m.line) with last := ((Ad l m.line).last.set m.src.toNat m.serial) })) :: blk b5 76 m.cells :: L) ?_
    exact Zfy
  ·intro ht109
   refine Gl ?_
   have er : Ak l id m = (l.set m.line.toNat ((Ad l m.line)), [⟨11, id, m.src, m.line, m.serial, 0, 0, false⟩]) := E1 (by omega) (by unfold Ah; rw [if_neg (by omega), if_pos (by omega), if_neg ht100]; unfold H7; rw [if_neg (by unfold Eg; omega)])
   refine cq_ (blk b8 62 (Entry.cells u ((Ad l m.line))) :: blk b5 76 m.cells :: L) ?_
   refine jd_ (fun ρ S => blk b8 62 (Entry.cells u ((Ad l m.line))) :: blk b5 76 m.cells :: L) ?_
   refine dn4 ?_
   refine Bu (γ := Value) (val := fun v => v) (F := fun v => [sl v (l.set m.line.toNat ((Ad l m.line)))]) Tryz.call59 (fun _ => rfl) (fun ρ L R w hd hs => Ch (e := (Ad l m.line)) (u := u) hs (hd.base mm) (hd.base mm) (by first | exact hE.1 | (unfold Entry.wf Ao; simp only; omega)) (by omega)) (fun _ _ _ _ _ => rfl) ?_
   refine ZcL ?_;intro ρ
   refine xq_ (blk b8 62 (Entry.cells u ((Ad l m.line))) :: blk b5 76 m.cells :: L) ?_
   exact Zfy
theorem P4 {v0 : Value} {l : List Entry} {id : Int} {m : Msg} (hs : St (L) R w) (h0 : sl v0 l ∈ R) (hb : ∀ i, i < l.length → EB (l.getD i Az)) (hla : ∀ i, i < l.length → (l.getD i Az).last.length ≤ 4) (hm : m.wf) (hid : Ao id) (hk : 0 ≤ m.line ∧ m.line < (l.length : Int) ∧ 0 ≤ m.src ∧ m.src < ((Ad l m.line).last.length : Int) ∧ m.kind ≠ 1 ∧ m.kind ≠ 2 ∧ m.kind ≠ 3 ∧ m.kind ≠ 9 ∧ m.kind ≠ 8 ∧ m.kind ≠ 10) : Calls Tryz.prog 28 [v0, vi id, .agg m.cells.toArray].toArray w (Bs (fun v : Value × Value => .tuple #[v.1, v.2]) (fun v => L) (fun v => sl v.1 (Ak l id m).1 :: sl v.2 (Ak l id m).2 :: R)) := by
 refine ZaT ?_;intro hlen hm0 hid0
 clear hs
 refine Zbn ?_;intro b5 hEw u hE hE0 hL hone hlin
 refine dj (dgy ?_)
 refine ZX ?_
 refine dj (dgy ?_)
 refine Zac ?_
 refine dj (dgy ?_)
 refine Zbb ?_;intro ρ b8 v43
 refine ap Ea (hb := fun w hs => by have : maxN = 16777216 := rfl; simp only [List.length_nil]; omega) (k := ?_); intro v46
 refine ZaC ?_
 refine ZF ?_
 refine ZF ?_
 refine ZF ?_
 refine ZF ?_
 refine ZF ?_
 refine ZF ?_
 refine Zbj ?_;intro er
 exact ZeI
theorem P9 {v0 : Value} {l : List Entry} {id : Int} {m : Msg} (hs : St (L) R w) (h0 : sl v0 l ∈ R) (hb : ∀ i, i < l.length → EB (l.getD i Az)) (hla : ∀ i, i < l.length → (l.getD i Az).last.length ≤ 4) (hm : m.wf) (hid : Ao id) (hk : 0 ≤ m.line ∧ m.line < (l.length : Int) ∧ 0 ≤ m.src ∧ m.src < ((Ad l m.line).last.length : Int) ∧ m.kind = 1) : Calls Tryz.prog 28 [v0, vi id, .agg m.cells.toArray].toArray w (Bs (fun v : Value × Value => .tuple #[v.1, v.2]) (fun v => L) (fun v => sl v.1 (Ak l id m).1 :: sl v.2 (Ak l id m).2 :: R)) := by
 refine ZaT ?_;intro hlen hm0 hid0
 clear hs
 refine Zbn ?_;intro b5 hEw u hE hE0 hL hone hlin
 refine dj (dgy ?_)
 refine ZX ?_
 refine dj (dgy ?_)
 refine Zac ?_
 refine dj (dgy ?_)
 refine Zbb ?_;intro ρ b8 v43
 refine ap Ea (hb := fun w hs => by have : maxN = 16777216 := rfl; simp only [List.length_nil]; omega) (k := ?_); intro v46
 refine ZaC ?_
 exact ZeC
theorem P8 {v0 : Value} {l : List Entry} {id : Int} {m : Msg} (hs : St (L) R w) (h0 : sl v0 l ∈ R) (hb : ∀ i, i < l.length → EB (l.getD i Az)) (hla : ∀ i, i < l.length → (l.getD i Az).last.length ≤ 4) (hm : m.wf) (hid : Ao id) (hk : 0 ≤ m.line ∧ m.line < (l.length : Int) ∧ 0 ≤ m.src ∧ m.src < ((Ad l m.line).last.length : Int) ∧ m.kind = 2) : Calls Tryz.prog 28 [v0, vi id, .agg m.cells.toArray].toArray w (Bs (fun v : Value × Value => .tuple #[v.1, v.2]) (fun v => L) (fun v => sl v.1 (Ak l id m).1 :: sl v.2 (Ak l id m).2 :: R)) := by
 refine ZaT ?_;intro hlen hm0 hid0
 clear hs
 refine Zbn ?_;intro b5 hEw u hE hE0 hL hone hlin
 refine dj (dgy ?_)
 refine ZX ?_
 refine dj (dgy ?_)
 refine Zac ?_
 refine dj (dgy ?_)
 refine Zbb ?_;intro ρ b8 v43
 refine ap Ea (hb := fun w hs => by have : maxN = 16777216 := rfl; simp only [List.length_nil]; omega) (k := ?_); intro v46
 refine ZaC ?_
 refine ZF ?_
 exact ZeC
theorem P5 {v0 : Value} {l : List Entry} {id : Int} {m : Msg} (hs : St (L) R w) (h0 : sl v0 l ∈ R) (hb : ∀ i, i < l.length → EB (l.getD i Az)) (hla : ∀ i, i < l.length → (l.getD i Az).last.length ≤ 4) (hm : m.wf) (hid : Ao id) (hk : 0 ≤ m.line ∧ m.line < (l.length : Int) ∧ 0 ≤ m.src ∧ m.src < ((Ad l m.line).last.length : Int) ∧ m.kind = 9) : Calls Tryz.prog 28 [v0, vi id, .agg m.cells.toArray].toArray w (Bs (fun v : Value × Value => .tuple #[v.1, v.2]) (fun v => L) (fun v => sl v.1 (Ak l id m).1 :: sl v.2 (Ak l id m).2 :: R)) := by
 refine ZaT ?_;intro hlen hm0 hid0
 clear hs
 refine Zbn ?_;intro b5 hEw u hE hE0 hL hone hlin
 refine dj (dgy ?_)
 refine ZX ?_
 refine dj (dgy ?_)
 refine Zac ?_
 refine dj (dgy ?_)
 refine Zbb ?_;intro ρ b8 v43
 refine ap Ea (hb := fun w hs => by have : maxN = 16777216 := rfl; simp only [List.length_nil]; omega) (k := ?_); intro v46
 refine ZaC ?_
 refine ZF ?_
 refine Zaz ?_
 refine Gd1 ?_
 refine rn4 ?_
 refine jgx (t := 146) (p := ?p1) (hd := ?d1) ?e1 ?_ ?_; case e1 => exact rfl
 ·intro ht146
  refine Gc13 ?_
  exact Zgs
 ·intro ht146
  refine rn7 ?_
  refine jgx (t := 153) (p := ?p2) (hd := ?d2) ?e2 ?_ ?_; case e2 => exact rfl
  ·intro ht153
   refine Gc6 ?_
   exact Zgs
  ·intro ht153
   refine Ga6 ?_
   refine cdy ?_ ?_
   ·intro ht159
    refine Gl ?_
    exact Zgs
   ·intro ht159
    refine Gl ?_
    refine kp [0, 1, 5, 6, 7, 8, 48, 161, 162, 163, 164, 165, 166, 167, 168, 169, 170, 171] ?_
    refine ZE ?_
    refine Jr (t := 164) (b := ?b4) ?e4 ?_ ?_; case e4 => exact rfl
    ·intro ht164
     refine ZM ?_
     generalize hhas : (Ad l m.line).sharers.toNat.testBit (Ad l m.line).owner.toNat = bh
     refine An (val := fun _ => .bool bh) Tryz.call55 rfl (fun w hs => by have h := N4 (z := (Ad l m.line).sharers.toNat) (k := (Ad l m.line).owner.toNat) hs (by omega) (by omega); rw [Int.toNat_of_nonneg (by omega), Int.toNat_of_nonneg (by omega), hhas] at h; exact h) ?_; intro _
     refine Ga2 ?_
     refine A9 (b := ?b5) ?e5 ?_ ?_; case e5 => exact rfl
     ·intro ht171
      have hp2 : ((2 ^ (Ad l m.line).owner.toNat : Nat) : Int) ≤ 8 := Int.ofNat_le.2 (Nat.pow_le_pow_right (n := 2) (by decide) (show (Ad l m.line).owner.toNat ≤ 3 by omega))
      have hp0 : (0 : Int) ≤ ((2 ^ (Ad l m.line).owner.toNat : Nat) : Int) := Int.natCast_nonneg _
      refine Zc9 ?_
      refine Bu (γ := Unit) (val := fun _ => vi ((2 ^ (Ad l m.line).owner.toNat : Nat) : Int)) (F := fun _ => []) Tryz.call60 (fun _ => rfl) (fun ρ L R w hd hs => by have h := Ml (k := (Ad l m.line).owner.toNat) hs (by omega); rw [Int.toNat_of_nonneg (by omega)] at h; exact h) (fun _ _ _ _ _ => rfl) ?_
      first | refine epc (fun _ _ => E9) ?_ | refine epc (fun _ _ => Fx) ?_ | refine epp (fun _ _ => E9) ?_ | refine epp (fun _ _ => Fx) ?_
      refine ZcI ?_;intro ρ
      refine rn3 ?_
      refine Za4 ?_
      refine ZI ?_
      have hp3 := Acw hE0.2.1.1 hE0.2.1.2 (show 0 ≤ (Ad l m.line).owner by omega) hE0.2.2.2.2.1.2 (by rw [hhas]; simpa using ht171)
      have hX : EB ({ (Ad l m.line) with value := m.value, sharers := ((Ad l m.line).sharers + ((2 ^ (Ad l m.line).owner.toNat : Nat) : Int)), owner := -1 }) := by unfold EB Entry.wf Ao; simp only; omega
      refine An Tryz.call58 rfl (fun w hs => Jq (e := { (Ad l m.line) with value := m.value, sharers := ((Ad l m.line).sharers + ((2 ^ (Ad l m.line).owner.toNat : Nat) : Int)), owner := -1 }) (u := u) hs hX (by assumption)) ?_; intro _
      refine s_B (cs := (Bd ({ (Ad l m.line) with value := m.value, sharers := ((Ad l m.line).sharers + ((2 ^ (Ad l m.line).owner.toNat : Nat) : Int)), owner := -1 })).cells u) Tryz.sizeOf62 ?_
      refine Gl ?_
      have ed : (if (Ad l m.line).alone then (Ad l m.line).sharers else H5 (Ad l m.line).sharers (Ad l m.line).owner) = ((Ad l m.line).sharers + ((2 ^ (Ad l m.line).owner.toNat : Nat) : Int)) := by
       obtain ⟨b1, b2, _⟩ := Cm hE0.2.1.1 hE0.2.1.2 (show 0 ≤ (Ad l m.line).owner by omega) hE0.2.2.2.2.1.2
       rw [if_neg (by simpa using ht164), (b2 (by simpa [hhas] using ht171)).1]
      have er : Ak l id m = (l.set m.line.toNat (Bd ({ (Ad l m.line) with value := m.value, sharers := ((Ad l m.line).sharers + ((2 ^ (Ad l m.line).owner.toNat : Nat) : Int)), owner := -1 })), Fm (Bd ({ (Ad l m.line) with value := m.value, sharers := ((Ad l m.line).sharers + ((2 ^ (Ad l m.line).owner.toNat : Nat) : Int)), owner := -1 })) m.line id) := E1 (by omega) (by unfold Ah; rw [if_neg (by omega), if_neg (by omega), if_pos (by omega)]; unfold G2; rw [ed])
      refine cq_ (blk b8 62 ((Bd ({ (Ad l m.line) with value := m.value, sharers := ((Ad l m.line).sharers + ((2 ^ (Ad l m.line).owner.toNat : Nat) : Int)), owner := -1 })).cells u) :: blk b5 76 m.cells :: L) ?_
      refine jd_ (fun ρ S => blk b8 62 ((Bd ({ (Ad l m.line) with value := m.value, sharers := ((Ad l m.line).sharers + ((2 ^ (Ad l m.line).owner.toNat : Nat) : Int)), owner := -1 })).cells u) :: blk b5 76 m.cells :: L) ?_
      refine dn4 ?_
      refine Bu (γ := Value) (val := fun v => v) (F := fun v => [sl v (l.set m.line.toNat (Bd ({ (Ad l m.line) with value := m.value, sharers := ((Ad l m.line).sharers + ((2 ^ (Ad l m.line).owner.toNat : Nat) : Int)), owner := -1 })))]) Tryz.call59 (fun _ => rfl) (fun ρ L R w hd hs => Ch (e := Bd ({ (Ad l m.line) with value := m.value, sharers := ((Ad l m.line).sharers + ((2 ^ (Ad l m.line).owner.toNat : Nat) : Int)), owner := -1 })) (u := u) hs (hd.base mm) (by rw [D1]; exact hd.base mm) (C8 hX).1 (by omega)) (fun _ _ _ _ _ => rfl) ?_
      refine dn4 ?_
      refine Bu (γ := Value) (val := fun v => v) (F := fun v => [sl v (Fm (Bd ({ (Ad l m.line) with value := m.value, sharers := ((Ad l m.line).sharers + ((2 ^ (Ad l m.line).owner.toNat : Nat) : Int)), owner := -1 })) m.line id)]) Tryz.call23 (fun _ => rfl) (fun ρ L R w hd hs => Ij (e := Bd ({ (Ad l m.line) with value := m.value, sharers := ((Ad l m.line).sharers + ((2 ^ (Ad l m.line).owner.toNat : Nat) : Int)), owner := -1 })) (u := u) hs (C8 hX) (by assumption) hm.2.2.2.1 hid) (fun _ _ _ _ _ => rfl) ?_
      refine ZbB ?_;intro ρ
      refine xq_ (blk b8 62 ((Bd ({ (Ad l m.line) with value := m.value, sharers := ((Ad l m.line).sharers + ((2 ^ (Ad l m.line).owner.toNat : Nat) : Int)), owner := -1 })).cells u) :: blk b5 76 m.cells :: L) ?_
      generalize (Gh.dec (γ := Value) (ρ 4)) = v287
      generalize (Gh.dec (γ := Value) (ρ 9)) = v292
      refine Gl ?_
      rw [er]
      exact Ce (v287, v292)
     ·intro ht171
      refine Zad ?_
      refine Za4 ?_
      refine ZI ?_
      skip
      refine Zde ?_;intro hX
      refine An Tryz.call58 rfl (fun w hs => Jq (e := { (Ad l m.line) with value := m.value, sharers := (Ad l m.line).sharers, owner := -1 }) (u := u) hs hX (by assumption)) ?_; intro _
      refine s_B (cs := (Bd ({ (Ad l m.line) with value := m.value, sharers := (Ad l m.line).sharers, owner := -1 })).cells u) Tryz.sizeOf62 ?_
      refine Gl ?_
      have ed : (if (Ad l m.line).alone then (Ad l m.line).sharers else H5 (Ad l m.line).sharers (Ad l m.line).owner) = (Ad l m.line).sharers := by
       obtain ⟨b1, b2, _⟩ := Cm hE0.2.1.1 hE0.2.1.2 (show 0 ≤ (Ad l m.line).owner by omega) hE0.2.2.2.2.1.2
       rw [if_neg (by simpa using ht164), (b1 (by simpa [hhas] using ht171)).1]
      refine Zd9 ?_;intro er ρ v287 v292
      exact Ce (v287, v292)
    ·intro ht164
     refine Gd7 ?_
     refine rn3 ?_
     refine Za4 ?_
     refine ZI ?_
     skip
     refine Zde ?_;intro hX
     refine An Tryz.call58 rfl (fun w hs => Jq (e := { (Ad l m.line) with value := m.value, sharers := (Ad l m.line).sharers, owner := -1 }) (u := u) hs hX (by assumption)) ?_; intro _
     refine s_B (cs := (Bd ({ (Ad l m.line) with value := m.value, sharers := (Ad l m.line).sharers, owner := -1 })).cells u) Tryz.sizeOf62 ?_
     refine Gl ?_
     have ed : (if (Ad l m.line).alone then (Ad l m.line).sharers else H5 (Ad l m.line).sharers (Ad l m.line).owner) = (Ad l m.line).sharers := by
      obtain ⟨b1, b2, _⟩ := Cm hE0.2.1.1 hE0.2.1.2 (show 0 ≤ (Ad l m.line).owner by omega) hE0.2.2.2.2.1.2
      rw [if_pos (by simpa using ht164)]
     refine Zd9 ?_;intro er ρ v287 v292
     exact Ce (v287, v292)
theorem P6 {v0 : Value} {l : List Entry} {id : Int} {m : Msg} (hs : St (L) R w) (h0 : sl v0 l ∈ R) (hb : ∀ i, i < l.length → EB (l.getD i Az)) (hla : ∀ i, i < l.length → (l.getD i Az).last.length ≤ 4) (hm : m.wf) (hid : Ao id) (hk : 0 ≤ m.line ∧ m.line < (l.length : Int) ∧ 0 ≤ m.src ∧ m.src < ((Ad l m.line).last.length : Int) ∧ m.kind = 8) : Calls Tryz.prog 28 [v0, vi id, .agg m.cells.toArray].toArray w (Bs (fun v : Value × Value => .tuple #[v.1, v.2]) (fun v => L) (fun v => sl v.1 (Ak l id m).1 :: sl v.2 (Ak l id m).2 :: R)) := by
 refine ZaT ?_;intro hlen hm0 hid0
 clear hs
 refine Zbn ?_;intro b5 hEw u hE hE0 hL hone hlin
 refine dj (dgy ?_)
 refine ZX ?_
 refine dj (dgy ?_)
 refine Zac ?_
 refine dj (dgy ?_)
 refine Zbb ?_;intro ρ b8 v43
 refine ap Ea (hb := fun w hs => by have : maxN = 16777216 := rfl; simp only [List.length_nil]; omega) (k := ?_); intro v46
 refine ZaC ?_
 refine ZaW ?_
 refine Gd1 ?_
 refine rn4 ?_
 refine jgx (t := 190) (p := ?p1) (hd := ?d1) ?e1 ?_ ?_; case e1 => exact rfl
 ·intro ht190
  refine Gc14 ?_
  exact ZeW
 ·intro ht190
  refine rn7 ?_
  refine jgx (t := 197) (p := ?p2) (hd := ?d2) ?e2 ?_ ?_; case e2 => exact rfl
  ·intro ht197
   refine Gc7 ?_
   exact ZeW
  ·intro ht197
   refine ZM ?_
   generalize hhas : (Ad l m.line).need.toNat.testBit m.src.toNat = bh
   refine An (val := fun _ => .bool bh) Tryz.call55 rfl (fun w hs => by have h := N4 (z := (Ad l m.line).need.toNat) (k := m.src.toNat) hs (by omega) (by omega); rw [Int.toNat_of_nonneg (by omega), Int.toNat_of_nonneg (by omega), hhas] at h; exact h) ?_; intro _
   refine Ga2 ?_
   refine A9 (b := ?b3) ?e3 ?_ ?_; case e3 => exact rfl
   ·intro ht204
    refine Gl ?_
    exact ZeW
   ·intro ht204
    refine Gl ?_
    have hp2 : ((2 ^ m.src.toNat : Nat) : Int) ≤ 8 := Int.ofNat_le.2 (Nat.pow_le_pow_right (n := 2) (by decide) (show m.src.toNat ≤ 3 by omega))
    have hp0 : (0 : Int) ≤ ((2 ^ m.src.toNat : Nat) : Int) := Int.natCast_nonneg _
    refine kp [0, 1, 5, 6, 7, 8, 48, 206, 207, 208, 209, 210, 211, 212] ?_
    refine Zc9 ?_
    refine Bu (γ := Unit) (val := fun _ => vi ((2 ^ m.src.toNat : Nat) : Int)) (F := fun _ => []) Tryz.call60 (fun _ => rfl) (fun ρ L R w hd hs => by have h := Ml (k := m.src.toNat) hs (by omega); rw [Int.toNat_of_nonneg (by omega)] at h; exact h) (fun _ _ _ _ _ => rfl) ?_
    first | refine epc (fun _ _ => Qf) ?_ | refine epp (fun _ _ => Qf) ?_
    refine ZcI ?_;intro ρ
    refine rn4 ?_
    generalize hhasS : (Ad l m.line).sharers.toNat.testBit m.src.toNat = bhS
    refine An (val := fun _ => .bool bhS) Tryz.call55 rfl (fun w hs => by have h := N4 (z := (Ad l m.line).sharers.toNat) (k := m.src.toNat) hs (by omega) (by omega); rw [Int.toNat_of_nonneg (by omega), Int.toNat_of_nonneg (by omega), hhasS] at h; exact h) ?_; intro _
    refine Gl ?_
    refine A9 (b := ?b4) ?e4 ?_ ?_; case e4 => exact rfl
    ·intro ht217
     refine cq_ (blk b8 62 [vi (Ad l m.line).value, vi (Ad l m.line).owner, vi (Ad l m.line).sharers, vi (Ad l m.line).phase, vi (Ad l m.line).who, vi (Ad l m.line).serial, .bool (Ad l m.line).alone, vi (Ad l m.line).turn, vi ((Ad l m.line).need - ((2 ^ m.src.toNat : Nat) : Int)), u] :: blk b5 76 m.cells :: L) ?_
     refine jd_ (fun ρ S => blk b8 62 [vi (Ad l m.line).value, vi (Ad l m.line).owner, vi (Ad l m.line).sharers, vi (Ad l m.line).phase, vi (Ad l m.line).who, vi (Ad l m.line).serial, .bool (Ad l m.line).alone, vi (Ad l m.line).turn, vi ((Ad l m.line).need - ((2 ^ m.src.toNat : Nat) : Int)), u] :: blk b5 76 m.cells :: L) ?_
     refine dn4 ?_
     refine Bu (γ := Unit) (val := fun _ => vi ((2 ^ m.src.toNat : Nat) : Int)) (F := fun _ => []) Tryz.call60 (fun _ => rfl) (fun ρ L R w hd hs => by have h := Ml (k := m.src.toNat) hs (by omega); rw [Int.toNat_of_nonneg (by omega)] at h; exact h) (fun _ _ _ _ _ => rfl) ?_
     first | refine epc (fun _ _ => Qf) ?_ | refine epp (fun _ _ => Qf) ?_
     refine dtl ?_; intro ρ
     refine J.conseq (L' := blk b8 62 [vi (Ad l m.line).value, vi (Ad l m.line).owner, vi (Ad l m.line).sharers, vi (Ad l m.line).phase, vi (Ad l m.line).who, vi (Ad l m.line).serial, .bool (Ad l m.line).alone, vi (Ad l m.line).turn, vi ((Ad l m.line).need - ((2 ^ m.src.toNat : Nat) : Int)), u] :: blk b5 76 m.cells :: L) (fun w hs => hs) ?_
     refine ZH ?_
     refine ZS ?_
     refine cdy ?_ ?_
     ·intro ht227
      refine Gl ?_
      refine Zcr ?_;intro hh
      have hhS : (Ad l m.line).sharers.toNat.testBit m.src.toNat = true := by rw [hhasS]; exact ht217
      have eg : Ct (Ad l m.line) m = { (Ad l m.line) with need := ((Ad l m.line).need - ((2 ^ m.src.toNat : Nat) : Int)), sharers := ((Ad l m.line).sharers - ((2 ^ m.src.toNat : Nat) : Int)) } := by
       exact Zf9
      refine ZU ?_
      have er : Ak l id m = (l.set m.line.toNat ({ (Ad l m.line) with need := ((Ad l m.line).need - ((2 ^ m.src.toNat : Nat) : Int)), sharers := ((Ad l m.line).sharers - ((2 ^ m.src.toNat : Nat) : Int)) }), []) := E1 (by omega) (by unfold Ah; rw [if_neg (by omega), if_neg (by omega), if_neg (by omega), if_pos ⟨by omega, by omega, by omega, hh⟩, eg, if_neg (by simp only; omega)])
      refine ZE ?_
      refine An Tryz.call59 rfl (fun w hs => Ch (e := { (Ad l m.line) with need := ((Ad l m.line).need - ((2 ^ m.src.toNat : Nat) : Int)), sharers := ((Ad l m.line).sharers - ((2 ^ m.src.toNat : Nat) : Int)) }) (u := u) hs mm mm (by unfold Entry.wf Ao; simp only; omega) (by omega)) ?_; intro v232
      refine Ga2 ?_
      rw [er]
      exact Ce (v232, .slice none 0 0)
     ·intro ht227
      refine ZI ?_
      have hp3 := Po hE0.2.2.1.1 hE0.2.2.1.2 (show 0 ≤ m.src by omega) (show m.src < 4 by omega) (by rw [hhas]; simpa using ht204)
      have hp4 := Po hE0.2.1.1 hE0.2.1.2 (show 0 ≤ m.src by omega) (show m.src < 4 by omega) (by rw [hhasS]; exact ht217)
      have hX : EB ({ (Ad l m.line) with need := ((Ad l m.line).need - ((2 ^ m.src.toNat : Nat) : Int)), sharers := ((Ad l m.line).sharers - ((2 ^ m.src.toNat : Nat) : Int)) }) := by unfold EB Entry.wf Ao; simp only; omega
      refine An Tryz.call58 rfl (fun w hs => Jq (e := { (Ad l m.line) with need := ((Ad l m.line).need - ((2 ^ m.src.toNat : Nat) : Int)), sharers := ((Ad l m.line).sharers - ((2 ^ m.src.toNat : Nat) : Int)) }) (u := u) hs hX (by assumption)) ?_; intro _
      refine s_B (cs := (Bd ({ (Ad l m.line) with need := ((Ad l m.line).need - ((2 ^ m.src.toNat : Nat) : Int)), sharers := ((Ad l m.line).sharers - ((2 ^ m.src.toNat : Nat) : Int)) })).cells u) Tryz.sizeOf62 ?_
      refine Gl ?_
      refine Zcr ?_;intro hh
      have hhS : (Ad l m.line).sharers.toNat.testBit m.src.toNat = true := by rw [hhasS]; exact ht217
      have eg : Ct (Ad l m.line) m = { (Ad l m.line) with need := ((Ad l m.line).need - ((2 ^ m.src.toNat : Nat) : Int)), sharers := ((Ad l m.line).sharers - ((2 ^ m.src.toNat : Nat) : Int)) } := by
       exact Zf9
      have er : Ak l id m = (l.set m.line.toNat (Bd ({ (Ad l m.line) with need := ((Ad l m.line).need - ((2 ^ m.src.toNat : Nat) : Int)), sharers := ((Ad l m.line).sharers - ((2 ^ m.src.toNat : Nat) : Int)) })), Fm (Bd ({ (Ad l m.line) with need := ((Ad l m.line).need - ((2 ^ m.src.toNat : Nat) : Int)), sharers := ((Ad l m.line).sharers - ((2 ^ m.src.toNat : Nat) : Int)) })) m.line id) := E1 (by omega) (by unfold Ah; rw [if_neg (by omega), if_neg (by omega), if_neg (by omega), if_pos ⟨by omega, by omega, by omega, hh⟩, eg, if_pos (by simp only; omega)])
      refine cq_ (blk b8 62 ((Bd ({ (Ad l m.line) with need := ((Ad l m.line).need - ((2 ^ m.src.toNat : Nat) : Int)), sharers := ((Ad l m.line).sharers - ((2 ^ m.src.toNat : Nat) : Int)) })).cells u) :: blk b5 76 m.cells :: L) ?_
      refine jd_ (fun ρ S => blk b8 62 ((Bd ({ (Ad l m.line) with need := ((Ad l m.line).need - ((2 ^ m.src.toNat : Nat) : Int)), sharers := ((Ad l m.line).sharers - ((2 ^ m.src.toNat : Nat) : Int)) })).cells u) :: blk b5 76 m.cells :: L) ?_
      refine dn4 ?_
      refine Bu (γ := Value) (val := fun v => v) (F := fun v => [sl v (l.set m.line.toNat (Bd ({ (Ad l m.line) with need := ((Ad l m.line).need - ((2 ^ m.src.toNat : Nat) : Int)), sharers := ((Ad l m.line).sharers - ((2 ^ m.src.toNat : Nat) : Int)) })))]) Tryz.call59 (fun _ => rfl) (fun ρ L R w hd hs => Ch (e := Bd ({ (Ad l m.line) with need := ((Ad l m.line).need - ((2 ^ m.src.toNat : Nat) : Int)), sharers := ((Ad l m.line).sharers - ((2 ^ m.src.toNat : Nat) : Int)) })) (u := u) hs (hd.base mm) (by rw [D1]; exact hd.base mm) (C8 hX).1 (by omega)) (fun _ _ _ _ _ => rfl) ?_
      refine dn4 ?_
      refine Bu (γ := Value) (val := fun v => v) (F := fun v => [sl v (Fm (Bd ({ (Ad l m.line) with need := ((Ad l m.line).need - ((2 ^ m.src.toNat : Nat) : Int)), sharers := ((Ad l m.line).sharers - ((2 ^ m.src.toNat : Nat) : Int)) })) m.line id)]) Tryz.call23 (fun _ => rfl) (fun ρ L R w hd hs => Ij (e := Bd ({ (Ad l m.line) with need := ((Ad l m.line).need - ((2 ^ m.src.toNat : Nat) : Int)), sharers := ((Ad l m.line).sharers - ((2 ^ m.src.toNat : Nat) : Int)) })) (u := u) hs (C8 hX) (by assumption) hm.2.2.2.1 hid) (fun _ _ _ _ _ => rfl) ?_
      refine ZbB ?_;intro ρ
      refine xq_ (blk b8 62 ((Bd ({ (Ad l m.line) with need := ((Ad l m.line).need - ((2 ^ m.src.toNat : Nat) : Int)), sharers := ((Ad l m.line).sharers - ((2 ^ m.src.toNat : Nat) : Int)) })).cells u) :: blk b5 76 m.cells :: L) ?_
      exact ZfY
    ·intro ht217
     refine ZS ?_
     refine cdy ?_ ?_
     ·intro ht227
      refine Gl ?_
      refine Zcr ?_;intro hh
      have hhS : (Ad l m.line).sharers.toNat.testBit m.src.toNat = false := by rw [hhasS]; simpa using ht217
      have eg : Ct (Ad l m.line) m = { (Ad l m.line) with need := ((Ad l m.line).need - ((2 ^ m.src.toNat : Nat) : Int)), sharers := (Ad l m.line).sharers } := by
       exact ZfA
      refine ZU ?_
      have er : Ak l id m = (l.set m.line.toNat ({ (Ad l m.line) with need := ((Ad l m.line).need - ((2 ^ m.src.toNat : Nat) : Int)), sharers := (Ad l m.line).sharers }), []) := E1 (by omega) (by unfold Ah; rw [if_neg (by omega), if_neg (by omega), if_neg (by omega), if_pos ⟨by omega, by omega, by omega, hh⟩, eg, if_neg (by simp only; omega)])
      refine ZE ?_
      refine An Tryz.call59 rfl (fun w hs => Ch (e := { (Ad l m.line) with need := ((Ad l m.line).need - ((2 ^ m.src.toNat : Nat) : Int)), sharers := (Ad l m.line).sharers }) (u := u) hs mm mm (by unfold Entry.wf Ao; simp only; omega) (by omega)) ?_; intro v232
      refine Ga2 ?_
      rw [er]
      exact Ce (v232, .slice none 0 0)
     ·intro ht227
      refine ZI ?_
      have hp3 := Po hE0.2.2.1.1 hE0.2.2.1.2 (show 0 ≤ m.src by omega) (show m.src < 4 by omega) (by rw [hhas]; simpa using ht204)
      have hX : EB ({ (Ad l m.line) with need := ((Ad l m.line).need - ((2 ^ m.src.toNat : Nat) : Int)), sharers := (Ad l m.line).sharers }) := by unfold EB Entry.wf Ao; simp only; omega
      refine An Tryz.call58 rfl (fun w hs => Jq (e := { (Ad l m.line) with need := ((Ad l m.line).need - ((2 ^ m.src.toNat : Nat) : Int)), sharers := (Ad l m.line).sharers }) (u := u) hs hX (by assumption)) ?_; intro _
      refine s_B (cs := (Bd ({ (Ad l m.line) with need := ((Ad l m.line).need - ((2 ^ m.src.toNat : Nat) : Int)), sharers := (Ad l m.line).sharers })).cells u) Tryz.sizeOf62 ?_
      refine Gl ?_
      refine Zcr ?_;intro hh
      have hhS : (Ad l m.line).sharers.toNat.testBit m.src.toNat = false := by rw [hhasS]; simpa using ht217
      have eg : Ct (Ad l m.line) m = { (Ad l m.line) with need := ((Ad l m.line).need - ((2 ^ m.src.toNat : Nat) : Int)), sharers := (Ad l m.line).sharers } := by
       exact ZfA
      have er : Ak l id m = (l.set m.line.toNat (Bd ({ (Ad l m.line) with need := ((Ad l m.line).need - ((2 ^ m.src.toNat : Nat) : Int)), sharers := (Ad l m.line).sharers })), Fm (Bd ({ (Ad l m.line) with need := ((Ad l m.line).need - ((2 ^ m.src.toNat : Nat) : Int)), sharers := (Ad l m.line).sharers })) m.line id) := E1 (by omega) (by unfold Ah; rw [if_neg (by omega), if_neg (by omega), if_neg (by omega), if_pos ⟨by omega, by omega, by omega, hh⟩, eg, if_pos (by simp only; omega)])
      refine cq_ (blk b8 62 ((Bd ({ (Ad l m.line) with need := ((Ad l m.line).need - ((2 ^ m.src.toNat : Nat) : Int)), sharers := (Ad l m.line).sharers })).cells u) :: blk b5 76 m.cells :: L) ?_
      refine jd_ (fun ρ S => blk b8 62 ((Bd ({ (Ad l m.line) with need := ((Ad l m.line).need - ((2 ^ m.src.toNat : Nat) : Int)), sharers := (Ad l m.line).sharers })).cells u) :: blk b5 76 m.cells :: L) ?_
      refine dn4 ?_
      refine Bu (γ := Value) (val := fun v => v) (F := fun v => [sl v (l.set m.line.toNat (Bd ({ (Ad l m.line) with need := ((Ad l m.line).need - ((2 ^ m.src.toNat : Nat) : Int)), sharers := (Ad l m.line).sharers })))]) Tryz.call59 (fun _ => rfl) (fun ρ L R w hd hs => Ch (e := Bd ({ (Ad l m.line) with need := ((Ad l m.line).need - ((2 ^ m.src.toNat : Nat) : Int)), sharers := (Ad l m.line).sharers })) (u := u) hs (hd.base mm) (by rw [D1]; exact hd.base mm) (C8 hX).1 (by omega)) (fun _ _ _ _ _ => rfl) ?_
      refine dn4 ?_
      refine Bu (γ := Value) (val := fun v => v) (F := fun v => [sl v (Fm (Bd ({ (Ad l m.line) with need := ((Ad l m.line).need - ((2 ^ m.src.toNat : Nat) : Int)), sharers := (Ad l m.line).sharers })) m.line id)]) Tryz.call23 (fun _ => rfl) (fun ρ L R w hd hs => Ij (e := Bd ({ (Ad l m.line) with need := ((Ad l m.line).need - ((2 ^ m.src.toNat : Nat) : Int)), sharers := (Ad l m.line).sharers })) (u := u) hs (C8 hX) (by assumption) hm.2.2.2.1 hid) (fun _ _ _ _ _ => rfl) ?_
      refine ZbB ?_;intro ρ
      refine xq_ (blk b8 62 ((Bd ({ (Ad l m.line) with need := ((Ad l m.line).need - ((2 ^ m.src.toNat : Nat) : Int)), sharers := (Ad l m.line).sharers })).cells u) :: blk b5 76 m.cells :: L) ?_
      exact ZfY
theorem Oy {v0 : Value} {l : List Entry} {id : Int} {m : Msg} (hs : St (L) R w) (h0 : sl v0 l ∈ R) (hb : ∀ i, i < l.length → EB (l.getD i Az)) (hla : ∀ i, i < l.length → (l.getD i Az).last.length ≤ 4) (hm : m.wf) (hid : Ao id) (hk : 0 ≤ m.line ∧ m.line < (l.length : Int) ∧ 0 ≤ m.src ∧ m.src < ((Ad l m.line).last.length : Int) ∧ m.kind = 10) : Calls Tryz.prog 28 [v0, vi id, .agg m.cells.toArray].toArray w (Bs (fun v : Value × Value => .tuple #[v.1, v.2]) (fun v => L) (fun v => sl v.1 (Ak l id m).1 :: sl v.2 (Ak l id m).2 :: R)) := by
 refine ZaT ?_;intro hlen hm0 hid0
 clear hs
 refine Zbn ?_;intro b5 hEw u hE hE0 hL hone hlin
 refine dj (dgy ?_)
 refine ZX ?_
 refine dj (dgy ?_)
 refine Zac ?_
 refine dj (dgy ?_)
 refine Zbb ?_;intro ρ b8 v43
 refine ap Ea (hb := fun w hs => by have : maxN = 16777216 := rfl; simp only [List.length_nil]; omega) (k := ?_); intro v46
 refine ZaC ?_
 refine ZF ?_
 refine ZaW ?_
 refine Gd1 ?_
 refine rn4 ?_
 refine jgx (t := 240) (p := ?p1) (hd := ?d1) ?e1 ?_ ?_; case e1 => exact rfl
 ·intro ht240
  refine Gc13 ?_
  exact Zg1
 ·intro ht240
  refine rn7 ?_
  refine jgx (t := 247) (p := ?p2) (hd := ?d2) ?e2 ?_ ?_; case e2 => exact rfl
  ·intro ht247
   refine Gc6 ?_
   exact Zg1
  ·intro ht247
   refine Ga6 ?_
   refine cdy ?_ ?_
   ·intro ht253
    refine Gl ?_
    exact Zg1
   ·intro ht253
    refine Gl ?_
    refine kp [0, 1, 5, 6, 7, 8, 255, 256] ?_
    refine ZO ?_
    refine A9 (b := ?b4) ?e4 ?_ ?_; case e4 => exact rfl
    ·intro ht256
     refine ZL ?_
     refine Za4 ?_
     refine Gm ?_
     refine ZH ?_
     refine ZH ?_
     refine ZH ?_
     refine ZH ?_
     refine Gl ?_
     have et : D3 (Ad l m.line) = { (Ad l m.line) with owner := (Ad l m.line).who, sharers := 0, phase := 0, who := 0, serial := 0, alone := false } := by unfold D3; rw [if_pos ht256]
     refine ZU ?_
     have er : Ak l id m = (l.set m.line.toNat ({ (Ad l m.line) with owner := (Ad l m.line).who, sharers := 0, phase := 0, who := 0, serial := 0, alone := false }), []) := E1 (by omega) (by unfold Ah; rw [if_neg (by omega), if_neg (by omega), if_neg (by omega), if_neg (by omega), if_pos (by omega), et])
     refine ZE ?_
     refine An Tryz.call59 rfl (fun w hs => Ch (e := { (Ad l m.line) with owner := (Ad l m.line).who, sharers := 0, phase := 0, who := 0, serial := 0, alone := false }) (u := u) hs mm mm (by unfold Entry.wf Ao; simp only; omega) (by omega)) ?_; intro v282
     refine Ga2 ?_
     rw [er]
     exact Ce (v282, .slice none 0 0)
    ·intro ht256
     refine Zak ?_
     generalize hhasT : (Ad l m.line).sharers.toNat.testBit (Ad l m.line).who.toNat = bhT
     refine An (val := fun _ => .bool bhT) Tryz.call55 rfl (fun w hs => by have h := N4 (z := (Ad l m.line).sharers.toNat) (k := (Ad l m.line).who.toNat) hs (by omega) (by omega); rw [Int.toNat_of_nonneg (by omega), Int.toNat_of_nonneg (by omega), hhasT] at h; exact h) ?_; intro _
     refine Ga1 ?_
     refine A9 (b := ?b5) ?e5 ?_ ?_; case e5 => exact rfl
     ·intro ht266
      have hp2 : ((2 ^ (Ad l m.line).who.toNat : Nat) : Int) ≤ 8 := Int.ofNat_le.2 (Nat.pow_le_pow_right (n := 2) (by decide) (show (Ad l m.line).who.toNat ≤ 3 by omega))
      have hp0 : (0 : Int) ≤ ((2 ^ (Ad l m.line).who.toNat : Nat) : Int) := Int.natCast_nonneg _
      refine Zc9 ?_
      refine Bu (γ := Unit) (val := fun _ => vi ((2 ^ (Ad l m.line).who.toNat : Nat) : Int)) (F := fun _ => []) Tryz.call60 (fun _ => rfl) (fun ρ L R w hd hs => by have h := Ml (k := (Ad l m.line).who.toNat) hs (by omega); rw [Int.toNat_of_nonneg (by omega)] at h; exact h) (fun _ _ _ _ _ => rfl) ?_
      first | refine epc (fun _ _ => E9) ?_ | refine epc (fun _ _ => Fx) ?_ | refine epp (fun _ _ => E9) ?_ | refine epp (fun _ _ => Fx) ?_
      refine ZcI ?_;intro ρ
      refine ZH ?_
      refine ZH ?_
      refine ZH ?_
      refine ZH ?_
      refine Gl ?_
      have et : D3 (Ad l m.line) = { (Ad l m.line) with sharers := ((Ad l m.line).sharers + ((2 ^ (Ad l m.line).who.toNat : Nat) : Int)), phase := 0, who := 0, serial := 0, alone := false } := by
       obtain ⟨b1, b2, _⟩ := Cm hE0.2.1.1 hE0.2.1.2 hE0.2.2.2.1.1 hE0.2.2.2.1.2
       unfold D3
       rw [if_neg (by rw [ht256]; decide), (b2 (by simpa [hhasT] using ht266)).1]
      refine ZU ?_
      have er : Ak l id m = (l.set m.line.toNat ({ (Ad l m.line) with sharers := ((Ad l m.line).sharers + ((2 ^ (Ad l m.line).who.toNat : Nat) : Int)), phase := 0, who := 0, serial := 0, alone := false }), []) := E1 (by omega) (by unfold Ah; rw [if_neg (by omega), if_neg (by omega), if_neg (by omega), if_neg (by omega), if_pos (by omega), et])
      refine ZE ?_
      refine An Tryz.call59 rfl (fun w hs => Ch (e := { (Ad l m.line) with sharers := ((Ad l m.line).sharers + ((2 ^ (Ad l m.line).who.toNat : Nat) : Int)), phase := 0, who := 0, serial := 0, alone := false }) (u := u) hs mm mm (by unfold Entry.wf Ao; simp only; omega) (by omega)) ?_; intro v282
      refine Ga2 ?_
      rw [er]
      exact Ce (v282, .slice none 0 0)
     ·intro ht266
      refine Gm ?_
      refine ZH ?_
      refine ZH ?_
      refine ZH ?_
      refine ZH ?_
      refine Gl ?_
      have et : D3 (Ad l m.line) = { (Ad l m.line) with sharers := (Ad l m.line).sharers, phase := 0, who := 0, serial := 0, alone := false } := by
       obtain ⟨b1, b2, _⟩ := Cm hE0.2.1.1 hE0.2.1.2 hE0.2.2.2.1.1 hE0.2.2.2.1.2
       unfold D3
       rw [if_neg (by rw [ht256]; decide), (b1 (by simpa [hhasT] using ht266)).1]
      refine ZU ?_
      have er : Ak l id m = (l.set m.line.toNat ({ (Ad l m.line) with sharers := (Ad l m.line).sharers, phase := 0, who := 0, serial := 0, alone := false }), []) := E1 (by omega) (by unfold Ah; rw [if_neg (by omega), if_neg (by omega), if_neg (by omega), if_neg (by omega), if_pos (by omega), et])
      refine ZE ?_
      refine An Tryz.call59 rfl (fun w hs => Ch (e := { (Ad l m.line) with sharers := (Ad l m.line).sharers, phase := 0, who := 0, serial := 0, alone := false }) (u := u) hs mm mm (by unfold Entry.wf Ao; simp only; omega) (by omega)) ?_; intro v282
      refine Ga2 ?_
      rw [er]
      exact Ce (v282, .slice none 0 0)
theorem R9 {v0 : Value} {l : List Entry} {id : Int} {m : Msg} (hs : St (L) R w) (h0 : sl v0 l ∈ R) (hb : ∀ i, i < l.length → EB (l.getD i Az)) (hla : ∀ i, i < l.length → (l.getD i Az).last.length ≤ 4) (hm : m.wf) (hid : Ao id) : Calls Tryz.prog 28 [v0, vi id, .agg m.cells.toArray].toArray w (Bs (fun v : Value × Value => .tuple #[v.1, v.2]) (fun v => L) (fun v => sl v.1 (Ak l id m).1 :: sl v.2 (Ak l id m).2 :: R)) := by
 by_cases h : 0 ≤ m.line ∧ m.line < (l.length : Int) ∧ 0 ≤ m.src ∧ m.src < ((Ad l m.line).last.length : Int)
 ·by_cases h1 : m.kind = 1
  ·exact P9 hs h0 hb hla hm hid (by omega)
  by_cases h2 : m.kind = 2
  ·exact P8 hs h0 hb hla hm hid (by omega)
  by_cases h3 : m.kind = 3
  ·exact P7 hs h0 hb hla hm hid (by omega)
  by_cases h9 : m.kind = 9
  ·exact P5 hs h0 hb hla hm hid (by omega)
  by_cases h8 : m.kind = 8
  ·exact P6 hs h0 hb hla hm hid (by omega)
  by_cases h10 : m.kind = 10
  ·exact Oy hs h0 hb hla hm hid (by omega)
  exact P4 hs h0 hb hla hm hid (by omega)
 ·exact Qa hs h0 hb hla hm hid h
end Go.Proofs.YtbigiimomnfpdaaGreat
