/- This file proves parts of what its law needs: each part is told ahead of it. No conditions. -/
import Derived.Test.YtehpekiedfpnkaaXM3
import Derived.Test.YtehpekiedfpnkaaXM4
import Derived.Test.YtehpekiedfpnkaaXM1
set_option linter.unusedVariables false
set_option linter.unusedSimpArgs false
set_option maxHeartbeats 1000000
set_option maxRecDepth 8000
namespace Go.Proofs.Ytehpekiedfpnkaa
open Go
variable {L : List Chunk} {R : List Fact} {w : World}
section
variable {ls : List Line} {q q0 : Op} {id home : Int} {l : Line}
theorem beg_1 (h : q.kind < 1 ∨ 4 < q.kind) : Ah ⟨ls, q0⟩ id home q = (E4, [], [], 1) := by unfold Ah; rw [if_pos h]
theorem Ael (h1 : 1 ≤ q.kind ∧ q.kind ≤ 4) (h : q.line < 0 ∨ (ls.length : Int) ≤ q.line ∨ q.value < 0 ∨ 255 < q.value) : Ah ⟨ls, q0⟩ id home q = (E4, [], [], 3) := by
 unfold Ah; rw [if_neg (by omega), if_pos h]
theorem beg_8 (hl : ls.getD q.line.toNat zLine = l) (h1 : 1 ≤ q.kind ∧ q.kind ≤ 4) (h2 : 0 ≤ q.line ∧ q.line < (ls.length : Int)) (h3 : 0 ≤ q.value ∧ q.value ≤ 255) (h : q0.kind ≠ 0 ∨ 65535 ≤ l.serial) : Ah ⟨ls, q0⟩ id home q = (E4, [], [], 8) := by
 subst hl
 unfold Ah; rw [if_neg (by omega), if_neg (by simp only; omega), if_pos (show (⟨ls, q0⟩ : Core).wait.kind ≠ 0 ∨ 65535 ≤ (Ac ⟨ls, q0⟩ q.line).serial from h)]
theorem Sg (hl : ls.getD q.line.toNat zLine = l) (h1 : 1 ≤ q.kind ∧ q.kind ≤ 4) (h2 : 0 ≤ q.line ∧ q.line < (ls.length : Int)) (h3 : 0 ≤ q.value ∧ q.value ≤ 255) (h4 : q0.kind = 0) (h5 : l.serial < 65535) : Ah ⟨ls, q0⟩ id home q = (if Ba l q then (⟨ls.set q.line.toNat (Ax l q), zOp⟩, [], [⟨id, q, Bu l q⟩], 0) else (⟨ls.set q.line.toNat (Ax l q), q⟩, [By (Ax l q) id home q.line], [], 0)) := by
 subst hl
 unfold Ah; rw [if_neg (by omega), if_neg (by simp only; omega), if_neg (fun h => by rcases h with h | h; exact h h4; exact absurd h (by show ¬ 65535 ≤ (ls.getD q.line.toNat zLine).serial; omega))]; rfl
end
theorem Wv {u : Value} {c : Core} {id home : Int} {q : Op} (hs : St (L) R w) (hu : sl u c.lines ∈ R) (hk : KB c) (hid : An id) (hhome : An home) (hq : q.wf) : Calls Try.prog 42 [.agg (c.cells u).toArray, vi id, vi home, .agg q.cells.toArray].toArray w (Bw (fun v : Value × Value × Value => .tuple #[.agg (Core.cells v.1 (Ah c id home q).1).toArray, v.2.1, v.2.2, vi (Ah c id home q).2.2.2]) (fun v => L) (fun v => sl v.1 (Ah c id home q).1.lines :: sl v.2.1 (Ah c id home q).2.1 :: sl v.2.2 (Ah c id home q).2.2.1 :: R)) := by
 obtain ⟨ls, q0⟩ := c
 have hu : sl u ls ∈ R := hu
 obtain ⟨l, hl⟩ : ∃ l, ls.getD q.line.toNat zLine = l := ⟨_, rfl⟩
 have hlen := Bg hu hs
 refine Za2 ?_;intro hone0
 have hn4 : ls.length ≤ 4 := hk.n
 refine ZaZ ?_;intro hid0 hhome0
 refine Aj Try.func42 rfl Try.ntmps42 rfl hs ?_
 clear hs
 refine Gm ?_
 refine bx ?_; intro b4
 refine Zb6 ?_;intro b7 b8
 refine Ga3 ?_
 refine cq_ (blk b4 57 [u, vi q0.kind, vi q0.line, vi q0.value] :: blk b7 26 q.cells :: blk b8 57 [.slice none 0 0, vi 0, vi 0, vi 0] :: L) ?_
 rcases (show (q.kind < 1) ∨ (¬ q.kind < 1 ∧ 4 < q.kind) ∨ (1 ≤ q.kind ∧ q.kind ≤ 4) from by omega) with hc | hc | hc
 ·refine ZX ?_
  refine Gc6 ?_
  exact ZfN
 ·refine Zbl ?_
  refine Gc2 ?_
  exact ZfN
 ·refine Za8 ?_
  refine Gc2 ?_
  rcases (show (q.line < 0) ∨ (0 ≤ q.line ∧ (ls.length : Int) ≤ q.line) ∨ (0 ≤ q.line ∧ q.line < (ls.length : Int) ∧ q.value < 0) ∨ (0 ≤ q.line ∧ q.line < (ls.length : Int) ∧ 255 < q.value) ∨ (0 ≤ q.line ∧ q.line < (ls.length : Int) ∧ 0 ≤ q.value ∧ q.value ≤ 255) from by omega) with hc | hc | hc | hc | hc
  ·refine ZX ?_
   refine Gc19 ?_
   exact Zgc
  ·refine ZZ ?_
   refine Zbk ?_
   refine Gc12 ?_
   exact Zgc
  ·refine Zau ?_
   refine ZaD ?_
   refine Gc7 ?_
   exact Zgc
  ·refine Zau ?_
   refine Za6 ?_
   refine G3 ?_
   refine Gc2 ?_
   exact Zgc
  ·refine Zau ?_
   refine Zaw ?_
   refine Gc2 ?_
   refine open_l (v := u) hl mm (by omega) (by omega) (fun hlw1 => ?_)
   rcases (show (q0.kind ≠ 0) ∨ (q0.kind = 0 ∧ 65535 ≤ l.serial) ∨ (q0.kind = 0 ∧ l.serial < 65535) from by omega) with hc | hc | hc
   ·refine Zdb ?_
    refine Kk ?_
    refine Gc11 ?_
    exact Zf7
   ·refine Zdb ?_
    refine K5 ?_
    refine rn8 ?_
    refine gy ?_
    refine Hj ?_
    refine Gc2 ?_
    exact Zf7
   ·have hc5 := hc
    refine Zdb ?_
    refine K5 ?_
    refine rn8 ?_
    refine gy ?_
    refine Dm ?_
    refine Gd2 ?_
    refine rn1 ?_
    refine Ao Try.call62 rfl (fun w hs => Hd (u := u) (c := ⟨ls, q0⟩) hs mm) ?_; intro vL
    refine J.know (p := vL.oneCell' = true) (fun w hs => Cn .hd hs) (fun honeV => ?_)
    refine rn3 ?_
    refine bx ?_; intro b68
    refine Ga1 ?_
    refine cq_ (row 82 vL ls :: blk b68 120 [vL, vi q0.kind, vi q0.line, vi q0.value, vi id, vi home, .slice none 0 0, .slice none 0 0] :: blk b8 57 [.slice none 0 0, vi 0, vi 0, vi 0] :: blk b7 26 q.cells :: L) ?_
    refine Zdo ?_;intro hlw hA hlw0 honeL
    have hz : q0 = zOp := (hk.w.free hc5.1).1
    refine Zdk ?_
    refine ZP ?_;intro ρ
    refine Gl ?_
    refine kp [1, 7, 8, 9, 10, 11, 12, 13, 80, 81, 82, 83, 84, 85, 86, 87, 88, 89, 90] ?_
    refine Ee 80 (.bool (decide ((q.kind = 4) ∧ (l.state = 2)))) ?_ ?_
    ·rcases (show (¬ (q.kind = 4)) ∨ ((q.kind = 4) ∧ ¬ (l.state = 2)) ∨ ((q.kind = 4) ∧ (l.state = 2)) from by omega) with hm | hm | hm
     ·refine ZA ?_
      refine As ?_
      refine Ga8 ?_
      exact ZeF
     ·refine ZA ?_
      refine Cs ?_
      refine ZR ?_
      refine As ?_
      refine Ga2 ?_
      exact ZeF
     ·refine ZA ?_
      refine Cs ?_
      refine ZR ?_
      refine Cs ?_
      refine Ga2 ?_
      exact ZeE
    ·refine Aw ?_
     first | (refine cdx (p := ?p1) (hd := ?d1) ?e1 ?_ ?_; case e1 => exact rfl) | (refine Bk (b := ?b1) ?e1 ?_ ?_; case e1 => exact rfl)
     ·intro ht80
      refine Gl ?_
      refine kp [1, 7, 8, 9, 10, 11, 12, 13, 91, 92, 93] ?_
      refine ZI ?_
      refine sc ?_
      refine Gl ?_
      refine JC.conseq (L' := row 82 vL (ls.set q.line.toNat ({ l with state := 3 })) :: blk b68 120 [vL, vi q0.kind, vi q0.line, vi q0.value, vi id, vi home, .slice none 0 0, .slice none 0 0] :: blk b8 57 [.slice none 0 0, vi 0, vi 0, vi 0] :: blk b7 26 q.cells :: L) (fun w hs => Ai (Ds ({ l with state := 3 }) (by unfold Line.wf An; simp only; omega) (hs.pick pkk))) ?_
      refine ZU ?_
      refine ZA ?_
      refine Ao Try.call69 rfl (fun w hs => Tj (vL := vL) (vo := .slice none 0 0) (vd := .slice none 0 0) (q := q) (q0 := q0) (id := id) (home := home) (ls := (ls.set q.line.toNat ({ l with state := 3 }))) (l := { l with state := 3 }) (ms := []) (want := 3) (bk := b68) (LX := blk b8 57 [.slice none 0 0, vi 0, vi 0, vi 0] :: blk b7 26 q.cells :: L) (Ai hs) (by rw [List.getD_eq_getElem?_getD, List.getElem?_set_self (by omega)]; rfl) (by rw [List.length_set]; omega) (by rw [List.length_set]; omega) hid hhome (by simp) (by first | omega | (simp only; omega)) (by unfold An; omega)) ?_; intro v96
      refine J.conseq (L' := row 82 vL (ls.set q.line.toNat ({ l with state := 3, want := 3, serial := l.serial + 1 })) :: blk b68 120 [vL, vi q.kind, vi q.line, vi q.value, vi id, vi home, v96, .slice none 0 0] :: row 49 v96 [By ({ l with state := 3, want := 3, serial := l.serial + 1 }) id home q.line] :: blk b8 57 [.slice none 0 0, vi 0, vi 0, vi 0] :: L) (fun w hs => by rw [List.nil_append, List.set_set] at hs; exact Ai hs) ?_
      refine Gl ?_
      refine cq_ (row 82 vL (ls.set q.line.toNat ({ l with state := 3, want := 3, serial := l.serial + 1 })) :: blk b68 120 [vL, vi q.kind, vi q.line, vi q.value, vi id, vi home, v96, .slice none 0 0] :: row 49 v96 [By ({ l with state := 3, want := 3, serial := l.serial + 1 }) id home q.line] :: blk b8 57 [.slice none 0 0, vi 0, vi 0, vi 0] :: L) ?_
      refine JC.shut (v := vL) (xs := (ls.set q.line.toNat ({ l with state := 3, want := 3, serial := l.serial + 1 }))) .hd ?_
      refine JC.shut (v := v96) (xs := [By ({ l with state := 3, want := 3, serial := l.serial + 1 }) id home q.line]) pkk ?_
      refine ZS ?_
      refine cq_ (blk b8 57 [.slice none 0 0, vi 0, vi 0, vi 0] :: blk b68 120 [vL, vi q.kind, vi q.line, vi q.value, vi id, vi home, v96, .slice none 0 0] :: L) ?_
      refine jd_ (fun ρ S => blk b8 57 (bif S 12 then [vL, vi q.kind, vi q.line, vi q.value] else [.slice none 0 0, vi 0, vi 0, vi 0]) :: blk b68 120 [vL, vi q.kind, vi q.line, vi q.value, vi id, vi home, v96, .slice none 0 0] :: L) ?_
      refine dn3 ?_
      refine J9 (v := .agg ([vL, vi q.kind, vi q.line, vi q.value]).toArray) (fun _ _ => F3 (b := b68) (f := 0) (vs := [vL, vi q.kind, vi q.line, vi q.value, vi id, vi home, v96, .slice none 0 0]) 4 Try.isAgg57 Try.sizeOf57) (fun _ _ _ _ _ => rfl) ?_
      refine Zb9 ?_
      refine dn3 ?_
      refine dnl ?_; intro ρ
      refine xq_ (blk b8 57 [vL, vi q.kind, vi q.line, vi q.value] :: blk b68 120 [vL, vi q.kind, vi q.line, vi q.value, vi id, vi home, v96, .slice none 0 0] :: L) ?_
      refine Gl ?_
      have eb : Ax l q = { l with state := 3, want := 3, serial := l.serial + 1 } := by unfold Ax; rw [if_pos (by omega), if_pos (by omega)]
      have ed : Ba l q = false := by unfold Ba; split <;> simp <;> omega
      have er : (Ah ⟨ls, q0⟩ id home q) = (⟨ls.set q.line.toNat ({ l with state := 3, want := 3, serial := l.serial + 1 }), q⟩, [By ({ l with state := 3, want := 3, serial := l.serial + 1 }) id home q.line], [], 0) := by rw [Sg hl (by omega) (by omega) (by omega) (by omega) (by omega), ed, if_neg (by decide), eb]
      rw [er]
      exact Fc (vL, v96, .slice none 0 0) Try.isAgg57 Try.sizeOf57
     ·intro ht80
      refine Gl ?_
      refine kp [1, 7, 8, 9, 10, 11, 12, 13, 97, 98, 99, 100] ?_
      refine Aa ?_
      refine Ga4 ?_
      refine cdy ?_ ?_
      ·intro ht97
       refine Zam ?_
       refine sc ?_
       refine Zak ?_
       refine Gl ?_
       refine ZaB ?_
       refine cq_ (blk b68 120 [vL, vi q0.kind, vi q0.line, vi q0.value, vi id, vi home, .slice none 0 0, .slice none 0 0] :: row 66 (.slice none 0 0) [] :: foc 82 vL ls q.line.toNat [vi 0, vi 0, vi l.want, vi l.serial, vi l.seen, vi l.gave, vi l.given] :: blk b8 57 [.slice none 0 0, vi 0, vi 0, vi 0] :: blk b7 26 q.cells :: L) ?_
       refine jd_ (fun ρ S => blk b68 120 (bif S 12 then [vL, vi q0.kind, vi q0.line, vi q0.value, vi id, vi home, .slice none 0 0, (Gh.dec (γ := Value) (ρ 9))] else [vL, vi q0.kind, vi q0.line, vi q0.value, vi id, vi home, .slice none 0 0, .slice none 0 0]) :: (bif S 9 then row 66 (Gh.dec (γ := Value) (ρ 9)) ([] ++ [(⟨id, q, 0⟩ : Done)]) else row 66 (.slice none 0 0) []) :: foc 82 vL ls q.line.toNat [vi 0, vi 0, vi l.want, vi l.serial, vi l.seen, vi l.gave, vi l.given] :: blk b8 57 [.slice none 0 0, vi 0, vi 0, vi 0] :: blk b7 26 q.cells :: L) ?_
       refine dn4 ?_
       refine Ig (v := .slice none 0 0) (fun ρ S hS hB hA => by have h12 : S 12 = false := hA 12 ⟨0, rfl⟩; simp only [h12, cond_false]; exact C3 (hc := A0 pkk (by repeat (first | exact rfl | refine Dd rfl ?_))) Try.isAgg34) (fun _ _ _ _ _ => rfl) ?_
       refine dn3 ?_
       refine ZcL ?_
       refine F9 (e := 66) (xs := []) (ys := [(⟨id, q, 0⟩ : Done)]) (v := (.slice none 0 0)) F4 (fun _ => rfl) (fun _ => rfl) rfl (by decide) (fun ρ R hd => (hd.dep (it := ⟨8, _, _, _, _⟩) (by repeat (first | exact List.Mem.head _ | refine List.Mem.tail _ ?_)) ⟨9, rfl⟩ (List.Mem.head _))) (by have : maxN = 16777216 := rfl; simp only [List.length_cons, List.length_nil]; omega) (fun ρ g S hS hB hA => ?_) ?_
       ·have ui : upS S 9 9 = true := rfl; have u12 : upS S 9 12 = S 12 := rfl; have h12 : S 12 = false := hA 12 ⟨0, rfl⟩; have rs : (Gh.dec (γ := Value) (Rho.set ρ 9 (Gh.enc g) 9)) = g := rfl
        simp only [ui, hS, u12, h12, rs, cond_true, cond_false]
        exact pex
       refine dn2 ?_
       refine Eu (T0 := 120) (f := 7) (vs := fun ρ => [vL, vi q0.kind, vi q0.line, vi q0.value, vi id, vi home, .slice none 0 0, .slice none 0 0]) (v := fun ρ => (Gh.dec (γ := Value) (ρ 9))) (fun ρ => b68) Try.sizeOf34 (fun _ => rfl) (fun _ => rfl) (fun ρ S R w L9 hB hd hs => by have h9 : S 9 = true := hB 9 ⟨9, rfl⟩; simp only [h9, cond_true] at hs; exact Cn pkk hs) (fun _ => rfl) (fun ρ g S hS hB hA => ?_) ?_
       ·have ui : upS S 12 12 = true := rfl; have u9 : upS S 12 9 = S 9 := rfl; have r9 : Rho.set ρ 12 g 9 = ρ 9 := rfl
        simp only [ui, hS, u9, r9, cond_true, cond_false]
        exact pex
       refine dnl ?_; intro ρ
       refine xq_ (blk b68 120 [vL, vi q0.kind, vi q0.line, vi q0.value, vi id, vi home, .slice none 0 0, (Gh.dec (γ := Value) (ρ 9))] :: row 66 (Gh.dec (γ := Value) (ρ 9)) [(⟨id, q, 0⟩ : Done)] :: foc 82 vL ls q.line.toNat [vi 0, vi 0, vi l.want, vi l.serial, vi l.seen, vi l.gave, vi l.given] :: blk b8 57 [.slice none 0 0, vi 0, vi 0, vi 0] :: blk b7 26 q.cells :: L) ?_
       generalize (Gh.dec (γ := Value) (ρ 8)) = v115
       generalize (Gh.dec (γ := Value) (ρ 9)) = v116
       refine Gl ?_
       refine JC.conseq (L' := row 82 vL (ls.set q.line.toNat ({ l with state := 0, value := 0 })) :: blk b68 120 [vL, vi q0.kind, vi q0.line, vi q0.value, vi id, vi home, .slice none 0 0, v116] :: row 66 v116 [(⟨id, q, 0⟩ : Done)] :: blk b8 57 [.slice none 0 0, vi 0, vi 0, vi 0] :: L) (fun w hs => Ai (Ds ({ l with state := 0, value := 0 }) (by unfold Line.wf An; simp only; omega) (hs.pick pkk))) ?_
       refine JC.shut (v := vL) (xs := (ls.set q.line.toNat ({ l with state := 0, value := 0 }))) .hd ?_
       refine ZT ?_
       refine JC.shut (v := v116) (xs := [(⟨id, q, 0⟩ : Done)]) pkk ?_
       refine cq_ (blk b8 57 [.slice none 0 0, vi 0, vi 0, vi 0] :: blk b68 120 [vL, vi q0.kind, vi q0.line, vi q0.value, vi id, vi home, .slice none 0 0, v116] :: L) ?_
       refine jd_ (fun ρ S => blk b8 57 (bif S 12 then [vL, vi q0.kind, vi q0.line, vi q0.value] else [.slice none 0 0, vi 0, vi 0, vi 0]) :: blk b68 120 [vL, vi q0.kind, vi q0.line, vi q0.value, vi id, vi home, .slice none 0 0, v116] :: L) ?_
       refine dn3 ?_
       refine J9 (v := .agg ([vL, vi q0.kind, vi q0.line, vi q0.value]).toArray) (fun _ _ => F3 (b := b68) (f := 0) (vs := [vL, vi q0.kind, vi q0.line, vi q0.value, vi id, vi home, .slice none 0 0, v116]) 4 Try.isAgg57 Try.sizeOf57) (fun _ _ _ _ _ => rfl) ?_
       refine dn8 ?_
       refine es_ 57 0 [] [] (fun ρ => b8) (fun ρ => [.slice none 0 0, vi 0, vi 0, vi 0]) (fun ρ => [vL, vi q0.kind, vi q0.line, vi q0.value]) Try.sizeOf57 ?_
       refine dn3 ?_
       refine dnl ?_; intro ρ
       refine xq_ (blk b8 57 [vL, vi q0.kind, vi q0.line, vi q0.value] :: blk b68 120 [vL, vi q0.kind, vi q0.line, vi q0.value, vi id, vi home, .slice none 0 0, v116] :: L) ?_
       refine Gl ?_
       have eb : Ax l q = { l with state := 0, value := 0 } := by unfold Ax; rw [if_pos (by omega), if_neg (by omega)]
       have ed : Ba l q = true := by unfold Ba; split <;> simp <;> omega
       have et : Bu l q = 0 := by unfold Bu; rw [if_pos (by omega)]
       have er : (Ah ⟨ls, q0⟩ id home q) = (⟨ls.set q.line.toNat ({ l with state := 0, value := 0 }), q0⟩, [], [(⟨id, q, 0⟩ : Done)], 0) := by rw [Sg hl (by omega) (by omega) (by omega) (by omega) (by omega), ed, if_pos rfl, eb, et, hz]
       rw [er]
       exact Fc (vL, .slice none 0 0, v116) Try.isAgg57 Try.sizeOf57
      ·intro ht97
       refine Gl ?_
       refine Zer ?_
       refine Ee 119 (.bool (decide (l.state = 2 ∨ (l.state = 1 ∧ q.kind = 1)))) ?_ ?_
       ·rcases (show (l.state = 2) ∨ (l.state = 1 ∧ q.kind = 1) ∨ (l.state = 1 ∧ q.kind ≠ 1) ∨ (l.state ≠ 1 ∧ l.state ≠ 2) from by omega) with hm | hm | hm | hm
        ·refine ZC ?_
         refine Cs ?_
         refine Ga13 ?_
         exact ZeE
        ·refine ZC ?_
         refine As ?_
         refine ZR ?_
         refine Cs ?_
         refine ZQ ?_
         refine Cs ?_
         refine Ga3 ?_
         exact ZeE
        ·refine Zer ?_
         refine ZC ?_
         refine As ?_
         refine ZR ?_
         refine Cs ?_
         refine ZQ ?_
         refine As ?_
         refine Ga3 ?_
         exact ZeF
        ·refine ZC ?_
         refine As ?_
         refine ZR ?_
         refine As ?_
         refine Ga7 ?_
         exact ZeF
       ·refine Aw ?_
        first | (refine cdx (p := ?p3) (hd := ?d3) ?e3 ?_ ?_; case e3 => exact rfl) | (refine Bk (b := ?b3) ?e3 ?_ ?_; case e3 => exact rfl)
        ·intro ht119
         refine ZcI ?_
         refine ZaB ?_
         refine kp [7, 8, 9, 10, 11, 12, 137, 138] ?_
         refine ZA ?_
         refine Ao Try.call70 rfl (fun w hs => Le (vL := vL) (vo := .slice none 0 0) (vd := .slice none 0 0) (q := q) (q0 := q0) (id := id) (home := home) (ls := ls) (l := l) (ds := []) (bk := b68) (LX := blk b8 57 [.slice none 0 0, vi 0, vi 0, vi 0] :: blk b7 26 q.cells :: L) (Ai hs) hl (by omega) (by omega) hid hhome (by simp) hq (by omega) (by omega)) ?_; intro v139
         refine J.conseq (L' := row 82 vL (ls.set q.line.toNat ({ l with value := (Ay l.value q).1 })) :: blk b68 120 [vL, vi 0, vi 0, vi 0, vi id, vi home, .slice none 0 0, v139] :: row 66 v139 [(⟨id, q, (Ay l.value q).2⟩ : Done)] :: blk b8 57 [.slice none 0 0, vi 0, vi 0, vi 0] :: L) (fun w hs => by rw [List.nil_append] at hs; exact Ai hs) ?_
         refine Gl ?_
         refine cq_ (row 82 vL (ls.set q.line.toNat ({ l with value := (Ay l.value q).1 })) :: blk b68 120 [vL, vi 0, vi 0, vi 0, vi id, vi home, .slice none 0 0, v139] :: row 66 v139 [(⟨id, q, (Ay l.value q).2⟩ : Done)] :: blk b8 57 [.slice none 0 0, vi 0, vi 0, vi 0] :: L) ?_
         refine JC.shut (v := vL) (xs := (ls.set q.line.toNat ({ l with value := (Ay l.value q).1 }))) .hd ?_
         refine ZT ?_
         refine JC.shut (v := v139) (xs := [(⟨id, q, (Ay l.value q).2⟩ : Done)]) pkk ?_
         refine cq_ (blk b8 57 [.slice none 0 0, vi 0, vi 0, vi 0] :: blk b68 120 [vL, vi 0, vi 0, vi 0, vi id, vi home, .slice none 0 0, v139] :: L) ?_
         refine jd_ (fun ρ S => blk b8 57 (bif S 12 then [vL, vi 0, vi 0, vi 0] else [.slice none 0 0, vi 0, vi 0, vi 0]) :: blk b68 120 [vL, vi 0, vi 0, vi 0, vi id, vi home, .slice none 0 0, v139] :: L) ?_
         refine dn3 ?_
         refine J9 (v := .agg ([vL, vi 0, vi 0, vi 0]).toArray) (fun _ _ => F3 (b := b68) (f := 0) (vs := [vL, vi 0, vi 0, vi 0, vi id, vi home, .slice none 0 0, v139]) 4 Try.isAgg57 Try.sizeOf57) (fun _ _ _ _ _ => rfl) ?_
         refine Zeg ?_
         refine dn3 ?_
         refine dnl ?_; intro ρ
         refine xq_ (blk b8 57 [vL, vi 0, vi 0, vi 0] :: blk b68 120 [vL, vi 0, vi 0, vi 0, vi id, vi home, .slice none 0 0, v139] :: L) ?_
         refine Gl ?_
         have eb : Ax l q = { l with value := (Ay l.value q).1 } := by unfold Ax; rw [if_neg (by omega), if_pos (by omega)]
         have ed : Ba l q = true := by unfold Ba; split <;> simp <;> omega
         have et : Bu l q = (Ay l.value q).2 := by unfold Bu; rw [if_neg (by omega)]
         have er : (Ah ⟨ls, q0⟩ id home q) = (⟨ls.set q.line.toNat ({ l with value := (Ay l.value q).1 }), zOp⟩, [], [(⟨id, q, (Ay l.value q).2⟩ : Done)], 0) := by rw [Sg hl (by omega) (by omega) (by omega) (by omega) (by omega), ed, if_pos rfl, eb, et]
         rw [er]
         exact Fc (vL, .slice none 0 0, v139) Try.isAgg57 Try.sizeOf57
        ·intro ht119
         refine Gl ?_
         refine kp [7, 8, 9, 10, 11, 12, 140, 141, 142, 143] ?_
         refine Aa ?_
         refine Ga4 ?_
         refine cdy ?_ ?_
         ·intro ht140
          refine ZcI ?_
          refine ZU ?_
          refine ZA ?_
          refine Ao Try.call69 rfl (fun w hs => Tj (vL := vL) (vo := .slice none 0 0) (vd := .slice none 0 0) (q := q) (q0 := q0) (id := id) (home := home) (ls := ls) (l := l) (ms := []) (want := 1) (bk := b68) (LX := blk b8 57 [.slice none 0 0, vi 0, vi 0, vi 0] :: blk b7 26 q.cells :: L) (Ai hs) hl (by omega) (by omega) hid hhome (by simp) (by first | omega | (simp only; omega)) (by unfold An; omega)) ?_; intro v146
          refine J.conseq (L' := row 82 vL (ls.set q.line.toNat ({ l with want := 1, serial := l.serial + 1 })) :: blk b68 120 [vL, vi q.kind, vi q.line, vi q.value, vi id, vi home, v146, .slice none 0 0] :: row 49 v146 [By ({ l with want := 1, serial := l.serial + 1 }) id home q.line] :: blk b8 57 [.slice none 0 0, vi 0, vi 0, vi 0] :: L) (fun w hs => by rw [List.nil_append] at hs; exact Ai hs) ?_
          refine Gl ?_
          refine cq_ (row 82 vL (ls.set q.line.toNat ({ l with want := 1, serial := l.serial + 1 })) :: blk b68 120 [vL, vi q.kind, vi q.line, vi q.value, vi id, vi home, v146, .slice none 0 0] :: row 49 v146 [By ({ l with want := 1, serial := l.serial + 1 }) id home q.line] :: blk b8 57 [.slice none 0 0, vi 0, vi 0, vi 0] :: L) ?_
          refine JC.shut (v := vL) (xs := (ls.set q.line.toNat ({ l with want := 1, serial := l.serial + 1 }))) .hd ?_
          refine JC.shut (v := v146) (xs := [By ({ l with want := 1, serial := l.serial + 1 }) id home q.line]) pkk ?_
          refine ZS ?_
          refine cq_ (blk b8 57 [.slice none 0 0, vi 0, vi 0, vi 0] :: blk b68 120 [vL, vi q.kind, vi q.line, vi q.value, vi id, vi home, v146, .slice none 0 0] :: L) ?_
          refine jd_ (fun ρ S => blk b8 57 (bif S 12 then [vL, vi q.kind, vi q.line, vi q.value] else [.slice none 0 0, vi 0, vi 0, vi 0]) :: blk b68 120 [vL, vi q.kind, vi q.line, vi q.value, vi id, vi home, v146, .slice none 0 0] :: L) ?_
          refine dn3 ?_
          refine J9 (v := .agg ([vL, vi q.kind, vi q.line, vi q.value]).toArray) (fun _ _ => F3 (b := b68) (f := 0) (vs := [vL, vi q.kind, vi q.line, vi q.value, vi id, vi home, v146, .slice none 0 0]) 4 Try.isAgg57 Try.sizeOf57) (fun _ _ _ _ _ => rfl) ?_
          refine Zb9 ?_
          refine dn3 ?_
          refine dnl ?_; intro ρ
          refine xq_ (blk b8 57 [vL, vi q.kind, vi q.line, vi q.value] :: blk b68 120 [vL, vi q.kind, vi q.line, vi q.value, vi id, vi home, v146, .slice none 0 0] :: L) ?_
          refine Gl ?_
          have eb : Ax l q = { l with want := 1, serial := l.serial + 1 } := by unfold Ax; rw [if_neg (by omega), if_neg (by omega), if_pos (by omega)]
          have ed : Ba l q = false := by unfold Ba; split <;> simp <;> omega
          have er : (Ah ⟨ls, q0⟩ id home q) = (⟨ls.set q.line.toNat ({ l with want := 1, serial := l.serial + 1 }), q⟩, [By ({ l with want := 1, serial := l.serial + 1 }) id home q.line], [], 0) := by rw [Sg hl (by omega) (by omega) (by omega) (by omega) (by omega), ed, if_neg (by decide), eb]
          rw [er]
          exact Fc (vL, v146, .slice none 0 0) Try.isAgg57 Try.sizeOf57
         ·intro ht140
          refine ZcI ?_
          refine ZU ?_
          refine ZA ?_
          refine Ao Try.call69 rfl (fun w hs => Tj (vL := vL) (vo := .slice none 0 0) (vd := .slice none 0 0) (q := q) (q0 := q0) (id := id) (home := home) (ls := ls) (l := l) (ms := []) (want := 2) (bk := b68) (LX := blk b8 57 [.slice none 0 0, vi 0, vi 0, vi 0] :: blk b7 26 q.cells :: L) (Ai hs) hl (by omega) (by omega) hid hhome (by simp) (by first | omega | (simp only; omega)) (by unfold An; omega)) ?_; intro v79
          refine J.conseq (L' := row 82 vL (ls.set q.line.toNat ({ l with want := 2, serial := l.serial + 1 })) :: blk b68 120 [vL, vi q.kind, vi q.line, vi q.value, vi id, vi home, v79, .slice none 0 0] :: row 49 v79 [By ({ l with want := 2, serial := l.serial + 1 }) id home q.line] :: blk b8 57 [.slice none 0 0, vi 0, vi 0, vi 0] :: L) (fun w hs => by rw [List.nil_append] at hs; exact Ai hs) ?_
          refine Gl ?_
          refine cq_ (row 82 vL (ls.set q.line.toNat ({ l with want := 2, serial := l.serial + 1 })) :: blk b68 120 [vL, vi q.kind, vi q.line, vi q.value, vi id, vi home, v79, .slice none 0 0] :: row 49 v79 [By ({ l with want := 2, serial := l.serial + 1 }) id home q.line] :: blk b8 57 [.slice none 0 0, vi 0, vi 0, vi 0] :: L) ?_
          refine JC.shut (v := vL) (xs := (ls.set q.line.toNat ({ l with want := 2, serial := l.serial + 1 }))) .hd ?_
          refine JC.shut (v := v79) (xs := [By ({ l with want := 2, serial := l.serial + 1 }) id home q.line]) pkk ?_
          refine ZS ?_
          refine cq_ (blk b8 57 [.slice none 0 0, vi 0, vi 0, vi 0] :: blk b68 120 [vL, vi q.kind, vi q.line, vi q.value, vi id, vi home, v79, .slice none 0 0] :: L) ?_
          refine jd_ (fun ρ S => blk b8 57 (bif S 12 then [vL, vi q.kind, vi q.line, vi q.value] else [.slice none 0 0, vi 0, vi 0, vi 0]) :: blk b68 120 [vL, vi q.kind, vi q.line, vi q.value, vi id, vi home, v79, .slice none 0 0] :: L) ?_
          refine dn3 ?_
          refine J9 (v := .agg ([vL, vi q.kind, vi q.line, vi q.value]).toArray) (fun _ _ => F3 (b := b68) (f := 0) (vs := [vL, vi q.kind, vi q.line, vi q.value, vi id, vi home, v79, .slice none 0 0]) 4 Try.isAgg57 Try.sizeOf57) (fun _ _ _ _ _ => rfl) ?_
          refine Zb9 ?_
          refine dn3 ?_
          refine dnl ?_; intro ρ
          refine xq_ (blk b8 57 [vL, vi q.kind, vi q.line, vi q.value] :: blk b68 120 [vL, vi q.kind, vi q.line, vi q.value, vi id, vi home, v79, .slice none 0 0] :: L) ?_
          refine Gl ?_
          have eb : Ax l q = { l with want := 2, serial := l.serial + 1 } := by unfold Ax; rw [if_neg (by omega), if_neg (by omega), if_neg (by omega)]
          have ed : Ba l q = false := by unfold Ba; split <;> simp <;> omega
          have er : (Ah ⟨ls, q0⟩ id home q) = (⟨ls.set q.line.toNat ({ l with want := 2, serial := l.serial + 1 }), q⟩, [By ({ l with want := 2, serial := l.serial + 1 }) id home q.line], [], 0) := by rw [Sg hl (by omega) (by omega) (by omega) (by omega) (by omega), ed, if_neg (by decide), eb]
          rw [er]
          exact Fc (vL, v79, .slice none 0 0) Try.isAgg57 Try.sizeOf57
theorem Wt {u : Value} {c : Core} {id home : Int} (hs : St (L) R w) (hu : sl u c.lines ∈ R) (hn4 : c.lines.length ≤ 100) (hid : An id) (hhome : An home) : Calls Try.prog 80 [.agg (c.cells u).toArray, vi id, vi home].toArray w (Bw (fun v : Value => v) (fun v => L) (fun v => sl v (C9 c id home) :: R)) := by
 obtain ⟨ls, q⟩ := c
 have hu : sl u ls ∈ R := hu
 have hn4 : ls.length ≤ 100 := hn4
 refine Za2 ?_;intro hone0
 refine Aj Try.func80 rfl Try.ntmps80 rfl hs ?_
 clear hs
 refine Zaz ?_;intro b3
 refine Zar ?_
 refine Zdq ?_;intro vL honeV
 refine bx ?_; intro b14
 refine Ga1 ?_
 refine cq_ (row 82 vL ls :: blk b14 120 [vL, vi q.kind, vi q.line, vi q.value, vi id, vi home, .slice none 0 0, .slice none 0 0] :: L) ?_
 refine Aa ?_
 refine Ga7 ?_
 refine ZU ?_
 refine Bx (γ := Nat × Value) (fun g => g.1 ≤ ls.length) (fun g => blk b14 120 [vL, vi q.kind, vi q.line, vi q.value, vi id, vi home, g.2, .slice none 0 0] :: row 82 vL ls :: row 49 g.2 (Br id home 0 (ls.take g.1)) :: L) (fun _ => R) (fun g => [(7, bp b14 0), (20, vi (ls.length : Int)), (21, vi (g.1 : Int))]) (fun g => ls.length - g.1) (0, .slice none 0 0) (Nat.zero_le _) alT (fun w hs => Ai hs) ?_
 rintro ⟨k, vs⟩ hk9
 try simp only at hk9 ⊢
 have htl := Mg id home (ls.take k) 0
 rw [List.length_take] at htl
 refine ZE ?_
 refine cdy ?_ ?_
 ·intro ht22
  refine ZD ?_
  obtain ⟨l, hl⟩ : ∃ l, ls.getD ((k : Int)).toNat zLine = l := ⟨_, rfl⟩
  refine H2 (ls := ls) (l := l) (i := (k : Int)) pkk hl (by omega) (by omega) (fun hlw hA => ?_)
  have hlw0 := hlw
  unfold Line.wf An at hlw0
  have honeL : (ep vL 7 (k : Int).toNat 0).oneCell' = true := hA.one
  refine Za0 ?_
  refine ob (It (v := vL) (i := (k : Int)) Ml (hl := Dq (α := Line) (xs := ls) pkk)) ?_
  refine Ga3 ?_
  refine cdy ?_ ?_
  ·intro ht33
   refine JC.conseq (L' := row 82 vL ls :: blk b14 120 [vL, vi q.kind, vi q.line, vi q.value, vi id, vi home, vs, .slice none 0 0] :: row 49 vs (Br id home 0 (ls.take k)) :: L) (fun w hs => Ai (Ep hl hlw (hs.pick pkk))) ?_
   refine ZA ?_
   refine Ao Try.call96 rfl (fun w hs => R8 (vL := vL) (vd := .slice none 0 0) (q := q) (id := id) (home := home) (ms := Br id home 0 (ls.take k)) (line := (k : Int)) (ls := ls) (l := l) (LX := L) (Ai hs) hl (by omega) (by omega) (by omega) hid hhome) ?_; intro v36
   refine Gl ?_
   refine kp [6, 7, 8, 20, 21, 22, 23, 24, 25, 26, 27, 28, 29, 30, 31, 32, 33, 34, 35, 37] ?_
   refine ZW ?_
   refine Bb (k + 1, v36) (by show k + 1 ≤ ls.length; omega) (by show ls.length - (k + 1) < ls.length - k; omega) alT (fun w hs => ?_)
   try simp only
   rw [G7 zLine (by omega), Hf, show ls.getD k zLine = l from hl, if_pos ht33, List.length_take, Nat.min_eq_left (by omega), Int.zero_add]
   exact Ai hs
  ·intro ht33
   refine ZD ?_
   refine Bb (k + 1, vs) (by show k + 1 ≤ ls.length; omega) (by show ls.length - (k + 1) < ls.length - k; omega) alT (fun w hs => ?_)
   try simp only
   rw [G7 zLine (by omega), Hf, show ls.getD k zLine = l from hl, if_neg ht33, List.append_nil]
   exact Ai (Ep hl hlw (hs.pick pkk))
 ·intro ht22
  refine Gl ?_
  refine JC.shut (v := vs) (xs := Br id home 0 (ls.take k)) pkk ?_
  refine Aa ?_
  refine Ga5 ?_
  have hkl : k = ls.length := by omega
  rw [show C9 ⟨ls, q⟩ id home = Br id home 0 (ls.take k) from by rw [hkl, List.take_length]; rfl]
  exact Co vs
section
variable {P : Program} {T : TypeId} {s k : Int}
theorem Si (h2 : 0 ≤ k) (h3 : k < 4) (w : World) : (binOp .shl T (vi 1) (vi k)).run P w = .ok (vi ((2 ^ k.toNat : Nat) : Int)) w := by
 rcases (show k = 0 ∨ k = 1 ∨ k = 2 ∨ k = 3 by omega) with g | g | g | g <;> subst g <;> rfl
theorem Ny (h0 : 0 ≤ s) (h1 : s < 16) (h2 : 0 ≤ k) (h3 : k < 4) (w : World) : (binOp .andNot T (vi s) (vi ((2 ^ k.toNat : Nat) : Int))).run P w = .ok (vi (Gs s k)) w := by
 exact Ze4
theorem b_orB (h0 : 0 ≤ s) (h1 : s < 16) (h2 : 0 ≤ k) (h3 : k < 4) (w : World) : (binOp .or T (vi s) (vi ((2 ^ k.toNat : Nat) : Int))).run P w = .ok (vi (Hr s k)) w := by
 exact Ze4
theorem Z0 (h0 : 0 ≤ s) (h1 : s < 16) (h2 : 0 ≤ k) (h3 : k < 4) (w : World) : (binOp .shr T (vi s) (vi k)).run P w = .ok (vi ((s.toNat / 2 ^ k.toNat : Nat) : Int)) w := by
 exact Ze4
theorem Tt (h0 : 0 ≤ s) (h1 : s < 16) (h2 : 0 ≤ k) (h3 : k < 4) (w : World) : (binOp .and T (vi ((s.toNat / 2 ^ k.toNat : Nat) : Int)) (vi 1)).run P w = .ok (vi (if Lx s k then 1 else 0)) w := by
 exact Ze4
theorem Ys (h0 : 0 ≤ s) (h1 : s < 16) (hk : J8 s ≤ k) (h2 : 0 ≤ k) (h3 : k < 4) : Lx s k = false := by
 revert hk
 rcases (show s = 0 ∨ s = 1 ∨ s = 2 ∨ s = 3 ∨ s = 4 ∨ s = 5 ∨ s = 6 ∨ s = 7 ∨ s = 8 ∨ s = 9 ∨ s = 10 ∨ s = 11 ∨ s = 12 ∨ s = 13 ∨ s = 14 ∨ s = 15 by omega) with h | h | h | h | h | h | h | h | h | h | h | h | h | h | h | h <;> rcases (show k = 0 ∨ k = 1 ∨ k = 2 ∨ k = 3 by omega) with g | g | g | g <;> subst h <;> subst g <;> intro hk <;> first | rfl | (exfalso; revert hk; decide)
end
theorem Jy {e : Entry} {line id : Int} {k : Nat} : E3 e line id (k + 1) = E3 e line id k ++ (if Lx e.need (k : Int) then [⟨4, id, (k : Int), line, 0, e.turn, 0, false⟩] else []) := by
 unfold Lx
 rw [Int.toNat_natCast]
 cases h : e.need.toNat.testBit k with
 | true => rw [Oi h, if_pos rfl]
 | false => rw [Qt h]; simp
theorem Ok {e : Entry} {line id : Int} (he : EB e) : ∀ j : Nat, (J8 e.need).toNat + j ≤ 4 → E3 e line id ((J8 e.need).toNat + j) = E3 e line id (J8 e.need).toNat
 | 0, _ => rfl
 | j + 1, h => by
  have ih := Ok (line := line) (id := id) he j (by omega)
  have hl : 0 ≤ J8 e.need := by unfold J8; split <;> (try split) <;> (try split) <;> (try split) <;> omega
  rw [← Nat.add_assoc, Jy, Ys he.2.2.1.1 he.2.2.1.2 (by omega) (by omega) (by omega), ih]; simp
theorem Yb {s : Int} : 0 ≤ J8 s ∧ J8 s ≤ 4 := by unfold J8; split <;> (try split) <;> (try split) <;> (try split) <;> omega
theorem Su {e : Entry} {line id : Int} (he : EB e) : E3 e line id (J8 e.need).toNat = E3 e line id 4 := by
 have h := Yb (s := e.need)
 have := Ok (line := line) (id := id) he (4 - (J8 e.need).toNat) (by omega)
 rw [← this]; congr 1; omega
theorem Pr {LX : List Chunk} {R : List Fact} {w : World} {vh vo u : Value} {i bk : Nat} {e : Entry} {ms : List Msg} {line id : Int} {kind to serial value : Int} {al : Bool} (hs : St (blk bk 151 [(ep vh 10 i 0), vi line, vi id, vo] :: row 49 vo ms :: LX) R w) (hE : C2 LX R (ep vh 10 i 0) (Entry.cells u e)) (hA : EpAll vh 10 i) (hn : ms.length ≤ 1000) (hwf : (⟨kind, id, to, line, serial, e.turn, value, al⟩ : Msg).wf) : Calls Try.prog 111 [bp bk 0, vi kind, vi to, vi serial, vi value, .bool al].toArray w (Bw (fun v : Value => .tuple #[]) (fun v => blk bk 151 [(ep vh 10 i 0), vi line, vi id, v] :: row 49 v (ms ++ [(⟨kind, id, to, line, serial, e.turn, value, al⟩ : Msg)]) :: LX) (fun v => R)) := by
 refine Aj Try.func111 rfl Try.ntmps111 rfl hs ?_
 clear hs
 refine cq_ (blk bk 151 [(ep vh 10 i 0), vi line, vi id, vo] :: row 49 vo ms :: LX) ?_
 refine jd_ (fun ρ S => blk bk 151 (bif S 30 then [(ep vh 10 i 0), vi line, vi id, (Gh.dec (γ := Value) (ρ 27))] else [(ep vh 10 i 0), vi line, vi id, vo]) :: (bif S 27 then row 49 (Gh.dec (γ := Value) (ρ 27)) (ms ++ [(⟨kind, id, to, line, serial, e.turn, value, al⟩ : Msg)]) else row 49 vo ms) :: (LX)) ?_
 refine dn4 ?_
 refine Ig (v := vo) (fun ρ S hS hB hA => by have h30 : S 30 = false := hA 30 ⟨0, rfl⟩; simp only [h30, cond_false]; exact C3 (hc := A0 pkk (by repeat (first | exact rfl | refine Dd rfl ?_))) Try.isAgg86) (fun _ _ _ _ _ => rfl) ?_
 refine dn4 ?_
 refine Ig (v := vi id) (fun ρ S hS hB hA => by have h30 : S 30 = false := hA 30 ⟨0, rfl⟩; simp only [h30, cond_false]; exact C3 (hc := A0 pkk (by repeat (first | exact rfl | refine Dd rfl ?_))) Try.isAgg3) (fun _ _ _ _ _ => rfl) ?_
 refine dn4 ?_
 refine Ig (v := vi line) (fun ρ S hS hB hA => by have h30 : S 30 = false := hA 30 ⟨0, rfl⟩; simp only [h30, cond_false]; exact C3 (hc := A0 pkk (by repeat (first | exact rfl | refine Dd rfl ?_))) Try.isAgg3) (fun _ _ _ _ _ => rfl) ?_
 refine dn4 ?_
 refine Ig (v := (ep vh 10 i 0)) (fun ρ S hS hB hA => by have h30 : S 30 = false := hA 30 ⟨0, rfl⟩; simp only [h30, cond_false]; exact C3 (hc := A0 pkk (by repeat (first | exact rfl | refine Dd rfl ?_))) Try.isAgg148) (fun _ _ _ _ _ => rfl) ?_
 first | refine epc (fun _ _ => q_nb) ?_ | refine epc (fun _ _ => q_ne) ?_ | refine epp (fun _ _ => q_nb) ?_ | refine epp (fun _ _ => q_ne) ?_
 first | refine epc (fun _ _ => Aad Nk) ?_ | refine epc (fun _ _ => Aac Nk) ?_ | refine epp (fun _ _ => Aad Nk) ?_ | refine epp (fun _ _ => Aac Nk) ?_
 first | refine epc (fun _ _ => C3 Try.isAgg3) ?_ | refine epp (fun _ _ => C3 Try.isAgg3) ?_
 refine dn2 ?_
 first | refine epc (fun _ _ => Eo Ec) ?_ | refine epc (fun _ _ => Fn Ec) ?_ | refine epp (fun _ _ => Eo Ec) ?_ | refine epp (fun _ _ => Fn Ec) ?_
 refine Fz ([(⟨kind, id, to, line, serial, e.turn, value, al⟩ : Msg)] : List Msg) Fy rfl (fun _ => rfl) rfl (fun _ => rfl) rfl rfl (fun ρ R hd => Is hwf) (fun _ _ _ _ _ => rfl) ?_
 refine F9 (e := 49) (xs := ms) (ys := [(⟨kind, id, to, line, serial, e.turn, value, al⟩ : Msg)]) (v := vo) Fy (fun _ => rfl) (fun _ => rfl) rfl (by decide) (fun ρ R hd => (hd.dep (it := ⟨26, _, _, _, _⟩) (by repeat (first | exact List.Mem.head _ | refine List.Mem.tail _ ?_)) ⟨9, rfl⟩ (List.Mem.head _))) (by have : maxN = 16777216 := rfl; simp only [List.length_cons, List.length_nil]; omega) (fun ρ g S hS hB hA => ?_) ?_
 ·have ui : upS S 27 27 = true := rfl; have u30 : upS S 27 30 = S 30 := rfl; have h30 : S 30 = false := hA 30 ⟨0, rfl⟩; have rs : (Gh.dec (γ := Value) (Rho.set ρ 27 (Gh.enc g) 27)) = g := rfl
  simp only [ui, hS, u30, h30, rs, cond_true, cond_false]
  exact pex
 refine dn2 ?_
 refine Eu (T0 := 151) (f := 3) (vs := fun ρ => [(ep vh 10 i 0), vi line, vi id, vo]) (v := fun ρ => (Gh.dec (γ := Value) (ρ 27))) (fun ρ => bk) Try.sizeOf86 (fun _ => rfl) (fun _ => rfl) (fun ρ S R w L9 hB hd hs => by have h27 : S 27 = true := hB 27 ⟨9, rfl⟩; simp only [h27, cond_true] at hs; exact Cn pkk hs) (fun _ => rfl) (fun ρ g S hS hB hA => ?_) ?_
 ·have ui : upS S 30 30 = true := rfl; have u27 : upS S 30 27 = S 27 := rfl; have r27 : Rho.set ρ 30 g 27 = ρ 27 := rfl
  simp only [ui, hS, u27, r27, cond_true, cond_false]
  exact pex
 refine dnl ?_; intro ρ
 refine xq_ (blk bk 151 [(ep vh 10 i 0), vi line, vi id, (Gh.dec (γ := Value) (ρ 27))] :: row 49 (Gh.dec (γ := Value) (ρ 27)) (ms ++ [(⟨kind, id, to, line, serial, e.turn, value, al⟩ : Msg)]) :: (LX)) ?_
 generalize (Gh.dec (γ := Value) (ρ 26)) = v38
 generalize (Gh.dec (γ := Value) (ρ 27)) = v39
 refine Bf (.inl rfl) (fun B w hs => Im rfl _ w) (fun w hs => ⟨v39, rfl, Ai hs⟩)
theorem W9 {s : Int} (h0 : 0 ≤ s) (h1 : s < 16) : IntKind.u64.wrap s = s := by
 rcases (show s = 0 ∨ s = 1 ∨ s = 2 ∨ s = 3 ∨ s = 4 ∨ s = 5 ∨ s = 6 ∨ s = 7 ∨ s = 8 ∨ s = 9 ∨ s = 10 ∨ s = 11 ∨ s = 12 ∨ s = 13 ∨ s = 14 ∨ s = 15 by omega) with h | h | h | h | h | h | h | h | h | h | h | h | h | h | h | h <;> subst h <;> rfl
theorem Iy {LX : List Chunk} {R : List Fact} {w : World} {vh vo u : Value} {i bk : Nat} {e : Entry} {ms : List Msg} {line id : Int} (hs : St (blk bk 151 [(ep vh 10 i 0), vi line, vi id, vo] :: row 49 vo ms :: LX) R w) (hE : C2 LX R (ep vh 10 i 0) (Entry.cells u e)) (hA : EpAll vh 10 i) (hn : ms.length ≤ 500) (hb : EB e) (hl : An line) (hid : An id) : Calls Try.prog 108 [bp bk 0].toArray w (Bw (fun v : Value => .tuple #[]) (fun v => blk bk 151 [(ep vh 10 i 0), vi line, vi id, v] :: row 49 v (ms ++ D4 e line id) :: LX) (fun v => R)) := by
 have hb0 := hb
 unfold EB Entry.wf An at hb0
 unfold An at hl hid
 refine Aj Try.func108 rfl Try.ntmps108 rfl hs ?_
 clear hs
 refine Gm ?_
 refine Gb7 ?_
 refine Ga2 ?_
 refine cdy ?_ ?_
 ·intro ht11
  refine ZL ?_
  refine Ga7 ?_
  refine Bk (b := ?b2) ?e2 ?_ ?_; case e2 => exact rfl
  ·intro ht19
   refine Aa ?_
   refine Gb1 ?_
   refine rn9 ?_
   refine Ao Try.call111 rfl (fun w hs => Pr (e := e) (ms := ms) (kind := 6) (to := e.owner) (serial := 0) (value := 0) (al := false) hs hE hA (by omega) (by unfold Msg.wf An; simp only; omega)) ?_; intro v29
   refine Gl ?_
   have er : D4 e line id = [⟨6, id, e.owner, line, 0, e.turn, 0, false⟩] := by unfold D4; rw [if_pos ht11, ht19]; rfl
   exact ZfV
  ·intro ht19
   refine Gm ?_
   refine rn9 ?_
   refine Ao Try.call111 rfl (fun w hs => Pr (e := e) (ms := ms) (kind := 5) (to := e.owner) (serial := 0) (value := 0) (al := false) hs hE hA (by omega) (by unfold Msg.wf An; simp only; omega)) ?_; intro v29
   refine Gl ?_
   have er : D4 e line id = [⟨5, id, e.owner, line, 0, e.turn, 0, false⟩] := by unfold D4; rw [if_pos ht11, ht19]; rfl
   exact ZfV
 ·intro ht11
  refine ZD ?_
  refine cdy ?_ ?_
  ·intro ht30
   refine Gm ?_
   refine rn7 ?_
   refine ob (Ar (v := .int .u64 e.need) Try.underlying3 Try.underlying147 rfl (by rw [show IntKind.u64.wrap e.need = e.need from W9 hb0.2.2.1.1 hb0.2.2.1.2])) ?_
   refine Ao Try.call112 rfl (fun w hs => Akd hs hb0.2.2.1.1 hb0.2.2.1.2) ?_; intro _
   refine Ga1 ?_
   have hlb := Yb (s := e.need)
   refine Bx (γ := Nat × Value) (fun g => (g.1 : Int) ≤ J8 e.need) (fun g => blk bk 151 [(ep vh 10 i 0), vi line, vi id, g.2] :: row 49 g.2 (ms ++ E3 e line id g.1) :: LX) (fun _ => R) (fun g => [(0, bp bk 0), (40, vi (J8 e.need)), (41, vi (g.1 : Int))]) (fun g => (J8 e.need).toNat - g.1) (0, vo) (by show (0 : Int) ≤ J8 e.need; omega) alT (fun w hs => by have e0 : E3 e line id 0 = [] := rfl; rw [e0, List.append_nil]; exact hs) ?_
   rintro ⟨k, vs⟩ hk
   try simp only at hk ⊢
   have hsl := Oj e line id k
   refine ZE ?_
   refine cdy ?_ ?_
   ·intro ht42
    refine ZaQ ?_
    refine rn8 ?_
    refine ob (F1 (a := e.need) (b := (k : Int)) (Z0 hb0.2.2.1.1 hb0.2.2.1.2 (by omega) (by omega))) ?_
    refine ob (F1 (a := ((e.need.toNat / 2 ^ (k : Int).toNat : Nat) : Int)) (b := 1) (Tt hb0.2.2.1.1 hb0.2.2.1.2 (by omega) (by omega))) ?_
    refine Ga1 ?_
    refine cdy ?_ ?_
    ·intro ht54
     refine kp [0, 3, 10, 40, 41, 42, 43, 44, 45, 46, 47, 48, 49, 50, 51, 52, 53, 54, 55, 56] ?_
     refine ZA ?_
     refine Ao Try.call111 rfl (fun w hs => Pr (e := e) (ms := (ms ++ E3 e line id k)) (kind := 4) (to := (k : Int)) (serial := 0) (value := 0) (al := false) hs hE hA (by simp only [List.length_append]; omega) (by unfold Msg.wf An; simp only; omega)) ?_; intro v57
     refine ZD ?_
     refine Bb (k + 1, v57) (by show ((k + 1 : Nat) : Int) ≤ J8 e.need; omega) (by show (J8 e.need).toNat - (k + 1) < (J8 e.need).toNat - k; omega) alT (fun w hs => ?_)
     try simp only
     have hb9 : Lx e.need (k : Int) = true := by revert ht54; cases Lx e.need (k : Int) <;> simp
     rw [Jy, hb9, if_pos rfl, ← List.append_assoc]; exact Ai hs
    ·intro ht54
     refine Gl ?_
     refine kp [0, 3, 10, 40, 41, 42, 43, 44, 45, 46, 47, 48, 49, 50, 51, 52, 53, 54, 55, 56, 58] ?_
     refine ZW ?_
     refine Bb (k + 1, vs) (by show ((k + 1 : Nat) : Int) ≤ J8 e.need; omega) (by show (J8 e.need).toNat - (k + 1) < (J8 e.need).toNat - k; omega) alT (fun w hs => ?_)
     try simp only
     have hb9 : Lx e.need (k : Int) = false := by revert ht54; cases Lx e.need (k : Int) <;> simp
     rw [Jy, hb9, if_neg (by decide), List.append_nil]; exact Ai hs
   ·intro ht42
    refine Gl ?_
    have hk4 : k = (J8 e.need).toNat := by omega
    subst hk4
    have er : D4 e line id = E3 e line id (J8 e.need).toNat := by rw [Su hb, Ol ht30]
    rw [er]
    refine Bf (.inl rfl) (fun B w hs => Im rfl _ w) (fun w hs => ⟨vs, rfl, Ai hs⟩)
  ·intro ht30
   refine ZD ?_
   refine cdy ?_ ?_
   ·intro ht59
    refine Bv ?_
    refine dn29 ?_
    refine dtl ?_; intro ρ
    refine Ao Try.call111 rfl (fun w hs => Pr (e := e) (ms := ms) (kind := 7) (to := e.who) (serial := e.serial) (value := e.value) (al := e.alone) hs hE hA (by omega) (by unfold Msg.wf An; simp only; omega)) ?_; intro v90
    refine Gl ?_
    have er : D4 e line id = [⟨7, id, e.who, line, e.serial, e.turn, e.value, e.alone⟩] := by unfold D4; rw [if_neg ht11, if_neg ht30, if_pos ht59]
    rw [er]
    refine Bf (.inl rfl) (fun B w hs => Im rfl _ w) (fun w hs => ⟨v90, rfl, Ai hs⟩)
   ·intro ht59
    refine Gl ?_
    have er : D4 e line id = [] := by unfold D4; rw [if_neg ht11, if_neg ht30, if_neg ht59]
    rw [er, List.append_nil]
    refine Bf (.inl rfl) (fun B w hs => Im rfl _ w) (fun w hs => ⟨vo, rfl, Ai hs⟩)
theorem L8 {LX : List Chunk} {R : List Fact} {w : World} {vh vo u : Value} {i bk : Nat} {e : Entry} {ms : List Msg} {line id : Int} {xs : List Entry} (hs : St (blk bk 151 [(ep vh 10 i 0), vi line, vi id, vo] :: row 49 vo ms :: foc 80 vh xs i (Entry.cells u e) :: LX) R w) (hA : EpAll vh 10 i) (hone : u.oneCell' = true) (hn : ms.length ≤ 500) (hb : EB e) (hl : An line) (hid : An id) : Calls Try.prog 103 [bp bk 0].toArray w (Bw (fun v : Value => .tuple #[]) (fun v => blk bk 151 [(ep vh 10 i 0), vi line, vi id, v] :: row 49 v (ms ++ D4 (A9 e) line id) :: foc 80 vh xs i (Entry.cells u (A9 e)) :: LX) (fun v => R)) := by
 have hb0 := hb
 unfold EB Entry.wf An at hb0
 have hl0 := hl
 have hid0 := hid
 unfold An at hl0 hid0
 refine Aj Try.func103 rfl Try.ntmps103 rfl hs ?_
 clear hs
 refine Gm ?_
 refine rn6 ?_
 refine sc ?_
 refine Gl ?_
 refine Bv ?_
 refine dn14 ?_
 refine djc (fun _ _ => F1 (a := 1) (b := e.who) (Si (by omega) (by omega))) ?_
 refine djc (fun _ _ => F1 (a := e.sharers) (b := ((2 ^ e.who.toNat : Nat) : Int)) (Ny (by omega) (by omega) (by omega) (by omega))) ?_
 refine ZP ?_;intro ρ
 refine Gm ?_
 refine Ga9 ?_
 refine cdy ?_ ?_
 ·intro ht31
  refine kp [0, 2, 40, 41, 42, 43, 44, 45] ?_
  refine Za0 ?_
  refine sc ?_
  refine ZJ ?_
  have en : A9 e = { e with need := 0, phase := 1 } := by unfold A9; rw [if_pos ht31]
  have hbn : EB ({ e with need := 0, phase := 1 }) := en ▸ Di hb
  refine Ao Try.call108 rfl (fun w hs => Iy (e := { e with need := 0, phase := 1 }) (u := u) (ms := ms) (line := line) (id := id) (LX := foc 80 vh xs i [vi e.value, vi e.owner, vi e.sharers, vi 1, vi e.who, vi e.serial, .bool e.alone, vi e.turn, vi 0, u] :: LX) (Ai hs) (Nz .hd rfl) hA hn hbn hl hid) ?_; intro v72
  refine Gl ?_
  rw [en]
  refine Bf (.inl rfl) (fun B w hs => Im rfl _ w) (fun w hs => ⟨v72, rfl, Ai hs⟩)
 ·intro ht31
  refine Gl ?_
  refine kp [0, 2, 46, 47, 48, 49, 50, 51, 52, 53, 54, 55, 56, 57] ?_
  refine Aa ?_
  refine rn8 ?_
  refine K8 (t := 54) (b := ?b2) ?e2 ?_ ?_; case e2 => exact rfl
  ·intro ht54
   refine Ga4 ?_
   refine cdy ?_ ?_
   ·intro ht46
    refine cq_ (foc 80 vh xs i [vi e.value, vi e.owner, vi e.sharers, vi e.phase, vi e.who, vi e.serial, .bool e.alone, vi e.turn, vi 0, u] :: blk bk 151 [(ep vh 10 i 0), vi line, vi id, vo] :: row 49 vo ms :: LX) ?_
    refine jd_ (fun ρ S => foc 80 vh xs i (bif S 14 then [vi e.value, vi e.owner, vi e.sharers, vi 2, vi e.who, vi e.serial, .bool e.alone, vi e.turn, vi (Gs e.sharers e.who), u] else (bif S 11 then [vi e.value, vi e.owner, vi e.sharers, vi 2, vi e.who, vi e.serial, .bool e.alone, vi e.turn, vi 0, u] else [vi e.value, vi e.owner, vi e.sharers, vi e.phase, vi e.who, vi e.serial, .bool e.alone, vi e.turn, vi 0, u])) :: blk bk 151 [(ep vh 10 i 0), vi line, vi id, vo] :: row 49 vo ms :: (LX)) ?_
    refine dn11 ?_
    refine Et (T0 := 80) (f := 3) (k := i) (sz := 10) (hv := vh) (xs := xs) (vs := fun ρ => [vi e.value, vi e.owner, vi e.sharers, vi e.phase, vi e.who, vi e.serial, .bool e.alone, vi e.turn, vi 0, u]) (v := fun ρ => (vi 2)) rfl Try.sizeOf3 (fun _ => rfl) (fun _ => rfl) (fun _ _ _ _ _ _ _ _ => rfl) (fun _ => rfl) (fun ρ g S hS hB hA => ?_) ?_
    ·have ui : upS S 11 11 = true := rfl; have u14 : upS S 11 14 = S 14 := rfl; have h14 : S 14 = false := hA 14 ⟨0, rfl⟩
     simp only [ui, hS, u14, h14, cond_true, cond_false]
     exact pex
    refine dn2 ?_
    refine Et (T0 := 80) (f := 8) (k := i) (sz := 10) (hv := vh) (xs := xs) (vs := fun ρ => [vi e.value, vi e.owner, vi e.sharers, vi 2, vi e.who, vi e.serial, .bool e.alone, vi e.turn, vi 0, u]) (v := fun ρ => (vi (Gs e.sharers e.who))) rfl Try.sizeOf3 (fun _ => rfl) (fun _ => rfl) (fun _ _ _ _ _ _ _ _ => rfl) (fun _ => rfl) (fun ρ g S hS hB hA => ?_) ?_
    ·have ui : upS S 14 14 = true := rfl; have u11 : upS S 14 11 = S 11 := rfl; have h11 : S 11 = true := hB 11 ⟨0, rfl⟩
     simp only [ui, hS, u11, h11, cond_true, cond_false]
     exact pex
    refine dnl ?_; intro ρ
    refine xq_ (foc 80 vh xs i [vi e.value, vi e.owner, vi e.sharers, vi 2, vi e.who, vi e.serial, .bool e.alone, vi e.turn, vi (Gs e.sharers e.who), u] :: blk bk 151 [(ep vh 10 i 0), vi line, vi id, vo] :: row 49 vo ms :: (LX)) ?_
    refine ZJ ?_
    have en : A9 e = { e with need := (Gs e.sharers e.who), phase := 2 } := by unfold A9; rw [if_neg ht31, if_pos ⟨ht54, ht46⟩]
    have hbn : EB ({ e with need := (Gs e.sharers e.who), phase := 2 }) := en ▸ Di hb
    refine Ao Try.call108 rfl (fun w hs => Iy (e := { e with need := (Gs e.sharers e.who), phase := 2 }) (u := u) (ms := ms) (line := line) (id := id) (LX := foc 80 vh xs i [vi e.value, vi e.owner, vi e.sharers, vi 2, vi e.who, vi e.serial, .bool e.alone, vi e.turn, vi (Gs e.sharers e.who), u] :: LX) (Ai hs) (Nz .hd rfl) hA hn hbn hl hid) ?_; intro v72
    refine Gl ?_
    rw [en]
    refine Bf (.inl rfl) (fun B w hs => Im rfl _ w) (fun w hs => ⟨v72, rfl, Ai hs⟩)
   ·intro ht46
    refine Za0 ?_
    refine sc ?_
    refine ZJ ?_
    have en : A9 e = { e with need := 0, phase := 3 } := by unfold A9; rw [if_neg ht31, if_neg (fun h => h.2 (by omega))]
    exact ZfO
  ·intro ht54
   refine Gd4 ?_
   refine rn6 ?_
   refine sc ?_
   refine ZJ ?_
   have en : A9 e = { e with need := 0, phase := 3 } := by unfold A9; rw [if_neg ht31, if_neg (fun h => by rw [h.1] at ht54; cases ht54)]
   exact ZfO
theorem Yp {LX : List Chunk} {R : List Fact} {w : World} {vh vo u : Value} {i bk : Nat} {e : Entry} {ms : List Msg} {line id : Int} {xs : List Entry} {bm : Nat} {m : Msg} (hs : St (blk bk 151 [(ep vh 10 i 0), vi line, vi id, vo] :: row 49 vo ms :: foc 80 vh xs i (Entry.cells u e) :: row 3 u e.last :: blk bm 49 m.cells :: LX) R w) (hA : EpAll vh 10 i) (hone : u.oneCell' = true) (hn : ms.length ≤ 500) (hb : EB e) (hl : An line) (hid : An id) (hm : m.wf) (hline : m.line = line) (hsrc : 0 ≤ m.src ∧ m.src < (e.last.length : Int)) (hla : e.last.length ≤ 4) (hk : m.kind = 1 ∨ m.kind = 2) : Calls Try.prog 101 [bp bk 0, bp bm 0].toArray w (Bw (fun v : Value => .tuple #[]) (fun v => blk bk 151 [(ep vh 10 i 0), vi line, vi id, v] :: row 49 v (ms ++ (Ag e id m).2) :: foc 80 vh xs i (Entry.cells u (Ag e id m).1) :: row 3 u (Ag e id m).1.last :: blk bm 49 m.cells :: LX) (fun v => R)) := by
 have hb0 := hb
 unfold EB Entry.wf An at hb0
 have hl0 := hl
 have hid0 := hid
 unfold An at hl0 hid0
 have hm0 := hm
 unfold Msg.wf An at hm0
 refine Aj Try.func101 rfl Try.ntmps101 rfl hs ?_
 clear hs
 refine Gl ?_
 rcases (show (e.phase ≠ 0) ∨ (e.phase = 0 ∧ m.serial ≤ e.last.getD m.src.toNat 0) ∨ (e.phase = 0 ∧ e.last.getD m.src.toNat 0 < m.serial ∧ 65535 ≤ e.turn) ∨ (e.phase = 0 ∧ e.last.getD m.src.toNat 0 < m.serial ∧ e.turn < 65535) from by omega) with hc | hc | hc | hc
 ·refine Bv ?_
  refine dn7 ?_
  refine djc (fun _ _ => Am rfl rfl (F6 (by omega))) ?_
  refine djm ?_
  refine dn18 ?_
  refine Zav ?_
  refine dn8 ?_
  refine ZO ?_
  refine ZcV ?_;intro ρ er
  exact Zfo
 ·refine Zda ?_
  refine dj (dgy ?_)
  refine Zdi ?_
  refine dj (dgy ?_)
  refine dc (fun _ _ => Am rfl rfl (Qc (by omega))) ?_
  refine Zae ?_
  refine dn8 ?_
  refine ZO ?_
  refine ZcV ?_;intro ρ er
  exact Zfo
 ·refine Zda ?_
  refine dj (dgy ?_)
  refine Zdi ?_
  refine dj (dgy ?_)
  refine Zbx ?_
  refine dn7 ?_
  refine dj (dgy ?_)
  refine ZbK ?_
  refine ZcV ?_;intro ρ er
  exact Zfo
 ·refine Zda ?_
  refine dj (dgy ?_)
  refine Zdi ?_
  refine dj (dgy ?_)
  refine Zbx ?_
  refine dn7 ?_
  refine dj (dgy ?_)
  refine ZbW ?_
  refine djf ?_
  refine dnl ?_; intro ρ
  refine Glc ?_
  refine kp [0, 1, 42, 43, 44, 45, 46, 47, 48, 49, 50, 51, 52, 53, 54, 55, 56, 57] ?_
  refine Bv ?_
  refine dn16 ?_
  refine dtl ?_; intro ρ
  refine Ez (xs := e.last) Try.sizeOf3 rfl rfl pkk (getD_some 0 (by omega)) hm.2.2.2.2.1 ?_
  refine Gl ?_
  refine ZdG ?_
  refine jd_ (fun ρ S => foc 80 vh xs i (bif S 33 then [vi e.value, vi e.owner, vi e.sharers, vi e.phase, vi m.src, vi m.serial, .bool (decide (m.kind = 2)), vi e.turn, vi e.need, u] else (bif S 30 then [vi e.value, vi e.owner, vi e.sharers, vi e.phase, vi m.src, vi m.serial, .bool e.alone, vi e.turn, vi e.need, u] else (bif S 27 then [vi e.value, vi e.owner, vi e.sharers, vi e.phase, vi m.src, vi e.serial, .bool e.alone, vi e.turn, vi e.need, u] else [vi e.value, vi e.owner, vi e.sharers, vi e.phase, vi e.who, vi e.serial, .bool e.alone, vi e.turn, vi e.need, u]))) :: blk bk 151 [(ep vh 10 i 0), vi line, vi id, vo] :: row 49 vo ms :: row 3 u (e.last.set m.src.toNat m.serial) :: blk bm 49 m.cells :: (LX)) ?_
  refine dn27 ?_
  refine Et (T0 := 80) (f := 4) (k := i) (sz := 10) (hv := vh) (xs := xs) (vs := fun ρ => [vi e.value, vi e.owner, vi e.sharers, vi e.phase, vi e.who, vi e.serial, .bool e.alone, vi e.turn, vi e.need, u]) (v := fun ρ => (vi m.src)) rfl Try.sizeOf3 (fun _ => rfl) (fun _ => rfl) (fun _ _ _ _ _ _ _ _ => rfl) (fun _ => rfl) (fun ρ g S hS hB hA => ?_) ?_
  ·have ui : upS S 27 27 = true := rfl; have u30 : upS S 27 30 = S 30 := rfl; have u33 : upS S 27 33 = S 33 := rfl; have h30 : S 30 = false := hA 30 ⟨0, rfl⟩; have h33 : S 33 = false := hA 33 ⟨0, rfl⟩
   simp only [ui, hS, u30, u33, h30, h33, cond_true, cond_false]
   exact pex
  refine dn2 ?_
  refine Et (T0 := 80) (f := 5) (k := i) (sz := 10) (hv := vh) (xs := xs) (vs := fun ρ => [vi e.value, vi e.owner, vi e.sharers, vi e.phase, vi m.src, vi e.serial, .bool e.alone, vi e.turn, vi e.need, u]) (v := fun ρ => (vi m.serial)) rfl Try.sizeOf3 (fun _ => rfl) (fun _ => rfl) (fun _ _ _ _ _ _ _ _ => rfl) (fun _ => rfl) (fun ρ g S hS hB hA => ?_) ?_
  ·have ui : upS S 30 30 = true := rfl; have u27 : upS S 30 27 = S 27 := rfl; have u33 : upS S 30 33 = S 33 := rfl; have h27 : S 27 = true := hB 27 ⟨0, rfl⟩; have h33 : S 33 = false := hA 33 ⟨0, rfl⟩
   simp only [ui, hS, u27, u33, h27, h33, cond_true, cond_false]
   exact pex
  refine dn2 ?_
  refine Et (T0 := 80) (f := 6) (k := i) (sz := 10) (hv := vh) (xs := xs) (vs := fun ρ => [vi e.value, vi e.owner, vi e.sharers, vi e.phase, vi m.src, vi m.serial, .bool e.alone, vi e.turn, vi e.need, u]) (v := fun ρ => (.bool (decide (m.kind = 2)))) rfl Try.sizeOf4 (fun _ => rfl) (fun _ => rfl) (fun _ _ _ _ _ _ _ _ => rfl) (fun _ => rfl) (fun ρ g S hS hB hA => ?_) ?_
  ·have ui : upS S 33 33 = true := rfl; have u27 : upS S 33 27 = S 27 := rfl; have u30 : upS S 33 30 = S 30 := rfl; have h27 : S 27 = true := hB 27 ⟨0, rfl⟩; have h30 : S 30 = true := hB 30 ⟨0, rfl⟩
   simp only [ui, hS, u27, u30, h27, h30, cond_true, cond_false]
   exact pex
  refine dnl ?_; intro ρ
  refine xq_ (foc 80 vh xs i [vi e.value, vi e.owner, vi e.sharers, vi e.phase, vi m.src, vi m.serial, .bool (decide (m.kind = 2)), vi e.turn, vi e.need, u] :: blk bk 151 [(ep vh 10 i 0), vi line, vi id, vo] :: row 49 vo ms :: row 3 u (e.last.set m.src.toNat m.serial) :: blk bm 49 m.cells :: (LX)) ?_
  refine Gl ?_
  refine kp [0, 89, 90, 91, 92, 93, 94, 95, 96, 97, 98] ?_
  refine Aa ?_
  refine rn10 ?_
  refine sc ?_
  refine ZJ ?_
  have hX : EB ({ e with last := (e.last.set m.src.toNat m.serial), who := m.src, serial := m.serial, alone := m.kind == 2, turn := e.turn + 1 }) := by unfold EB Entry.wf An; simp only; omega
  refine Ao Try.call103 rfl (fun w hs => L8 (e := { e with last := (e.last.set m.src.toNat m.serial), who := m.src, serial := m.serial, alone := m.kind == 2, turn := e.turn + 1 }) (u := u) (ms := ms) (line := line) (id := id) (xs := xs) (LX := row 3 u (e.last.set m.src.toNat m.serial) :: blk bm 49 m.cells :: LX) (Ai hs) hA hone hn hX hl hid) ?_; intro v100
  refine Gl ?_
  have er : Ag e id m = (A9 ({ e with last := (e.last.set m.src.toNat m.serial), who := m.src, serial := m.serial, alone := m.kind == 2, turn := e.turn + 1 }), D4 (A9 ({ e with last := (e.last.set m.src.toNat m.serial), who := m.src, serial := m.serial, alone := m.kind == 2, turn := e.turn + 1 })) m.line id) := by unfold Ag; rw [if_pos (by omega), if_neg (by unfold Dt; omega)]; rfl
  rw [er, hline, D8]
  refine Bf (.inl rfl) (fun B w hs => Im rfl _ w) (fun w hs => ⟨v100, rfl, Ai hs⟩)
theorem Ahn {LX : List Chunk} {R : List Fact} {w : World} {vh vo u : Value} {i bk : Nat} {e : Entry} {ms : List Msg} {line id : Int} {xs : List Entry} {bm : Nat} {m : Msg} (hs : St (blk bk 151 [(ep vh 10 i 0), vi line, vi id, vo] :: row 49 vo ms :: foc 80 vh xs i (Entry.cells u e) :: row 3 u e.last :: blk bm 49 m.cells :: LX) R w) (hA : EpAll vh 10 i) (hone : u.oneCell' = true) (hn : ms.length ≤ 500) (hb : EB e) (hl : An line) (hid : An id) (hm : m.wf) (hline : m.line = line) (hsrc : 0 ≤ m.src ∧ m.src < (e.last.length : Int)) (hla : e.last.length ≤ 4) (hk : m.kind = 3) : Calls Try.prog 102 [bp bk 0, bp bm 0].toArray w (Bw (fun v : Value => .tuple #[]) (fun v => blk bk 151 [(ep vh 10 i 0), vi line, vi id, v] :: row 49 v (ms ++ (Ag e id m).2) :: foc 80 vh xs i (Entry.cells u (Ag e id m).1) :: row 3 u (Ag e id m).1.last :: blk bm 49 m.cells :: LX) (fun v => R)) := by
 have hb0 := hb
 unfold EB Entry.wf An at hb0
 have hl0 := hl
 have hid0 := hid
 unfold An at hl0 hid0
 have hm0 := hm
 unfold Msg.wf An at hm0
 refine Aj Try.func102 rfl Try.ntmps102 rfl hs ?_
 clear hs
 refine Gm ?_
 refine Ga8 ?_
 refine cdy ?_ ?_
 ·intro ht11
  refine Gl ?_
  have er : Ag e id m = (e, []) := by unfold Ag; rw [if_neg (by omega), if_pos (by omega), if_pos ht11]
  rw [er, List.append_nil]
  exact Zfo
 ·intro ht11
  refine Gl ?_
  refine Bv ?_
  refine dn16 ?_
  refine djc (fun _ _ => C3 (hc := D9 (xs := e.last) pkk (by omega)) Try.isAgg3) ?_
  refine djc (fun _ _ => F1 Sk) ?_
  refine dnl ?_; intro ρ
  refine Gl ?_
  refine cdy ?_ ?_
  ·intro ht29
   refine Gl ?_
   refine Bv ?_
   refine dn16 ?_
   refine dtl ?_; intro ρ
   refine Ez (xs := e.last) Try.sizeOf3 rfl rfl pkk (getD_some 0 (by omega)) hm.2.2.2.2.1 ?_
   refine Gl ?_
   refine kp [0, 1, 46, 47, 48, 49, 50, 51, 52, 53, 54, 55, 56, 57] ?_
   refine Bv ?_
   refine dn12 ?_
   refine dnl ?_; intro ρ
   refine Gl ?_
   refine cdy ?_ ?_
   ·intro ht57
    refine ZdG ?_
    refine jd_ (fun ρ S => foc 80 vh xs i (bif S 17 then [vi m.value, vi (-1), vi e.sharers, vi e.phase, vi e.who, vi e.serial, .bool e.alone, vi e.turn, vi e.need, u] else (bif S 14 then [vi m.value, vi e.owner, vi e.sharers, vi e.phase, vi e.who, vi e.serial, .bool e.alone, vi e.turn, vi e.need, u] else [vi e.value, vi e.owner, vi e.sharers, vi e.phase, vi e.who, vi e.serial, .bool e.alone, vi e.turn, vi e.need, u])) :: blk bk 151 [(ep vh 10 i 0), vi line, vi id, vo] :: row 49 vo ms :: row 3 u (e.last.set m.src.toNat m.serial) :: blk bm 49 m.cells :: (LX)) ?_
    refine dn14 ?_
    refine Et (T0 := 80) (f := 0) (k := i) (sz := 10) (hv := vh) (xs := xs) (vs := fun ρ => [vi e.value, vi e.owner, vi e.sharers, vi e.phase, vi e.who, vi e.serial, .bool e.alone, vi e.turn, vi e.need, u]) (v := fun ρ => (vi m.value)) rfl Try.sizeOf3 (fun _ => rfl) (fun _ => rfl) (fun _ _ _ _ _ _ _ _ => rfl) (fun _ => rfl) (fun ρ g S hS hB hA => ?_) ?_
    ·have ui : upS S 14 14 = true := rfl; have u17 : upS S 14 17 = S 17 := rfl; have h17 : S 17 = false := hA 17 ⟨0, rfl⟩
     simp only [ui, hS, u17, h17, cond_true, cond_false]
     exact pex
    refine dn2 ?_
    refine Et (T0 := 80) (f := 1) (k := i) (sz := 10) (hv := vh) (xs := xs) (vs := fun ρ => [vi m.value, vi e.owner, vi e.sharers, vi e.phase, vi e.who, vi e.serial, .bool e.alone, vi e.turn, vi e.need, u]) (v := fun ρ => (vi (-1))) rfl Try.sizeOf3 (fun _ => rfl) (fun _ => rfl) (fun _ _ _ _ _ _ _ _ => rfl) (fun _ => rfl) (fun ρ g S hS hB hA => ?_) ?_
    ·have ui : upS S 17 17 = true := rfl; have u14 : upS S 17 14 = S 14 := rfl; have h14 : S 14 = true := hB 14 ⟨0, rfl⟩
     simp only [ui, hS, u14, h14, cond_true, cond_false]
     exact pex
    refine dnl ?_; intro ρ
    refine xq_ (foc 80 vh xs i [vi m.value, vi (-1), vi e.sharers, vi e.phase, vi e.who, vi e.serial, .bool e.alone, vi e.turn, vi e.need, u] :: blk bk 151 [(ep vh 10 i 0), vi line, vi id, vo] :: row 49 vo ms :: row 3 u (e.last.set m.src.toNat m.serial) :: blk bm 49 m.cells :: (LX)) ?_
    refine Gl ?_
    refine Zde ?_;intro hwf
    refine cq_ (blk bk 151 [(ep vh 10 i 0), vi line, vi id, vo] :: row 49 vo ms :: foc 80 vh xs i [vi m.value, vi (-1), vi e.sharers, vi e.phase, vi e.who, vi e.serial, .bool e.alone, vi e.turn, vi e.need, u] :: row 3 u (e.last.set m.src.toNat m.serial) :: blk bm 49 m.cells :: LX) ?_
    refine jd_ (fun ρ S => blk bk 151 (bif S 26 then [(ep vh 10 i 0), vi line, vi id, (Gh.dec (γ := Value) (ρ 23))] else [(ep vh 10 i 0), vi line, vi id, vo]) :: (bif S 23 then row 49 (Gh.dec (γ := Value) (ρ 23)) (ms ++ [(⟨11, id, m.src, line, m.serial, 0, 0, false⟩ : Msg)]) else row 49 vo ms) :: foc 80 vh xs i [vi m.value, vi (-1), vi e.sharers, vi e.phase, vi e.who, vi e.serial, .bool e.alone, vi e.turn, vi e.need, u] :: row 3 u (e.last.set m.src.toNat m.serial) :: blk bm 49 m.cells :: (LX)) ?_
    refine dn4 ?_
    refine Ig (v := vo) (fun ρ S hS hB hA => by have h26 : S 26 = false := hA 26 ⟨0, rfl⟩; simp only [h26, cond_false]; exact C3 (hc := A0 pkk (by repeat (first | exact rfl | refine Dd rfl ?_))) Try.isAgg86) (fun _ _ _ _ _ => rfl) ?_
    refine dn3 ?_
    refine Ig (v := vi id) (fun ρ S hS hB hA => by have h26 : S 26 = false := hA 26 ⟨0, rfl⟩; simp only [h26, cond_false]; exact C3 (hc := A0 pkk (by repeat (first | exact rfl | refine Dd rfl ?_))) Try.isAgg3) (fun _ _ _ _ _ => rfl) ?_
    refine dn7 ?_
    refine Ig (v := vi line) (fun ρ S hS hB hA => by have h26 : S 26 = false := hA 26 ⟨0, rfl⟩; simp only [h26, cond_false]; exact C3 (hc := A0 pkk (by repeat (first | exact rfl | refine Dd rfl ?_))) Try.isAgg3) (fun _ _ _ _ _ => rfl) ?_
    refine dn4 ?_
    first | refine epc (fun _ _ => Eo Ec) ?_ | refine epc (fun _ _ => Fn Ec) ?_ | refine epp (fun _ _ => Eo Ec) ?_ | refine epp (fun _ _ => Fn Ec) ?_
    refine ZcN ?_
    refine F9 (e := 49) (xs := ms) (ys := [(⟨11, id, m.src, line, m.serial, 0, 0, false⟩ : Msg)]) (v := vo) Fy (fun _ => rfl) (fun _ => rfl) rfl (by decide) (fun ρ R hd => (hd.dep (it := ⟨22, _, _, _, _⟩) (by repeat (first | exact List.Mem.head _ | refine List.Mem.tail _ ?_)) ⟨9, rfl⟩ (List.Mem.head _))) (by have : maxN = 16777216 := rfl; simp only [List.length_cons, List.length_nil]; omega) (fun ρ g S hS hB hA => ?_) ?_
    ·exact ZeK
    refine dn2 ?_
    refine Eu (T0 := 151) (f := 3) (vs := fun ρ => [(ep vh 10 i 0), vi line, vi id, vo]) (v := fun ρ => (Gh.dec (γ := Value) (ρ 23))) (fun ρ => bk) Try.sizeOf86 (fun _ => rfl) (fun _ => rfl) (fun ρ S R w L9 hB hd hs => by have h23 : S 23 = true := hB 23 ⟨9, rfl⟩; simp only [h23, cond_true] at hs; exact Cn pkk hs) (fun _ => rfl) (fun ρ g S hS hB hA => ?_) ?_
    ·exact ZeS
    refine dnl ?_; intro ρ
    refine xq_ (blk bk 151 [(ep vh 10 i 0), vi line, vi id, (Gh.dec (γ := Value) (ρ 23))] :: row 49 (Gh.dec (γ := Value) (ρ 23)) (ms ++ [(⟨11, id, m.src, line, m.serial, 0, 0, false⟩ : Msg)]) :: foc 80 vh xs i [vi m.value, vi (-1), vi e.sharers, vi e.phase, vi e.who, vi e.serial, .bool e.alone, vi e.turn, vi e.need, u] :: row 3 u (e.last.set m.src.toNat m.serial) :: blk bm 49 m.cells :: (LX)) ?_
    generalize (Gh.dec (γ := Value) (ρ 22)) = v96
    generalize (Gh.dec (γ := Value) (ρ 23)) = v97
    have er : Ag e id m = ({ e with last := (e.last.set m.src.toNat m.serial), value := m.value, owner := -1 }, [(⟨11, id, m.src, line, m.serial, 0, 0, false⟩ : Msg)]) := by unfold Ag; rw [if_neg (by omega), if_pos (by omega), if_neg ht11]; rw [hline]; unfold Fl; rw [if_pos (by unfold Dt; omega), if_pos ht57]
    rw [er]
    refine Bf (.inl rfl) (fun B w hs => Im rfl _ w) (fun w hs => ⟨v97, rfl, Ai hs⟩)
   ·intro ht57
    refine Gl ?_
    refine Zde ?_;intro hwf
    refine cq_ (blk bk 151 [(ep vh 10 i 0), vi line, vi id, vo] :: row 49 vo ms :: foc 80 vh xs i [vi e.value, vi e.owner, vi e.sharers, vi e.phase, vi e.who, vi e.serial, .bool e.alone, vi e.turn, vi e.need, u] :: row 3 u (e.last.set m.src.toNat m.serial) :: blk bm 49 m.cells :: LX) ?_
    refine jd_ (fun ρ S => blk bk 151 (bif S 26 then [(ep vh 10 i 0), vi line, vi id, (Gh.dec (γ := Value) (ρ 23))] else [(ep vh 10 i 0), vi line, vi id, vo]) :: (bif S 23 then row 49 (Gh.dec (γ := Value) (ρ 23)) (ms ++ [(⟨11, id, m.src, line, m.serial, 0, 0, false⟩ : Msg)]) else row 49 vo ms) :: foc 80 vh xs i [vi e.value, vi e.owner, vi e.sharers, vi e.phase, vi e.who, vi e.serial, .bool e.alone, vi e.turn, vi e.need, u] :: row 3 u (e.last.set m.src.toNat m.serial) :: blk bm 49 m.cells :: (LX)) ?_
    refine dn4 ?_
    refine Ig (v := vo) (fun ρ S hS hB hA => by have h26 : S 26 = false := hA 26 ⟨0, rfl⟩; simp only [h26, cond_false]; exact C3 (hc := A0 pkk (by repeat (first | exact rfl | refine Dd rfl ?_))) Try.isAgg86) (fun _ _ _ _ _ => rfl) ?_
    refine dn3 ?_
    refine Ig (v := vi id) (fun ρ S hS hB hA => by have h26 : S 26 = false := hA 26 ⟨0, rfl⟩; simp only [h26, cond_false]; exact C3 (hc := A0 pkk (by repeat (first | exact rfl | refine Dd rfl ?_))) Try.isAgg3) (fun _ _ _ _ _ => rfl) ?_
    refine dn7 ?_
    refine Ig (v := vi line) (fun ρ S hS hB hA => by have h26 : S 26 = false := hA 26 ⟨0, rfl⟩; simp only [h26, cond_false]; exact C3 (hc := A0 pkk (by repeat (first | exact rfl | refine Dd rfl ?_))) Try.isAgg3) (fun _ _ _ _ _ => rfl) ?_
    refine dn4 ?_
    first | refine epc (fun _ _ => Eo Ec) ?_ | refine epc (fun _ _ => Fn Ec) ?_ | refine epp (fun _ _ => Eo Ec) ?_ | refine epp (fun _ _ => Fn Ec) ?_
    refine ZcN ?_
    refine F9 (e := 49) (xs := ms) (ys := [(⟨11, id, m.src, line, m.serial, 0, 0, false⟩ : Msg)]) (v := vo) Fy (fun _ => rfl) (fun _ => rfl) rfl (by decide) (fun ρ R hd => (hd.dep (it := ⟨22, _, _, _, _⟩) (by repeat (first | exact List.Mem.head _ | refine List.Mem.tail _ ?_)) ⟨9, rfl⟩ (List.Mem.head _))) (by have : maxN = 16777216 := rfl; simp only [List.length_cons, List.length_nil]; omega) (fun ρ g S hS hB hA => ?_) ?_
    ·exact ZeK
    refine dn2 ?_
    refine Eu (T0 := 151) (f := 3) (vs := fun ρ => [(ep vh 10 i 0), vi line, vi id, vo]) (v := fun ρ => (Gh.dec (γ := Value) (ρ 23))) (fun ρ => bk) Try.sizeOf86 (fun _ => rfl) (fun _ => rfl) (fun ρ S R w L9 hB hd hs => by have h23 : S 23 = true := hB 23 ⟨9, rfl⟩; simp only [h23, cond_true] at hs; exact Cn pkk hs) (fun _ => rfl) (fun ρ g S hS hB hA => ?_) ?_
    ·exact ZeS
    refine dnl ?_; intro ρ
    refine xq_ (blk bk 151 [(ep vh 10 i 0), vi line, vi id, (Gh.dec (γ := Value) (ρ 23))] :: row 49 (Gh.dec (γ := Value) (ρ 23)) (ms ++ [(⟨11, id, m.src, line, m.serial, 0, 0, false⟩ : Msg)]) :: foc 80 vh xs i [vi e.value, vi e.owner, vi e.sharers, vi e.phase, vi e.who, vi e.serial, .bool e.alone, vi e.turn, vi e.need, u] :: row 3 u (e.last.set m.src.toNat m.serial) :: blk bm 49 m.cells :: (LX)) ?_
    generalize (Gh.dec (γ := Value) (ρ 22)) = v96
    generalize (Gh.dec (γ := Value) (ρ 23)) = v97
    have er : Ag e id m = ({ e with last := (e.last.set m.src.toNat m.serial) }, [(⟨11, id, m.src, line, m.serial, 0, 0, false⟩ : Msg)]) := by unfold Ag; rw [if_neg (by omega), if_pos (by omega), if_neg ht11]; rw [hline]; unfold Fl; rw [if_pos (by unfold Dt; omega), if_neg ht57]
    rw [er]
    refine Bf (.inl rfl) (fun B w hs => Im rfl _ w) (fun w hs => ⟨v97, rfl, Ai hs⟩)
  ·intro ht29
   refine Gl ?_
   refine Zde ?_;intro hwf
   refine cq_ (blk bk 151 [(ep vh 10 i 0), vi line, vi id, vo] :: row 49 vo ms :: foc 80 vh xs i [vi e.value, vi e.owner, vi e.sharers, vi e.phase, vi e.who, vi e.serial, .bool e.alone, vi e.turn, vi e.need, u] :: row 3 u e.last :: blk bm 49 m.cells :: LX) ?_
   refine jd_ (fun ρ S => blk bk 151 (bif S 26 then [(ep vh 10 i 0), vi line, vi id, (Gh.dec (γ := Value) (ρ 23))] else [(ep vh 10 i 0), vi line, vi id, vo]) :: (bif S 23 then row 49 (Gh.dec (γ := Value) (ρ 23)) (ms ++ [(⟨11, id, m.src, line, m.serial, 0, 0, false⟩ : Msg)]) else row 49 vo ms) :: foc 80 vh xs i [vi e.value, vi e.owner, vi e.sharers, vi e.phase, vi e.who, vi e.serial, .bool e.alone, vi e.turn, vi e.need, u] :: row 3 u e.last :: blk bm 49 m.cells :: (LX)) ?_
   refine dn4 ?_
   refine Ig (v := vo) (fun ρ S hS hB hA => by have h26 : S 26 = false := hA 26 ⟨0, rfl⟩; simp only [h26, cond_false]; exact C3 (hc := A0 pkk (by repeat (first | exact rfl | refine Dd rfl ?_))) Try.isAgg86) (fun _ _ _ _ _ => rfl) ?_
   refine dn3 ?_
   refine Ig (v := vi id) (fun ρ S hS hB hA => by have h26 : S 26 = false := hA 26 ⟨0, rfl⟩; simp only [h26, cond_false]; exact C3 (hc := A0 pkk (by repeat (first | exact rfl | refine Dd rfl ?_))) Try.isAgg3) (fun _ _ _ _ _ => rfl) ?_
   refine dn7 ?_
   refine Ig (v := vi line) (fun ρ S hS hB hA => by have h26 : S 26 = false := hA 26 ⟨0, rfl⟩; simp only [h26, cond_false]; exact C3 (hc := A0 pkk (by repeat (first | exact rfl | refine Dd rfl ?_))) Try.isAgg3) (fun _ _ _ _ _ => rfl) ?_
   refine dn4 ?_
   first | refine epc (fun _ _ => Eo Ec) ?_ | refine epc (fun _ _ => Fn Ec) ?_ | refine epp (fun _ _ => Eo Ec) ?_ | refine epp (fun _ _ => Fn Ec) ?_
   refine ZcN ?_
   refine F9 (e := 49) (xs := ms) (ys := [(⟨11, id, m.src, line, m.serial, 0, 0, false⟩ : Msg)]) (v := vo) Fy (fun _ => rfl) (fun _ => rfl) rfl (by decide) (fun ρ R hd => (hd.dep (it := ⟨22, _, _, _, _⟩) (by repeat (first | exact List.Mem.head _ | refine List.Mem.tail _ ?_)) ⟨9, rfl⟩ (List.Mem.head _))) (by have : maxN = 16777216 := rfl; simp only [List.length_cons, List.length_nil]; omega) (fun ρ g S hS hB hA => ?_) ?_
   ·exact ZeK
   refine dn2 ?_
   refine Eu (T0 := 151) (f := 3) (vs := fun ρ => [(ep vh 10 i 0), vi line, vi id, vo]) (v := fun ρ => (Gh.dec (γ := Value) (ρ 23))) (fun ρ => bk) Try.sizeOf86 (fun _ => rfl) (fun _ => rfl) (fun ρ S R w L9 hB hd hs => by have h23 : S 23 = true := hB 23 ⟨9, rfl⟩; simp only [h23, cond_true] at hs; exact Cn pkk hs) (fun _ => rfl) (fun ρ g S hS hB hA => ?_) ?_
   ·exact ZeS
   refine dnl ?_; intro ρ
   refine xq_ (blk bk 151 [(ep vh 10 i 0), vi line, vi id, (Gh.dec (γ := Value) (ρ 23))] :: row 49 (Gh.dec (γ := Value) (ρ 23)) (ms ++ [(⟨11, id, m.src, line, m.serial, 0, 0, false⟩ : Msg)]) :: foc 80 vh xs i [vi e.value, vi e.owner, vi e.sharers, vi e.phase, vi e.who, vi e.serial, .bool e.alone, vi e.turn, vi e.need, u] :: row 3 u e.last :: blk bm 49 m.cells :: (LX)) ?_
   generalize (Gh.dec (γ := Value) (ρ 22)) = v96
   generalize (Gh.dec (γ := Value) (ρ 23)) = v97
   have er : Ag e id m = (e, [(⟨11, id, m.src, line, m.serial, 0, 0, false⟩ : Msg)]) := by unfold Ag; rw [if_neg (by omega), if_pos (by omega), if_neg ht11]; rw [hline]; unfold Fl; rw [if_neg (by unfold Dt; omega)]
   rw [er]
   refine Bf (.inl rfl) (fun B w hs => Im rfl _ w) (fun w hs => ⟨v97, rfl, Ai hs⟩)
theorem Eh {e : Entry} {id : Int} {m : Msg} (he : EB e) (hm : m.wf) (hs : 0 ≤ m.src ∧ m.src < 4) : EB (Ag e id m).1 := by
 have h0 := he
 unfold EB Entry.wf An at h0
 have hm0 := hm
 unfold Msg.wf An at hm0
 have b1 := Cr h0.2.1.1 h0.2.1.2 hs.1 hs.2
 have b2 := Cr h0.2.2.1.1 h0.2.2.1.2 hs.1 hs.2
 unfold Ag
 split
 ·split
  ·exact he
  ·refine Di ?_
   exact Zfz
 split
 ·split
  ·exact he
  ·show EB (Fl e m)
   unfold Fl
   split
   ·split
    ·exact Zfz
    ·exact he
   ·exact he
 split
 ·rename_i k3
  have hs4 : 0 ≤ (if e.alone = true then e.sharers else Hr e.sharers e.owner) ∧ (if e.alone = true then e.sharers else Hr e.sharers e.owner) < 16 := by
   split
   ·omega
   ·obtain ⟨_, _, r, _⟩ := Cr h0.2.1.1 h0.2.1.2 (show 0 ≤ e.owner by omega) h0.2.2.2.2.1.2; exact r
  refine Di ?_
  exact ZfQ
 have hg : EB (Cc e m) := by
  have c1 := b1.2.2.2; have c2 := b2.2.2.2
  unfold Cc EB Entry.wf An; simp only; omega
 split
 ·split
  ·exact Di hg
  ·exact hg
 split
 ·show EB (Df e)
  unfold Df
  split
  ·exact Zfz
  ·obtain ⟨_, _, r, _⟩ := Cr h0.2.1.1 h0.2.1.2 h0.2.2.2.1.1 h0.2.2.2.1.2
   exact Zfz
 ·exact he
theorem T5 (e : Entry) (i id : Int) : (D4 e i id).length ≤ 4 := by
 unfold D4; split
 ·simp
 split
 ·rw [List.length_map]; exact Nat.le_trans (List.length_filter_le ..) (by simp)
 split <;> simp
theorem Ln (id : Int) : ∀ (l : List Entry) (i : Int), (Cm id i l).length ≤ 4 * l.length
 | [], _ => by simp [Cm]
 | e :: l, i => by
  have := Ln id l (i + 1)
  have := T5 e i id
  simp only [Cm, List.length_append, List.length_cons]; omega
theorem We {v0 : Value} {l : List Entry} {id : Int} {m : Msg} (hs : St (L) R w) (h0 : sl v0 l ∈ R) (hb : ∀ i, i < l.length → EB (l.getD i A1)) (hla : ∀ i, i < l.length → (l.getD i A1).last.length ≤ 4) (hm : m.wf) (hid : An id) (hk : ¬ (0 ≤ m.line ∧ m.line < (l.length : Int) ∧ 0 ≤ m.src ∧ m.src < ((Ad l m.line).last.length : Int))) : Calls Try.prog 76 [v0, vi id, .agg m.cells.toArray].toArray w (Bw (fun v : Value × Value => .tuple #[v.1, v.2]) (fun v => L) (fun v => sl v.1 (Al l id m).1 :: sl v.2 (Al l id m).2 :: R)) := by
 refine ZaL ?_;intro hlen hm0 hid0
 clear hs
 refine ZaH ?_;intro b5 g13
 rcases (show (m.line < 0) ∨ (¬ m.line < 0 ∧ (l.length : Int) ≤ m.line) ∨ (¬ m.line < 0 ∧ m.line < (l.length : Int) ∧ m.src < 0) ∨ (¬ m.line < 0 ∧ m.line < (l.length : Int) ∧ 0 ≤ m.src ∧ ((Ad l m.line).last.length : Int) ≤ m.src) from by omega) with hc | hc | hc | hc
 ·refine JC.conseq (L' := blk b5 49 m.cells :: L) (R' := sl g13.1 l :: R) (fun w hs => by
   have h1 : g13.2.map EV.e = l := Hh (.head _) hs
   have h2 := Nn hs
   rw [h1] at h2
   exact h2.sub .refl (fun f hf => by
    rcases List.mem_cons.1 hf with e | e
    ·
     exact List.mem_cons.2 (.inl e)
    ·
     exact List.mem_cons.2 (.inr (.tail _ e)))) ?_
  refine Zal ?_
  refine djc (fun _ _ => Am rfl rfl (Nx (by omega))) ?_
  refine djm ?_
  refine dn5 ?_
  refine ZO ?_
  refine Zcp ?_;intro ρ
  refine Zcv ?_;intro er
  exact Ci (g13.1, .slice none 0 0) (hs := fun w hs => Ai (St.shut (hs.rowNil 49 Msg)))
 ·refine JC.conseq (L' := blk b5 49 m.cells :: L) (R' := sl g13.1 l :: R) (fun w hs => by
   have h1 : g13.2.map EV.e = l := Hh (.head _) hs
   have h2 := Nn hs
   rw [h1] at h2
   exact h2.sub .refl (fun f hf => by
    rcases List.mem_cons.1 hf with e | e
    ·
     exact List.mem_cons.2 (.inl e)
    ·
     exact List.mem_cons.2 (.inr (.tail _ e)))) ?_
  refine Zbn ?_
  refine dn4 ?_
  refine dj (dgy ?_)
  refine ZbK ?_
  refine Zcp ?_;intro ρ
  refine Zcv ?_;intro er
  exact Ci (g13.1, .slice none 0 0) (hs := fun w hs => Ai (St.shut (hs.rowNil 49 Msg)))
 ·refine JC.conseq (L' := blk b5 49 m.cells :: L) (R' := sl g13.1 l :: R) (fun w hs => by
   have h1 : g13.2.map EV.e = l := Hh (.head _) hs
   have h2 := Nn hs
   rw [h1] at h2
   exact h2.sub .refl (fun f hf => by
    rcases List.mem_cons.1 hf with e | e
    ·
     exact List.mem_cons.2 (.inl e)
    ·
     exact List.mem_cons.2 (.inr (.tail _ e)))) ?_
  refine Zbn ?_
  refine dn4 ?_
  refine dj (dgy ?_)
  refine ZV ?_
  refine dj (dgy ?_)
  refine dc (fun _ _ => Am rfl rfl (Nx (by omega))) ?_
  refine Zae ?_
  refine Afo ?_
  refine ZO ?_
  refine dnl ?_; intro ρ
  refine Zcv ?_;intro er
  exact Ci (g13.1, .slice none 0 0) (hs := fun w hs => Ai (St.shut (hs.rowNil 49 Msg)))
 ·refine JC.conseq (L' := blk b5 49 m.cells :: L) (R' := sl g13.1 l :: R) (fun w hs => by
   have h1 : g13.2.map EV.e = l := Hh (.head _) hs
   have h2 := Nn hs
   rw [h1] at h2
   exact h2.sub .refl (fun f hf => by
    rcases List.mem_cons.1 hf with e | e
    ·
     exact List.mem_cons.2 (.inl e)
    ·
     exact List.mem_cons.2 (.inr (.tail _ e)))) ?_
  refine ZbP ?_;intro hEw u hE hE0 hL hone hlin
  refine dj (dgy ?_)
  refine ZV ?_
  refine dj (dgy ?_)
  refine ZY ?_
  refine dj (dgy ?_)
  refine dc (fun _ _ => Am rfl rfl (I5 (show ((Ad l m.line).last.length : Int) ≤ m.src by omega))) ?_
  refine djf ?_
  refine dnl ?_; intro ρ
  refine Zcv ?_;intro er
  exact Ci (g13.1, .slice none 0 0) (hs := fun w hs => Ai (St.shut (hs.rowNil 49 Msg)))
theorem Wd {v0 : Value} {l : List Entry} {id : Int} {m : Msg} (hs : St (L) R w) (h0 : sl v0 l ∈ R) (hb : ∀ i, i < l.length → EB (l.getD i A1)) (hla : ∀ i, i < l.length → (l.getD i A1).last.length ≤ 4) (hm : m.wf) (hid : An id) (hk : 0 ≤ m.line ∧ m.line < (l.length : Int) ∧ 0 ≤ m.src ∧ m.src < ((Ad l m.line).last.length : Int) ∧ m.kind = 1) : Calls Try.prog 76 [v0, vi id, .agg m.cells.toArray].toArray w (Bw (fun v : Value × Value => .tuple #[v.1, v.2]) (fun v => L) (fun v => sl v.1 (Al l id m).1 :: sl v.2 (Al l id m).2 :: R)) := by
 refine ZaL ?_;intro hlen hm0 hid0
 clear hs
 refine ZaH ?_;intro b5 g13
 refine JC.conseqEx (γ := Value) (L' := fun u => foc 80 g13.1 l m.line.toNat (Entry.cells u (Ad l m.line)) :: row 3 u (Ad l m.line).last :: blk b5 49 m.cells :: L) (R' := fun u => pr (u.oneCell' = true) :: R) (fun w hs => by
  have h1 : g13.2.map EV.e = l := Hh (.head _) hs
  obtain ⟨u, h2, h3, h4⟩ := J3 m.line.toNat h1 (by omega) hs
  exact ⟨u, St.pr h3 (h4.sub .refl (fun f hf => .tail _ hf))⟩) (fun uo => ?_)
 refine Zbg ?_;intro honeo hEw u hE hE0 hL hone hlin
 refine dj (dgy ?_)
 refine ZV ?_
 refine dj (dgy ?_)
 refine ZY ?_
 refine dj (dgy ?_)
 refine ZaV ?_;intro ρ hA honeE b51
 refine Zac ?_
 refine dnl ?_; intro ρ
 refine ZK ?_
 refine Cs ?_
 refine Gd6 ?_
 refine ZdH ?_;intro v69
 refine J.conseq (L' := foc 80 g13.1 l m.line.toNat (Entry.cells uo (Ag (Ad l m.line) id m).1) :: row 3 uo (Ag (Ad l m.line) id m).1.last :: blk b51 151 [ep g13.1 10 m.line.toNat 0, vi m.line, vi id, v69] :: row 49 v69 (Ag (Ad l m.line) id m).2 :: L) (fun w hs => by rw [List.nil_append] at hs; exact Ai hs) ?_
 refine Gl ?_
 refine Zc9 ?_;intro hEB ρ er
 exact Ci (g13.1, v69) (hs := fun w hs => Ai (St.shut (hs.pick pkk)))
theorem Wc {v0 : Value} {l : List Entry} {id : Int} {m : Msg} (hs : St (L) R w) (h0 : sl v0 l ∈ R) (hb : ∀ i, i < l.length → EB (l.getD i A1)) (hla : ∀ i, i < l.length → (l.getD i A1).last.length ≤ 4) (hm : m.wf) (hid : An id) (hk : 0 ≤ m.line ∧ m.line < (l.length : Int) ∧ 0 ≤ m.src ∧ m.src < ((Ad l m.line).last.length : Int) ∧ m.kind = 2) : Calls Try.prog 76 [v0, vi id, .agg m.cells.toArray].toArray w (Bw (fun v : Value × Value => .tuple #[v.1, v.2]) (fun v => L) (fun v => sl v.1 (Al l id m).1 :: sl v.2 (Al l id m).2 :: R)) := by
 refine ZaL ?_;intro hlen hm0 hid0
 clear hs
 refine ZaH ?_;intro b5 g13
 refine JC.conseqEx (γ := Value) (L' := fun u => foc 80 g13.1 l m.line.toNat (Entry.cells u (Ad l m.line)) :: row 3 u (Ad l m.line).last :: blk b5 49 m.cells :: L) (R' := fun u => pr (u.oneCell' = true) :: R) (fun w hs => by
  have h1 : g13.2.map EV.e = l := Hh (.head _) hs
  obtain ⟨u, h2, h3, h4⟩ := J3 m.line.toNat h1 (by omega) hs
  exact ⟨u, St.pr h3 (h4.sub .refl (fun f hf => .tail _ hf))⟩) (fun uo => ?_)
 refine Zbg ?_;intro honeo hEw u hE hE0 hL hone hlin
 refine dj (dgy ?_)
 refine ZV ?_
 refine dj (dgy ?_)
 refine ZY ?_
 refine dj (dgy ?_)
 refine ZaV ?_;intro ρ hA honeE b51
 refine Zac ?_
 refine dnl ?_; intro ρ
 refine ZK ?_
 refine As ?_
 refine ZQ ?_
 refine Cs ?_
 refine Gd2 ?_
 refine ZdH ?_;intro v69
 refine J.conseq (L' := foc 80 g13.1 l m.line.toNat (Entry.cells uo (Ag (Ad l m.line) id m).1) :: row 3 uo (Ag (Ad l m.line) id m).1.last :: blk b51 151 [ep g13.1 10 m.line.toNat 0, vi m.line, vi id, v69] :: row 49 v69 (Ag (Ad l m.line) id m).2 :: L) (fun w hs => by rw [List.nil_append] at hs; exact Ai hs) ?_
 refine Gl ?_
 refine Zc9 ?_;intro hEB ρ er
 exact Ci (g13.1, v69) (hs := fun w hs => Ai (St.shut (hs.pick pkk)))
theorem Wb {v0 : Value} {l : List Entry} {id : Int} {m : Msg} (hs : St (L) R w) (h0 : sl v0 l ∈ R) (hb : ∀ i, i < l.length → EB (l.getD i A1)) (hla : ∀ i, i < l.length → (l.getD i A1).last.length ≤ 4) (hm : m.wf) (hid : An id) (hk : 0 ≤ m.line ∧ m.line < (l.length : Int) ∧ 0 ≤ m.src ∧ m.src < ((Ad l m.line).last.length : Int) ∧ m.kind = 3) : Calls Try.prog 76 [v0, vi id, .agg m.cells.toArray].toArray w (Bw (fun v : Value × Value => .tuple #[v.1, v.2]) (fun v => L) (fun v => sl v.1 (Al l id m).1 :: sl v.2 (Al l id m).2 :: R)) := by
 refine ZaL ?_;intro hlen hm0 hid0
 clear hs
 refine ZaH ?_;intro b5 g13
 refine JC.conseqEx (γ := Value) (L' := fun u => foc 80 g13.1 l m.line.toNat (Entry.cells u (Ad l m.line)) :: row 3 u (Ad l m.line).last :: blk b5 49 m.cells :: L) (R' := fun u => pr (u.oneCell' = true) :: R) (fun w hs => by
  have h1 : g13.2.map EV.e = l := Hh (.head _) hs
  obtain ⟨u, h2, h3, h4⟩ := J3 m.line.toNat h1 (by omega) hs
  exact ⟨u, St.pr h3 (h4.sub .refl (fun f hf => .tail _ hf))⟩) (fun uo => ?_)
 refine Zbg ?_;intro honeo hEw u hE hE0 hL hone hlin
 refine dj (dgy ?_)
 refine ZV ?_
 refine dj (dgy ?_)
 refine ZY ?_
 refine dj (dgy ?_)
 refine ZaV ?_;intro ρ hA honeE b51
 refine Zac ?_
 refine dnl ?_; intro ρ
 refine ZK ?_
 refine As ?_
 refine ZQ ?_
 refine As ?_
 refine Gd2 ?_
 refine rn2 ?_
 refine Zap ?_
 refine kp [5, 6, 7, 8, 9, 10, 11, 74] ?_
 refine ZB ?_
 refine Ao Try.call102 rfl (fun w hs => Ahn (vh := g13.1) (vo := .slice none 0 0) (u := uo) (i := m.line.toNat) (e := (Ad l m.line)) (ms := []) (line := m.line) (id := id) (xs := l) (m := m) (bm := b5) (LX := L) (Ai hs) hA honeo (by simp) hE hm.2.2.2.1 hid hm rfl (by omega) hL (by omega)) ?_; intro v75
 refine J.conseq (L' := foc 80 g13.1 l m.line.toNat (Entry.cells uo (Ag (Ad l m.line) id m).1) :: row 3 uo (Ag (Ad l m.line) id m).1.last :: blk b51 151 [ep g13.1 10 m.line.toNat 0, vi m.line, vi id, v75] :: row 49 v75 (Ag (Ad l m.line) id m).2 :: L) (fun w hs => by rw [List.nil_append] at hs; exact Ai hs) ?_
 refine Gl ?_
 refine Za4 ?_;intro hEB
 refine Za5 ?_;intro ρ er
 exact Ci (g13.1, v75) (hs := fun w hs => Ai (St.shut (hs.pick pkk)))
theorem V8 {v0 : Value} {l : List Entry} {id : Int} {m : Msg} (hs : St (L) R w) (h0 : sl v0 l ∈ R) (hb : ∀ i, i < l.length → EB (l.getD i A1)) (hla : ∀ i, i < l.length → (l.getD i A1).last.length ≤ 4) (hm : m.wf) (hid : An id) (hk : 0 ≤ m.line ∧ m.line < (l.length : Int) ∧ 0 ≤ m.src ∧ m.src < ((Ad l m.line).last.length : Int) ∧ m.kind ≠ 1 ∧ m.kind ≠ 2 ∧ m.kind ≠ 3 ∧ m.kind ≠ 9 ∧ m.kind ≠ 8 ∧ m.kind ≠ 10) : Calls Try.prog 76 [v0, vi id, .agg m.cells.toArray].toArray w (Bw (fun v : Value × Value => .tuple #[v.1, v.2]) (fun v => L) (fun v => sl v.1 (Al l id m).1 :: sl v.2 (Al l id m).2 :: R)) := by
 refine ZaL ?_;intro hlen hm0 hid0
 clear hs
 refine ZaH ?_;intro b5 g13
 refine JC.conseqEx (γ := Value) (L' := fun u => foc 80 g13.1 l m.line.toNat (Entry.cells u (Ad l m.line)) :: row 3 u (Ad l m.line).last :: blk b5 49 m.cells :: L) (R' := fun u => pr (u.oneCell' = true) :: R) (fun w hs => by
  have h1 : g13.2.map EV.e = l := Hh (.head _) hs
  obtain ⟨u, h2, h3, h4⟩ := J3 m.line.toNat h1 (by omega) hs
  exact ⟨u, St.pr h3 (h4.sub .refl (fun f hf => .tail _ hf))⟩) (fun uo => ?_)
 refine Zbg ?_;intro honeo hEw u hE hE0 hL hone hlin
 refine dj (dgy ?_)
 refine ZV ?_
 refine dj (dgy ?_)
 refine ZY ?_
 refine dj (dgy ?_)
 refine ZaV ?_;intro ρ hA honeE b51
 refine Zac ?_
 refine ZbR ?_;intro ρ
 refine ZaE ?_
 refine Zbz ?_;intro eh hEB ρ er
 exact Ci (g13.1, .slice none 0 0) (hs := fun w hs => Ai (St.shut (hs.pick pkk)))
theorem V9 {v0 : Value} {l : List Entry} {id : Int} {m : Msg} (hs : St (L) R w) (h0 : sl v0 l ∈ R) (hb : ∀ i, i < l.length → EB (l.getD i A1)) (hla : ∀ i, i < l.length → (l.getD i A1).last.length ≤ 4) (hm : m.wf) (hid : An id) (hk : 0 ≤ m.line ∧ m.line < (l.length : Int) ∧ 0 ≤ m.src ∧ m.src < ((Ad l m.line).last.length : Int) ∧ m.kind = 9) : Calls Try.prog 76 [v0, vi id, .agg m.cells.toArray].toArray w (Bw (fun v : Value × Value => .tuple #[v.1, v.2]) (fun v => L) (fun v => sl v.1 (Al l id m).1 :: sl v.2 (Al l id m).2 :: R)) := by
 refine ZaL ?_;intro hlen hm0 hid0
 clear hs
 refine ZaH ?_;intro b5 g13
 refine JC.conseqEx (γ := Value) (L' := fun u => foc 80 g13.1 l m.line.toNat (Entry.cells u (Ad l m.line)) :: row 3 u (Ad l m.line).last :: blk b5 49 m.cells :: L) (R' := fun u => pr (u.oneCell' = true) :: R) (fun w hs => by
  have h1 : g13.2.map EV.e = l := Hh (.head _) hs
  obtain ⟨u, h2, h3, h4⟩ := J3 m.line.toNat h1 (by omega) hs
  exact ⟨u, St.pr h3 (h4.sub .refl (fun f hf => .tail _ hf))⟩) (fun uo => ?_)
 refine Zbg ?_;intro honeo hEw u hE hE0 hL hone hlin
 refine dj (dgy ?_)
 refine ZV ?_
 refine dj (dgy ?_)
 refine ZY ?_
 refine dj (dgy ?_)
 refine ZaV ?_;intro ρ hA honeE b51
 rcases (show (m.turn ≠ (Ad l m.line).turn) ∨ (m.turn = (Ad l m.line).turn ∧ (Ad l m.line).phase ≠ 1) ∨ (m.turn = (Ad l m.line).turn ∧ (Ad l m.line).phase = 1 ∧ m.src ≠ (Ad l m.line).owner) ∨ (m.turn = (Ad l m.line).turn ∧ (Ad l m.line).phase = 1 ∧ m.src = (Ad l m.line).owner) from by omega) with hc | hc | hc | hc
 ·refine Zao ?_
  refine ZaS ?_
  refine ZbY ?_;intro ρ
  refine dn5 ?_
  refine Zae ?_
  refine ZaT ?_;intro ρ
  exact Zgq
 ·refine Zao ?_
  refine Za1 ?_
  refine ZbY ?_;intro ρ
  refine dn4 ?_
  refine dj (dgy ?_)
  refine Za7 ?_
  refine Zav ?_
  refine ZaT ?_;intro ρ
  exact Zgq
 ·refine Zao ?_
  refine Za1 ?_
  refine ZbY ?_;intro ρ
  refine dn4 ?_
  refine dj (dgy ?_)
  refine Zb2 ?_
  refine dj (dgy ?_)
  refine Za7 ?_
  refine ZO ?_
  refine ZP ?_;intro ρ
  refine Glc ?_
  exact Zgq
 ·refine Zao ?_
  refine Za1 ?_
  refine ZbY ?_;intro ρ
  refine dn4 ?_
  refine dj (dgy ?_)
  refine Zb2 ?_
  refine dj (dgy ?_)
  refine Zcg ?_
  refine ZP ?_;intro ρ
  refine Gmc ?_
  refine rn5 ?_
  refine ZbO ?_
  refine Bk (b := ?b1) ?e1 ?_ ?_; case e1 => exact rfl
  ·intro ht108
   refine kp [5, 6, 7, 8, 9, 10, 11, 109, 110, 111, 112, 113, 114, 115, 116, 117, 118, 119, 120] ?_
   refine Zac ?_
   refine djc (fun _ _ => F1 (a := 1) (b := (Ad l m.line).owner) (Si (by omega) (by omega))) ?_
   refine djc (fun _ _ => F1 (a := (Ad l m.line).sharers) (b := ((2 ^ (Ad l m.line).owner.toNat : Nat) : Int)) (b_orB (by omega) (by omega) (by omega) (by omega))) ?_
   refine dn2 ?_
   refine dtl ?_; intro ρ
   refine sc ?_
   refine Zaj ?_
   refine sc ?_
   refine ZJ ?_
   have hX : EB ({ (Ad l m.line) with value := m.value, sharers := (Hr (Ad l m.line).sharers (Ad l m.line).owner), owner := -1 }) := by obtain ⟨_, _, r9, _⟩ := Cr hE0.2.1.1 hE0.2.1.2 (show 0 ≤ (Ad l m.line).owner by omega) hE0.2.2.2.2.1.2; unfold EB Entry.wf An; simp only; omega
   have eh : (Ag (Ad l m.line) id m) = (A9 ({ (Ad l m.line) with value := m.value, sharers := (Hr (Ad l m.line).sharers (Ad l m.line).owner), owner := -1 }), D4 (A9 ({ (Ad l m.line) with value := m.value, sharers := (Hr (Ad l m.line).sharers (Ad l m.line).owner), owner := -1 })) m.line id) := by
    have hal : (Ad l m.line).alone = false := by simpa using ht108
    unfold Ag
    rw [if_neg (by omega), if_neg (by omega), if_pos (by omega)]
    unfold Ge
    rw [if_neg (by rw [hal]; decide)]
   refine Ao Try.call103 rfl (fun w hs => L8 (vh := g13.1) (vo := .slice none 0 0) (u := uo) (i := m.line.toNat) (e := { (Ad l m.line) with value := m.value, sharers := (Hr (Ad l m.line).sharers (Ad l m.line).owner), owner := -1 }) (ms := []) (line := m.line) (id := id) (xs := l) (LX := row 3 uo (Ad l m.line).last :: blk b5 49 m.cells :: L) (Ai hs) hA honeo (by simp) hX hm.2.2.2.1 hid) ?_; intro v125
   refine J.conseq (L' := foc 80 g13.1 l m.line.toNat (Entry.cells uo (Ag (Ad l m.line) id m).1) :: row 3 uo (Ag (Ad l m.line) id m).1.last :: blk b51 151 [ep g13.1 10 m.line.toNat 0, vi m.line, vi id, v125] :: row 49 v125 (Ag (Ad l m.line) id m).2 :: L) (fun w hs => by rw [List.nil_append] at hs; rw [eh, D8]; exact Ai hs) ?_
   refine Gl ?_
   refine Za4 ?_;intro hEB
   refine Za5 ?_;intro ρ er
   exact Ci (g13.1, v125) (hs := fun w hs => Ai (St.shut (hs.pick pkk)))
  ·intro ht108
   refine Gl ?_
   refine kp [5, 6, 7, 8, 9, 10, 11, 121, 122, 123] ?_
   refine ZI ?_
   refine sc ?_
   refine ZJ ?_
   refine ZcX ?_;intro hX
   have eh : (Ag (Ad l m.line) id m) = (A9 ({ (Ad l m.line) with value := m.value, sharers := (Ad l m.line).sharers, owner := -1 }), D4 (A9 ({ (Ad l m.line) with value := m.value, sharers := (Ad l m.line).sharers, owner := -1 })) m.line id) := by
    have hal : (Ad l m.line).alone = true := by simpa using ht108
    unfold Ag
    rw [if_neg (by omega), if_neg (by omega), if_pos (by omega)]
    unfold Ge
    rw [if_pos hal]
   refine Ao Try.call103 rfl (fun w hs => L8 (vh := g13.1) (vo := .slice none 0 0) (u := uo) (i := m.line.toNat) (e := { (Ad l m.line) with value := m.value, sharers := (Ad l m.line).sharers, owner := -1 }) (ms := []) (line := m.line) (id := id) (xs := l) (LX := row 3 uo (Ad l m.line).last :: blk b5 49 m.cells :: L) (Ai hs) hA honeo (by simp) hX hm.2.2.2.1 hid) ?_; intro v125
   refine J.conseq (L' := foc 80 g13.1 l m.line.toNat (Entry.cells uo (Ag (Ad l m.line) id m).1) :: row 3 uo (Ag (Ad l m.line) id m).1.last :: blk b51 151 [ep g13.1 10 m.line.toNat 0, vi m.line, vi id, v125] :: row 49 v125 (Ag (Ad l m.line) id m).2 :: L) (fun w hs => by rw [List.nil_append] at hs; rw [eh, D8]; exact Ai hs) ?_
   refine Gl ?_
   refine Za4 ?_;intro hEB
   refine Za5 ?_;intro ρ er
   exact Ci (g13.1, v125) (hs := fun w hs => Ai (St.shut (hs.pick pkk)))
theorem Wa {v0 : Value} {l : List Entry} {id : Int} {m : Msg} (hs : St (L) R w) (h0 : sl v0 l ∈ R) (hb : ∀ i, i < l.length → EB (l.getD i A1)) (hla : ∀ i, i < l.length → (l.getD i A1).last.length ≤ 4) (hm : m.wf) (hid : An id) (hk : 0 ≤ m.line ∧ m.line < (l.length : Int) ∧ 0 ≤ m.src ∧ m.src < ((Ad l m.line).last.length : Int) ∧ m.kind = 8) : Calls Try.prog 76 [v0, vi id, .agg m.cells.toArray].toArray w (Bw (fun v : Value × Value => .tuple #[v.1, v.2]) (fun v => L) (fun v => sl v.1 (Al l id m).1 :: sl v.2 (Al l id m).2 :: R)) := by
 refine ZaL ?_;intro hlen hm0 hid0
 clear hs
 refine ZaH ?_;intro b5 g13
 refine JC.conseqEx (γ := Value) (L' := fun u => foc 80 g13.1 l m.line.toNat (Entry.cells u (Ad l m.line)) :: row 3 u (Ad l m.line).last :: blk b5 49 m.cells :: L) (R' := fun u => pr (u.oneCell' = true) :: R) (fun w hs => by
  have h1 : g13.2.map EV.e = l := Hh (.head _) hs
  obtain ⟨u, h2, h3, h4⟩ := J3 m.line.toNat h1 (by omega) hs
  exact ⟨u, St.pr h3 (h4.sub .refl (fun f hf => .tail _ hf))⟩) (fun uo => ?_)
 refine Zbg ?_;intro honeo hEw u hE hE0 hL hone hlin
 refine dj (dgy ?_)
 refine ZV ?_
 refine dj (dgy ?_)
 refine ZY ?_
 refine dj (dgy ?_)
 refine ZaV ?_;intro ρ hA honeE b51
 rcases (show (m.turn ≠ (Ad l m.line).turn) ∨ (m.turn = (Ad l m.line).turn ∧ (Ad l m.line).phase ≠ 2) ∨ (m.turn = (Ad l m.line).turn ∧ (Ad l m.line).phase = 2 ∧ Lx (Ad l m.line).need m.src = false) ∨ (m.turn = (Ad l m.line).turn ∧ (Ad l m.line).phase = 2 ∧ Lx (Ad l m.line).need m.src = true) from by rcases Bool.eq_false_or_eq_true (Lx (Ad l m.line).need m.src) with h1 | h1 <;> simp only [h1, and_true, and_false, or_false, false_or, reduceCtorEq] <;> omega) with hc | hc | hc | hc
 ·refine Zao ?_
  refine ZaS ?_
  refine djc (fun _ _ => Dv) ?_
  refine ZbR ?_;intro ρ
  refine ZaY ?_
  refine Zav ?_
  refine dn5 ?_
  refine Zae ?_
  exact Zf5
 ·refine Zby ?_;intro ρ
  refine ZaY ?_
  refine Zav ?_
  refine dn4 ?_
  refine dj (dgy ?_)
  refine Za7 ?_
  refine Zav ?_
  exact Zf5
 ·refine Zby ?_;intro ρ
  refine ZaY ?_
  refine Zav ?_
  refine dn4 ?_
  refine dj (dgy ?_)
  refine Zb2 ?_
  refine dj (dgy ?_)
  refine dc (fun _ _ => F1 (a := (Ad l m.line).need) (b := m.src) (Z0 (by omega) (by omega) (by omega) (by omega))) ?_
  refine dj (dgy ?_)
  refine Zef ?_
  refine dj (dgy ?_)
  refine dc (fun _ _ => Am rfl rfl (Bs (by rw [if_neg (by rw [hc.2.2]; decide)]; decide))) ?_
  refine ZO ?_
  refine ZP ?_;intro ρ
  refine Zc5 ?_
  refine ZaE ?_
  refine ZaT ?_;intro ρ
  have eh : (Ag (Ad l m.line) id m) = ((Ad l m.line), []) := by unfold Ag; rw [if_neg (by omega), if_neg (by omega), if_neg (by omega), if_neg (fun h => by have h4 := h.2.2.2; rw [hc.2.2] at h4; cases h4), if_neg (by omega)]
  exact Zf6
 ·have hhas := hc.2.2
  refine Zby ?_;intro ρ
  refine ZaY ?_
  refine Zav ?_
  refine dn4 ?_
  refine dj (dgy ?_)
  refine Zb2 ?_
  refine dj (dgy ?_)
  refine dc (fun _ _ => F1 (a := (Ad l m.line).need) (b := m.src) (Z0 (by omega) (by omega) (by omega) (by omega))) ?_
  refine dj (dgy ?_)
  refine Zef ?_
  refine dj (dgy ?_)
  refine dc (fun _ _ => Am rfl rfl (Bh (by rw [if_pos hc.2.2]))) ?_
  refine ZO ?_
  refine ZP ?_;intro ρ
  refine Glc ?_
  refine kp [5, 6, 7, 8, 9, 10, 11, 151, 152, 153, 154, 155, 156, 157, 158, 159, 160] ?_
  refine Zao ?_
  refine djc (fun _ _ => F1 (a := 1) (b := m.src) (Si (by omega) (by omega))) ?_
  refine djc (fun _ _ => F1 (a := (Ad l m.line).need) (b := ((2 ^ m.src.toNat : Nat) : Int)) (Ny (by omega) (by omega) (by omega) (by omega))) ?_
  refine dn2 ?_
  refine dtl ?_; intro ρ
  refine sc ?_
  refine Gl ?_
  refine Zao ?_
  refine djc (fun _ _ => F1 (a := 1) (b := m.src) (Si (by omega) (by omega))) ?_
  refine djc (fun _ _ => F1 (a := (Ad l m.line).sharers) (b := ((2 ^ m.src.toNat : Nat) : Int)) (Ny (by omega) (by omega) (by omega) (by omega))) ?_
  refine dn2 ?_
  refine dtl ?_; intro ρ
  refine ZbO ?_
  refine cdy ?_ ?_
  ·intro ht175
   refine ZB ?_
   have hX : EB ((Cc (Ad l m.line) m)) := by have c1 := (Cr hE0.2.1.1 hE0.2.1.2 (show 0 ≤ m.src by omega) (show m.src < 4 by omega)).2.2.2; have c2 := (Cr hE0.2.2.1.1 hE0.2.2.1.2 (show 0 ≤ m.src by omega) (show m.src < 4 by omega)).2.2.2; unfold Cc EB Entry.wf An; simp only; omega
   have eh : (Ag (Ad l m.line) id m) = (A9 ((Cc (Ad l m.line) m)), D4 (A9 ((Cc (Ad l m.line) m))) m.line id) := by
    unfold Ag
    rw [if_neg (by omega), if_neg (by omega), if_neg (by omega), if_pos ⟨by omega, by omega, by omega, hhas⟩, if_pos (by unfold Cc; simp only; omega)]
   refine Ao Try.call103 rfl (fun w hs => L8 (vh := g13.1) (vo := .slice none 0 0) (u := uo) (i := m.line.toNat) (e := (Cc (Ad l m.line) m)) (ms := []) (line := m.line) (id := id) (xs := l) (LX := row 3 uo (Ad l m.line).last :: blk b5 49 m.cells :: L) (Ai hs) hA honeo (by simp) hX hm.2.2.2.1 hid) ?_; intro v177
   refine J.conseq (L' := foc 80 g13.1 l m.line.toNat (Entry.cells uo (Ag (Ad l m.line) id m).1) :: row 3 uo (Ag (Ad l m.line) id m).1.last :: blk b51 151 [ep g13.1 10 m.line.toNat 0, vi m.line, vi id, v177] :: row 49 v177 (Ag (Ad l m.line) id m).2 :: L) (fun w hs => by rw [List.nil_append] at hs; rw [eh, D8]; exact Ai hs) ?_
   refine Gl ?_
   refine Za4 ?_;intro hEB
   refine Za5 ?_;intro ρ er
   exact Ci (g13.1, v177) (hs := fun w hs => Ai (St.shut (hs.pick pkk)))
  ·intro ht175
   refine Gl ?_
   have eh : (Ag (Ad l m.line) id m) = ((Cc (Ad l m.line) m), []) := by
    unfold Ag
    rw [if_neg (by omega), if_neg (by omega), if_neg (by omega), if_pos ⟨by omega, by omega, by omega, hhas⟩, if_neg (by unfold Cc; simp only; omega)]
   exact Zf6
theorem Td {v0 : Value} {l : List Entry} {id : Int} {m : Msg} (hs : St (L) R w) (h0 : sl v0 l ∈ R) (hb : ∀ i, i < l.length → EB (l.getD i A1)) (hla : ∀ i, i < l.length → (l.getD i A1).last.length ≤ 4) (hm : m.wf) (hid : An id) (hk : 0 ≤ m.line ∧ m.line < (l.length : Int) ∧ 0 ≤ m.src ∧ m.src < ((Ad l m.line).last.length : Int) ∧ m.kind = 10) : Calls Try.prog 76 [v0, vi id, .agg m.cells.toArray].toArray w (Bw (fun v : Value × Value => .tuple #[v.1, v.2]) (fun v => L) (fun v => sl v.1 (Al l id m).1 :: sl v.2 (Al l id m).2 :: R)) := by
 refine ZaL ?_;intro hlen hm0 hid0
 clear hs
 refine ZaH ?_;intro b5 g13
 refine JC.conseqEx (γ := Value) (L' := fun u => foc 80 g13.1 l m.line.toNat (Entry.cells u (Ad l m.line)) :: row 3 u (Ad l m.line).last :: blk b5 49 m.cells :: L) (R' := fun u => pr (u.oneCell' = true) :: R) (fun w hs => by
  have h1 : g13.2.map EV.e = l := Hh (.head _) hs
  obtain ⟨u, h2, h3, h4⟩ := J3 m.line.toNat h1 (by omega) hs
  exact ⟨u, St.pr h3 (h4.sub .refl (fun f hf => .tail _ hf))⟩) (fun uo => ?_)
 refine Zbg ?_;intro honeo hEw u hE hE0 hL hone hlin
 refine dj (dgy ?_)
 refine ZV ?_
 refine dj (dgy ?_)
 refine ZY ?_
 refine dj (dgy ?_)
 refine ZaV ?_;intro ρ hA honeE b51
 rcases (show (m.turn ≠ (Ad l m.line).turn) ∨ (m.turn = (Ad l m.line).turn ∧ (Ad l m.line).phase ≠ 3) ∨ (m.turn = (Ad l m.line).turn ∧ (Ad l m.line).phase = 3 ∧ m.src ≠ (Ad l m.line).who) ∨ (m.turn = (Ad l m.line).turn ∧ (Ad l m.line).phase = 3 ∧ m.src = (Ad l m.line).who) from by omega) with hc | hc | hc | hc
 ·refine Zao ?_
  refine ZaS ?_
  refine djc (fun _ _ => Dv) ?_
  refine ZbR ?_;intro ρ
  refine ZbX ?_;intro ρ
  refine dn5 ?_
  refine Zae ?_
  refine ZaT ?_;intro ρ
  exact Zgh
 ·refine Zby ?_;intro ρ
  refine ZbX ?_;intro ρ
  refine dn4 ?_
  refine dj (dgy ?_)
  refine Za7 ?_
  refine Zav ?_
  refine ZaT ?_;intro ρ
  exact Zgh
 ·refine Zby ?_;intro ρ
  refine ZbX ?_;intro ρ
  refine dn4 ?_
  refine dj (dgy ?_)
  refine Zb2 ?_
  refine dj (dgy ?_)
  refine Za7 ?_
  refine ZO ?_
  refine ZP ?_;intro ρ
  refine Glc ?_
  exact Zgh
 ·refine Zby ?_;intro ρ
  refine ZbX ?_;intro ρ
  refine dn4 ?_
  refine dj (dgy ?_)
  refine Zb2 ?_
  refine dj (dgy ?_)
  refine Zcg ?_
  refine ZP ?_;intro ρ
  refine Glc ?_
  refine Zac ?_
  refine djc (fun _ _ => F1 (a := 1) (b := (Ad l m.line).who) (Si (by omega) (by omega))) ?_
  refine djc (fun _ _ => F1 (a := (Ad l m.line).sharers) (b := ((2 ^ (Ad l m.line).who.toNat : Nat) : Int)) (b_orB (by omega) (by omega) (by omega) (by omega))) ?_
  refine dn2 ?_
  refine dtl ?_; intro ρ
  refine sc ?_
  refine Gl ?_
  refine kp [6, 7, 8, 9, 10, 213, 214, 215, 216] ?_
  refine Aa ?_
  refine Ga4 ?_
  refine Bk (b := ?b1) ?e1 ?_ ?_; case e1 => exact rfl
  ·intro ht216
   refine Aa ?_
   refine rn8 ?_
   refine sc ?_
   refine Zak ?_
   refine Gm ?_
   refine rn6 ?_
   refine sc ?_
   refine Zak ?_
   refine Zak ?_
   refine Zak ?_
   refine Gl ?_
   have eh : (Ag (Ad l m.line) id m) = ({ (Ad l m.line) with owner := (Ad l m.line).who, sharers := 0, phase := 0, who := 0, serial := 0, alone := false }, []) := by
    unfold Ag
    rw [if_neg (by omega), if_neg (by omega), if_neg (by omega), if_neg (by omega), if_pos (by omega)]
    unfold Df
    rw [if_pos ht216]
   refine ZbB ?_
   refine Zc9 ?_;intro hEB ρ er
   exact Ze7
  ·intro ht216
   refine Gm ?_
   refine rn6 ?_
   refine sc ?_
   refine Zak ?_
   refine Zak ?_
   refine Zak ?_
   refine Gl ?_
   have eh : (Ag (Ad l m.line) id m) = ({ (Ad l m.line) with sharers := Hr (Ad l m.line).sharers (Ad l m.line).who, phase := 0, who := 0, serial := 0, alone := false }, []) := by
    unfold Ag
    rw [if_neg (by omega), if_neg (by omega), if_neg (by omega), if_neg (by omega), if_pos (by omega)]
    unfold Df
    rw [if_neg (by rw [ht216]; decide)]
   exact Zf6
theorem Rn {v0 : Value} {l : List Entry} {id : Int} {m : Msg} (hs : St (L) R w) (h0 : sl v0 l ∈ R) (hb : ∀ i, i < l.length → EB (l.getD i A1)) (hla : ∀ i, i < l.length → (l.getD i A1).last.length ≤ 4) (hm : m.wf) (hid : An id) : Calls Try.prog 76 [v0, vi id, .agg m.cells.toArray].toArray w (Bw (fun v : Value × Value => .tuple #[v.1, v.2]) (fun v => L) (fun v => sl v.1 (Al l id m).1 :: sl v.2 (Al l id m).2 :: R)) := by
 by_cases h : 0 ≤ m.line ∧ m.line < (l.length : Int) ∧ 0 ≤ m.src ∧ m.src < ((Ad l m.line).last.length : Int)
 ·by_cases h1 : m.kind = 1
  ·exact Wd hs h0 hb hla hm hid (by omega)
  by_cases h2 : m.kind = 2
  ·exact Wc hs h0 hb hla hm hid (by omega)
  by_cases h3 : m.kind = 3
  ·exact Wb hs h0 hb hla hm hid (by omega)
  by_cases h9 : m.kind = 9
  ·exact V9 hs h0 hb hla hm hid (by omega)
  by_cases h8 : m.kind = 8
  ·exact Wa hs h0 hb hla hm hid (by omega)
  by_cases h10 : m.kind = 10
  ·exact Td hs h0 hb hla hm hid (by omega)
  exact V8 hs h0 hb hla hm hid (by omega)
 ·exact We hs h0 hb hla hm hid h
theorem V7 {v0 : Value} {l : List Entry} {id : Int} (hs : St (L) R w) (h0 : sl v0 l ∈ R) (hb : ∀ i, i < l.length → EB (l.getD i A1)) (hln : l.length ≤ 100) (hid : An id) : Calls Try.prog 79 [v0, vi id].toArray w (Bw (fun v : Value => v) (fun v => L) (fun v => sl v (Fe l id) :: R)) := by
 have hlen := Bg h0 hs
 refine Aj Try.func79 rfl Try.ntmps79 rfl hs ?_
 clear hs
 refine ZL ?_
 refine Zar ?_
 refine Ao Try.call60 rfl (fun w hs => Uq (l := l) hs mm) ?_; intro v10
 refine ZaA ?_
 refine ZU ?_
 refine Bx (γ := Nat × Value) (fun g => g.1 ≤ l.length) (fun g => row 49 g.2 (Cm id 0 (l.take g.1)) :: L) (fun _ => sl v10 l :: R) (fun g => [(1, vi id), (5, g.2), (6, v10), (12, vi (l.length : Int)), (13, vi (g.1 : Int))]) (fun g => l.length - g.1) (0, .slice none 0 0) (Nat.zero_le _) alT (fun w hs => hs) ?_
 rintro ⟨k, vs⟩ hk
 try simp only at hk ⊢
 have hsl := Ln id (l.take k) 0
 rw [List.length_take] at hsl
 refine ZE ?_
 refine cdy ?_ ?_
 ·intro ht14
  refine ZD ?_
  refine Uf (l := l) (v := v10) k mm (by omega) (fun _ u => ?_)
  refine JC.know (p := EpAll v10 10 k) (fun w hs => ok_c (v := v10) (i := k) (.head _) w hs) (fun hA => ?_)
  have honeE : (ep v10 10 k 0).oneCell' = true := hA.one
  refine Za0 ?_
  refine bx ?_; intro b22
  refine Ga1 ?_
  refine ZU ?_
  refine ZB ?_
  refine Ao Try.call108 rfl (fun w hs => Iy (vh := v10) (vo := .slice none 0 0) (u := u) (i := k) (e := (l.getD k A1)) (ms := []) (line := (k : Int)) (id := id) (LX := row 49 vs (Cm id 0 (l.take k)) :: L) (Ai hs) (Z8 (cs := Entry.cells u (l.getD k A1)) mm) hA (by simp) (hb k (by omega)) (by unfold An; omega) hid) ?_; intro vq
  refine Gl ?_
  refine JC.shut (v := vq) pkk ?_
  have hs4 := T5 (l.getD k A1) (k : Int) id
  refine Zax ?_
  refine ap Fy (hb := fun w hs => by have : maxN = 16777216 := rfl; simp only [List.length_append, List.length_nil]; omega) (k := ?_); intro v30
  refine ZH ?_
  refine Bb (k + 1, v30) (by show k + 1 ≤ l.length; omega) (by show l.length - (k + 1) < l.length - k; omega) alT (fun w hs => ?_)
  try simp only
  rw [G7 A1 (by omega), Hu, List.length_take, Nat.min_eq_left (by omega), Int.zero_add]; exact Ai hs
 ·intro ht14
  refine ZD ?_
  have hkl : k = l.length := by omega
  rw [show Cm id 0 (l.take k) = Fe l id from by rw [hkl, List.take_length]; rfl]
  exact Co vs (hs := fun w hs => Ai (St.shut (hs.pick pkk)))
theorem Q2 {v0 : Value} {l : List Entry} {id : Int} {m : Msg} (hs : St (L) R w) (h0 : sl v0 l ∈ R) (hb : ∀ i, i < l.length → EB (l.getD i A1)) (hla : ∀ i, i < l.length → (l.getD i A1).last.length ≤ 4) (hm : m.wf) (hid : An id) (hk : ¬ (0 ≤ m.line ∧ m.line < (l.length : Int) ∧ 0 ≤ m.src ∧ m.src < ((Ad l m.line).last.length : Int))) : Calls Try.prog 58 [v0, vi id, .agg m.cells.toArray].toArray w (Bw (fun v : Value × Value => .tuple #[v.1, v.2]) (fun v => L) (fun v => sl v.1 (Al l id m).1 :: sl v.2 (Al l id m).2 :: R)) := by
 refine ZaM ?_;intro hlen hm0 hid0
 clear hs
 refine Gm ?_
 refine bx ?_; intro b5
 refine Ga2 ?_
 rcases (show (m.line < 0) ∨ (¬ m.line < 0 ∧ (l.length : Int) ≤ m.line) ∨ (¬ m.line < 0 ∧ m.line < (l.length : Int) ∧ m.src < 0) ∨ (¬ m.line < 0 ∧ m.line < (l.length : Int) ∧ 0 ≤ m.src ∧ ((Ad l m.line).last.length : Int) ≤ m.src) from by omega) with hc | hc | hc | hc
 ·refine Zal ?_
  refine djc (fun _ _ => Am rfl rfl (Nx (by omega))) ?_
  refine djm ?_
  refine dn5 ?_
  refine ZO ?_
  exact Zgp
 ·refine Zbn ?_
  refine dn4 ?_
  refine dj (dgy ?_)
  refine ZbK ?_
  exact Zgp
 ·refine Zbn ?_
  refine dn4 ?_
  refine dj (dgy ?_)
  refine ZV ?_
  refine dj (dgy ?_)
  refine dc (fun _ _ => Am rfl rfl (Nx (by omega))) ?_
  refine Zae ?_
  refine Afo ?_
  refine ZO ?_
  exact Zf8
 ·refine ZbP ?_;intro hEw u hE hE0 hL hone hlin
  refine dj (dgy ?_)
  refine ZV ?_
  refine dj (dgy ?_)
  refine ZY ?_
  refine dj (dgy ?_)
  refine dc (fun _ _ => Am rfl rfl (I5 (show ((Ad l m.line).last.length : Int) ≤ m.src by omega))) ?_
  refine djf ?_
  exact Zf8
theorem Qz {v0 : Value} {l : List Entry} {id : Int} {m : Msg} (hs : St (L) R w) (h0 : sl v0 l ∈ R) (hb : ∀ i, i < l.length → EB (l.getD i A1)) (hla : ∀ i, i < l.length → (l.getD i A1).last.length ≤ 4) (hm : m.wf) (hid : An id) (hk : 0 ≤ m.line ∧ m.line < (l.length : Int) ∧ 0 ≤ m.src ∧ m.src < ((Ad l m.line).last.length : Int) ∧ m.kind = 3) : Calls Try.prog 58 [v0, vi id, .agg m.cells.toArray].toArray w (Bw (fun v : Value × Value => .tuple #[v.1, v.2]) (fun v => L) (fun v => sl v.1 (Al l id m).1 :: sl v.2 (Al l id m).2 :: R)) := by
 refine ZaM ?_;intro hlen hm0 hid0
 clear hs
 refine Zbi ?_;intro b5 hEw u hE hE0 hL hone hlin
 refine dj (dgy ?_)
 refine ZV ?_
 refine dj (dgy ?_)
 refine ZY ?_
 refine dj (dgy ?_)
 refine ZaW ?_;intro ρ b8 v43
 refine ap Ff (hb := fun w hs => by have : maxN = 16777216 := rfl; simp only [List.length_nil]; omega) (k := ?_); intro v46
 refine Za3 ?_
 refine Zan ?_
 refine Gd1 ?_
 refine Ga3 ?_
 refine cdy ?_ ?_
 ·intro ht100
  refine Zad ?_
  have er : Al l id m = (l, []) := C8 (by omega) (by unfold Ag; rw [if_neg (by omega), if_pos (by omega), if_pos ht100])
  rw [er]
  exact Ze1
 ·intro ht100
  refine Gl ?_
  refine Zao ?_
  refine djc (fun _ _ => C3 (hc := D9 (xs := (Ad l m.line).last) pkk (by omega)) Try.isAgg3) ?_
  refine djc (fun _ _ => F1 Sk) ?_
  refine dnl ?_; intro ρ
  refine Gl ?_
  refine cdy ?_ ?_
  ·intro ht109
   refine Gm ?_
   refine rn6 ?_
   refine Ez (xs := (Ad l m.line).last) Try.sizeOf3 rfl rfl pkk (getD_some 0 (by omega)) hm.2.2.2.2.1 ?_
   refine Gl ?_
   refine JC.shut (v := v46) pkk ?_
   refine JC.know (p := v46.oneCell' = true) (fun w hs => isSlice.one (hs.fact (List.Mem.head _))) (fun hone9 => ?_)
   refine kp [0, 1, 5, 6, 7, 8, 9, 48, 116, 117] ?_
   refine ZA ?_
   refine ZbO ?_
   refine cdy ?_ ?_
   ·intro ht122
    refine ZI ?_
    refine Zaq ?_
    refine Gl ?_
    have er : Al l id m = (l.set m.line.toNat ({ (Ad l m.line) with last := ((Ad l m.line).last.set m.src.toNat m.serial), value := m.value, owner := -1 }), [⟨11, id, m.src, m.line, m.serial, 0, 0, false⟩]) := E8 (by omega) (by unfold Ag; rw [if_neg (by omega), if_pos (by omega), if_neg ht100]; unfold Fl; rw [if_pos (by unfold Dt; omega), if_pos ht122])
    refine cq_ (blk b8 80 (Entry.cells v46 ({ (Ad l m.line) with last := ((Ad l m.line).last.set m.src.toNat m.serial), value := m.value, owner := -1 })) :: blk b5 49 m.cells :: L) ?_
    refine jd_ (fun ρ S => blk b8 80 (Entry.cells v46 ({ (Ad l m.line) with last := ((Ad l m.line).last.set m.src.toNat m.serial), value := m.value, owner := -1 })) :: blk b5 49 m.cells :: L) ?_
    refine dn4 ?_
    refine Bt (γ := Value) (val := fun v => v) (F := fun v => [sl v (l.set m.line.toNat ({ (Ad l m.line) with last := ((Ad l m.line).last.set m.src.toNat m.serial), value := m.value, owner := -1 }))]) Try.call87 (fun _ => rfl) (fun ρ L R w hd hs => Cj (e := { (Ad l m.line) with last := ((Ad l m.line).last.set m.src.toNat m.serial), value := m.value, owner := -1 }) (u := v46) hs (hd.base mm) (hd.base mm) (by first | exact hE.1 | (unfold Entry.wf An; simp only; omega)) (by omega)) (fun _ _ _ _ _ => rfl) ?_
    refine ZcH ?_;intro ρ
    refine xq_ (blk b8 80 (Entry.cells v46 ({ (Ad l m.line) with last := ((Ad l m.line).last.set m.src.toNat m.serial), value := m.value, owner := -1 })) :: blk b5 49 m.cells :: L) ?_
    exact Zfa
   ·intro ht122
    refine Gl ?_
    have er : Al l id m = (l.set m.line.toNat ({ (Ad l m.line) with last := ((Ad l m.line).last.set m.src.toNat m.serial) }), [⟨11, id, m.src, m.line, m.serial, 0, 0, false⟩]) := E8 (by omega) (by unfold Ag; rw [if_neg (by omega), if_pos (by omega), if_neg ht100]; unfold Fl; rw [if_pos (by unfold Dt; omega), if_neg ht122])
    refine cq_ (blk b8 80 (Entry.cells v46 ({ (Ad l m.line) with last := ((Ad l m.line).last.set m.src.toNat m.serial) })) :: blk b5 49 m.cells :: L) ?_
    refine jd_ (fun ρ S => blk b8 80 (Entry.cells v46 ({ (Ad l m.line) with last := ((Ad l m.line).last.set m.src.toNat m.serial) })) :: blk b5 49 m.cells :: L) ?_
    refine dn4 ?_
    refine Bt (γ := Value) (val := fun v => v) (F := fun v => [sl v (l.set m.line.toNat ({ (Ad l m.line) with last := ((Ad l m.line).last.set m.src.toNat m.serial) }))]) Try.call87 (fun _ => rfl) (fun ρ L R w hd hs => Cj (e := { (Ad l m.line) with last := ((Ad l m.line).last.set m.src.toNat m.serial) }) (u := v46) hs (hd.base mm) (hd.base mm) (by first | exact hE.1 | (unfold Entry.wf An; simp only; omega)) (by omega)) (fun _ _ _ _ _ => rfl) ?_
    refine ZcH ?_;intro ρ
    refine xq_ (blk b8 80 (Entry.cells v46 ({ (Ad l m.line) with last := ((Ad l m.line).last.set m.src.toNat m.serial) })) :: blk b5 49 m.cells :: L) ?_
    exact Zfa
  ·intro ht109
   refine Gl ?_
   have er : Al l id m = (l.set m.line.toNat ((Ad l m.line)), [⟨11, id, m.src, m.line, m.serial, 0, 0, false⟩]) := E8 (by omega) (by unfold Ag; rw [if_neg (by omega), if_pos (by omega), if_neg ht100]; unfold Fl; rw [if_neg (by unfold Dt; omega)])
   refine cq_ (blk b8 80 (Entry.cells u ((Ad l m.line))) :: blk b5 49 m.cells :: L) ?_
   refine jd_ (fun ρ S => blk b8 80 (Entry.cells u ((Ad l m.line))) :: blk b5 49 m.cells :: L) ?_
   refine dn4 ?_
   refine Bt (γ := Value) (val := fun v => v) (F := fun v => [sl v (l.set m.line.toNat ((Ad l m.line)))]) Try.call87 (fun _ => rfl) (fun ρ L R w hd hs => Cj (e := (Ad l m.line)) (u := u) hs (hd.base mm) (hd.base mm) (by first | exact hE.1 | (unfold Entry.wf An; simp only; omega)) (by omega)) (fun _ _ _ _ _ => rfl) ?_
   refine ZcH ?_;intro ρ
   refine xq_ (blk b8 80 (Entry.cells u ((Ad l m.line))) :: blk b5 49 m.cells :: L) ?_
   exact Zfa
theorem Qw {v0 : Value} {l : List Entry} {id : Int} {m : Msg} (hs : St (L) R w) (h0 : sl v0 l ∈ R) (hb : ∀ i, i < l.length → EB (l.getD i A1)) (hla : ∀ i, i < l.length → (l.getD i A1).last.length ≤ 4) (hm : m.wf) (hid : An id) (hk : 0 ≤ m.line ∧ m.line < (l.length : Int) ∧ 0 ≤ m.src ∧ m.src < ((Ad l m.line).last.length : Int) ∧ m.kind ≠ 1 ∧ m.kind ≠ 2 ∧ m.kind ≠ 3 ∧ m.kind ≠ 9 ∧ m.kind ≠ 8 ∧ m.kind ≠ 10) : Calls Try.prog 58 [v0, vi id, .agg m.cells.toArray].toArray w (Bw (fun v : Value × Value => .tuple #[v.1, v.2]) (fun v => L) (fun v => sl v.1 (Al l id m).1 :: sl v.2 (Al l id m).2 :: R)) := by
 refine ZaM ?_;intro hlen hm0 hid0
 clear hs
 refine Zbi ?_;intro b5 hEw u hE hE0 hL hone hlin
 refine dj (dgy ?_)
 refine ZV ?_
 refine dj (dgy ?_)
 refine ZY ?_
 refine dj (dgy ?_)
 refine ZaW ?_;intro ρ b8 v43
 refine ap Ff (hb := fun w hs => by have : maxN = 16777216 := rfl; simp only [List.length_nil]; omega) (k := ?_); intro v46
 refine Za3 ?_
 refine ZF ?_
 refine ZF ?_
 refine ZF ?_
 refine ZF ?_
 refine ZF ?_
 refine ZF ?_
 refine Zbe ?_;intro er
 exact Ze1
theorem Q1 {v0 : Value} {l : List Entry} {id : Int} {m : Msg} (hs : St (L) R w) (h0 : sl v0 l ∈ R) (hb : ∀ i, i < l.length → EB (l.getD i A1)) (hla : ∀ i, i < l.length → (l.getD i A1).last.length ≤ 4) (hm : m.wf) (hid : An id) (hk : 0 ≤ m.line ∧ m.line < (l.length : Int) ∧ 0 ≤ m.src ∧ m.src < ((Ad l m.line).last.length : Int) ∧ m.kind = 1) : Calls Try.prog 58 [v0, vi id, .agg m.cells.toArray].toArray w (Bw (fun v : Value × Value => .tuple #[v.1, v.2]) (fun v => L) (fun v => sl v.1 (Al l id m).1 :: sl v.2 (Al l id m).2 :: R)) := by
 refine ZaM ?_;intro hlen hm0 hid0
 clear hs
 refine Zbi ?_;intro b5 hEw u hE hE0 hL hone hlin
 refine dj (dgy ?_)
 refine ZV ?_
 refine dj (dgy ?_)
 refine ZY ?_
 refine dj (dgy ?_)
 refine ZaW ?_;intro ρ b8 v43
 refine ap Ff (hb := fun w hs => by have : maxN = 16777216 := rfl; simp only [List.length_nil]; omega) (k := ?_); intro v46
 refine Za3 ?_
 exact Zeu
theorem Q0 {v0 : Value} {l : List Entry} {id : Int} {m : Msg} (hs : St (L) R w) (h0 : sl v0 l ∈ R) (hb : ∀ i, i < l.length → EB (l.getD i A1)) (hla : ∀ i, i < l.length → (l.getD i A1).last.length ≤ 4) (hm : m.wf) (hid : An id) (hk : 0 ≤ m.line ∧ m.line < (l.length : Int) ∧ 0 ≤ m.src ∧ m.src < ((Ad l m.line).last.length : Int) ∧ m.kind = 2) : Calls Try.prog 58 [v0, vi id, .agg m.cells.toArray].toArray w (Bw (fun v : Value × Value => .tuple #[v.1, v.2]) (fun v => L) (fun v => sl v.1 (Al l id m).1 :: sl v.2 (Al l id m).2 :: R)) := by
 refine ZaM ?_;intro hlen hm0 hid0
 clear hs
 refine Zbi ?_;intro b5 hEw u hE hE0 hL hone hlin
 refine dj (dgy ?_)
 refine ZV ?_
 refine dj (dgy ?_)
 refine ZY ?_
 refine dj (dgy ?_)
 refine ZaW ?_;intro ρ b8 v43
 refine ap Ff (hb := fun w hs => by have : maxN = 16777216 := rfl; simp only [List.length_nil]; omega) (k := ?_); intro v46
 refine Za3 ?_
 refine ZF ?_
 exact Zeu
theorem Qx {v0 : Value} {l : List Entry} {id : Int} {m : Msg} (hs : St (L) R w) (h0 : sl v0 l ∈ R) (hb : ∀ i, i < l.length → EB (l.getD i A1)) (hla : ∀ i, i < l.length → (l.getD i A1).last.length ≤ 4) (hm : m.wf) (hid : An id) (hk : 0 ≤ m.line ∧ m.line < (l.length : Int) ∧ 0 ≤ m.src ∧ m.src < ((Ad l m.line).last.length : Int) ∧ m.kind = 9) : Calls Try.prog 58 [v0, vi id, .agg m.cells.toArray].toArray w (Bw (fun v : Value × Value => .tuple #[v.1, v.2]) (fun v => L) (fun v => sl v.1 (Al l id m).1 :: sl v.2 (Al l id m).2 :: R)) := by
 refine ZaM ?_;intro hlen hm0 hid0
 clear hs
 refine Zbi ?_;intro b5 hEw u hE hE0 hL hone hlin
 refine dj (dgy ?_)
 refine ZV ?_
 refine dj (dgy ?_)
 refine ZY ?_
 refine dj (dgy ?_)
 refine ZaW ?_;intro ρ b8 v43
 refine ap Ff (hb := fun w hs => by have : maxN = 16777216 := rfl; simp only [List.length_nil]; omega) (k := ?_); intro v46
 refine Za3 ?_
 refine ZF ?_
 refine Zan ?_
 refine Gd1 ?_
 refine rn4 ?_
 refine jgx (t := 146) (p := ?p1) (hd := ?d1) ?e1 ?_ ?_; case e1 => exact rfl
 ·intro ht146
  refine Gc13 ?_
  exact ZfS
 ·intro ht146
  refine rn7 ?_
  refine jgx (t := 153) (p := ?p2) (hd := ?d2) ?e2 ?_ ?_; case e2 => exact rfl
  ·intro ht153
   refine Gc6 ?_
   exact ZfS
  ·intro ht153
   refine Ga6 ?_
   refine cdy ?_ ?_
   ·intro ht159
    refine Gl ?_
    exact ZfS
   ·intro ht159
    refine Gl ?_
    refine kp [0, 1, 5, 6, 7, 8, 48, 161, 162, 163, 164, 165, 166, 167, 168, 169, 170, 171] ?_
    refine ZC ?_
    refine K8 (t := 164) (b := ?b4) ?e4 ?_ ?_; case e4 => exact rfl
    ·intro ht164
     refine ZN ?_
     generalize hhas : (Ad l m.line).sharers.toNat.testBit (Ad l m.line).owner.toNat = bh
     refine Ao (val := fun _ => .bool bh) Try.call85 rfl (fun w hs => by have h := On (z := (Ad l m.line).sharers.toNat) (k := (Ad l m.line).owner.toNat) hs (by omega) (by omega); rw [Int.toNat_of_nonneg (by omega), Int.toNat_of_nonneg (by omega), hhas] at h; exact h) ?_; intro _
     refine Ga2 ?_
     refine Bk (b := ?b5) ?e5 ?_ ?_; case e5 => exact rfl
     ·intro ht171
      have hp2 : ((2 ^ (Ad l m.line).owner.toNat : Nat) : Int) ≤ 8 := Int.ofNat_le.2 (Nat.pow_le_pow_right (n := 2) (by decide) (show (Ad l m.line).owner.toNat ≤ 3 by omega))
      have hp0 : (0 : Int) ≤ ((2 ^ (Ad l m.line).owner.toNat : Nat) : Int) := Int.natCast_nonneg _
      refine Zc6 ?_
      refine Bt (γ := Unit) (val := fun _ => vi ((2 ^ (Ad l m.line).owner.toNat : Nat) : Int)) (F := fun _ => []) Try.call88 (fun _ => rfl) (fun ρ L R w hd hs => by have h := M6 (k := (Ad l m.line).owner.toNat) hs (by omega); rw [Int.toNat_of_nonneg (by omega)] at h; exact h) (fun _ _ _ _ _ => rfl) ?_
      first | refine epc (fun _ _ => Fj) ?_ | refine epc (fun _ _ => Gc) ?_ | refine epp (fun _ _ => Fj) ?_ | refine epp (fun _ _ => Gc) ?_
      refine ZcF ?_;intro ρ
      refine rn3 ?_
      refine Zaq ?_
      refine ZJ ?_
      have hp3 := Aek hE0.2.1.1 hE0.2.1.2 (show 0 ≤ (Ad l m.line).owner by omega) hE0.2.2.2.2.1.2 (by rw [hhas]; simpa using ht171)
      have hX : EB ({ (Ad l m.line) with value := m.value, sharers := ((Ad l m.line).sharers + ((2 ^ (Ad l m.line).owner.toNat : Nat) : Int)), owner := -1 }) := by unfold EB Entry.wf An; simp only; omega
      refine Ao Try.call86 rfl (fun w hs => J0 (e := { (Ad l m.line) with value := m.value, sharers := ((Ad l m.line).sharers + ((2 ^ (Ad l m.line).owner.toNat : Nat) : Int)), owner := -1 }) (u := u) hs hX (by assumption)) ?_; intro _
      refine s_B (cs := (A9 ({ (Ad l m.line) with value := m.value, sharers := ((Ad l m.line).sharers + ((2 ^ (Ad l m.line).owner.toNat : Nat) : Int)), owner := -1 })).cells u) Try.sizeOf80 ?_
      refine Gl ?_
      have ed : (if (Ad l m.line).alone then (Ad l m.line).sharers else Hr (Ad l m.line).sharers (Ad l m.line).owner) = ((Ad l m.line).sharers + ((2 ^ (Ad l m.line).owner.toNat : Nat) : Int)) := by
       obtain ⟨b1, b2, _⟩ := Cr hE0.2.1.1 hE0.2.1.2 (show 0 ≤ (Ad l m.line).owner by omega) hE0.2.2.2.2.1.2
       rw [if_neg (by simpa using ht164), (b2 (by simpa [hhas] using ht171)).1]
      have er : Al l id m = (l.set m.line.toNat (A9 ({ (Ad l m.line) with value := m.value, sharers := ((Ad l m.line).sharers + ((2 ^ (Ad l m.line).owner.toNat : Nat) : Int)), owner := -1 })), D4 (A9 ({ (Ad l m.line) with value := m.value, sharers := ((Ad l m.line).sharers + ((2 ^ (Ad l m.line).owner.toNat : Nat) : Int)), owner := -1 })) m.line id) := E8 (by omega) (by unfold Ag; rw [if_neg (by omega), if_neg (by omega), if_pos (by omega)]; unfold Ge; rw [ed])
      refine cq_ (blk b8 80 ((A9 ({ (Ad l m.line) with value := m.value, sharers := ((Ad l m.line).sharers + ((2 ^ (Ad l m.line).owner.toNat : Nat) : Int)), owner := -1 })).cells u) :: blk b5 49 m.cells :: L) ?_
      refine jd_ (fun ρ S => blk b8 80 ((A9 ({ (Ad l m.line) with value := m.value, sharers := ((Ad l m.line).sharers + ((2 ^ (Ad l m.line).owner.toNat : Nat) : Int)), owner := -1 })).cells u) :: blk b5 49 m.cells :: L) ?_
      refine dn4 ?_
      refine Bt (γ := Value) (val := fun v => v) (F := fun v => [sl v (l.set m.line.toNat (A9 ({ (Ad l m.line) with value := m.value, sharers := ((Ad l m.line).sharers + ((2 ^ (Ad l m.line).owner.toNat : Nat) : Int)), owner := -1 })))]) Try.call87 (fun _ => rfl) (fun ρ L R w hd hs => Cj (e := A9 ({ (Ad l m.line) with value := m.value, sharers := ((Ad l m.line).sharers + ((2 ^ (Ad l m.line).owner.toNat : Nat) : Int)), owner := -1 })) (u := u) hs (hd.base mm) (by rw [D8]; exact hd.base mm) (Di hX).1 (by omega)) (fun _ _ _ _ _ => rfl) ?_
      refine dn4 ?_
      refine Bt (γ := Value) (val := fun v => v) (F := fun v => [sl v (D4 (A9 ({ (Ad l m.line) with value := m.value, sharers := ((Ad l m.line).sharers + ((2 ^ (Ad l m.line).owner.toNat : Nat) : Int)), owner := -1 })) m.line id)]) Try.call54 (fun _ => rfl) (fun ρ L R w hd hs => Iq (e := A9 ({ (Ad l m.line) with value := m.value, sharers := ((Ad l m.line).sharers + ((2 ^ (Ad l m.line).owner.toNat : Nat) : Int)), owner := -1 })) (u := u) hs (Di hX) (by assumption) hm.2.2.2.1 hid) (fun _ _ _ _ _ => rfl) ?_
      refine Zb7 ?_;intro ρ
      refine xq_ (blk b8 80 ((A9 ({ (Ad l m.line) with value := m.value, sharers := ((Ad l m.line).sharers + ((2 ^ (Ad l m.line).owner.toNat : Nat) : Int)), owner := -1 })).cells u) :: blk b5 49 m.cells :: L) ?_
      refine Zb8 ?_;intro v287 v292
      exact Ci (v287, v292)
     ·intro ht171
      refine Zaj ?_
      refine Zaq ?_
      refine ZJ ?_
      skip
      refine ZcX ?_;intro hX
      refine Ao Try.call86 rfl (fun w hs => J0 (e := { (Ad l m.line) with value := m.value, sharers := (Ad l m.line).sharers, owner := -1 }) (u := u) hs hX (by assumption)) ?_; intro _
      refine s_B (cs := (A9 ({ (Ad l m.line) with value := m.value, sharers := (Ad l m.line).sharers, owner := -1 })).cells u) Try.sizeOf80 ?_
      refine Gl ?_
      have ed : (if (Ad l m.line).alone then (Ad l m.line).sharers else Hr (Ad l m.line).sharers (Ad l m.line).owner) = (Ad l m.line).sharers := by
       obtain ⟨b1, b2, _⟩ := Cr hE0.2.1.1 hE0.2.1.2 (show 0 ≤ (Ad l m.line).owner by omega) hE0.2.2.2.2.1.2
       rw [if_neg (by simpa using ht164), (b1 (by simpa [hhas] using ht171)).1]
      refine Zdy ?_;intro er ρ v287 v292
      exact Ci (v287, v292)
    ·intro ht164
     refine Gd7 ?_
     refine rn3 ?_
     refine Zaq ?_
     refine ZJ ?_
     skip
     refine ZcX ?_;intro hX
     refine Ao Try.call86 rfl (fun w hs => J0 (e := { (Ad l m.line) with value := m.value, sharers := (Ad l m.line).sharers, owner := -1 }) (u := u) hs hX (by assumption)) ?_; intro _
     refine s_B (cs := (A9 ({ (Ad l m.line) with value := m.value, sharers := (Ad l m.line).sharers, owner := -1 })).cells u) Try.sizeOf80 ?_
     refine Gl ?_
     have ed : (if (Ad l m.line).alone then (Ad l m.line).sharers else Hr (Ad l m.line).sharers (Ad l m.line).owner) = (Ad l m.line).sharers := by
      obtain ⟨b1, b2, _⟩ := Cr hE0.2.1.1 hE0.2.1.2 (show 0 ≤ (Ad l m.line).owner by omega) hE0.2.2.2.2.1.2
      rw [if_pos (by simpa using ht164)]
     refine Zdy ?_;intro er ρ v287 v292
     exact Ci (v287, v292)
theorem Qy {v0 : Value} {l : List Entry} {id : Int} {m : Msg} (hs : St (L) R w) (h0 : sl v0 l ∈ R) (hb : ∀ i, i < l.length → EB (l.getD i A1)) (hla : ∀ i, i < l.length → (l.getD i A1).last.length ≤ 4) (hm : m.wf) (hid : An id) (hk : 0 ≤ m.line ∧ m.line < (l.length : Int) ∧ 0 ≤ m.src ∧ m.src < ((Ad l m.line).last.length : Int) ∧ m.kind = 8) : Calls Try.prog 58 [v0, vi id, .agg m.cells.toArray].toArray w (Bw (fun v : Value × Value => .tuple #[v.1, v.2]) (fun v => L) (fun v => sl v.1 (Al l id m).1 :: sl v.2 (Al l id m).2 :: R)) := by
 refine ZaM ?_;intro hlen hm0 hid0
 clear hs
 refine Zbi ?_;intro b5 hEw u hE hE0 hL hone hlin
 refine dj (dgy ?_)
 refine ZV ?_
 refine dj (dgy ?_)
 refine ZY ?_
 refine dj (dgy ?_)
 refine ZaW ?_;intro ρ b8 v43
 refine ap Ff (hb := fun w hs => by have : maxN = 16777216 := rfl; simp only [List.length_nil]; omega) (k := ?_); intro v46
 refine Za3 ?_
 refine ZaO ?_
 refine Gd1 ?_
 refine rn4 ?_
 refine jgx (t := 190) (p := ?p1) (hd := ?d1) ?e1 ?_ ?_; case e1 => exact rfl
 ·intro ht190
  refine Gc14 ?_
  exact ZeD
 ·intro ht190
  refine rn7 ?_
  refine jgx (t := 197) (p := ?p2) (hd := ?d2) ?e2 ?_ ?_; case e2 => exact rfl
  ·intro ht197
   refine Gc7 ?_
   exact ZeD
  ·intro ht197
   refine ZN ?_
   generalize hhas : (Ad l m.line).need.toNat.testBit m.src.toNat = bh
   refine Ao (val := fun _ => .bool bh) Try.call85 rfl (fun w hs => by have h := On (z := (Ad l m.line).need.toNat) (k := m.src.toNat) hs (by omega) (by omega); rw [Int.toNat_of_nonneg (by omega), Int.toNat_of_nonneg (by omega), hhas] at h; exact h) ?_; intro _
   refine Ga2 ?_
   refine Bk (b := ?b3) ?e3 ?_ ?_; case e3 => exact rfl
   ·intro ht204
    refine Gl ?_
    exact ZeD
   ·intro ht204
    refine Gl ?_
    have hp2 : ((2 ^ m.src.toNat : Nat) : Int) ≤ 8 := Int.ofNat_le.2 (Nat.pow_le_pow_right (n := 2) (by decide) (show m.src.toNat ≤ 3 by omega))
    have hp0 : (0 : Int) ≤ ((2 ^ m.src.toNat : Nat) : Int) := Int.natCast_nonneg _
    refine kp [0, 1, 5, 6, 7, 8, 48, 206, 207, 208, 209, 210, 211, 212] ?_
    refine Zc6 ?_
    refine Bt (γ := Unit) (val := fun _ => vi ((2 ^ m.src.toNat : Nat) : Int)) (F := fun _ => []) Try.call88 (fun _ => rfl) (fun ρ L R w hd hs => by have h := M6 (k := m.src.toNat) hs (by omega); rw [Int.toNat_of_nonneg (by omega)] at h; exact h) (fun _ _ _ _ _ => rfl) ?_
    first | refine epc (fun _ _ => Q5) ?_ | refine epp (fun _ _ => Q5) ?_
    refine ZcF ?_;intro ρ
    refine rn4 ?_
    generalize hhasS : (Ad l m.line).sharers.toNat.testBit m.src.toNat = bhS
    refine Ao (val := fun _ => .bool bhS) Try.call85 rfl (fun w hs => by have h := On (z := (Ad l m.line).sharers.toNat) (k := m.src.toNat) hs (by omega) (by omega); rw [Int.toNat_of_nonneg (by omega), Int.toNat_of_nonneg (by omega), hhasS] at h; exact h) ?_; intro _
    refine Gl ?_
    refine Bk (b := ?b4) ?e4 ?_ ?_; case e4 => exact rfl
    ·intro ht217
     refine cq_ (blk b8 80 [vi (Ad l m.line).value, vi (Ad l m.line).owner, vi (Ad l m.line).sharers, vi (Ad l m.line).phase, vi (Ad l m.line).who, vi (Ad l m.line).serial, .bool (Ad l m.line).alone, vi (Ad l m.line).turn, vi ((Ad l m.line).need - ((2 ^ m.src.toNat : Nat) : Int)), u] :: blk b5 49 m.cells :: L) ?_
     refine jd_ (fun ρ S => blk b8 80 [vi (Ad l m.line).value, vi (Ad l m.line).owner, vi (Ad l m.line).sharers, vi (Ad l m.line).phase, vi (Ad l m.line).who, vi (Ad l m.line).serial, .bool (Ad l m.line).alone, vi (Ad l m.line).turn, vi ((Ad l m.line).need - ((2 ^ m.src.toNat : Nat) : Int)), u] :: blk b5 49 m.cells :: L) ?_
     refine dn4 ?_
     refine Bt (γ := Unit) (val := fun _ => vi ((2 ^ m.src.toNat : Nat) : Int)) (F := fun _ => []) Try.call88 (fun _ => rfl) (fun ρ L R w hd hs => by have h := M6 (k := m.src.toNat) hs (by omega); rw [Int.toNat_of_nonneg (by omega)] at h; exact h) (fun _ _ _ _ _ => rfl) ?_
     first | refine epc (fun _ _ => Q5) ?_ | refine epp (fun _ _ => Q5) ?_
     refine dtl ?_; intro ρ
     refine J.conseq (L' := blk b8 80 [vi (Ad l m.line).value, vi (Ad l m.line).owner, vi (Ad l m.line).sharers, vi (Ad l m.line).phase, vi (Ad l m.line).who, vi (Ad l m.line).serial, .bool (Ad l m.line).alone, vi (Ad l m.line).turn, vi ((Ad l m.line).need - ((2 ^ m.src.toNat : Nat) : Int)), u] :: blk b5 49 m.cells :: L) (fun w hs => hs) ?_
     refine ZG ?_
     refine Zad ?_
     refine cdy ?_ ?_
     ·intro ht227
      refine Gl ?_
      refine Zcr ?_;intro hh
      have hhS : (Ad l m.line).sharers.toNat.testBit m.src.toNat = true := by rw [hhasS]; exact ht217
      have eg : Cc (Ad l m.line) m = { (Ad l m.line) with need := ((Ad l m.line).need - ((2 ^ m.src.toNat : Nat) : Int)), sharers := ((Ad l m.line).sharers - ((2 ^ m.src.toNat : Nat) : Int)) } := by
       exact Zfj
      refine ZT ?_
      have er : Al l id m = (l.set m.line.toNat ({ (Ad l m.line) with need := ((Ad l m.line).need - ((2 ^ m.src.toNat : Nat) : Int)), sharers := ((Ad l m.line).sharers - ((2 ^ m.src.toNat : Nat) : Int)) }), []) := E8 (by omega) (by unfold Ag; rw [if_neg (by omega), if_neg (by omega), if_neg (by omega), if_pos ⟨by omega, by omega, by omega, hh⟩, eg, if_neg (by simp only; omega)])
      refine ZC ?_
      refine Ao Try.call87 rfl (fun w hs => Cj (e := { (Ad l m.line) with need := ((Ad l m.line).need - ((2 ^ m.src.toNat : Nat) : Int)), sharers := ((Ad l m.line).sharers - ((2 ^ m.src.toNat : Nat) : Int)) }) (u := u) hs mm mm (by unfold Entry.wf An; simp only; omega) (by omega)) ?_; intro v232
      refine Ga2 ?_
      rw [er]
      exact Ci (v232, .slice none 0 0)
     ·intro ht227
      refine ZJ ?_
      have hp3 := Qa hE0.2.2.1.1 hE0.2.2.1.2 (show 0 ≤ m.src by omega) (show m.src < 4 by omega) (by rw [hhas]; simpa using ht204)
      have hp4 := Qa hE0.2.1.1 hE0.2.1.2 (show 0 ≤ m.src by omega) (show m.src < 4 by omega) (by rw [hhasS]; exact ht217)
      have hX : EB ({ (Ad l m.line) with need := ((Ad l m.line).need - ((2 ^ m.src.toNat : Nat) : Int)), sharers := ((Ad l m.line).sharers - ((2 ^ m.src.toNat : Nat) : Int)) }) := by unfold EB Entry.wf An; simp only; omega
      refine Ao Try.call86 rfl (fun w hs => J0 (e := { (Ad l m.line) with need := ((Ad l m.line).need - ((2 ^ m.src.toNat : Nat) : Int)), sharers := ((Ad l m.line).sharers - ((2 ^ m.src.toNat : Nat) : Int)) }) (u := u) hs hX (by assumption)) ?_; intro _
      refine s_B (cs := (A9 ({ (Ad l m.line) with need := ((Ad l m.line).need - ((2 ^ m.src.toNat : Nat) : Int)), sharers := ((Ad l m.line).sharers - ((2 ^ m.src.toNat : Nat) : Int)) })).cells u) Try.sizeOf80 ?_
      refine Gl ?_
      refine Zcr ?_;intro hh
      have hhS : (Ad l m.line).sharers.toNat.testBit m.src.toNat = true := by rw [hhasS]; exact ht217
      have eg : Cc (Ad l m.line) m = { (Ad l m.line) with need := ((Ad l m.line).need - ((2 ^ m.src.toNat : Nat) : Int)), sharers := ((Ad l m.line).sharers - ((2 ^ m.src.toNat : Nat) : Int)) } := by
       exact Zfj
      have er : Al l id m = (l.set m.line.toNat (A9 ({ (Ad l m.line) with need := ((Ad l m.line).need - ((2 ^ m.src.toNat : Nat) : Int)), sharers := ((Ad l m.line).sharers - ((2 ^ m.src.toNat : Nat) : Int)) })), D4 (A9 ({ (Ad l m.line) with need := ((Ad l m.line).need - ((2 ^ m.src.toNat : Nat) : Int)), sharers := ((Ad l m.line).sharers - ((2 ^ m.src.toNat : Nat) : Int)) })) m.line id) := E8 (by omega) (by unfold Ag; rw [if_neg (by omega), if_neg (by omega), if_neg (by omega), if_pos ⟨by omega, by omega, by omega, hh⟩, eg, if_pos (by simp only; omega)])
      refine cq_ (blk b8 80 ((A9 ({ (Ad l m.line) with need := ((Ad l m.line).need - ((2 ^ m.src.toNat : Nat) : Int)), sharers := ((Ad l m.line).sharers - ((2 ^ m.src.toNat : Nat) : Int)) })).cells u) :: blk b5 49 m.cells :: L) ?_
      refine jd_ (fun ρ S => blk b8 80 ((A9 ({ (Ad l m.line) with need := ((Ad l m.line).need - ((2 ^ m.src.toNat : Nat) : Int)), sharers := ((Ad l m.line).sharers - ((2 ^ m.src.toNat : Nat) : Int)) })).cells u) :: blk b5 49 m.cells :: L) ?_
      refine dn4 ?_
      refine Bt (γ := Value) (val := fun v => v) (F := fun v => [sl v (l.set m.line.toNat (A9 ({ (Ad l m.line) with need := ((Ad l m.line).need - ((2 ^ m.src.toNat : Nat) : Int)), sharers := ((Ad l m.line).sharers - ((2 ^ m.src.toNat : Nat) : Int)) })))]) Try.call87 (fun _ => rfl) (fun ρ L R w hd hs => Cj (e := A9 ({ (Ad l m.line) with need := ((Ad l m.line).need - ((2 ^ m.src.toNat : Nat) : Int)), sharers := ((Ad l m.line).sharers - ((2 ^ m.src.toNat : Nat) : Int)) })) (u := u) hs (hd.base mm) (by rw [D8]; exact hd.base mm) (Di hX).1 (by omega)) (fun _ _ _ _ _ => rfl) ?_
      refine dn4 ?_
      refine Bt (γ := Value) (val := fun v => v) (F := fun v => [sl v (D4 (A9 ({ (Ad l m.line) with need := ((Ad l m.line).need - ((2 ^ m.src.toNat : Nat) : Int)), sharers := ((Ad l m.line).sharers - ((2 ^ m.src.toNat : Nat) : Int)) })) m.line id)]) Try.call54 (fun _ => rfl) (fun ρ L R w hd hs => Iq (e := A9 ({ (Ad l m.line) with need := ((Ad l m.line).need - ((2 ^ m.src.toNat : Nat) : Int)), sharers := ((Ad l m.line).sharers - ((2 ^ m.src.toNat : Nat) : Int)) })) (u := u) hs (Di hX) (by assumption) hm.2.2.2.1 hid) (fun _ _ _ _ _ => rfl) ?_
      refine Zb7 ?_;intro ρ
      refine xq_ (blk b8 80 ((A9 ({ (Ad l m.line) with need := ((Ad l m.line).need - ((2 ^ m.src.toNat : Nat) : Int)), sharers := ((Ad l m.line).sharers - ((2 ^ m.src.toNat : Nat) : Int)) })).cells u) :: blk b5 49 m.cells :: L) ?_
      refine Zb8 ?_;intro v287 v292
      exact Ci (v287, v292)
    ·intro ht217
     refine Zad ?_
     refine cdy ?_ ?_
     ·intro ht227
      refine Gl ?_
      refine Zcr ?_;intro hh
      have hhS : (Ad l m.line).sharers.toNat.testBit m.src.toNat = false := by rw [hhasS]; simpa using ht217
      have eg : Cc (Ad l m.line) m = { (Ad l m.line) with need := ((Ad l m.line).need - ((2 ^ m.src.toNat : Nat) : Int)), sharers := (Ad l m.line).sharers } := by
       exact Zfk
      refine ZT ?_
      have er : Al l id m = (l.set m.line.toNat ({ (Ad l m.line) with need := ((Ad l m.line).need - ((2 ^ m.src.toNat : Nat) : Int)), sharers := (Ad l m.line).sharers }), []) := E8 (by omega) (by unfold Ag; rw [if_neg (by omega), if_neg (by omega), if_neg (by omega), if_pos ⟨by omega, by omega, by omega, hh⟩, eg, if_neg (by simp only; omega)])
      refine ZC ?_
      refine Ao Try.call87 rfl (fun w hs => Cj (e := { (Ad l m.line) with need := ((Ad l m.line).need - ((2 ^ m.src.toNat : Nat) : Int)), sharers := (Ad l m.line).sharers }) (u := u) hs mm mm (by unfold Entry.wf An; simp only; omega) (by omega)) ?_; intro v232
      refine Ga2 ?_
      rw [er]
      exact Ci (v232, .slice none 0 0)
     ·intro ht227
      refine ZJ ?_
      have hp3 := Qa hE0.2.2.1.1 hE0.2.2.1.2 (show 0 ≤ m.src by omega) (show m.src < 4 by omega) (by rw [hhas]; simpa using ht204)
      have hX : EB ({ (Ad l m.line) with need := ((Ad l m.line).need - ((2 ^ m.src.toNat : Nat) : Int)), sharers := (Ad l m.line).sharers }) := by unfold EB Entry.wf An; simp only; omega
      refine Ao Try.call86 rfl (fun w hs => J0 (e := { (Ad l m.line) with need := ((Ad l m.line).need - ((2 ^ m.src.toNat : Nat) : Int)), sharers := (Ad l m.line).sharers }) (u := u) hs hX (by assumption)) ?_; intro _
      refine s_B (cs := (A9 ({ (Ad l m.line) with need := ((Ad l m.line).need - ((2 ^ m.src.toNat : Nat) : Int)), sharers := (Ad l m.line).sharers })).cells u) Try.sizeOf80 ?_
      refine Gl ?_
      refine Zcr ?_;intro hh
      have hhS : (Ad l m.line).sharers.toNat.testBit m.src.toNat = false := by rw [hhasS]; simpa using ht217
      have eg : Cc (Ad l m.line) m = { (Ad l m.line) with need := ((Ad l m.line).need - ((2 ^ m.src.toNat : Nat) : Int)), sharers := (Ad l m.line).sharers } := by
       exact Zfk
      have er : Al l id m = (l.set m.line.toNat (A9 ({ (Ad l m.line) with need := ((Ad l m.line).need - ((2 ^ m.src.toNat : Nat) : Int)), sharers := (Ad l m.line).sharers })), D4 (A9 ({ (Ad l m.line) with need := ((Ad l m.line).need - ((2 ^ m.src.toNat : Nat) : Int)), sharers := (Ad l m.line).sharers })) m.line id) := E8 (by omega) (by unfold Ag; rw [if_neg (by omega), if_neg (by omega), if_neg (by omega), if_pos ⟨by omega, by omega, by omega, hh⟩, eg, if_pos (by simp only; omega)])
      refine cq_ (blk b8 80 ((A9 ({ (Ad l m.line) with need := ((Ad l m.line).need - ((2 ^ m.src.toNat : Nat) : Int)), sharers := (Ad l m.line).sharers })).cells u) :: blk b5 49 m.cells :: L) ?_
      refine jd_ (fun ρ S => blk b8 80 ((A9 ({ (Ad l m.line) with need := ((Ad l m.line).need - ((2 ^ m.src.toNat : Nat) : Int)), sharers := (Ad l m.line).sharers })).cells u) :: blk b5 49 m.cells :: L) ?_
      refine dn4 ?_
      refine Bt (γ := Value) (val := fun v => v) (F := fun v => [sl v (l.set m.line.toNat (A9 ({ (Ad l m.line) with need := ((Ad l m.line).need - ((2 ^ m.src.toNat : Nat) : Int)), sharers := (Ad l m.line).sharers })))]) Try.call87 (fun _ => rfl) (fun ρ L R w hd hs => Cj (e := A9 ({ (Ad l m.line) with need := ((Ad l m.line).need - ((2 ^ m.src.toNat : Nat) : Int)), sharers := (Ad l m.line).sharers })) (u := u) hs (hd.base mm) (by rw [D8]; exact hd.base mm) (Di hX).1 (by omega)) (fun _ _ _ _ _ => rfl) ?_
      refine dn4 ?_
      refine Bt (γ := Value) (val := fun v => v) (F := fun v => [sl v (D4 (A9 ({ (Ad l m.line) with need := ((Ad l m.line).need - ((2 ^ m.src.toNat : Nat) : Int)), sharers := (Ad l m.line).sharers })) m.line id)]) Try.call54 (fun _ => rfl) (fun ρ L R w hd hs => Iq (e := A9 ({ (Ad l m.line) with need := ((Ad l m.line).need - ((2 ^ m.src.toNat : Nat) : Int)), sharers := (Ad l m.line).sharers })) (u := u) hs (Di hX) (by assumption) hm.2.2.2.1 hid) (fun _ _ _ _ _ => rfl) ?_
      refine Zb7 ?_;intro ρ
      refine xq_ (blk b8 80 ((A9 ({ (Ad l m.line) with need := ((Ad l m.line).need - ((2 ^ m.src.toNat : Nat) : Int)), sharers := (Ad l m.line).sharers })).cells u) :: blk b5 49 m.cells :: L) ?_
      refine Zb8 ?_;intro v287 v292
      exact Ci (v287, v292)
theorem Pe {v0 : Value} {l : List Entry} {id : Int} {m : Msg} (hs : St (L) R w) (h0 : sl v0 l ∈ R) (hb : ∀ i, i < l.length → EB (l.getD i A1)) (hla : ∀ i, i < l.length → (l.getD i A1).last.length ≤ 4) (hm : m.wf) (hid : An id) (hk : 0 ≤ m.line ∧ m.line < (l.length : Int) ∧ 0 ≤ m.src ∧ m.src < ((Ad l m.line).last.length : Int) ∧ m.kind = 10) : Calls Try.prog 58 [v0, vi id, .agg m.cells.toArray].toArray w (Bw (fun v : Value × Value => .tuple #[v.1, v.2]) (fun v => L) (fun v => sl v.1 (Al l id m).1 :: sl v.2 (Al l id m).2 :: R)) := by
 refine ZaM ?_;intro hlen hm0 hid0
 clear hs
 refine Zbi ?_;intro b5 hEw u hE hE0 hL hone hlin
 refine dj (dgy ?_)
 refine ZV ?_
 refine dj (dgy ?_)
 refine ZY ?_
 refine dj (dgy ?_)
 refine ZaW ?_;intro ρ b8 v43
 refine ap Ff (hb := fun w hs => by have : maxN = 16777216 := rfl; simp only [List.length_nil]; omega) (k := ?_); intro v46
 refine Za3 ?_
 refine ZF ?_
 refine ZaO ?_
 refine Gd1 ?_
 refine rn4 ?_
 refine jgx (t := 240) (p := ?p1) (hd := ?d1) ?e1 ?_ ?_; case e1 => exact rfl
 ·intro ht240
  refine Gc13 ?_
  exact ZfZ
 ·intro ht240
  refine rn7 ?_
  refine jgx (t := 247) (p := ?p2) (hd := ?d2) ?e2 ?_ ?_; case e2 => exact rfl
  ·intro ht247
   refine Gc6 ?_
   exact ZfZ
  ·intro ht247
   refine Ga6 ?_
   refine cdy ?_ ?_
   ·intro ht253
    refine Gl ?_
    exact ZfZ
   ·intro ht253
    refine Gl ?_
    refine kp [0, 1, 5, 6, 7, 8, 255, 256] ?_
    refine ZW ?_
    refine Bk (b := ?b4) ?e4 ?_ ?_; case e4 => exact rfl
    ·intro ht256
     refine ZI ?_
     refine Zaq ?_
     refine Gm ?_
     refine ZG ?_
     refine ZG ?_
     refine ZG ?_
     refine ZG ?_
     refine Gl ?_
     have et : Df (Ad l m.line) = { (Ad l m.line) with owner := (Ad l m.line).who, sharers := 0, phase := 0, who := 0, serial := 0, alone := false } := by unfold Df; rw [if_pos ht256]
     refine ZT ?_
     have er : Al l id m = (l.set m.line.toNat ({ (Ad l m.line) with owner := (Ad l m.line).who, sharers := 0, phase := 0, who := 0, serial := 0, alone := false }), []) := E8 (by omega) (by unfold Ag; rw [if_neg (by omega), if_neg (by omega), if_neg (by omega), if_neg (by omega), if_pos (by omega), et])
     refine ZC ?_
     refine Ao Try.call87 rfl (fun w hs => Cj (e := { (Ad l m.line) with owner := (Ad l m.line).who, sharers := 0, phase := 0, who := 0, serial := 0, alone := false }) (u := u) hs mm mm (by unfold Entry.wf An; simp only; omega) (by omega)) ?_; intro v282
     refine Ga2 ?_
     rw [er]
     exact Ci (v282, .slice none 0 0)
    ·intro ht256
     refine Zam ?_
     generalize hhasT : (Ad l m.line).sharers.toNat.testBit (Ad l m.line).who.toNat = bhT
     refine Ao (val := fun _ => .bool bhT) Try.call85 rfl (fun w hs => by have h := On (z := (Ad l m.line).sharers.toNat) (k := (Ad l m.line).who.toNat) hs (by omega) (by omega); rw [Int.toNat_of_nonneg (by omega), Int.toNat_of_nonneg (by omega), hhasT] at h; exact h) ?_; intro _
     refine Ga1 ?_
     refine Bk (b := ?b5) ?e5 ?_ ?_; case e5 => exact rfl
     ·intro ht266
      have hp2 : ((2 ^ (Ad l m.line).who.toNat : Nat) : Int) ≤ 8 := Int.ofNat_le.2 (Nat.pow_le_pow_right (n := 2) (by decide) (show (Ad l m.line).who.toNat ≤ 3 by omega))
      have hp0 : (0 : Int) ≤ ((2 ^ (Ad l m.line).who.toNat : Nat) : Int) := Int.natCast_nonneg _
      refine Zc6 ?_
      refine Bt (γ := Unit) (val := fun _ => vi ((2 ^ (Ad l m.line).who.toNat : Nat) : Int)) (F := fun _ => []) Try.call88 (fun _ => rfl) (fun ρ L R w hd hs => by have h := M6 (k := (Ad l m.line).who.toNat) hs (by omega); rw [Int.toNat_of_nonneg (by omega)] at h; exact h) (fun _ _ _ _ _ => rfl) ?_
      first | refine epc (fun _ _ => Fj) ?_ | refine epc (fun _ _ => Gc) ?_ | refine epp (fun _ _ => Fj) ?_ | refine epp (fun _ _ => Gc) ?_
      refine ZcF ?_;intro ρ
      refine ZG ?_
      refine ZG ?_
      refine ZG ?_
      refine ZG ?_
      refine Gl ?_
      have et : Df (Ad l m.line) = { (Ad l m.line) with sharers := ((Ad l m.line).sharers + ((2 ^ (Ad l m.line).who.toNat : Nat) : Int)), phase := 0, who := 0, serial := 0, alone := false } := by
       obtain ⟨b1, b2, _⟩ := Cr hE0.2.1.1 hE0.2.1.2 hE0.2.2.2.1.1 hE0.2.2.2.1.2
       unfold Df
       rw [if_neg (by rw [ht256]; decide), (b2 (by simpa [hhasT] using ht266)).1]
      refine ZT ?_
      have er : Al l id m = (l.set m.line.toNat ({ (Ad l m.line) with sharers := ((Ad l m.line).sharers + ((2 ^ (Ad l m.line).who.toNat : Nat) : Int)), phase := 0, who := 0, serial := 0, alone := false }), []) := E8 (by omega) (by unfold Ag; rw [if_neg (by omega), if_neg (by omega), if_neg (by omega), if_neg (by omega), if_pos (by omega), et])
      refine ZC ?_
      refine Ao Try.call87 rfl (fun w hs => Cj (e := { (Ad l m.line) with sharers := ((Ad l m.line).sharers + ((2 ^ (Ad l m.line).who.toNat : Nat) : Int)), phase := 0, who := 0, serial := 0, alone := false }) (u := u) hs mm mm (by unfold Entry.wf An; simp only; omega) (by omega)) ?_; intro v282
      refine Ga2 ?_
      rw [er]
      exact Ci (v282, .slice none 0 0)
     ·intro ht266
      refine Gm ?_
      refine ZG ?_
      refine ZG ?_
      refine ZG ?_
      refine ZG ?_
      refine Gl ?_
      have et : Df (Ad l m.line) = { (Ad l m.line) with sharers := (Ad l m.line).sharers, phase := 0, who := 0, serial := 0, alone := false } := by
       obtain ⟨b1, b2, _⟩ := Cr hE0.2.1.1 hE0.2.1.2 hE0.2.2.2.1.1 hE0.2.2.2.1.2
       unfold Df
       rw [if_neg (by rw [ht256]; decide), (b1 (by simpa [hhasT] using ht266)).1]
      refine ZT ?_
      have er : Al l id m = (l.set m.line.toNat ({ (Ad l m.line) with sharers := (Ad l m.line).sharers, phase := 0, who := 0, serial := 0, alone := false }), []) := E8 (by omega) (by unfold Ag; rw [if_neg (by omega), if_neg (by omega), if_neg (by omega), if_neg (by omega), if_pos (by omega), et])
      refine ZC ?_
      refine Ao Try.call87 rfl (fun w hs => Cj (e := { (Ad l m.line) with sharers := (Ad l m.line).sharers, phase := 0, who := 0, serial := 0, alone := false }) (u := u) hs mm mm (by unfold Entry.wf An; simp only; omega) (by omega)) ?_; intro v282
      refine Ga2 ?_
      rw [er]
      exact Ci (v282, .slice none 0 0)
theorem Sz {v0 : Value} {l : List Entry} {id : Int} {m : Msg} (hs : St (L) R w) (h0 : sl v0 l ∈ R) (hb : ∀ i, i < l.length → EB (l.getD i A1)) (hla : ∀ i, i < l.length → (l.getD i A1).last.length ≤ 4) (hm : m.wf) (hid : An id) : Calls Try.prog 58 [v0, vi id, .agg m.cells.toArray].toArray w (Bw (fun v : Value × Value => .tuple #[v.1, v.2]) (fun v => L) (fun v => sl v.1 (Al l id m).1 :: sl v.2 (Al l id m).2 :: R)) := by
 by_cases h : 0 ≤ m.line ∧ m.line < (l.length : Int) ∧ 0 ≤ m.src ∧ m.src < ((Ad l m.line).last.length : Int)
 ·by_cases h1 : m.kind = 1
  ·exact Q1 hs h0 hb hla hm hid (by omega)
  by_cases h2 : m.kind = 2
  ·exact Q0 hs h0 hb hla hm hid (by omega)
  by_cases h3 : m.kind = 3
  ·exact Qz hs h0 hb hla hm hid (by omega)
  by_cases h9 : m.kind = 9
  ·exact Qx hs h0 hb hla hm hid (by omega)
  by_cases h8 : m.kind = 8
  ·exact Qy hs h0 hb hla hm hid (by omega)
  by_cases h10 : m.kind = 10
  ·exact Pe hs h0 hb hla hm hid (by omega)
  exact Qw hs h0 hb hla hm hid (by omega)
 ·exact Q2 hs h0 hb hla hm hid h
theorem Aax {u : Value} {c : Core} {id home : Int} {m : Msg} (hs : St (L) R w) (hu : sl u c.lines ∈ R) (hk : KB c) (hid : An id) (hhome : An home) (hm : m.wf) (hg : ¬ (0 ≤ m.line ∧ m.line < (c.lines.length : Int))) : Calls Try.prog 59 [.agg (c.cells u).toArray, vi id, vi home, .agg m.cells.toArray].toArray w (Bw (fun v : Value × Value × Value => .tuple #[.agg (Core.cells v.1 (Ae c id home m).1).toArray, v.2.1, v.2.2]) (fun v => L) (fun v => sl v.1 (Ae c id home m).1.lines :: sl v.2.1 (Ae c id home m).2.1 :: sl v.2.2 (Ae c id home m).2.2 :: R)) := by
 refine Zbf ?_;intro hlen hone0 hn4 hm0
 clear hs
 refine Gm ?_
 refine bx ?_; intro b4
 refine bx ?_; intro b5
 refine bx ?_; intro b6
 refine Zb6 ?_;intro b7 b8
 refine Ga2 ?_
 rcases (show (m.line < 0) ∨ (¬ m.line < 0 ∧ (c.lines.length : Int) ≤ m.line) from by omega) with hc | hc
 ·refine ZX ?_
  refine Gc8 ?_
  exact ZfW
 ·refine ZZ ?_
  refine Zbk ?_
  refine Gc1 ?_
  exact ZfW
theorem Aaw {u : Value} {c : Core} {id home : Int} {m : Msg} (hs : St (L) R w) (hu : sl u c.lines ∈ R) (hk : KB c) (hid : An id) (hhome : An home) (hm : m.wf) (hg : 0 ≤ m.line ∧ m.line < (c.lines.length : Int) ∧ m.kind = 4) : Calls Try.prog 59 [.agg (c.cells u).toArray, vi id, vi home, .agg m.cells.toArray].toArray w (Bw (fun v : Value × Value × Value => .tuple #[.agg (Core.cells v.1 (Ae c id home m).1).toArray, v.2.1, v.2.2]) (fun v => L) (fun v => sl v.1 (Ae c id home m).1.lines :: sl v.2.1 (Ae c id home m).2.1 :: sl v.2.2 (Ae c id home m).2.2 :: R)) := by
 refine Zbf ?_;intro hlen hone0 hn4 hm0
 clear hs
 refine Zbp ?_;intro b4 b5 b6 b7 b8 hlw b11
 refine Cs ?_
 refine Gd1 ?_
 refine Ga5 ?_
 refine cdy ?_ ?_
 ·intro ht50
  refine Zaj ?_
  refine sc ?_
  refine Zad ?_
  refine cdy ?_ ?_
  ·intro ht56
   refine ZB ?_
   refine Zaq ?_
   refine Zaf ?_
   have hXw : ({ (Ac c m.line) with seen := m.turn, state := 0, value := 0 } : Line).wf := by first | exact hlw | (unfold Line.wf An at hlw ⊢; simp only; omega)
   refine cq_ (blk b8 57 [.slice none 0 0, vi 0, vi 0, vi 0] :: blk b4 57 (c.cells u) :: blk b11 82 [vi 0, vi 0, vi (Ac c m.line).want, vi (Ac c m.line).serial, vi m.turn, vi (Ac c m.line).gave, vi (Ac c m.line).given] :: blk b5 3 [vi id] :: blk b6 3 [vi home] :: blk b7 49 m.cells :: L) ?_
   refine jd_ (fun ρ S => blk b8 57 (bif S 9 then [Gh.dec (γ := Value) (ρ 4), vi c.wait.kind, vi c.wait.line, vi c.wait.value] else [.slice none 0 0, vi 0, vi 0, vi 0]) :: blk b4 57 (c.cells u) :: blk b11 82 [vi 0, vi 0, vi (Ac c m.line).want, vi (Ac c m.line).serial, vi m.turn, vi (Ac c m.line).gave, vi (Ac c m.line).given] :: blk b5 3 [vi id] :: blk b6 3 [vi home] :: blk b7 49 m.cells :: L) ?_
   refine dn4 ?_
   refine Bt (γ := Value) (val := fun v => .agg (Core.cells v (A2 c m.line ({ (Ac c m.line) with seen := m.turn, state := 0, value := 0 }) c.wait)).toArray) (F := fun v => [sl v (c.lines.set m.line.toNat ({ (Ac c m.line) with seen := m.turn, state := 0, value := 0 }))]) Try.call81 (fun _ => rfl) (fun ρ L R w hd hs => Bq (l := { (Ac c m.line) with seen := m.turn, state := 0, value := 0 }) hs (hd.base mm) hXw (by omega)) (fun ρ g S hS hA => by have u9 : upS S 4 9 = S 9 := rfl; have h9 : S 9 = false := hA 9 ⟨0, rfl⟩; simp only [u9, h9, cond_false]) ?_
   refine ZcB ?_
   refine es_ 57 0 [] [] (fun ρ => b8) (fun ρ => [.slice none 0 0, vi 0, vi 0, vi 0]) (fun ρ => [Gh.dec (γ := Value) (ρ 4), vi c.wait.kind, vi c.wait.line, vi c.wait.value]) Try.sizeOf57 (h1 := (fun ρ R w L' hd hs => Bi (isSlice.one (hs.fact (hd.dep (it := ⟨4, _, _, _, _⟩) (by repeat (first | exact List.Mem.head _ | refine List.Mem.tail _ ?_)) ⟨9, rfl⟩ (List.Mem.head _)))) (by repeat (first | exact D7 | refine Bi rfl ?_)))) ?_
   refine epg 8 0 ?_
   refine dn1 ?_
   refine dnl ?_; intro ρ
   refine xq_ (blk b8 57 [Gh.dec (γ := Value) (ρ 4), vi c.wait.kind, vi c.wait.line, vi c.wait.value] :: blk b4 57 (c.cells u) :: blk b11 82 [vi 0, vi 0, vi (Ac c m.line).want, vi (Ac c m.line).serial, vi m.turn, vi (Ac c m.line).gave, vi (Ac c m.line).given] :: blk b5 3 [vi id] :: blk b6 3 [vi home] :: blk b7 49 m.cells :: L) ?_
   generalize (Gh.dec (γ := Value) (ρ 4)) = v63
   generalize (Gh.dec (γ := Value) (ρ 8)) = v67
   refine Gl ?_
   have eh : C5 (Ac c m.line) m.turn = { (Ac c m.line) with seen := m.turn, state := 0, value := 0 } := by unfold C5; rw [if_pos (by omega), if_pos (by omega)]
   have er : Ae c id home m = (A2 c m.line ({ (Ac c m.line) with seen := m.turn, state := 0, value := 0 }) c.wait, [A8 8 id home m.line m.turn 0], []) := by unfold Ae; rw [if_neg (by omega)]; rw [if_pos (by omega), eh]
   rw [er]
   exact Cf (v63, v67, .slice none 0 0) Try.isAgg57 Try.sizeOf57
  ·intro ht56
   refine Zaf ?_
   have hXw : ({ (Ac c m.line) with seen := m.turn } : Line).wf := by first | exact hlw | (unfold Line.wf An at hlw ⊢; simp only; omega)
   refine cq_ (blk b8 57 [.slice none 0 0, vi 0, vi 0, vi 0] :: blk b4 57 (c.cells u) :: blk b11 82 [vi (Ac c m.line).state, vi (Ac c m.line).value, vi (Ac c m.line).want, vi (Ac c m.line).serial, vi m.turn, vi (Ac c m.line).gave, vi (Ac c m.line).given] :: blk b5 3 [vi id] :: blk b6 3 [vi home] :: blk b7 49 m.cells :: L) ?_
   refine jd_ (fun ρ S => blk b8 57 (bif S 9 then [Gh.dec (γ := Value) (ρ 4), vi c.wait.kind, vi c.wait.line, vi c.wait.value] else [.slice none 0 0, vi 0, vi 0, vi 0]) :: blk b4 57 (c.cells u) :: blk b11 82 [vi (Ac c m.line).state, vi (Ac c m.line).value, vi (Ac c m.line).want, vi (Ac c m.line).serial, vi m.turn, vi (Ac c m.line).gave, vi (Ac c m.line).given] :: blk b5 3 [vi id] :: blk b6 3 [vi home] :: blk b7 49 m.cells :: L) ?_
   refine dn4 ?_
   refine Bt (γ := Value) (val := fun v => .agg (Core.cells v (A2 c m.line ({ (Ac c m.line) with seen := m.turn }) c.wait)).toArray) (F := fun v => [sl v (c.lines.set m.line.toNat ({ (Ac c m.line) with seen := m.turn }))]) Try.call81 (fun _ => rfl) (fun ρ L R w hd hs => Bq (l := { (Ac c m.line) with seen := m.turn }) hs (hd.base mm) hXw (by omega)) (fun ρ g S hS hA => by have u9 : upS S 4 9 = S 9 := rfl; have h9 : S 9 = false := hA 9 ⟨0, rfl⟩; simp only [u9, h9, cond_false]) ?_
   refine ZcB ?_
   refine es_ 57 0 [] [] (fun ρ => b8) (fun ρ => [.slice none 0 0, vi 0, vi 0, vi 0]) (fun ρ => [Gh.dec (γ := Value) (ρ 4), vi c.wait.kind, vi c.wait.line, vi c.wait.value]) Try.sizeOf57 (h1 := (fun ρ R w L' hd hs => Bi (isSlice.one (hs.fact (hd.dep (it := ⟨4, _, _, _, _⟩) (by repeat (first | exact List.Mem.head _ | refine List.Mem.tail _ ?_)) ⟨9, rfl⟩ (List.Mem.head _)))) (by repeat (first | exact D7 | refine Bi rfl ?_)))) ?_
   refine epg 8 0 ?_
   refine dn1 ?_
   refine dnl ?_; intro ρ
   refine xq_ (blk b8 57 [Gh.dec (γ := Value) (ρ 4), vi c.wait.kind, vi c.wait.line, vi c.wait.value] :: blk b4 57 (c.cells u) :: blk b11 82 [vi (Ac c m.line).state, vi (Ac c m.line).value, vi (Ac c m.line).want, vi (Ac c m.line).serial, vi m.turn, vi (Ac c m.line).gave, vi (Ac c m.line).given] :: blk b5 3 [vi id] :: blk b6 3 [vi home] :: blk b7 49 m.cells :: L) ?_
   generalize (Gh.dec (γ := Value) (ρ 4)) = v63
   generalize (Gh.dec (γ := Value) (ρ 8)) = v67
   refine Gl ?_
   have eh : C5 (Ac c m.line) m.turn = { (Ac c m.line) with seen := m.turn } := by unfold C5; rw [if_pos (by omega), if_neg (by omega)]
   have er : Ae c id home m = (A2 c m.line ({ (Ac c m.line) with seen := m.turn }) c.wait, [A8 8 id home m.line m.turn 0], []) := by unfold Ae; rw [if_neg (by omega)]; rw [if_pos (by omega), eh]
   rw [er]
   exact Cf (v63, v67, .slice none 0 0) Try.isAgg57 Try.sizeOf57
 ·intro ht50
  refine Zaf ?_
  have hXw : ((Ac c m.line) : Line).wf := by first | exact hlw | (unfold Line.wf An at hlw ⊢; simp only; omega)
  refine Zd0 ?_
  refine jd_ (fun ρ S => blk b8 57 (bif S 9 then [Gh.dec (γ := Value) (ρ 4), vi c.wait.kind, vi c.wait.line, vi c.wait.value] else [.slice none 0 0, vi 0, vi 0, vi 0]) :: blk b4 57 (c.cells u) :: blk b11 82 (Ac c m.line).cells :: blk b5 3 [vi id] :: blk b6 3 [vi home] :: blk b7 49 m.cells :: L) ?_
  refine dn4 ?_
  refine Bt (γ := Value) (val := fun v => .agg (Core.cells v (A2 c m.line ((Ac c m.line)) c.wait)).toArray) (F := fun v => [sl v (c.lines.set m.line.toNat ((Ac c m.line)))]) Try.call81 (fun _ => rfl) (fun ρ L R w hd hs => Bq (l := (Ac c m.line)) hs (hd.base mm) hXw (by omega)) (fun ρ g S hS hA => by have u9 : upS S 4 9 = S 9 := rfl; have h9 : S 9 = false := hA 9 ⟨0, rfl⟩; simp only [u9, h9, cond_false]) ?_
  refine ZcB ?_
  refine es_ 57 0 [] [] (fun ρ => b8) (fun ρ => [.slice none 0 0, vi 0, vi 0, vi 0]) (fun ρ => [Gh.dec (γ := Value) (ρ 4), vi c.wait.kind, vi c.wait.line, vi c.wait.value]) Try.sizeOf57 (h1 := (fun ρ R w L' hd hs => Bi (isSlice.one (hs.fact (hd.dep (it := ⟨4, _, _, _, _⟩) (by repeat (first | exact List.Mem.head _ | refine List.Mem.tail _ ?_)) ⟨9, rfl⟩ (List.Mem.head _)))) (by repeat (first | exact D7 | refine Bi rfl ?_)))) ?_
  refine epg 8 0 ?_
  refine dn1 ?_
  refine dnl ?_; intro ρ
  refine xq_ (blk b8 57 [Gh.dec (γ := Value) (ρ 4), vi c.wait.kind, vi c.wait.line, vi c.wait.value] :: blk b4 57 (c.cells u) :: blk b11 82 (Ac c m.line).cells :: blk b5 3 [vi id] :: blk b6 3 [vi home] :: blk b7 49 m.cells :: L) ?_
  generalize (Gh.dec (γ := Value) (ρ 4)) = v63
  generalize (Gh.dec (γ := Value) (ρ 8)) = v67
  refine Gl ?_
  have eh : C5 (Ac c m.line) m.turn = (Ac c m.line) := by unfold C5; rw [if_neg (by omega)]
  have er : Ae c id home m = (A2 c m.line ((Ac c m.line)) c.wait, [A8 8 id home m.line m.turn 0], []) := by unfold Ae; rw [if_neg (by omega)]; rw [if_pos (by omega), eh]
  rw [er]
  exact Cf (v63, v67, .slice none 0 0) Try.isAgg57 Try.sizeOf57
theorem Xp {u : Value} {c : Core} {id home : Int} {m : Msg} (hs : St (L) R w) (hu : sl u c.lines ∈ R) (hk : KB c) (hid : An id) (hhome : An home) (hm : m.wf) (hg : 0 ≤ m.line ∧ m.line < (c.lines.length : Int) ∧ m.kind = 11) : Calls Try.prog 59 [.agg (c.cells u).toArray, vi id, vi home, .agg m.cells.toArray].toArray w (Bw (fun v : Value × Value × Value => .tuple #[.agg (Core.cells v.1 (Ae c id home m).1).toArray, v.2.1, v.2.2]) (fun v => L) (fun v => sl v.1 (Ae c id home m).1.lines :: sl v.2.1 (Ae c id home m).2.1 :: sl v.2.2 (Ae c id home m).2.2 :: R)) := by
 refine Zbf ?_;intro hlen hone0 hn4 hm0
 clear hs
 refine Zbp ?_;intro b4 b5 b6 b7 b8 hlw b11
 refine ZaO ?_
 refine Gd1 ?_
 refine rn4 ?_
 refine jgx (t := 227) (p := ?p1) (hd := ?d1) ?e1 ?_ ?_; case e1 => exact rfl
 ·intro ht227
  refine Ga6 ?_
  refine cdy ?_ ?_
  ·intro ht233
   refine Gm ?_
   refine ZG ?_
   refine ZG ?_
   refine ZG ?_
   refine Zam ?_
   have hXw : ({ (Ac c m.line) with state := 0, value := 0, want := 0 } : Line).wf := by first | exact hlw | (unfold Line.wf An at hlw ⊢; simp only; omega)
   refine Ao Try.call81 rfl (fun w hs => Bq (l := { (Ac c m.line) with state := 0, value := 0, want := 0 }) hs mm hXw (by omega)) ?_; intro v241
   refine J.know (p := v241.oneCell' = true) (fun w hs => isSlice.one (hs.fact (List.Mem.head _))) (fun hone241 => ?_)
   refine al_ (cs := [.slice none 0 0, vi 0, vi 0, vi 0]) Try.zeroValue57 ?_; intro b21
   refine s_B (cs := [v241, vi c.wait.kind, vi c.wait.line, vi c.wait.value]) Try.sizeOf57 ?_
   refine Gl ?_
   refine kp [4, 8, 9, 10, 13, 21, 242, 243] ?_
   refine Aa ?_
   refine Zbq ?_
   refine rn1 ?_
   refine s_N [v241, vi 0, vi 0, vi 0] Try.sizeOf26 ?_
   refine Gl ?_
   refine ZT ?_
   refine cq_ (blk b8 57 [.slice none 0 0, vi 0, vi 0, vi 0] :: blk b21 57 [v241, vi 0, vi 0, vi 0] :: blk b4 57 (c.cells u) :: blk b5 3 [vi id] :: L) ?_
   refine jd_ (fun ρ S => blk b8 57 (bif S 3 then [v241, vi 0, vi 0, vi 0] else [.slice none 0 0, vi 0, vi 0, vi 0]) :: blk b21 57 [v241, vi 0, vi 0, vi 0] :: blk b4 57 (c.cells u) :: blk b5 3 [vi id] :: L) ?_
   refine dn2 ?_
   refine Zdt ?_
   refine es_ 57 0 [] [] (fun ρ => b8) (fun ρ => [.slice none 0 0, vi 0, vi 0, vi 0]) (fun ρ => [v241, vi 0, vi 0, vi 0]) Try.sizeOf57 ?_
   refine dn1 ?_
   refine epg 2 0 ?_
   refine dnl ?_; intro ρ
   refine xq_ (blk b8 57 [v241, vi 0, vi 0, vi 0] :: blk b21 57 [v241, vi 0, vi 0, vi 0] :: blk b4 57 (c.cells u) :: blk b5 3 [vi id] :: L) ?_
   generalize (Gh.dec (γ := Value) (ρ 2)) = v246
   refine Gl ?_
   have er : Ae c id home m = (A2 c m.line ({ (Ac c m.line) with state := 0, value := 0, want := 0 }) zOp, [], [⟨id, c.wait, 0⟩]) := by unfold Ae; rw [if_neg (by omega)]; rw [if_neg (by omega), if_neg (by omega), if_neg (by omega)]; rw [if_pos (by omega)]
   rw [er]
   exact Cf (v241, .slice none 0 0, v246) Try.isAgg57 Try.sizeOf57
  ·intro ht233
   refine Gl ?_
   refine ZcK ?_;intro er
   exact ZeO
 ·intro ht227
  refine Gc6 ?_
  refine ZcK ?_;intro er
  exact ZeO
theorem Aas {u : Value} {c : Core} {id home : Int} {m : Msg} (hs : St (L) R w) (hu : sl u c.lines ∈ R) (hk : KB c) (hid : An id) (hhome : An home) (hm : m.wf) (hg : 0 ≤ m.line ∧ m.line < (c.lines.length : Int) ∧ m.kind ≠ 4 ∧ m.kind ≠ 5 ∧ m.kind ≠ 6 ∧ m.kind ≠ 7 ∧ m.kind ≠ 11) : Calls Try.prog 59 [.agg (c.cells u).toArray, vi id, vi home, .agg m.cells.toArray].toArray w (Bw (fun v : Value × Value × Value => .tuple #[.agg (Core.cells v.1 (Ae c id home m).1).toArray, v.2.1, v.2.2]) (fun v => L) (fun v => sl v.1 (Ae c id home m).1.lines :: sl v.2.1 (Ae c id home m).2.1 :: sl v.2.2 (Ae c id home m).2.2 :: R)) := by
 refine Zbf ?_;intro hlen hone0 hn4 hm0
 clear hs
 refine Zbp ?_;intro b4 b5 b6 b7 b8 hlw b11
 refine ZF ?_
 refine Zdn ?_
 refine ZcK ?_;intro er
 exact ZeO
theorem Aav {u : Value} {c : Core} {id home : Int} {m : Msg} (hs : St (L) R w) (hu : sl u c.lines ∈ R) (hk : KB c) (hid : An id) (hhome : An home) (hm : m.wf) (hg : 0 ≤ m.line ∧ m.line < (c.lines.length : Int) ∧ m.kind = 5) : Calls Try.prog 59 [.agg (c.cells u).toArray, vi id, vi home, .agg m.cells.toArray].toArray w (Bw (fun v : Value × Value × Value => .tuple #[.agg (Core.cells v.1 (Ae c id home m).1).toArray, v.2.1, v.2.2]) (fun v => L) (fun v => sl v.1 (Ae c id home m).1.lines :: sl v.2.1 (Ae c id home m).2.1 :: sl v.2.2 (Ae c id home m).2.2 :: R)) := by
 refine Zbf ?_;intro hlen hone0 hn4 hm0
 clear hs
 refine Zbp ?_;intro b4 b5 b6 b7 b8 hlw b11
 refine ZF ?_
 refine Zap ?_
 refine kp [4, 5, 7, 8, 9, 10, 11, 12, 13, 43, 71, 72, 73, 74, 75, 76, 77, 78, 79, 80] ?_
 refine Ee 80 (.bool (decide (0 < m.turn ∧ m.turn = (Ac c m.line).gave))) ?_ ?_
 ·exact ZeL
 ·refine Aw ?_
  refine Gl ?_
  first | (refine cdx (p := ?p1) (hd := ?d1) ?e1 ?_ ?_; case e1 => exact rfl) | (refine Bk (b := ?b1) ?e1 ?_ ?_; case e1 => exact rfl)
  ·exact ZfP
  ·intro ht80
   refine Gl ?_
   refine Zck ?_
   refine Ee 102 (.bool (decide (m.turn ≤ (Ac c m.line).seen ∨ ((Ac c m.line).state ≠ 2 ∧ (Ac c m.line).state ≠ 3)))) ?_ ?_
   ·exact ZeA
   ·refine Aw ?_
    refine Gl ?_
    first | (refine cdx (p := ?p2) (hd := ?d2) ?e2 ?_ ?_; case e2 => exact rfl) | (refine Bk (b := ?b2) ?e2 ?_ ?_; case e2 => exact rfl)
    ·intro ht102
     refine Gl ?_
     refine ZdZ ?_;intro er
     exact ZeO
    ·intro ht102
     refine Zd4 ?_
     refine Ig (v := vi (Ac c m.line).value) (fun ρ S hS hB hA => by have h11 : S 11 = false := hA 11 ⟨0, rfl⟩; simp only [h11, cond_false]; exact C3 (hc := A0 pkk (by repeat (first | exact rfl | refine Dd rfl ?_))) Try.isAgg3) (fun _ _ _ _ _ => rfl) ?_
     refine Zd2 ?_;intro ρ v118
     rcases (show ((Ac c m.line).want = 3) ∨ ((Ac c m.line).want ≠ 3) from by omega) with hc | hc
     ·exact ZeW
     ·refine ZcS ?_
      refine As ?_
      refine ZQ ?_
      refine ZF ?_
      refine ZG ?_
      refine ZK ?_
      refine As ?_
      refine Glc ?_
      refine ZS ?_
      refine ZC ?_
      have hXw : ({ (Ac c m.line) with seen := m.turn, gave := m.turn, given := (Ac c m.line).value, state := 1 } : Line).wf := by first | exact hlw | (unfold Line.wf An at hlw ⊢; simp only; omega)
      refine Ao Try.call81 rfl (fun w hs => Bq (l := { (Ac c m.line) with seen := m.turn, gave := m.turn, given := (Ac c m.line).value, state := 1 }) hs mm hXw (by omega)) ?_; intro v149
      refine Zea ?_;intro hone149
      have ef : Cv (Ac c m.line) m.kind m.turn = { (Ac c m.line) with seen := m.turn, gave := m.turn, given := (Ac c m.line).value, state := 1 } := by unfold Cv; rw [if_neg (by omega), if_neg (by omega)]
      have er : Ae c id home m = (A2 c m.line ({ (Ac c m.line) with seen := m.turn, gave := m.turn, given := (Ac c m.line).value, state := 1 }) c.wait, [A8 9 id home m.line m.turn (Ac c m.line).value], []) := by unfold Ae; rw [if_neg (by omega)]; rw [if_neg (by omega), if_pos (by omega)]; rw [if_pos (by unfold D1; omega), ef, if_neg (by omega), if_neg (by omega)]
      exact Zgr
theorem Aau {u : Value} {c : Core} {id home : Int} {m : Msg} (hs : St (L) R w) (hu : sl u c.lines ∈ R) (hk : KB c) (hid : An id) (hhome : An home) (hm : m.wf) (hg : 0 ≤ m.line ∧ m.line < (c.lines.length : Int) ∧ m.kind = 6) : Calls Try.prog 59 [.agg (c.cells u).toArray, vi id, vi home, .agg m.cells.toArray].toArray w (Bw (fun v : Value × Value × Value => .tuple #[.agg (Core.cells v.1 (Ae c id home m).1).toArray, v.2.1, v.2.2]) (fun v => L) (fun v => sl v.1 (Ae c id home m).1.lines :: sl v.2.1 (Ae c id home m).2.1 :: sl v.2.2 (Ae c id home m).2.2 :: R)) := by
 refine Zbf ?_;intro hlen hone0 hn4 hm0
 clear hs
 refine Zbp ?_;intro b4 b5 b6 b7 b8 hlw b11
 refine Zan ?_
 refine Gc1 ?_
 refine kp [4, 5, 7, 8, 9, 10, 11, 12, 13, 43, 71, 72, 73, 74, 75, 76, 77, 78, 79, 80] ?_
 refine Ee 80 (.bool (decide (0 < m.turn ∧ m.turn = (Ac c m.line).gave))) ?_ ?_
 ·exact ZeL
 ·refine Aw ?_
  refine Gl ?_
  first | (refine cdx (p := ?p1) (hd := ?d1) ?e1 ?_ ?_; case e1 => exact rfl) | (refine Bk (b := ?b1) ?e1 ?_ ?_; case e1 => exact rfl)
  ·exact ZfP
  ·intro ht80
   refine Gl ?_
   refine Zck ?_
   refine Ee 102 (.bool (decide (m.turn ≤ (Ac c m.line).seen ∨ ((Ac c m.line).state ≠ 2 ∧ (Ac c m.line).state ≠ 3)))) ?_ ?_
   ·exact ZeA
   ·refine Aw ?_
    refine Gl ?_
    first | (refine cdx (p := ?p2) (hd := ?d2) ?e2 ?_ ?_; case e2 => exact rfl) | (refine Bk (b := ?b2) ?e2 ?_ ?_; case e2 => exact rfl)
    ·intro ht102
     refine Gl ?_
     refine ZdZ ?_;intro er
     exact ZeO
    ·intro ht102
     refine Zd4 ?_
     refine Ig (v := vi (Ac c m.line).value) (fun ρ S hS hB hA => by have h11 : S 11 = false := hA 11 ⟨0, rfl⟩; simp only [h11, cond_false]; exact C3 (hc := A0 pkk (by repeat (first | exact rfl | refine Dd rfl ?_))) Try.isAgg3) (fun _ _ _ _ _ => rfl) ?_
     refine Zd2 ?_;intro ρ v118
     rcases (show ((Ac c m.line).want = 3) ∨ ((Ac c m.line).want ≠ 3) from by omega) with hc | hc
     ·exact ZeW
     ·refine ZcS ?_
      refine As ?_
      refine ZQ ?_
      refine Cs ?_
      refine Gd1 ?_
      refine ZG ?_
      refine ZG ?_
      refine ZK ?_
      refine As ?_
      refine Glc ?_
      refine ZS ?_
      refine ZC ?_
      have hXw : ({ (Ac c m.line) with seen := m.turn, gave := m.turn, given := (Ac c m.line).value, state := 0, value := 0 } : Line).wf := by first | exact hlw | (unfold Line.wf An at hlw ⊢; simp only; omega)
      refine Ao Try.call81 rfl (fun w hs => Bq (l := { (Ac c m.line) with seen := m.turn, gave := m.turn, given := (Ac c m.line).value, state := 0, value := 0 }) hs mm hXw (by omega)) ?_; intro v149
      refine Zea ?_;intro hone149
      have ef : Cv (Ac c m.line) m.kind m.turn = { (Ac c m.line) with seen := m.turn, gave := m.turn, given := (Ac c m.line).value, state := 0, value := 0 } := by unfold Cv; rw [if_neg (by omega), if_pos (by omega)]
      have er : Ae c id home m = (A2 c m.line ({ (Ac c m.line) with seen := m.turn, gave := m.turn, given := (Ac c m.line).value, state := 0, value := 0 }) c.wait, [A8 9 id home m.line m.turn (Ac c m.line).value], []) := by unfold Ae; rw [if_neg (by omega)]; rw [if_neg (by omega), if_pos (by omega)]; rw [if_pos (by unfold D1; omega), ef, if_neg (by omega), if_neg (by omega)]
      exact Zgr
theorem Aat {u : Value} {c : Core} {id home : Int} {m : Msg} (hs : St (L) R w) (hu : sl u c.lines ∈ R) (hk : KB c) (hid : An id) (hhome : An home) (hm : m.wf) (hg : 0 ≤ m.line ∧ m.line < (c.lines.length : Int) ∧ m.kind = 7) : Calls Try.prog 59 [.agg (c.cells u).toArray, vi id, vi home, .agg m.cells.toArray].toArray w (Bw (fun v : Value × Value × Value => .tuple #[.agg (Core.cells v.1 (Ae c id home m).1).toArray, v.2.1, v.2.2]) (fun v => L) (fun v => sl v.1 (Ae c id home m).1.lines :: sl v.2.1 (Ae c id home m).2.1 :: sl v.2.2 (Ae c id home m).2.2 :: R)) := by
 refine Zbf ?_;intro hlen hone0 hn4 hm0
 clear hs
 refine Zbp ?_;intro b4 b5 b6 b7 b8 hlw b11
 refine ZF ?_
 refine Zan ?_
 refine Gd1 ?_
 refine Ga5 ?_
 refine cdy ?_ ?_
 ·intro ht157
  refine Gl ?_
  refine ZbF ?_
  have er : Ae c id home m = (c, [], []) := by unfold Ae; rw [if_neg (by omega)]; rw [if_neg (by omega), if_neg (by omega), if_pos (by omega)]; rw [if_pos (by omega)]
  rw [er]
  exact ZeO
 ·intro ht157
  refine Zaj ?_
  refine Bz (caps := [bp b5 0, bp b6 0, bp b7 0]) (vs := [vi 10, vi m.turn, vi 0]) rfl Try.call89 rfl (fun w hs => Rq hs (A0 pkk rfl) (A0 pkk rfl) (A0 pkk rfl) (by unfold An; omega) hm.2.2.2.2.2.1 (by unfold An; omega) hid hhome hm.2.2.2.1) ?_; intro v162
  refine Ga1 ?_
  refine ZcO ?_
  refine Ee 186 (.bool (decide (¬ Gp (Ac c m.line) m))) ?_ ?_
  ·rcases (show (m.serial < (Ac c m.line).serial) ∨ (m.serial = (Ac c m.line).serial ∧ m.alone = true ∧ (Ac c m.line).want ≠ 2) ∨ (m.serial = (Ac c m.line).serial ∧ m.alone = true ∧ (Ac c m.line).want = 2) ∨ (m.serial = (Ac c m.line).serial ∧ m.alone = false ∧ (Ac c m.line).want ≠ 1) ∨ (m.serial = (Ac c m.line).serial ∧ m.alone = false ∧ (Ac c m.line).want = 1) from by rcases Bool.eq_false_or_eq_true m.alone with h1 | h1 <;> simp only [h1, true_and, false_and, and_false, or_false, false_or, reduceCtorEq] <;> omega) with hm | hm | hm | hm | hm
   ·have hna : ¬ Gp (Ac c m.line) m := by unfold Gp; omega
    refine ZC ?_
    refine Ei ?_
    refine Ga19 ?_
    exact ZeN
   ·obtain ⟨hc1, hal, hc2⟩ := hm
    have hna : ¬ Gp (Ac c m.line) m := by unfold Gp; rw [hal]; simp; omega
    refine ZC ?_
    refine Bc ?_
    refine Zay ?_
    refine ZbG ?_
    refine ZQ ?_
    refine Kk ?_
    refine Ga12 ?_
    exact ZeN
   ·obtain ⟨hc1, hal, hc2⟩ := hm
    have hna : Gp (Ac c m.line) m := by unfold Gp; rw [hal]; simp; omega
    refine ZcO ?_
    refine ZC ?_
    refine Bc ?_
    refine Zay ?_
    refine ZbG ?_
    refine ZQ ?_
    refine K5 ?_
    refine ZN ?_
    refine ZbG ?_
    refine Ga7 ?_
    exact Zfm
   ·obtain ⟨hc1, hal, hc2⟩ := hm
    have hna : ¬ Gp (Ac c m.line) m := by unfold Gp; rw [hal]; simp; omega
    refine ZC ?_
    refine Bc ?_
    refine Zay ?_
    refine Zbv ?_
    refine rn8 ?_
    refine gy ?_
    refine Zbv ?_
    refine ZN ?_
    refine Kk ?_
    refine Ga2 ?_
    exact ZeN
   ·obtain ⟨hc1, hal, hc2⟩ := hm
    have hna : Gp (Ac c m.line) m := by unfold Gp; rw [hal]; simp; omega
    refine ZcO ?_
    refine ZC ?_
    refine Bc ?_
    refine Zay ?_
    refine Zbv ?_
    refine rn8 ?_
    refine gy ?_
    refine Zbv ?_
    refine ZN ?_
    refine K5 ?_
    refine Ga2 ?_
    exact Zfm
  ·refine Aw ?_
   refine Gl ?_
   first | (refine cdx (p := ?p2) (hd := ?d2) ?e2 ?_ ?_; case e2 => exact rfl) | (refine Bk (b := ?b2) ?e2 ?_ ?_; case e2 => exact rfl)
   ·intro ht186
    refine Zaf ?_
    refine ZA ?_
    refine s_B Try.sizeOf57 ?_
    refine Ga2 ?_
    have er : Ae c id home m = (c, [A8 10 id home m.line m.turn 0], []) := by unfold Ae; rw [if_neg (by omega)]; rw [if_neg (by omega), if_neg (by omega), if_pos (by omega)]; rw [if_neg (by omega), if_neg ht186]
    rw [er]
    exact Cf (u, v162, .slice none 0 0) Try.isAgg57 Try.sizeOf57
   ·intro ht186
    refine ZK ?_
    refine al_ (cs := zOp.cells) Try.zeroValue26 ?_; intro b17
    refine s_B Try.sizeOf26 ?_
    refine Zaj ?_
    obtain ⟨hwk, hwl, hwv⟩ := hk.wait m.line (by omega) (by have h9 := Decidable.not_not.1 ht186; unfold Gp at h9; omega)
    refine Ao Try.call83 rfl (fun w hs => M5 (v := m.value) (o := c.wait) hs hm.2.2.2.2.2.2 hwk (by omega) hwv) ?_; intro _
    refine Ga5 ?_
    refine kp [4, 5, 7, 8, 9, 10, 11, 13, 16, 17, 18, 19, 43, 198, 199, 200, 201, 202, 203, 204] ?_
    refine cq_ (blk b11 82 [vi (Ac c m.line).state, vi (Ac c m.line).value, vi (Ac c m.line).want, vi (Ac c m.line).serial, vi (Ac c m.line).seen, vi (Ac c m.line).gave, vi (Ac c m.line).given] :: blk b17 26 c.wait.cells :: blk b8 57 [.slice none 0 0, vi 0, vi 0, vi 0] :: blk b4 57 (c.cells u) :: blk b5 3 [vi id] :: blk b6 3 [vi home] :: blk b7 49 m.cells :: L) ?_
    refine jd_ (fun ρ S => blk b11 82 (bif S 10 then [vi 1, vi (Ay m.value c.wait).1, vi 0, vi (Ac c m.line).serial, vi m.turn, vi (Ac c m.line).gave, vi (Ac c m.line).given] else (bif S 8 then [vi (Ac c m.line).state, vi (Ay m.value c.wait).1, vi 0, vi (Ac c m.line).serial, vi m.turn, vi (Ac c m.line).gave, vi (Ac c m.line).given] else (bif S 6 then [vi (Ac c m.line).state, vi (Ay m.value c.wait).1, vi 0, vi (Ac c m.line).serial, vi (Ac c m.line).seen, vi (Ac c m.line).gave, vi (Ac c m.line).given] else (bif S 4 then [vi (Ac c m.line).state, vi (Ay m.value c.wait).1, vi (Ac c m.line).want, vi (Ac c m.line).serial, vi (Ac c m.line).seen, vi (Ac c m.line).gave, vi (Ac c m.line).given] else [vi (Ac c m.line).state, vi (Ac c m.line).value, vi (Ac c m.line).want, vi (Ac c m.line).serial, vi (Ac c m.line).seen, vi (Ac c m.line).gave, vi (Ac c m.line).given])))) :: blk b17 26 c.wait.cells :: blk b8 57 [.slice none 0 0, vi 0, vi 0, vi 0] :: blk b4 57 (c.cells u) :: blk b5 3 [vi id] :: blk b6 3 [vi home] :: blk b7 49 m.cells :: L) ?_
    refine dn4 ?_
    refine es_ 82 1 [] [6, 8, 10] (fun ρ => b11) (fun ρ => [vi (Ac c m.line).state, vi (Ac c m.line).value, vi (Ac c m.line).want, vi (Ac c m.line).serial, vi (Ac c m.line).seen, vi (Ac c m.line).gave, vi (Ac c m.line).given]) (fun ρ => [vi (Ay m.value c.wait).1]) Try.sizeOf3 ?_
    refine dn1 ?_
    refine es_ 82 2 [4] [8, 10] (fun ρ => b11) (fun ρ => [vi (Ac c m.line).state, vi (Ay m.value c.wait).1, vi (Ac c m.line).want, vi (Ac c m.line).serial, vi (Ac c m.line).seen, vi (Ac c m.line).gave, vi (Ac c m.line).given]) (fun ρ => [vi 0]) Try.sizeOf3 ?_
    refine dn1 ?_
    refine es_ 82 4 [4, 6] [10] (fun ρ => b11) (fun ρ => [vi (Ac c m.line).state, vi (Ay m.value c.wait).1, vi 0, vi (Ac c m.line).serial, vi (Ac c m.line).seen, vi (Ac c m.line).gave, vi (Ac c m.line).given]) (fun ρ => [vi m.turn]) Try.sizeOf3 ?_
    refine dn1 ?_
    refine es_ 82 0 [4, 6, 8] [] (fun ρ => b11) (fun ρ => [vi (Ac c m.line).state, vi (Ay m.value c.wait).1, vi 0, vi (Ac c m.line).serial, vi m.turn, vi (Ac c m.line).gave, vi (Ac c m.line).given]) (fun ρ => [vi 1]) Try.sizeOf3 ?_
    refine dnl ?_; intro ρ
    refine xq_ (blk b11 82 [vi 1, vi (Ay m.value c.wait).1, vi 0, vi (Ac c m.line).serial, vi m.turn, vi (Ac c m.line).gave, vi (Ac c m.line).given] :: blk b17 26 c.wait.cells :: blk b8 57 [.slice none 0 0, vi 0, vi 0, vi 0] :: blk b4 57 (c.cells u) :: blk b5 3 [vi id] :: blk b6 3 [vi home] :: blk b7 49 m.cells :: L) ?_
    refine ZD ?_
    refine Bk (b := ?b3) ?e3 ?_ ?_; case e3 => exact rfl
    ·intro ht206
     refine ZB ?_
     refine sc ?_
     refine Gl ?_
     have hvo : An (Ay m.value c.wait).1 := Pj hm.2.2.2.2.2.2 hwv.1 hwv.2
     refine ZC ?_
     have hXw : ({ (Ac c m.line) with value := (Ay m.value c.wait).1, want := 0, seen := m.turn, state := 2 } : Line).wf := by unfold Line.wf at hlw ⊢; exact ⟨by unfold An; simp only; omega, hvo, by unfold An; simp only; omega, hlw.2.2.2.1, hm.2.2.2.2.2.1, hlw.2.2.2.2.2.1, hlw.2.2.2.2.2.2⟩
     refine Ao Try.call81 rfl (fun w hs => Bq (l := { (Ac c m.line) with value := (Ay m.value c.wait).1, want := 0, seen := m.turn, state := 2 }) hs mm hXw (by omega)) ?_; intro v212
     refine Zd3 ?_;intro hone212 b20 hto ρ v221
     have eg : Gw (Ac c m.line) m c.wait = { (Ac c m.line) with value := (Ay m.value c.wait).1, want := 0, seen := m.turn, state := 2 } := by unfold Gw; rw [ht206, if_pos rfl]
     have er : Ae c id home m = (A2 c m.line ({ (Ac c m.line) with value := (Ay m.value c.wait).1, want := 0, seen := m.turn, state := 2 }) zOp, [A8 10 id home m.line m.turn 0], [⟨id, c.wait, (Ay m.value c.wait).2⟩]) := by unfold Ae; rw [if_neg (by omega)]; rw [if_neg (by omega), if_neg (by omega), if_pos (by omega)]; rw [if_neg (by omega), if_pos (Decidable.not_not.1 ht186), eg]
     rw [er]
     exact Cf (v212, v162, v221) Try.isAgg57 Try.sizeOf57
    ·intro ht206
     refine Gl ?_
     have hvo : An (Ay m.value c.wait).1 := Pj hm.2.2.2.2.2.2 hwv.1 hwv.2
     refine ZC ?_
     have hXw : ({ (Ac c m.line) with value := (Ay m.value c.wait).1, want := 0, seen := m.turn, state := 1 } : Line).wf := by unfold Line.wf at hlw ⊢; exact ⟨by unfold An; simp only; omega, hvo, by unfold An; simp only; omega, hlw.2.2.2.1, hm.2.2.2.2.2.1, hlw.2.2.2.2.2.1, hlw.2.2.2.2.2.2⟩
     refine Ao Try.call81 rfl (fun w hs => Bq (l := { (Ac c m.line) with value := (Ay m.value c.wait).1, want := 0, seen := m.turn, state := 1 }) hs mm hXw (by omega)) ?_; intro v212
     refine Zd3 ?_;intro hone212 b20 hto ρ v221
     have eg : Gw (Ac c m.line) m c.wait = { (Ac c m.line) with value := (Ay m.value c.wait).1, want := 0, seen := m.turn, state := 1 } := by unfold Gw; rw [ht206, if_neg (by decide)]
     have er : Ae c id home m = (A2 c m.line ({ (Ac c m.line) with value := (Ay m.value c.wait).1, want := 0, seen := m.turn, state := 1 }) zOp, [A8 10 id home m.line m.turn 0], [⟨id, c.wait, (Ay m.value c.wait).2⟩]) := by unfold Ae; rw [if_neg (by omega)]; rw [if_neg (by omega), if_neg (by omega), if_pos (by omega)]; rw [if_neg (by omega), if_pos (Decidable.not_not.1 ht186), eg]
     rw [er]
     exact Cf (v212, v162, v221) Try.isAgg57 Try.sizeOf57
theorem Agm {u : Value} {c : Core} {id home : Int} {m : Msg} (hs : St (L) R w) (hu : sl u c.lines ∈ R) (hk : KB c) (hid : An id) (hhome : An home) (hm : m.wf) : Calls Try.prog 59 [.agg (c.cells u).toArray, vi id, vi home, .agg m.cells.toArray].toArray w (Bw (fun v : Value × Value × Value => .tuple #[.agg (Core.cells v.1 (Ae c id home m).1).toArray, v.2.1, v.2.2]) (fun v => L) (fun v => sl v.1 (Ae c id home m).1.lines :: sl v.2.1 (Ae c id home m).2.1 :: sl v.2.2 (Ae c id home m).2.2 :: R)) := by
 by_cases h : 0 ≤ m.line ∧ m.line < (c.lines.length : Int)
 ·by_cases h4 : m.kind = 4
  ·exact Aaw hs hu hk hid hhome hm (by omega)
  by_cases h5 : m.kind = 5
  ·exact Aav hs hu hk hid hhome hm (by omega)
  by_cases h6 : m.kind = 6
  ·exact Aau hs hu hk hid hhome hm (by omega)
  by_cases h7 : m.kind = 7
  ·exact Aat hs hu hk hid hhome hm (by omega)
  by_cases h11 : m.kind = 11
  ·exact Xp hs hu hk hid hhome hm (by omega)
  exact Aas hs hu hk hid hhome hm (by omega)
 ·exact Aax hs hu hk hid hhome hm h
theorem Jd {v0 : Value} {l : Frames} {n : Int} (hs : St (L) R w) (h0 : sl v0 l ∈ R) (hn : An n) : Calls Try.prog 44 [v0, vi n].toArray w (Bw (fun v : Value × Value => .tuple #[v.1, v.2, vi (Bl l n).2.2]) (fun v => row 52 v.1 (Bl l n).1 :: L) (fun v => sl v.2 (Bl l n).2.1 :: R)) := by
 have hlen := Bg h0 hs
 unfold An at hn
 refine Aj Try.func44 rfl Try.ntmps44 rfl hs ?_
 clear hs
 refine Zad ?_
 rcases (show (n < 0) ∨ (¬ n < 0 ∧ (l.length : Int) ≤ n) ∨ (0 ≤ n ∧ n < (l.length : Int)) from by omega) with hc | hc | hc
 ·refine ZB ?_
  refine Ei ?_
  refine Gd6 ?_
  exact Zf9
 ·refine ZaP ?_
  refine Hj ?_
  refine Gd1 ?_
  exact Zf9
 ·refine ZaP ?_
  refine Dm ?_
  refine Gd1 ?_
  refine rn1 ?_
  refine Ao Try.call61 rfl (fun w hs => Uk hs mm) ?_; intro v18
  refine Gb1 ?_
  refine rn2 ?_
  refine ob (It Pb) ?_
  refine l_Sr Try.isAgg52 rfl .hd (by omega) ?_; intro v22
  refine Gb1 ?_
  refine rn3 ?_
  refine ob Gc ?_
  rw [show n + 1 = ((n.toNat + 1 : Nat) : Int) by omega]
  refine Ao Try.call73 rfl (fun w hs => by have h := X5 (i := n.toNat) (Agc hs) (by omega); rw [Int.toNat_of_nonneg (by omega)] at h; exact h) ?_; intro v27
  refine Ga4 ?_
  have er : Bl l n = (l.eraseIdx n.toNat, Av l n, 0) := by unfold Bl; rw [if_neg (by omega)]
  rw [er]
  exact Gt (v27, v22)
def X2 (l : Frames) (n : Nat) (k : Nat) : Frames := (l.take k).eraseIdx n
theorem Abv {l : Frames} {n k : Nat} (h : k = l.length) : X2 l n k = l.eraseIdx n := by unfold X2; rw [h, List.take_length]
theorem Agt {l : Frames} {n k : Nat} (h : k < l.length) (hn : k ≠ n) : X2 l n (k + 1) = X2 l n k ++ [l.getD k []] := by
 unfold X2
 rw [G7 [] h]
 by_cases h' : n < k
 ·rw [List.eraseIdx_append_of_lt_length (by rw [List.length_take]; omega)]
 ·rw [List.eraseIdx_of_length_le (by simp; omega), List.eraseIdx_of_length_le (by simp; omega)]
theorem Abu (l : Frames) (n k : Nat) : (X2 l n k).length ≤ k := by
 unfold X2; rw [List.length_eraseIdx]
 split <;> rw [List.length_take] <;> omega
theorem Agu {l : Frames} {n k : Nat} (h : k < l.length) (hn : k = n) : X2 l n (k + 1) = X2 l n k := by
 unfold X2
 subst hn
 rw [G7 [] h, List.eraseIdx_append_of_length_le (by rw [List.length_take]; omega), List.length_take, Nat.min_eq_left (by omega), Nat.sub_self, List.eraseIdx_of_length_le (l := l.take k) (by rw [List.length_take]; omega)]
 simp
theorem Io {v0 : Value} {l : Frames} {n : Int} (hs : St (L) R w) (h0 : sl v0 l ∈ R) (hn : An n) : Calls Try.prog 55 [v0, vi n].toArray w (Bw (fun v : Value × Value => .tuple #[v.1, v.2, vi (Bl l n).2.2]) (fun v => L) (fun v => sl v.1 (Bl l n).1 :: sl v.2 (Bl l n).2.1 :: R)) := by
 have hlen := Bg h0 hs
 unfold An at hn
 refine Aj Try.func55 rfl Try.ntmps55 rfl hs ?_
 clear hs
 refine Zad ?_
 rcases (show (n < 0) ∨ (¬ n < 0 ∧ (l.length : Int) ≤ n) ∨ (0 ≤ n ∧ n < (l.length : Int)) from by omega) with hc | hc | hc
 ·refine ZB ?_
  refine Ei ?_
  refine Gd6 ?_
  exact Zf1
 ·refine ZaP ?_
  refine Hj ?_
  refine Gd1 ?_
  exact Zf1
 ·refine ZaP ?_
  refine Dm ?_
  refine Gd1 ?_
  refine ZaA ?_
  refine JC.rowNil 52 (List UInt8) ?_
  refine Bx (γ := Nat × Value) (fun g => g.1 ≤ l.length) (fun g => row 52 g.2 (X2 l n.toNat g.1) :: L) (fun _ => R) (fun g => [(0, v0), (1, vi n), (7, g.2), (18, v0), (19, vi (l.length : Int)), (20, vi (g.1 : Int))]) (fun g => l.length - g.1) (0, .slice none 0 0) (Nat.zero_le _) alT (fun w hs => hs) ?_
  rintro ⟨k, vs⟩ hk
  try simp only at hk ⊢
  refine ZE ?_
  refine cdy ?_ ?_
  ·intro ht21
   refine Gl ?_
   refine JC.open1 (xs := l) k mm (by omega) (fun _ u => ?_)
   refine Aa ?_
   refine Gb5 ?_
   refine Ga3 ?_
   refine cdy ?_ ?_
   ·intro ht27
    refine ZA ?_
    refine li [_] Kp rfl Abm ?_; intro v30
    refine ap Kp (hb := fun w hs => by have : maxN = 16777216 := rfl; have h9 := Abu l n.toNat k; simp only [List.length_cons, List.length_nil]; omega) (k := ?_); intro v31
    refine ZH ?_
    refine Bb (k + 1, v31) (by show k + 1 ≤ l.length; omega) (by show l.length - (k + 1) < l.length - k; omega) alT (fun w hs => ?_)
    try simp only
    rw [Agt (by omega) (by omega)]; exact Ai hs
   ·intro ht27
    refine ZD ?_
    refine Bb (k + 1, vs) (by show k + 1 ≤ l.length; omega) (by show l.length - (k + 1) < l.length - k; omega) alT (fun w hs => ?_)
    try simp only
    rw [Agu (by omega) (by omega)]; exact Ai hs
  ·intro ht21
   refine Gl ?_
   refine JC.open1 (xs := l) n.toNat mm (by omega) (fun _ u => ?_)
   refine Zac ?_
   refine dnl ?_; intro ρ
   refine Gl ?_
   have er : Bl l n = (l.eraseIdx n.toNat, Av l n, 0) := by unfold Bl; rw [if_neg (by omega)]
   rw [er]
   exact Gt (vs, u) (hs := fun w hs => by rw [Abv (show k = l.length by omega)] at hs; exact Ai (St.shut hs))
theorem Rb {v0 : Value} {l : Frames} {n : Int} (hs : St (L) R w) (h0 : sl v0 l ∈ R) (hn : An n) : Calls Try.prog 46 [v0, vi n].toArray w (Bw (fun v : Value => .tuple #[v, vi (Fh l n).2]) (fun v => row 52 v (Fh l n).1 :: L) (fun v => R)) := by
 have hlen := Bg h0 hs
 unfold An at hn
 refine Aj Try.func46 rfl Try.ntmps46 rfl hs ?_
 clear hs
 refine ZD ?_
 rcases (show (n < 0) ∨ (¬ n < 0 ∧ (l.length : Int) ≤ n) ∨ (0 ≤ n ∧ n < (l.length : Int)) from by omega) with hc | hc | hc
 ·refine ZB ?_
  refine Ei ?_
  refine Gd6 ?_
  exact ZfU
 ·refine ZaP ?_
  refine Hj ?_
  refine Gd1 ?_
  exact ZfU
 ·refine ZaP ?_
  refine Dm ?_
  refine Gc1 ?_
  refine JC.open1 (xs := l) n.toNat mm (by omega) (fun _ u => ?_)
  refine Zax ?_
  refine Ao Try.call71 rfl (fun w hs => Uj hs mm mm) ?_; intro v19
  refine Ga2 ?_
  have er : Fh l n = (Cy l (Av l n), 0) := by unfold Fh; rw [if_neg (by omega)]
  rw [er]
  exact Ci v19
theorem X4 {v0 : Value} {l : Frames} {n bit : Int} (hs : St (L) R w) (h0 : sl v0 l ∈ R) (hn : An n) (hbit : An bit) : Calls Try.prog 78 [v0, vi n, vi bit].toArray w (Bw (fun v : Value => .tuple #[v, vi (Cg l n bit).2]) (fun v => row 52 v (Cg l n bit).1 :: L) (fun v => R)) := by
 have hlen := Bg h0 hs
 unfold An at hn
 refine Aj Try.func78 rfl Try.ntmps78 rfl hs ?_
 clear hs
 refine ZD ?_
 rcases (show (n < 0) ∨ (¬ n < 0 ∧ (l.length : Int) ≤ n) ∨ (0 ≤ n ∧ n < (l.length : Int)) from by omega) with hc | hc | hc
 ·refine ZB ?_
  refine Ei ?_
  refine Gd6 ?_
  exact ZfR
 ·refine ZaP ?_
  refine Hj ?_
  refine Gd1 ?_
  exact ZfR
 ·refine ZaP ?_
  refine Dm ?_
  refine Gc1 ?_
  refine JC.open1 (xs := l) n.toNat mm (by omega) (fun _ u => ?_)
  refine JC.know (p := (l.getD n.toNat []).length ≤ 16777216) (fun w hs => Bg (α := UInt8) (v := u) (.tail _ (.head _)) hs) (fun hlb => ?_)
  rcases (show (bit < 0) ∨ (¬ bit < 0 ∧ 8 * ((l.getD n.toNat []).length : Int) ≤ bit) ∨ (0 ≤ bit ∧ bit < 8 * ((l.getD n.toNat []).length : Int)) from by omega) with hc | hc | hc
  ·refine ZB ?_
   refine Ei ?_
   refine Gd10 ?_
   exact ZfK
  ·refine ZdY ?_
   refine Hj ?_
   refine Gd1 ?_
   exact ZfK
  ·refine ZdY ?_
   refine Dm ?_
   refine Gd1 ?_
   refine rn1 ?_
   refine Ao Try.call61 rfl (fun w hs => Uk hs mm) ?_; intro v30
   refine Gb1 ?_
   refine rn4 ?_
   refine ob (It Pb) ?_
   refine l_Sr Try.isAgg52 rfl .hd (by omega) ?_; intro v36
   refine rn1 ?_
   refine Ao Try.call107 rfl (fun w hs => Ni (bit := bit) hs mm hbit) ?_; intro v38
   refine ob (It Pb) ?_
   refine s_Sr Try.sizeOf52 rfl rfl mm .hd (by omega) ?_
   refine Gl ?_
   refine kp [6, 7, 8, 40] ?_
   refine Aa ?_
   refine Ga3 ?_
   have er : Cg l n bit = (l.set n.toNat (Bp (Av l n) bit), 0) := by unfold Cg Av; rw [if_neg (by omega), if_neg (by omega)]
   rw [er]
   exact Ci v30
theorem Kj {P : Program} {n : Nat} {Q : Exit → Act → World → Prop} {L : List Chunk} {R : List Fact} {al : List (Nat × Value)} {c : Code} {v : Value} {x : Chip} (i : Int) (hm : sl v x.cores ∈ R) (h0 : 0 ≤ i) (hi : i < x.cores.length) (k : (Aq x i).wait.wf → ∀ u, JC P n c Q L (cF v 4 i.toNat (Core.cells u (Aq x i)) :: sl u (Aq x i).lines :: R) al) : JC P n c Q L R al := JC.open1 i.toNat hm (by omega) k
theorem O1 {c : Core} {id home : Int} {o : Op} (ho : o.wf) : (Ah c id home o).1.wait.wf := by
 have hz : zOp.wf := by unfold zOp Op.wf An; simp only; omega
 unfold Ah
 split
 ·exact hz
 split
 ·exact hz
 split
 ·exact hz
 split
 ·exact hz
 ·exact ho
theorem Ro {c : Core} {id home : Int} {m : Msg} (ho : c.wait.wf) : (Ae c id home m).1.wait.wf := by
 have hz : zOp.wf := by unfold zOp Op.wf An; simp only; omega
 unfold Ae
 split
 ·exact ho
 split
 ·exact ho
 split
 ·split
  ·show (if _ then zOp else c.wait).wf
   split
   ·exact hz
   ·exact ho
  split
  ·exact ho
  ·exact ho
 split
 ·split
  ·exact ho
  split
  ·exact hz
  ·exact ho
 split
 ·exact hz
 ·exact ho
theorem Adr {x : Chip} {s : Step} (hk : s.kind = 2 ∨ s.kind = 3 ∨ s.kind = 4 ∨ s.kind = 5) (h : Cp x s.n) : Ak x s = (D3, [], 5) := by
 unfold Ak
 rw [if_neg (by omega)]
 by_cases h2 : s.kind = 2
 ·rw [if_pos h2, if_pos h]
 rw [if_neg h2]
 by_cases h3 : s.kind = 3
 ·rw [if_pos h3, if_pos h]
 rw [if_neg h3]
 by_cases h4 : s.kind = 4
 ·rw [if_pos h4, if_pos h]
 ·rw [if_neg h4, if_pos (by omega), if_pos h]
section
variable {n nl : Nat} {x : Chip} {M : List Int}
theorem Inv.lbs (h : Inv n nl x M) {p : Int} (hp : 0 ≤ p ∧ p < x.cores.length) : ∀ i, i < (Aq x p).lines.length → LB ((Aq x p).lines.getD i zLine) := fun i hi => by
 have hnc := h.nc
 have h1 : (Aq x p).lines.length = nl := h.ncl p.toNat (by omega)
 exact h.lb (i := i) (p := p.toNat) (by omega) (by omega)
theorem Inv.ebs (h : Inv n nl x M) : ∀ i, i < x.home.length → EB (x.home.getD i A1) ∧ (x.home.getD i A1).turn ≤ 65535 ∧ (0 ≤ (x.home.getD i A1).serial ∧ (x.home.getD i A1).serial ≤ 65535) ∧ (0 ≤ (x.home.getD i A1).value ∧ (x.home.getD i A1).value ≤ 255) ∧ (x.home.getD i A1).last.length ≤ 4 := fun i hi => by
 have hnh := h.nh
 have hn := h.n1
 have := h.nla i (by omega)
 exact ⟨h.eb (i := i) (by omega), (h.ebd (i := i) (by omega)).1, (h.ebd (i := i) (by omega)).2.1, (h.ebd (i := i) (by omega)).2.2, by show (ent x i).last.length ≤ 4; omega⟩
theorem Inv.says_in (h : Inv n nl x M) (i : Nat) (hi : i < x.home.length) : ∀ a ∈ D4 (x.home.getD i A1) i n, MsgIn a := fun a ha => by
 have hnh := h.nh; have hn := h.n1; have hl := h.l1
 exact Abz (Kz h (i := i) (by omega) a ha).1 (by simp only [Ef]; omega) (by simp only [Ef]; omega)
end
theorem Abd {n nl : Nat} {M : List Int} {cv hv fv : Value} {x : Chip} {s : Step} (hs : St (L) R w) (hc : sl cv x.cores ∈ R) (hh : sl hv x.home ∈ R) (hf : sl fv x.frames ∈ R) (h : Inv n nl x M) (hsw : s.wf) (hk : s.kind = 1) : Calls Try.prog 20 [.agg #[cv, hv, fv], .agg s.cells.toArray].toArray w (Bw (fun v : Value × Value × Value × Value => .tuple #[.agg #[v.1, v.2.1, v.2.2.1], v.2.2.2, vi (Ak x s).2.2]) (fun v => L) (fun v => sl v.1 (Ak x s).1.cores :: sl v.2.1 (Ak x s).1.home :: sl v.2.2.1 (Ak x s).1.frames :: sl v.2.2.2 (Ak x s).2.1 :: R)) := by
 refine ZaU ?_;intro hn hnl hnc hnh hfr honec honeh honef hsw0 hop hsn hsN hsb hn64 hcw
 clear hs
 refine Zbh ?_;intro b2 b3 b4
 refine Zap ?_
 rcases (show (s.node < 0) ∨ (0 ≤ s.node ∧ (x.cores.length : Int) ≤ s.node) ∨ (0 ≤ s.node ∧ s.node < (x.cores.length : Int)) from by omega) with hc | hc | hc
 ·refine ZX ?_
  refine Gc6 ?_
  exact Zff
 ·refine ZZ ?_
  refine ZN ?_
  refine Hj ?_
  refine Gc1 ?_
  exact Zff
 ·refine ZZ ?_
  refine ZN ?_
  refine Dm ?_
  refine Gc1 ?_
  refine ZcR ?_;intro hwt u hkb hlb hk4
  refine Zeq ?_
  refine jd_ (fun ρ S => blk b2 33 [cv, hv, fv] :: blk b3 28 s.cells :: blk b4 33 [.slice none 0 0, .slice none 0 0, .slice none 0 0] :: ((bif S 17 then [blk (Gh.dec (γ := Nat) (ρ 17)) 57 (bif S 18 then [(Gh.dec (γ := Value × Value × Value) (ρ 11)).1, vi (Ah (Aq x s.node) s.node (x.cores.length : Int) s.op).1.wait.kind, vi (Ah (Aq x s.node) s.node (x.cores.length : Int) s.op).1.wait.line, vi (Ah (Aq x s.node) s.node (x.cores.length : Int) s.op).1.wait.value] else [.slice none 0 0, vi 0, vi 0, vi 0])] else []) ++ (L))) ?_
  refine dn11 ?_
  refine Bt (γ := Value × Value × Value) (val := fun v => .tuple #[.agg (Core.cells v.1 (Ah (Aq x s.node) s.node (x.cores.length : Int) s.op).1).toArray, v.2.1, v.2.2, vi (Ah (Aq x s.node) s.node (x.cores.length : Int) s.op).2.2.2]) (F := fun v => [sl v.1 (Ah (Aq x s.node) s.node (x.cores.length : Int) s.op).1.lines, sl v.2.1 (Ah (Aq x s.node) s.node (x.cores.length : Int) s.op).2.1, sl v.2.2 (Ah (Aq x s.node) s.node (x.cores.length : Int) s.op).2.2.1]) Try.call50 (fun _ => rfl) (fun ρ L R w hd hs => Abg (c := (Aq x s.node)) (id := s.node) (home := (x.cores.length : Int)) (q := s.op) (u := u) hs (hd.base mm) hkb hsn hn64 hop) (fun ρ g S hS hA => by have u17 : upS S 11 17 = S 17 := rfl; have u18 : upS S 11 18 = S 18 := rfl; have r17 : Rho.set ρ 11 g 17 = ρ 17 := rfl; have h18 : S 18 = false := hA 18 ⟨0, rfl⟩; simp only [u17, u18, r17, h18, cond_false]) ?_
  refine e_p (v := fun ρ => .tuple #[.agg (Core.cells (Gh.dec (γ := Value × Value × Value) (ρ 11)).1 (Ah (Aq x s.node) s.node (x.cores.length : Int) s.op).1).toArray, (Gh.dec (γ := Value × Value × Value) (ρ 11)).2.1, (Gh.dec (γ := Value × Value × Value) (ρ 11)).2.2, vi (Ah (Aq x s.node) s.node (x.cores.length : Int) s.op).2.2.2]) (fun _ _ => S2) (Ind.gh (h := fun g => (.tuple #[.agg (Core.cells (Gh.dec (γ := Value × Value × Value) g).1 (Ah (Aq x s.node) s.node (x.cores.length : Int) s.op).1).toArray, (Gh.dec (γ := Value × Value × Value) g).2.1, (Gh.dec (γ := Value × Value × Value) g).2.2, vi (Ah (Aq x s.node) s.node (x.cores.length : Int) s.op).2.2.2] : Value)) 11 0 rfl) (fun _ _ _ _ _ => rfl) ?_
  refine e_p (v := fun ρ => .agg (Core.cells (Gh.dec (γ := Value × Value × Value) (ρ 11)).1 (Ah (Aq x s.node) s.node (x.cores.length : Int) s.op).1).toArray) (fun _ _ => q_x) (Ind.gh (h := fun g => (.agg (Core.cells (Gh.dec (γ := Value × Value × Value) g).1 (Ah (Aq x s.node) s.node (x.cores.length : Int) s.op).1).toArray : Value)) 11 1 rfl) (fun _ _ _ _ _ => rfl) ?_
  refine e_p (v := fun ρ => (Gh.dec (γ := Value × Value × Value) (ρ 11)).2.1) (fun _ _ => q_x) (Ind.gh (h := fun g => ((Gh.dec (γ := Value × Value × Value) g).2.1 : Value)) 11 1 rfl) (fun _ _ _ _ _ => rfl) ?_
  refine e_p (v := fun ρ => (Gh.dec (γ := Value × Value × Value) (ρ 11)).2.2) (fun _ _ => q_x) (Ind.gh (h := fun g => ((Gh.dec (γ := Value × Value × Value) g).2.2 : Value)) 11 1 rfl) (fun _ _ _ _ _ => rfl) ?_
  refine Zes ?_
  refine J4 (cs := [.slice none 0 0, vi 0, vi 0, vi 0]) Try.zeroValue57 rfl (fun ρ b S hS hA => ?_) ?_
  ·have ui : upS S 17 17 = true := rfl; have u18 : upS S 17 18 = S 18 := rfl; have r11 : Rho.set ρ 17 (Gh.enc b) 11 = ρ 11 := rfl; have h18 : S 18 = false := hA 18 ⟨0, rfl⟩; have rs : (Gh.dec (γ := Nat) (Rho.set ρ 17 (Gh.enc b) 17)) = b := rfl
   simp only [ui, hS, u18, r11, h18, rs, cond_true, cond_false, List.nil_append]
   exact ZeM
  refine es_ 57 0 [17] [] (fun ρ => (Gh.dec (γ := Nat) (ρ 17))) (fun ρ => [.slice none 0 0, vi 0, vi 0, vi 0]) (fun ρ => [(Gh.dec (γ := Value × Value × Value) (ρ 11)).1, vi (Ah (Aq x s.node) s.node (x.cores.length : Int) s.op).1.wait.kind, vi (Ah (Aq x s.node) s.node (x.cores.length : Int) s.op).1.wait.line, vi (Ah (Aq x s.node) s.node (x.cores.length : Int) s.op).1.wait.value]) Try.sizeOf57 (h1 := (fun ρ R w L' hd hs => Bi (isSlice.one (hs.fact (hd.dep (it := ⟨11, _, _, _, _⟩) (by repeat (first | exact List.Mem.head _ | refine List.Mem.tail _ ?_)) ⟨9, rfl⟩ (List.Mem.head _)))) (by repeat (first | exact D7 | refine Bi rfl ?_)))) ?_
  refine e_p (v := fun ρ => (Gh.dec (γ := Value × Value × Value) (ρ 11)).2.1) (fun _ _ => Dv) (Ind.gh (h := fun g => ((Gh.dec (γ := Value × Value × Value) g).2.1 : Value)) 11 0 rfl) (fun _ _ _ _ _ => rfl) ?_
  refine e_p (v := fun ρ => (Gh.dec (γ := Value × Value × Value) (ρ 11)).2.2) (fun _ _ => Dv) (Ind.gh (h := fun g => ((Gh.dec (γ := Value × Value × Value) g).2.2 : Value)) 11 0 rfl) (fun _ _ _ _ _ => rfl) ?_
  refine J9 (v := vi (Ah (Aq x s.node) s.node (x.cores.length : Int) s.op).2.2.2) (fun _ _ => Dv) (fun _ _ _ _ _ => rfl) ?_
  refine dnl ?_; intro ρ
  refine xq_ (blk b2 33 [cv, hv, fv] :: blk b3 28 s.cells :: blk b4 33 [.slice none 0 0, .slice none 0 0, .slice none 0 0] :: (blk (Gh.dec (γ := Nat) (ρ 17)) 57 [(Gh.dec (γ := Value × Value × Value) (ρ 11)).1, vi (Ah (Aq x s.node) s.node (x.cores.length : Int) s.op).1.wait.kind, vi (Ah (Aq x s.node) s.node (x.cores.length : Int) s.op).1.wait.line, vi (Ah (Aq x s.node) s.node (x.cores.length : Int) s.op).1.wait.value] :: L)) ?_
  generalize (Gh.dec (γ := Value × Value × Value) (ρ 11)) = v65
  generalize (Gh.dec (γ := Nat) (ρ 17)) = b9
  refine Gl ?_
  refine kp [2, 3, 4, 5, 6, 7, 8, 9, 10, 11, 12, 31, 70, 71] ?_
  refine ZW ?_
  refine cdy ?_ ?_
  ·intro ht71
   refine Gl ?_
   refine Zaa ?_
   refine ZA ?_
   refine Bz (caps := []) (vs := [vi (Ah (Aq x s.node) s.node (x.cores.length : Int) s.op).2.2.2]) rfl Try.call49 rfl (fun w hs => K1 hs) ?_; intro _
   refine rn3 ?_
   refine ZaG ?_
   have er : Ak x s = (D3, [], (Ah (Aq x s.node) s.node (x.cores.length : Int) s.op).2.2.2) := by unfold Ak A7; rw [if_pos (by omega), if_neg (by omega), if_pos ht71]
   rw [er]
   exact Cf (.slice none 0 0, .slice none 0 0, .slice none 0 0, .slice none 0 0) Try.isAgg33 Try.sizeOf33
  ·intro ht71
   refine Zam ?_
   refine Ao Try.call51 rfl (fun w hs => M3 (x := x) (i := s.node) (k := (Ah (Aq x s.node) s.node (x.cores.length : Int) s.op).1) (u := v65.1) hs mm honeh honef mm (O1 hop) (by omega)) ?_; intro v82
   refine J.know (p := v82.oneCell' = true) (fun w hs => isSlice.one (hs.fact (List.Mem.head _))) (fun honev82 => ?_)
   refine s_B (cs := [v82, hv, fv]) Try.sizeOf33 ?_
   refine Zaj ?_
   refine Ao Try.call52 rfl (fun w hs => Qv (fs := x.frames) (ms := (Ah (Aq x s.node) s.node (x.cores.length : Int) s.op).2.1) hs mm mm (Va (by omega) (by omega) hk4 hlb)) ?_; intro v86
   refine J.know (p := v86.oneCell' = true) (fun w hs => isSlice.one (hs.fact (List.Mem.head _))) (fun honev86 => ?_)
   refine ZG ?_
   refine ZK ?_
   refine s_B (cs := [v82, hv, v86]) Try.sizeOf33 ?_
   refine Ga2 ?_
   have er : Ak x s = (C1 x s.node (Ah (Aq x s.node) s.node (x.cores.length : Int) s.op).1 (Ah (Aq x s.node) s.node (x.cores.length : Int) s.op).2.1, (Ah (Aq x s.node) s.node (x.cores.length : Int) s.op).2.2.1, 0) := by unfold Ak A7; rw [if_pos (by omega), if_neg (by omega), if_neg ht71]
   rw [er]
   exact Cf (v82, hv, v86, v65.2.2) Try.isAgg33 Try.sizeOf33
theorem Abe {n nl : Nat} {M : List Int} {cv hv fv : Value} {x : Chip} {s : Step} (hs : St (L) R w) (hc : sl cv x.cores ∈ R) (hh : sl hv x.home ∈ R) (hf : sl fv x.frames ∈ R) (h : Inv n nl x M) (hsw : s.wf) (hk : s.kind ≠ 1 ∧ s.kind ≠ 2 ∧ s.kind ≠ 3 ∧ s.kind ≠ 4 ∧ s.kind ≠ 5 ∧ s.kind ≠ 6) : Calls Try.prog 20 [.agg #[cv, hv, fv], .agg s.cells.toArray].toArray w (Bw (fun v : Value × Value × Value × Value => .tuple #[.agg #[v.1, v.2.1, v.2.2.1], v.2.2.2, vi (Ak x s).2.2]) (fun v => L) (fun v => sl v.1 (Ak x s).1.cores :: sl v.2.1 (Ak x s).1.home :: sl v.2.2.1 (Ak x s).1.frames :: sl v.2.2.2 (Ak x s).2.1 :: R)) := by
 refine ZaU ?_;intro hn hnl hnc hnh hfr honec honeh honef hsw0 hop hsn hsN hsb hn64 hcw
 clear hs
 refine Zbh ?_;intro b2 b3 b4
 refine ZF ?_
 refine ZF ?_
 refine Zdn ?_
 refine Zaa ?_
 refine ZB ?_
 refine Bz (caps := []) (vs := [vi 1]) rfl Try.call49 rfl (fun w hs => K1 hs) ?_; intro _
 refine rn3 ?_
 refine ZaG ?_
 have er : Ak x s = (D3, [], 1) := by unfold Ak; rw [if_neg (by omega), if_neg (by omega), if_neg (by omega), if_neg (by omega), if_neg (by omega), if_neg (by omega)]
 rw [er]
 exact Cf (.slice none 0 0, .slice none 0 0, .slice none 0 0, .slice none 0 0) Try.isAgg33 Try.sizeOf33
theorem Aay {n nl : Nat} {M : List Int} {cv hv fv : Value} {x : Chip} {s : Step} (hs : St (L) R w) (hc : sl cv x.cores ∈ R) (hh : sl hv x.home ∈ R) (hf : sl fv x.frames ∈ R) (h : Inv n nl x M) (hsw : s.wf) (hk : s.kind = 6) : Calls Try.prog 20 [.agg #[cv, hv, fv], .agg s.cells.toArray].toArray w (Bw (fun v : Value × Value × Value × Value => .tuple #[.agg #[v.1, v.2.1, v.2.2.1], v.2.2.2, vi (Ak x s).2.2]) (fun v => L) (fun v => sl v.1 (Ak x s).1.cores :: sl v.2.1 (Ak x s).1.home :: sl v.2.2.1 (Ak x s).1.frames :: sl v.2.2.2 (Ak x s).2.1 :: R)) := by
 refine ZaU ?_;intro hn hnl hnc hnh hfr honec honeh honef hsw0 hop hsn hsN hsb hn64 hcw
 clear hs
 refine Zbh ?_;intro b2 b3 b4
 refine ZF ?_
 refine Zap ?_
 rcases (show (s.node < 0) ∨ (0 ≤ s.node ∧ (x.cores.length : Int) < s.node) ∨ (0 ≤ s.node ∧ s.node < (x.cores.length : Int)) ∨ (s.node = (x.cores.length : Int)) from by omega) with hc | hc | hc | hc
 ·refine ZX ?_
  refine Gc6 ?_
  exact Zfi
 ·refine ZZ ?_
  refine ZN ?_
  refine G3 ?_
  refine Gc1 ?_
  exact Zfi
 ·refine ZZ ?_
  refine ZN ?_
  refine Fd ?_
  refine Gd1 ?_
  refine rn3 ?_
  refine Ei ?_
  refine Glc ?_
  refine ZcR ?_;intro hwt u hkb hlb hk4
  refine Zeq ?_
  refine jd_ (fun ρ S => blk b2 33 (bif S 14 then [cv, hv, (Gh.dec (γ := Value) (ρ 12))] else [cv, hv, fv]) :: blk b3 28 s.cells :: blk b4 33 [.slice none 0 0, .slice none 0 0, .slice none 0 0] :: L) ?_
  refine dn1 ?_
  refine Ig (v := fv) (fun ρ S hS hB hA => by have h14 : S 14 = false := hA 14 ⟨0, rfl⟩; simp only [h14, cond_false]; exact C3 (hc := A0 pkk (by repeat (first | exact rfl | refine Dd rfl ?_))) Try.isAgg31) (fun _ _ _ _ _ => rfl) ?_
  refine dn1 ?_
  refine Ig (v := cv) (fun ρ S hS hB hA => by have h14 : S 14 = false := hA 14 ⟨0, rfl⟩; simp only [h14, cond_false]; exact C3 (hc := A0 pkk (by repeat (first | exact rfl | refine Dd rfl ?_))) Try.isAgg29) (fun _ _ _ _ _ => rfl) ?_
  refine dn2 ?_
  first | refine epc (fun _ _ => Fx Qq) ?_ | refine epc (fun _ _ => It Qq) ?_ | refine epp (fun _ _ => Fx Qq) ?_ | refine epp (fun _ _ => It Qq) ?_
  first | refine epc (fun _ _ => Xv Try.isAgg57 Try.sizeOf57) ?_ | refine epc (fun _ _ => F3 4 Try.isAgg57 Try.sizeOf57) ?_ | refine epc (fun _ _ => Vy 4 Try.isAgg57 Try.sizeOf57) ?_ | refine epc (fun _ _ => q_lNf 4 Try.isAgg57 Try.sizeOf57) ?_ | refine epp (fun _ _ => Xv Try.isAgg57 Try.sizeOf57) ?_ | refine epp (fun _ _ => F3 4 Try.isAgg57 Try.sizeOf57) ?_ | refine epp (fun _ _ => Vy 4 Try.isAgg57 Try.sizeOf57) ?_ | refine epp (fun _ _ => q_lNf 4 Try.isAgg57 Try.sizeOf57) ?_
  refine dn3 ?_
  refine Bt (γ := Value) (val := fun v => v) (F := fun v => [sl v (C9 (Aq x s.node) s.node (x.cores.length : Int))]) Try.call53 (fun _ => rfl) (fun ρ L R w hd hs => Q3 (c := (Aq x s.node)) (id := s.node) (home := (x.cores.length : Int)) (u := u) hs (hd.base mm) hsn hn64) (fun _ _ _ _ _ => rfl) ?_
  refine Bt (γ := Value) (val := fun v => v) (F := fun v => [sl v (way x.frames (C9 (Aq x s.node) s.node (x.cores.length : Int)))]) Try.call52 (fun _ => rfl) (fun ρ L R w hd hs => Qv (fs := x.frames) (ms := (C9 (Aq x s.node) s.node (x.cores.length : Int))) hs (hd.base mm) (hd.dep (it := ⟨11, _, _, _, _⟩) (by repeat (first | exact List.Mem.head _ | refine List.Mem.tail _ ?_)) ⟨9, rfl⟩ (List.Mem.head _)) (O6 (by omega) (by omega) _ 0 (by omega) (by omega) (Uy (d := zLine) hlb))) (fun ρ g S hS hA => by have u14 : upS S 12 14 = S 14 := rfl; have h14 : S 14 = false := hA 14 ⟨0, rfl⟩; simp only [u14, h14, cond_false]) ?_
  refine dn1 ?_
  refine Eu (T0 := 33) (f := 2) (vs := fun ρ => [cv, hv, fv]) (v := fun ρ => (Gh.dec (γ := Value) (ρ 12))) (fun ρ => b2) Try.sizeOf31 (fun _ => rfl) (fun _ => rfl) (fun ρ S R w L9 hB hd hs => isSlice.one (hs.fact (hd.dep (it := ⟨12, _, _, _, _⟩) (by repeat (first | exact List.Mem.head _ | refine List.Mem.tail _ ?_)) ⟨9, rfl⟩ (List.Mem.head _)))) (fun _ => rfl) (fun ρ g S hS hB hA => ?_) ?_
  ·have ui : upS S 14 14 = true := rfl; have r12 : Rho.set ρ 14 g 12 = ρ 12 := rfl
   simp only [ui, hS, r12, cond_true, cond_false]
   exact pex
  refine dnl ?_; intro ρ
  refine xq_ (blk b2 33 [cv, hv, (Gh.dec (γ := Value) (ρ 12))] :: blk b3 28 s.cells :: blk b4 33 [.slice none 0 0, .slice none 0 0, .slice none 0 0] :: L) ?_
  generalize (Gh.dec (γ := Value) (ρ 11)) = v121
  generalize (Gh.dec (γ := Value) (ρ 12)) = v122
  refine Zaf ?_
  refine JC.know (p := v122.oneCell' = true) (fun w hs => isSlice.one (hs.fact (mm (f := sl v122 (way x.frames (C9 (Aq x s.node) s.node (x.cores.length : Int))))))) (fun honev122 => ?_)
  refine kp [2, 3, 4, 5, 6, 7, 8, 31, 124] ?_
  refine ZB ?_
  refine s_B (cs := [cv, hv, v122]) Try.sizeOf33 ?_
  refine Ga2 ?_
  have er : Ak x s = (⟨x.cores, x.home, way x.frames (C9 (Aq x s.node) s.node (x.cores.length : Int))⟩, [], 0) := by unfold Ak A7; rw [if_neg (by omega), if_neg (by omega), if_neg (by omega), if_neg (by omega), if_neg (by omega), if_pos (by omega)]; rw [if_neg (by omega), if_neg (by omega)]
  rw [er]
  exact Cf (cv, hv, v122, .slice none 0 0) Try.isAgg33 Try.sizeOf33
 ·refine ZZ ?_
  refine ZN ?_
  refine Fd ?_
  refine Gd1 ?_
  refine rn3 ?_
  refine Bc ?_
  refine Glc ?_
  have hnode : s.node = (x.cores.length : Int) := by omega
  refine Aa ?_
  refine Ga4 ?_
  refine Bx (γ := Nat × Value) (fun g => g.1 ≤ x.home.length) (fun g => blk b2 33 [cv, hv, g.2] :: blk b3 28 s.cells :: blk b4 33 [.slice none 0 0, .slice none 0 0, .slice none 0 0] :: L) (fun g => sl g.2 (way x.frames (Cm (x.cores.length : Int) 0 (x.home.take g.1))) :: R) (fun g => [(2, bp b2 0), (3, bp b3 0), (4, bp b4 0), (8, vi (x.cores.length : Int)), (126, hv), (127, vi (x.home.length : Int)), (128, vi (g.1 : Int))]) (fun g => x.home.length - g.1) (0, fv) (Nat.zero_le _) alT (fun w hs => Ai (Aex hs hf)) ?_
  rintro ⟨k, vf⟩ hk
  try simp only at hk ⊢
  refine Gl ?_
  refine kp [2, 3, 4, 5, 6, 7, 8, 31, 126, 127, 128, 129] ?_
  refine Zas ?_
  refine cdy ?_ ?_
  ·intro ht129
   refine Gl ?_
   refine Uf (l := x.home) (v := hv) k mm (by omega) (fun _ ue => ?_)
   refine JC.know (p := ue.oneCell' = true) (fun w hs => isSlice.one (hs.fact (.tail _ (.head _)))) (fun honeu => ?_)
   refine ZI ?_
   refine al_ (cs := zEC) Try.zeroValue80 ?_; intro b14
   refine rn1 ?_
   refine s_B (cs := Entry.cells ue (x.home.getD k A1)) Try.sizeOf80 ?_
   refine Gl ?_
   refine cq_ (blk b2 33 [cv, hv, vf] :: blk b14 80 (Entry.cells ue (x.home.getD k A1)) :: blk b3 28 s.cells :: blk b4 33 [.slice none 0 0, .slice none 0 0, .slice none 0 0] :: L) ?_
   refine jd_ (fun ρ S => blk b2 33 (bif S 8 then [cv, hv, (Gh.dec (γ := Value) (ρ 6))] else [cv, hv, vf]) :: blk b14 80 (Entry.cells ue (x.home.getD k A1)) :: blk b3 28 s.cells :: blk b4 33 [.slice none 0 0, .slice none 0 0, .slice none 0 0] :: L) ?_
   refine dn1 ?_
   refine Ig (v := vf) (fun ρ S hS hB hA => by have h8 : S 8 = false := hA 8 ⟨0, rfl⟩; simp only [h8, cond_false]; exact C3 (hc := A0 pkk (by repeat (first | exact rfl | refine Dd rfl ?_))) Try.isAgg31) (fun _ _ _ _ _ => rfl) ?_
   refine dn3 ?_
   refine Bt (γ := Value) (val := fun v => v) (F := fun v => [sl v (D4 (x.home.getD k A1) (k : Int) (x.cores.length : Int))]) Try.call54 (fun _ => rfl) (fun ρ L R w hd hs => Iq (e := (x.home.getD k A1)) (line := (k : Int)) (id := (x.cores.length : Int)) (u := ue) hs (h.ebs k (by omega)).1 honeu (by unfold An; omega) hn64) (fun _ _ _ _ _ => rfl) ?_
   refine Bt (γ := Value) (val := fun v => v) (F := fun v => [sl v (way (way x.frames (Cm (x.cores.length : Int) 0 (x.home.take k))) (D4 (x.home.getD k A1) (k : Int) (x.cores.length : Int)))]) Try.call52 (fun _ => rfl) (fun ρ L R w hd hs => Qv (fs := way x.frames (Cm (x.cores.length : Int) 0 (x.home.take k))) (ms := D4 (x.home.getD k A1) (k : Int) (x.cores.length : Int)) hs (hd.base mm) (hd.dep (it := ⟨5, _, _, _, _⟩) (by repeat (first | exact List.Mem.head _ | refine List.Mem.tail _ ?_)) ⟨9, rfl⟩ (List.Mem.head _)) (by rw [hnc]; exact h.says_in k (by omega))) (fun ρ g S hS hA => by have u8 : upS S 6 8 = S 8 := rfl; have h8 : S 8 = false := hA 8 ⟨0, rfl⟩; simp only [u8, h8, cond_false]) ?_
   refine dn1 ?_
   refine Eu (T0 := 33) (f := 2) (vs := fun ρ => [cv, hv, vf]) (v := fun ρ => (Gh.dec (γ := Value) (ρ 6))) (fun ρ => b2) Try.sizeOf31 (fun _ => rfl) (fun _ => rfl) (fun ρ S R w L9 hB hd hs => isSlice.one (hs.fact (hd.dep (it := ⟨6, _, _, _, _⟩) (by repeat (first | exact List.Mem.head _ | refine List.Mem.tail _ ?_)) ⟨9, rfl⟩ (List.Mem.head _)))) (fun _ => rfl) (fun ρ g S hS hB hA => ?_) ?_
   ·have ui : upS S 8 8 = true := rfl; have r6 : Rho.set ρ 8 g 6 = ρ 6 := rfl
    simp only [ui, hS, r6, cond_true, cond_false]
    exact pex
   refine dnl ?_; intro ρ
   refine xq_ (blk b2 33 [cv, hv, (Gh.dec (γ := Value) (ρ 6))] :: blk b14 80 (Entry.cells ue (x.home.getD k A1)) :: blk b3 28 s.cells :: blk b4 33 [.slice none 0 0, .slice none 0 0, .slice none 0 0] :: L) ?_
   generalize (Gh.dec (γ := Value) (ρ 5)) = v138
   generalize (Gh.dec (γ := Value) (ρ 6)) = v139
   refine ZD ?_
   refine Bb (k + 1, v139) (by show k + 1 ≤ x.home.length; omega) (by show x.home.length - (k + 1) < x.home.length - k; omega) alT (fun w hs => ?_)
   try simp only
   rw [G7 A1 (by omega), Hu, I8, List.length_take, Nat.min_eq_left (by omega), Int.zero_add]; exact Ai hs
  ·intro ht129
   refine Zaf ?_
   refine JC.know (p := vf.oneCell' = true) (fun w hs => isSlice.one (hs.fact (mm (f := sl vf (way x.frames (Cm (x.cores.length : Int) 0 (x.home.take k))))))) (fun honevf => ?_)
   refine ZB ?_
   refine s_B (cs := [cv, hv, vf]) Try.sizeOf33 ?_
   refine Ga2 ?_
   have er : Ak x s = (⟨x.cores, x.home, way x.frames (Cm (x.cores.length : Int) 0 (x.home.take k))⟩, [], 0) := by unfold Ak A7; rw [if_neg (by omega), if_neg (by omega), if_neg (by omega), if_neg (by omega), if_neg (by omega), if_pos (by omega)]; rw [if_neg (by omega), if_pos (by omega), List.take_of_length_le (by omega), hnode]; rfl
   rw [er]
   exact Cf (cv, hv, vf, .slice none 0 0) Try.isAgg33 Try.sizeOf33
theorem Aba {n nl : Nat} {M : List Int} {cv hv fv : Value} {x : Chip} {s : Step} (hs : St (L) R w) (hc : sl cv x.cores ∈ R) (hh : sl hv x.home ∈ R) (hf : sl fv x.frames ∈ R) (h : Inv n nl x M) (hsw : s.wf) (hk : s.kind = 4) : Calls Try.prog 20 [.agg #[cv, hv, fv], .agg s.cells.toArray].toArray w (Bw (fun v : Value × Value × Value × Value => .tuple #[.agg #[v.1, v.2.1, v.2.2.1], v.2.2.2, vi (Ak x s).2.2]) (fun v => L) (fun v => sl v.1 (Ak x s).1.cores :: sl v.2.1 (Ak x s).1.home :: sl v.2.2.1 (Ak x s).1.frames :: sl v.2.2.2 (Ak x s).2.1 :: R)) := by
 refine ZaU ?_;intro hn hnl hnc hnh hfr honec honeh honef hsw0 hop hsn hsN hsb hn64 hcw
 clear hs
 refine Zbh ?_;intro b2 b3 b4
 refine ZaO ?_
 refine Gc1 ?_
 rcases (show (Cp x s.n) ∨ (¬ Cp x s.n) from by exact Classical.em _) with hc | hc
 ·exact Ze2
 ·have hnf := hc
  unfold Cp at hc
  refine Zcl ?_;intro et
  refine Ao (γ := Value × Value) (val := fun v => .tuple #[v.1, v.2, vi 0]) (Rf := fun v => sl v.1 (x.frames.eraseIdx s.n.toNat) :: sl v.2 (Av x.frames s.n) :: R) Try.call55 rfl (fun w hs => by have h9 := Io (l := x.frames) (n := s.n) hs mm hsN; rw [et] at h9; exact h9) ?_; intro ⟨va, vb⟩
  refine Zdl ?_
  refine Gb2 ?_
  refine Cs ?_
  refine Gd1 ?_
  refine rn3 ?_
  refine Ao Try.call56 rfl (fun w hs => Xo (l := x.frames) (b := (Av x.frames s.n)) hs mm mm) ?_; intro v172
  refine J.know (p := v172.oneCell' = true) (fun w hs => isSlice.one (hs.fact (List.Mem.head _))) (fun honev172 => ?_)
  refine ZG ?_
  refine Zaf ?_
  refine ZB ?_
  refine s_B (cs := [cv, hv, v172]) Try.sizeOf33 ?_
  refine Ga2 ?_
  have er : Ak x s = (⟨x.cores, x.home, Cy x.frames (Av x.frames s.n)⟩, [], 0) := by unfold Ak; rw [if_neg (by omega), if_neg (by omega), if_neg (by omega), if_pos (by omega), if_neg hnf]
  rw [er]
  exact Cf (cv, hv, v172, .slice none 0 0) Try.isAgg33 Try.sizeOf33
theorem Aaz {n nl : Nat} {M : List Int} {cv hv fv : Value} {x : Chip} {s : Step} (hs : St (L) R w) (hc : sl cv x.cores ∈ R) (hh : sl hv x.home ∈ R) (hf : sl fv x.frames ∈ R) (h : Inv n nl x M) (hsw : s.wf) (hk : s.kind = 5) : Calls Try.prog 20 [.agg #[cv, hv, fv], .agg s.cells.toArray].toArray w (Bw (fun v : Value × Value × Value × Value => .tuple #[.agg #[v.1, v.2.1, v.2.2.1], v.2.2.2, vi (Ak x s).2.2]) (fun v => L) (fun v => sl v.1 (Ak x s).1.cores :: sl v.2.1 (Ak x s).1.home :: sl v.2.2.1 (Ak x s).1.frames :: sl v.2.2.2 (Ak x s).2.1 :: R)) := by
 refine ZaU ?_;intro hn hnl hnc hnh hfr honec honeh honef hsw0 hop hsn hsN hsb hn64 hcw
 clear hs
 refine Zbh ?_;intro b2 b3 b4
 refine ZF ?_
 refine ZaO ?_
 refine Gc1 ?_
 rcases (show (Cp x s.n) ∨ (¬ Cp x s.n) from by exact Classical.em _) with hc | hc
 ·exact Ze2
 ·have hnf := hc
  unfold Cp at hc
  refine Zcl ?_;intro et
  refine Ao (γ := Value × Value) (val := fun v => .tuple #[v.1, v.2, vi 0]) (Rf := fun v => sl v.1 (x.frames.eraseIdx s.n.toNat) :: sl v.2 (Av x.frames s.n) :: R) Try.call55 rfl (fun w hs => by have h9 := Io (l := x.frames) (n := s.n) hs mm hsN; rw [et] at h9; exact h9) ?_; intro ⟨va, vb⟩
  refine Zdl ?_
  refine Gb2 ?_
  refine ZF ?_
  refine Cs ?_
  refine Gd1 ?_
  refine rn6 ?_
  refine Ao Try.call24 rfl (fun w hs => T9 (c := (Ap x)) (b := (Av x.frames s.n)) hs mm hcw) ?_; intro _
  refine rn3 ?_
  refine al_ (cs := zMsg.cells) Try.zeroValue49 ?_; intro b18
  refine Zdg ?_
  refine cdy ?_ ?_
  ·intro ht188
   refine Gl ?_
   refine Zaa ?_
   refine ZB ?_
   refine Bz (caps := []) (vs := [vi 6]) rfl Try.call49 rfl (fun w hs => K1 hs) ?_; intro _
   refine rn3 ?_
   refine ZaG ?_
   have er : Ak x s = (D3, [], 6) := by unfold Ak; rw [if_neg (by omega), if_neg (by omega), if_neg (by omega), if_neg (by omega), if_pos (by omega), if_neg hnf]; rw [if_pos ht188]
   rw [er]
   exact Cf (.slice none 0 0, .slice none 0 0, .slice none 0 0, .slice none 0 0) Try.isAgg33 Try.sizeOf33
  ·intro ht188
   refine Gl ?_
   have hb12 : (Av x.frames s.n).length = 12 := (h.mi _ (Iv hc)).1
   rcases (show (s.bit < 0) ∨ (0 ≤ s.bit ∧ 8 * ((Av x.frames s.n).length : Int) ≤ s.bit) ∨ (0 ≤ s.bit ∧ s.bit < 8 * ((Av x.frames s.n).length : Int)) from by omega) with hc | hc | hc
   ·have esp : Cg x.frames s.n s.bit = ([], 3) := by unfold Cg; rw [if_neg (by omega), if_pos (by omega)]
    refine ZX ?_
    refine Gc8 ?_
    exact ZeY
   ·have esp : Cg x.frames s.n s.bit = ([], 3) := by unfold Cg; rw [if_neg (by omega), if_pos (by omega)]
    refine Zeh ?_
    refine Hj ?_
    refine Gc1 ?_
    exact ZeY
   ·have esp : Cg x.frames s.n s.bit = (x.frames.set s.n.toNat (Bp (Av x.frames s.n) s.bit), 0) := by unfold Cg; rw [if_neg (by omega), if_neg (by omega)]
    refine Zeh ?_
    refine Dm ?_
    refine Gc1 ?_
    refine kp [2, 3, 4, 5, 6, 8, 15, 16, 17, 20, 210, 211, 212, 213] ?_
    refine Aa ?_
    refine liO ([] : Frames) Kp rfl (fun j h => Gu) ?_; intro v210
    refine rn2 ?_
    refine ap Kp (hb := fun w hs => by have : maxN = 16777216 := rfl; simp only [List.length_nil]; omega) (k := ?_); intro v213
    refine Ga1 ?_
    refine cq_ (row 52 v213 x.frames :: blk b2 33 [cv, hv, fv] :: blk b3 28 s.cells :: blk b4 33 [.slice none 0 0, .slice none 0 0, .slice none 0 0] :: L) ?_
    refine jd_ (fun ρ S => row 52 v213 (bif S 8 then (x.frames.set s.n.toNat (Bp (Av x.frames s.n) s.bit)) else x.frames) :: blk b2 33 [cv, hv, fv] :: blk b3 28 s.cells :: blk b4 33 [.slice none 0 0, .slice none 0 0, .slice none 0 0] :: L) ?_
    refine dn6 ?_
    refine Bt (γ := Value) (val := fun v => v) (F := fun v => [sl v (Bp (Av x.frames s.n) s.bit)]) Try.call57 (fun _ => rfl) (fun ρ L R w hd hs => M4 (b := (Av x.frames s.n)) (bit := s.bit) hs (hd.base mm) hsb) (fun _ _ _ _ _ => rfl) ?_
    refine J9 (v := ep v213 1 s.n.toNat 0) (fun ρ S => It (v := v213) (len := (bif S 8 then (x.frames.set s.n.toNat (Bp (Av x.frames s.n) s.bit)) else x.frames).length) (i := s.n) Pb (hl := Dn .hd) (h0 := by omega) (h1 := by cases S 8 <;> simp <;> omega)) (fun _ _ _ _ _ => rfl) ?_
    refine Adk (T0 := 52) (v := v213) (xs := x.frames) (k := s.n.toNat) (e' := (Bp (Av x.frames s.n) s.bit)) (c := fun ρ => (Gh.dec (γ := Value) (ρ 6))) (cs := fun ρ => [(Gh.dec (γ := Value) (ρ 6))]) Try.sizeOf52 rfl (by omega) (fun _ => rfl) (fun _ => rfl) (fun _ h => Hn h) (fun ρ R w L' hd hs => isSlice.one (hs.fact (hd.dep (it := ⟨6, _, _, _, _⟩) (by repeat (first | exact List.Mem.head _ | refine List.Mem.tail _ ?_)) ⟨9, rfl⟩ (List.Mem.head _)))) (fun ρ R hd j hj => ⟨_, rfl, hj _ (hd.dep (it := ⟨6, _, _, _, _⟩) (by repeat (first | exact List.Mem.head _ | refine List.Mem.tail _ ?_)) ⟨9, rfl⟩ (List.Mem.head _))⟩) (fun ρ g S hS hB hA => ?_) ?_
    ·have ui : upS S 8 8 = true := rfl
     simp only [ui, hS, cond_true, cond_false]
     exact pex
    refine dnl ?_; intro ρ
    refine xq_ (row 52 v213 (x.frames.set s.n.toNat (Bp (Av x.frames s.n) s.bit)) :: blk b2 33 [cv, hv, fv] :: blk b3 28 s.cells :: blk b4 33 [.slice none 0 0, .slice none 0 0, .slice none 0 0] :: L) ?_
    generalize (Gh.dec (γ := Value) (ρ 6)) = v220
    refine Gl ?_
    refine JC.shut (v := v213) pkk ?_
    refine JC.know (p := v213.oneCell' = true) (fun w hs => isSlice.one (hs.fact (List.Mem.head _))) (fun honev213 => ?_)
    refine ZA ?_
    refine sc ?_
    refine Zaf ?_
    refine ZB ?_
    refine s_B (cs := [cv, hv, v213]) Try.sizeOf33 ?_
    refine Ga2 ?_
    have er : Ak x s = (⟨x.cores, x.home, x.frames.set s.n.toNat (Bp (Av x.frames s.n) s.bit)⟩, [], 0) := by unfold Ak; rw [if_neg (by omega), if_neg (by omega), if_neg (by omega), if_neg (by omega), if_pos (by omega), if_neg hnf]; rw [if_neg ht188, esp, if_neg (fun h => h rfl)]
    rw [er]
    exact Cf (cv, hv, v213, .slice none 0 0) Try.isAgg33 Try.sizeOf33
theorem Abb {n nl : Nat} {M : List Int} {cv hv fv : Value} {x : Chip} {s : Step} (hs : St (L) R w) (hc : sl cv x.cores ∈ R) (hh : sl hv x.home ∈ R) (hf : sl fv x.frames ∈ R) (h : Inv n nl x M) (hsw : s.wf) (hk : s.kind = 3) : Calls Try.prog 20 [.agg #[cv, hv, fv], .agg s.cells.toArray].toArray w (Bw (fun v : Value × Value × Value × Value => .tuple #[.agg #[v.1, v.2.1, v.2.2.1], v.2.2.2, vi (Ak x s).2.2]) (fun v => L) (fun v => sl v.1 (Ak x s).1.cores :: sl v.2.1 (Ak x s).1.home :: sl v.2.2.1 (Ak x s).1.frames :: sl v.2.2.2 (Ak x s).2.1 :: R)) := by
 refine ZaU ?_;intro hn hnl hnc hnh hfr honec honeh honef hsw0 hop hsn hsN hsb hn64 hcw
 clear hs
 refine Zbh ?_;intro b2 b3 b4
 refine ZF ?_
 refine Zan ?_
 refine Gc1 ?_
 rcases (show (Cp x s.n) ∨ (¬ Cp x s.n) from by exact Classical.em _) with hc | hc
 ·exact Ze2
 ·have hnf := hc
  unfold Cp at hc
  refine Zcl ?_;intro et
  refine Ao (γ := Value × Value) (val := fun v => .tuple #[v.1, v.2, vi 0]) (Rf := fun v => sl v.1 (x.frames.eraseIdx s.n.toNat) :: sl v.2 (Av x.frames s.n) :: R) Try.call55 rfl (fun w hs => by have h9 := Io (l := x.frames) (n := s.n) hs mm hsN; rw [et] at h9; exact h9) ?_; intro ⟨va, vb⟩
  refine Zdl ?_
  refine ZdU ?_;intro honea
  refine Cs ?_
  refine Glc ?_
  refine ZS ?_
  refine ZB ?_
  refine s_B (cs := [cv, hv, va]) Try.sizeOf33 ?_
  refine Ga2 ?_
  have er : Ak x s = (⟨x.cores, x.home, (x.frames.eraseIdx s.n.toNat)⟩, [], 0) := by unfold Ak; rw [if_neg (by omega), if_neg (by omega), if_pos (by omega), if_neg hnf]
  exact Zgs
theorem Abc {n nl : Nat} {M : List Int} {cv hv fv : Value} {x : Chip} {s : Step} (hs : St (L) R w) (hc : sl cv x.cores ∈ R) (hh : sl hv x.home ∈ R) (hf : sl fv x.frames ∈ R) (h : Inv n nl x M) (hsw : s.wf) (hk : s.kind = 2) : Calls Try.prog 20 [.agg #[cv, hv, fv], .agg s.cells.toArray].toArray w (Bw (fun v : Value × Value × Value × Value => .tuple #[.agg #[v.1, v.2.1, v.2.2.1], v.2.2.2, vi (Ak x s).2.2]) (fun v => L) (fun v => sl v.1 (Ak x s).1.cores :: sl v.2.1 (Ak x s).1.home :: sl v.2.2.1 (Ak x s).1.frames :: sl v.2.2.2 (Ak x s).2.1 :: R)) := by
 refine ZaU ?_;intro hn hnl hnc hnh hfr honec honeh honef hsw0 hop hsn hsN hsb hn64 hcw
 clear hs
 refine Zbh ?_;intro b2 b3 b4
 refine Zan ?_
 refine Gc1 ?_
 rcases (show (Cp x s.n) ∨ (¬ Cp x s.n) from by exact Classical.em _) with hc | hc
 ·have et : Bl x.frames s.n = ([], [], 5) := by unfold Bl; rw [if_pos (by unfold Cp at hc; exact hc)]
  refine ZC ?_
  refine Ao (γ := Value × Value) (val := fun v => .tuple #[v.1, v.2, vi 5]) (Rf := fun v => sl v.1 ([] : Frames) :: sl v.2 ([] : List UInt8) :: R) Try.call55 rfl (fun w hs => by have h9 := Io (l := x.frames) (n := s.n) hs mm hsN; rw [et] at h9; exact h9) ?_; intro ⟨va, vb⟩
  refine Gb7 ?_
  refine rn1 ?_
  refine ZaK ?_
  refine kp [2, 3, 4, 5, 6, 7, 8, 15, 16, 17, 159, 160, 161, 162, 163, 164] ?_
  refine ZA ?_
  refine Bz (caps := []) (vs := [vi 5]) rfl Try.call49 rfl (fun w hs => K1 hs) ?_; intro _
  refine Zcu ?_;intro er
  exact Cf (.slice none 0 0, .slice none 0 0, .slice none 0 0, .slice none 0 0) Try.isAgg33 Try.sizeOf33
 ·have hnf := hc
  unfold Cp at hc
  refine Zcl ?_;intro et
  refine Ao (γ := Value × Value) (val := fun v => .tuple #[v.1, v.2, vi 0]) (Rf := fun v => sl v.1 (x.frames.eraseIdx s.n.toNat) :: sl v.2 (Av x.frames s.n) :: R) Try.call55 rfl (fun w hs => by have h9 := Io (l := x.frames) (n := s.n) hs mm hsN; rw [et] at h9; exact h9) ?_; intro ⟨va, vb⟩
  refine Gb7 ?_
  refine rn1 ?_
  refine ob (Am rfl rfl (De (by decide))) ?_
  refine Glc ?_
  refine kp [2, 3, 4, 5, 6, 7, 8, 15, 16, 17, 165, 166] ?_
  refine Aa ?_
  refine ZdU ?_;intro honea
  refine ZaR ?_
  refine rn6 ?_
  refine Ao Try.call24 rfl (fun w hs => T9 (c := (Ap x)) (b := (Av x.frames s.n)) hs mm hcw) ?_; intro _
  refine rn3 ?_
  refine al_ (cs := zMsg.cells) Try.zeroValue49 ?_; intro b21
  refine Zdg ?_
  refine cdy ?_ ?_
  ·intro ht242
   refine Zaf ?_
   refine ZB ?_
   refine s_B (cs := [cv, hv, va]) Try.sizeOf33 ?_
   refine Ga2 ?_
   have er : Ak x s = (⟨x.cores, x.home, (x.frames.eraseIdx s.n.toNat)⟩, [], 0) := by unfold Ak; rw [if_neg (by omega), if_pos (by omega), if_neg hnf]; unfold Be; rw [show Ap ⟨x.cores, x.home, (x.frames.eraseIdx s.n.toNat)⟩ = Ap x from rfl]; rw [if_pos ht242]
   exact Zgs
  ·intro ht242
   refine Gl ?_
   have hp0 : (Af (Ap x) (Av x.frames s.n)).2 = 0 := Decidable.not_not.1 ht242
   have hpk := Fg (c := (Ap x)) (b := (Av x.frames s.n)) (m := (Af (Ap x) (Av x.frames s.n)).1) (by rw [← hp0])
   have hwk := Ey hpk.2.2.2.2.1
   have hpw : (Af (Ap x) (Av x.frames s.n)).1.wf := by rw [hpk.2.2.2.2.2]; exact Pm _
   have ecn : (Ap x).cores = (x.cores.length : Int) := rfl
   rw [ecn] at hwk
   refine ZS ?_
   refine Aa ?_
   refine Ga4 ?_
   refine cdy ?_ ?_
   ·intro ht247
    refine Gl ?_
    refine kp [2, 4, 5, 6, 8, 21, 22, 23, 248, 249, 250, 251, 252, 253, 254, 255] ?_
    refine ZC ?_
    refine Ao Try.call58 rfl (fun w hs => Sz (l := x.home) (id := (x.cores.length : Int)) (m := (Af (Ap x) (Av x.frames s.n)).1) hs mm (fun i hi => (h.ebs i hi).1) (fun i hi => (h.ebs i hi).2.2.2.2) hpw hn64) ?_; intro ⟨v253a, v253b⟩
    refine Ga5 ?_
    refine JC.know (p := v253a.oneCell' = true) (fun w hs => isSlice.one (hs.fact (mm (f := sl v253a (Al x.home (x.cores.length : Int) (Af (Ap x) (Av x.frames s.n)).1).1)))) (fun honeva => ?_)
    refine ZA ?_
    refine sc ?_
    refine Zaj ?_
    refine Ao Try.call52 rfl (fun w hs => Qv (fs := (x.frames.eraseIdx s.n.toNat)) (ms := (Al x.home (x.cores.length : Int) (Af (Ap x) (Av x.frames s.n)).1).2) hs mm mm (Nh (by omega) (by omega) h.ebs hwk.2.2.2.1 hwk.2.2.2.2.2.1)) ?_; intro v261
    refine J.know (p := v261.oneCell' = true) (fun w hs => isSlice.one (hs.fact (List.Mem.head _))) (fun honev261 => ?_)
    refine ZG ?_
    refine ZJ ?_
    refine s_B (cs := [cv, v253a, v261]) Try.sizeOf33 ?_
    refine Ga2 ?_
    have er : Ak x s = (⟨x.cores, (Al x.home (x.cores.length : Int) (Af (Ap x) (Av x.frames s.n)).1).1, way (x.frames.eraseIdx s.n.toNat) (Al x.home (x.cores.length : Int) (Af (Ap x) (Av x.frames s.n)).1).2⟩, [], 0) := by unfold Ak; rw [if_neg (by omega), if_pos (by omega), if_neg hnf]; unfold Be; rw [show Ap ⟨x.cores, x.home, (x.frames.eraseIdx s.n.toNat)⟩ = Ap x from rfl]; rw [if_neg ht242, if_pos (show (Af (Ap x) (Av x.frames s.n)).1.dst = A7 ⟨x.cores, x.home, (x.frames.eraseIdx s.n.toNat)⟩ from ht247)]; rfl
    rw [er]
    exact Cf (cv, v253a, v261, .slice none 0 0) Try.isAgg33 Try.sizeOf33
   ·intro ht247
    refine Gl ?_
    refine Kj (x := x) (v := cv) (Af (Ap x) (Av x.frames s.n)).1.dst mm (by omega) (by omega) (fun hwt u => ?_)
    have hkb : KB (Aq x (Af (Ap x) (Av x.frames s.n)).1.dst) := h.kb (p := (Af (Ap x) (Av x.frames s.n)).1.dst.toNat) (by omega)
    have hlb := h.lbs (p := (Af (Ap x) (Av x.frames s.n)).1.dst) (by omega)
    have hk4 := hkb.n
    have hpd64 : An (Af (Ap x) (Av x.frames s.n)).1.dst := by unfold An; omega
    refine kp [2, 4, 5, 6, 8, 21, 24, 25, 26, 264, 265, 266, 267, 268, 269, 270, 271, 272, 273, 274, 275, 276, 277, 278] ?_
    refine cq_ (blk b2 33 [cv, hv, va] :: blk b21 49 (Af (Ap x) (Av x.frames s.n)).1.cells :: blk b3 28 s.cells :: blk b4 33 [.slice none 0 0, .slice none 0 0, .slice none 0 0] :: L) ?_
    refine jd_ (fun ρ S => blk b2 33 [cv, hv, va] :: blk b21 49 (Af (Ap x) (Av x.frames s.n)).1.cells :: blk b3 28 s.cells :: blk b4 33 [.slice none 0 0, .slice none 0 0, .slice none 0 0] :: ((bif S 15 then [blk (Gh.dec (γ := Nat) (ρ 15)) 57 (bif S 16 then [(Gh.dec (γ := Value × Value × Value) (ρ 10)).1, vi (Ae (Aq x (Af (Ap x) (Av x.frames s.n)).1.dst) (Af (Ap x) (Av x.frames s.n)).1.dst (x.cores.length : Int) (Af (Ap x) (Av x.frames s.n)).1).1.wait.kind, vi (Ae (Aq x (Af (Ap x) (Av x.frames s.n)).1.dst) (Af (Ap x) (Av x.frames s.n)).1.dst (x.cores.length : Int) (Af (Ap x) (Av x.frames s.n)).1).1.wait.line, vi (Ae (Aq x (Af (Ap x) (Av x.frames s.n)).1.dst) (Af (Ap x) (Av x.frames s.n)).1.dst (x.cores.length : Int) (Af (Ap x) (Av x.frames s.n)).1).1.wait.value] else [.slice none 0 0, vi 0, vi 0, vi 0])] else []) ++ (L))) ?_
    refine Afo ?_
    refine Bt (γ := Value × Value × Value) (val := fun v => .tuple #[.agg (Core.cells v.1 (Ae (Aq x (Af (Ap x) (Av x.frames s.n)).1.dst) (Af (Ap x) (Av x.frames s.n)).1.dst (x.cores.length : Int) (Af (Ap x) (Av x.frames s.n)).1).1).toArray, v.2.1, v.2.2]) (F := fun v => [sl v.1 (Ae (Aq x (Af (Ap x) (Av x.frames s.n)).1.dst) (Af (Ap x) (Av x.frames s.n)).1.dst (x.cores.length : Int) (Af (Ap x) (Av x.frames s.n)).1).1.lines, sl v.2.1 (Ae (Aq x (Af (Ap x) (Av x.frames s.n)).1.dst) (Af (Ap x) (Av x.frames s.n)).1.dst (x.cores.length : Int) (Af (Ap x) (Av x.frames s.n)).1).2.1, sl v.2.2 (Ae (Aq x (Af (Ap x) (Av x.frames s.n)).1.dst) (Af (Ap x) (Av x.frames s.n)).1.dst (x.cores.length : Int) (Af (Ap x) (Av x.frames s.n)).1).2.2]) Try.call59 (fun _ => rfl) (fun ρ L R w hd hs => Agm (c := (Aq x (Af (Ap x) (Av x.frames s.n)).1.dst)) (id := (Af (Ap x) (Av x.frames s.n)).1.dst) (home := (x.cores.length : Int)) (m := (Af (Ap x) (Av x.frames s.n)).1) (u := u) hs (hd.base mm) hkb hpd64 hn64 hpw) (fun ρ g S hS hA => by have u15 : upS S 10 15 = S 15 := rfl; have u16 : upS S 10 16 = S 16 := rfl; have r15 : Rho.set ρ 10 g 15 = ρ 15 := rfl; have h16 : S 16 = false := hA 16 ⟨0, rfl⟩; simp only [u15, u16, r15, h16, cond_false]) ?_
    refine e_p (v := fun ρ => .tuple #[.agg (Core.cells (Gh.dec (γ := Value × Value × Value) (ρ 10)).1 (Ae (Aq x (Af (Ap x) (Av x.frames s.n)).1.dst) (Af (Ap x) (Av x.frames s.n)).1.dst (x.cores.length : Int) (Af (Ap x) (Av x.frames s.n)).1).1).toArray, (Gh.dec (γ := Value × Value × Value) (ρ 10)).2.1, (Gh.dec (γ := Value × Value × Value) (ρ 10)).2.2]) (fun _ _ => S2) (Ind.gh (h := fun g => (.tuple #[.agg (Core.cells (Gh.dec (γ := Value × Value × Value) g).1 (Ae (Aq x (Af (Ap x) (Av x.frames s.n)).1.dst) (Af (Ap x) (Av x.frames s.n)).1.dst (x.cores.length : Int) (Af (Ap x) (Av x.frames s.n)).1).1).toArray, (Gh.dec (γ := Value × Value × Value) g).2.1, (Gh.dec (γ := Value × Value × Value) g).2.2] : Value)) 10 0 rfl) (fun _ _ _ _ _ => rfl) ?_
    refine e_p (v := fun ρ => .agg (Core.cells (Gh.dec (γ := Value × Value × Value) (ρ 10)).1 (Ae (Aq x (Af (Ap x) (Av x.frames s.n)).1.dst) (Af (Ap x) (Av x.frames s.n)).1.dst (x.cores.length : Int) (Af (Ap x) (Av x.frames s.n)).1).1).toArray) (fun _ _ => q_x) (Ind.gh (h := fun g => (.agg (Core.cells (Gh.dec (γ := Value × Value × Value) g).1 (Ae (Aq x (Af (Ap x) (Av x.frames s.n)).1.dst) (Af (Ap x) (Av x.frames s.n)).1.dst (x.cores.length : Int) (Af (Ap x) (Av x.frames s.n)).1).1).toArray : Value)) 10 1 rfl) (fun _ _ _ _ _ => rfl) ?_
    refine e_p (v := fun ρ => (Gh.dec (γ := Value × Value × Value) (ρ 10)).2.1) (fun _ _ => q_x) (Ind.gh (h := fun g => ((Gh.dec (γ := Value × Value × Value) g).2.1 : Value)) 10 1 rfl) (fun _ _ _ _ _ => rfl) ?_
    refine e_p (v := fun ρ => (Gh.dec (γ := Value × Value × Value) (ρ 10)).2.2) (fun _ _ => q_x) (Ind.gh (h := fun g => ((Gh.dec (γ := Value × Value × Value) g).2.2 : Value)) 10 1 rfl) (fun _ _ _ _ _ => rfl) ?_
    refine J4 (cs := [.slice none 0 0, vi 0, vi 0, vi 0]) Try.zeroValue57 rfl (fun ρ b S hS hA => ?_) ?_
    ·have ui : upS S 15 15 = true := rfl; have u16 : upS S 15 16 = S 16 := rfl; have r10 : Rho.set ρ 15 (Gh.enc b) 10 = ρ 10 := rfl; have h16 : S 16 = false := hA 16 ⟨0, rfl⟩; have rs : (Gh.dec (γ := Nat) (Rho.set ρ 15 (Gh.enc b) 15)) = b := rfl
     simp only [ui, hS, u16, r10, h16, rs, cond_true, cond_false, List.nil_append]
     exact ZeM
    refine es_ 57 0 [15] [] (fun ρ => (Gh.dec (γ := Nat) (ρ 15))) (fun ρ => [.slice none 0 0, vi 0, vi 0, vi 0]) (fun ρ => [(Gh.dec (γ := Value × Value × Value) (ρ 10)).1, vi (Ae (Aq x (Af (Ap x) (Av x.frames s.n)).1.dst) (Af (Ap x) (Av x.frames s.n)).1.dst (x.cores.length : Int) (Af (Ap x) (Av x.frames s.n)).1).1.wait.kind, vi (Ae (Aq x (Af (Ap x) (Av x.frames s.n)).1.dst) (Af (Ap x) (Av x.frames s.n)).1.dst (x.cores.length : Int) (Af (Ap x) (Av x.frames s.n)).1).1.wait.line, vi (Ae (Aq x (Af (Ap x) (Av x.frames s.n)).1.dst) (Af (Ap x) (Av x.frames s.n)).1.dst (x.cores.length : Int) (Af (Ap x) (Av x.frames s.n)).1).1.wait.value]) Try.sizeOf57 (h1 := (fun ρ R w L' hd hs => Bi (isSlice.one (hs.fact (hd.dep (it := ⟨10, _, _, _, _⟩) (by repeat (first | exact List.Mem.head _ | refine List.Mem.tail _ ?_)) ⟨9, rfl⟩ (List.Mem.head _)))) (by repeat (first | exact D7 | refine Bi rfl ?_)))) ?_
    refine e_p (v := fun ρ => (Gh.dec (γ := Value × Value × Value) (ρ 10)).2.1) (fun _ _ => Dv) (Ind.gh (h := fun g => ((Gh.dec (γ := Value × Value × Value) g).2.1 : Value)) 10 0 rfl) (fun _ _ _ _ _ => rfl) ?_
    refine e_p (v := fun ρ => (Gh.dec (γ := Value × Value × Value) (ρ 10)).2.2) (fun _ _ => Dv) (Ind.gh (h := fun g => ((Gh.dec (γ := Value × Value × Value) g).2.2 : Value)) 10 0 rfl) (fun _ _ _ _ _ => rfl) ?_
    refine dnl ?_; intro ρ
    refine xq_ (blk b2 33 [cv, hv, va] :: blk b21 49 (Af (Ap x) (Av x.frames s.n)).1.cells :: blk b3 28 s.cells :: blk b4 33 [.slice none 0 0, .slice none 0 0, .slice none 0 0] :: (blk (Gh.dec (γ := Nat) (ρ 15)) 57 [(Gh.dec (γ := Value × Value × Value) (ρ 10)).1, vi (Ae (Aq x (Af (Ap x) (Av x.frames s.n)).1.dst) (Af (Ap x) (Av x.frames s.n)).1.dst (x.cores.length : Int) (Af (Ap x) (Av x.frames s.n)).1).1.wait.kind, vi (Ae (Aq x (Af (Ap x) (Av x.frames s.n)).1.dst) (Af (Ap x) (Av x.frames s.n)).1.dst (x.cores.length : Int) (Af (Ap x) (Av x.frames s.n)).1).1.wait.line, vi (Ae (Aq x (Af (Ap x) (Av x.frames s.n)).1.dst) (Af (Ap x) (Av x.frames s.n)).1.dst (x.cores.length : Int) (Af (Ap x) (Av x.frames s.n)).1).1.wait.value] :: L)) ?_
    generalize (Gh.dec (γ := Value × Value × Value) (ρ 10)) = v275
    generalize (Gh.dec (γ := Nat) (ρ 15)) = b24
    refine Zam ?_
    refine Ao Try.call51 rfl (fun w hs => M3 (x := x) (i := (Af (Ap x) (Av x.frames s.n)).1.dst) (k := (Ae (Aq x (Af (Ap x) (Av x.frames s.n)).1.dst) (Af (Ap x) (Av x.frames s.n)).1.dst (x.cores.length : Int) (Af (Ap x) (Av x.frames s.n)).1).1) (u := v275.1) hs mm honeh honea mm (Ro hkb.wwf) (by omega)) ?_; intro v283
    refine J.know (p := v283.oneCell' = true) (fun w hs => isSlice.one (hs.fact (List.Mem.head _))) (fun honev283 => ?_)
    refine s_B (cs := [v283, hv, va]) Try.sizeOf33 ?_
    refine Zaj ?_
    refine Ao Try.call52 rfl (fun w hs => Qv (fs := (x.frames.eraseIdx s.n.toNat)) (ms := (Ae (Aq x (Af (Ap x) (Av x.frames s.n)).1.dst) (Af (Ap x) (Av x.frames s.n)).1.dst (x.cores.length : Int) (Af (Ap x) (Av x.frames s.n)).1).2.1) hs mm mm (Yq (by omega) (by omega) hk4 hlb hwk.2.2.2.2.1)) ?_; intro v287
    refine J.know (p := v287.oneCell' = true) (fun w hs => isSlice.one (hs.fact (List.Mem.head _))) (fun honev287 => ?_)
    refine ZG ?_
    refine Gl ?_
    refine kp [2, 4, 5, 6, 26, 289, 290] ?_
    refine ZA ?_
    refine s_B (cs := [v283, hv, v287]) Try.sizeOf33 ?_
    refine Ga2 ?_
    have er : Ak x s = (⟨x.cores.set (Af (Ap x) (Av x.frames s.n)).1.dst.toNat (Ae (Aq x (Af (Ap x) (Av x.frames s.n)).1.dst) (Af (Ap x) (Av x.frames s.n)).1.dst (x.cores.length : Int) (Af (Ap x) (Av x.frames s.n)).1).1, x.home, way (x.frames.eraseIdx s.n.toNat) (Ae (Aq x (Af (Ap x) (Av x.frames s.n)).1.dst) (Af (Ap x) (Av x.frames s.n)).1.dst (x.cores.length : Int) (Af (Ap x) (Av x.frames s.n)).1).2.1⟩, (Ae (Aq x (Af (Ap x) (Av x.frames s.n)).1.dst) (Af (Ap x) (Av x.frames s.n)).1.dst (x.cores.length : Int) (Af (Ap x) (Av x.frames s.n)).1).2.2, 0) := by unfold Ak; rw [if_neg (by omega), if_pos (by omega), if_neg hnf]; unfold Be; rw [show Ap ⟨x.cores, x.home, (x.frames.eraseIdx s.n.toNat)⟩ = Ap x from rfl]; rw [if_neg ht242, if_neg (show ¬ (Af (Ap x) (Av x.frames s.n)).1.dst = A7 ⟨x.cores, x.home, (x.frames.eraseIdx s.n.toNat)⟩ from ht247)]; rfl
    rw [er]
    exact Cf (v283, hv, v287, v275.2.2) Try.isAgg33 Try.sizeOf33
theorem refDo4 {n nl : Nat} {M : List Int} {cv hv fv : Value} {x : Chip} {s : Step} (hs : St (L) R w) (hc : sl cv x.cores ∈ R) (hh : sl hv x.home ∈ R) (hf : sl fv x.frames ∈ R) (h : Inv n nl x M) (hsw : s.wf) : Calls Try.prog 20 [.agg #[cv, hv, fv], .agg s.cells.toArray].toArray w (Bw (fun v : Value × Value × Value × Value => .tuple #[.agg #[v.1, v.2.1, v.2.2.1], v.2.2.2, vi (Ak x s).2.2]) (fun v => L) (fun v => sl v.1 (Ak x s).1.cores :: sl v.2.1 (Ak x s).1.home :: sl v.2.2.1 (Ak x s).1.frames :: sl v.2.2.2 (Ak x s).2.1 :: R)) := by
 by_cases h1 : s.kind = 1
 ·exact Abd hs hc hh hf h hsw h1
 by_cases h2 : s.kind = 2
 ·exact Abc hs hc hh hf h hsw h2
 by_cases h3 : s.kind = 3
 ·exact Abb hs hc hh hf h hsw h3
 by_cases h4 : s.kind = 4
 ·exact Aba hs hc hh hf h hsw h4
 by_cases h5 : s.kind = 5
 ·exact Aaz hs hc hh hf h hsw h5
 by_cases h6 : s.kind = 6
 ·exact Aay hs hc hh hf h hsw h6
 exact Abe hs hc hh hf h hsw ⟨h1, h2, h3, h4, h5, h6⟩
def bAt (c : Config) (l : List Step) (k : Nat) : Chip × List Done := Cq (Cw c).1 (l.take k)
theorem E2 {x : Chip} {a : Step} {l : List Step} (h : (Ak x a).2.2 = 0) : Cq x (a :: l) = ((Cq (Ak x a).1 l).1, (Ak x a).2.1 ++ (Cq (Ak x a).1 l).2) := by simp only [Cq]; rw [if_pos h]
theorem Ft {x : Chip} {a : Step} {l : List Step} (h : ¬ (Ak x a).2.2 = 0) : Cq x (a :: l) = Cq x l := by simp only [Cq]; rw [if_neg h]
theorem Hm (s : Step) : ∀ (l : List Step) (x : Chip), (Ak (Cq x l).1 s).2.2 = 0 → Cq x (l ++ [s]) = ((Ak (Cq x l).1 s).1, (Cq x l).2 ++ (Ak (Cq x l).1 s).2.1)
 | [], x, h => by
  have h' : (Ak x s).2.2 = 0 := h
  rw [List.nil_append, E2 h']; simp [Cq]
 | a :: l, x, h => by
  by_cases h1 : (Ak x a).2.2 = 0
  ·rw [E2 h1] at h ⊢
   rw [List.cons_append, E2 h1, Hm s l _ h]; simp
  ·rw [Ft h1] at h ⊢
   rw [List.cons_append, Ft h1]; exact Hm s l x h
theorem P2 (s : Step) : ∀ (l : List Step) (x : Chip), ¬ (Ak (Cq x l).1 s).2.2 = 0 → Cq x (l ++ [s]) = Cq x l
 | [], x, h => by
  have h' : ¬ (Ak x s).2.2 = 0 := h
  rw [List.nil_append, Ft h']
 | a :: l, x, h => by
  by_cases h1 : (Ak x a).2.2 = 0
  ·rw [E2 h1] at h ⊢
   rw [List.cons_append, E2 h1, P2 s l _ h]
  ·rw [Ft h1] at h ⊢
   rw [List.cons_append, Ft h1]; exact P2 s l x h
theorem Z4 {c : Config} {l : List Step} {k : Nat} (h : k < l.length) (h0 : (Ak (bAt c l k).1 (l.getD k zStep)).2.2 = 0) : bAt c l (k + 1) = ((Ak (bAt c l k).1 (l.getD k zStep)).1, (bAt c l k).2 ++ (Ak (bAt c l k).1 (l.getD k zStep)).2.1) := by
 unfold bAt at h0 ⊢; rw [G7 zStep h]; exact Hm _ _ _ h0
theorem Afy {c : Config} {l : List Step} {k : Nat} (h : k < l.length) (h0 : ¬ (Ak (bAt c l k).1 (l.getD k zStep)).2.2 = 0) : bAt c l (k + 1) = bAt c l k := by
 unfold bAt at h0 ⊢; rw [G7 zStep h]; exact P2 _ _ _ h0
theorem Zx (c : Core) (id home : Int) (o : Op) : (Ah c id home o).2.2.1.length ≤ 1 := by
 unfold Ah
 split
 ·simp
 split
 ·simp
 split
 ·simp
 split <;> simp
theorem Aco (c : Core) (id home : Int) (m : Msg) : (Ae c id home m).2.2.length ≤ 1 := by
 unfold Ae
 split
 ·simp
 split
 ·simp
 split
 ·split
  ·simp only; split <;> simp
  split <;> simp
 split
 ·split
  ·simp
  split <;> simp
 split <;> simp
theorem Nu (x : Chip) (s : Step) : (Ak x s).2.1.length ≤ 1 := by
 unfold Ak
 split
 ·split
  ·simp
  split
  ·simp
  ·exact Zx ..
 split
 ·split
  ·simp
  ·simp only
   unfold Be
   split
   ·simp
   split
   ·simp
   ·exact Aco ..
 split
 ·split <;> simp
 split
 ·split <;> simp
 split
 ·split
  ·simp
  split
  ·simp
  split <;> simp
 split
 ·split
  ·simp
  split <;> simp
 ·simp
theorem Z5 (c : Config) (l : List Step) : ∀ k, (bAt c l k).2.length ≤ k
 | 0 => by unfold bAt; simp [Cq]
 | k + 1 => by
  have ih := Z5 c l k
  by_cases h : k < l.length
  ·by_cases h0 : (Ak (bAt c l k).1 (l.getD k zStep)).2.2 = 0
   ·have := Nu (bAt c l k).1 (l.getD k zStep)
    rw [Z4 h h0]
    simp only [List.length_append]; omega
   ·rw [Afy h h0]; omega
  ·unfold bAt at ih ⊢
   rw [List.take_of_length_le (by omega)]
   rw [List.take_of_length_le (by omega)] at ih
   omega
theorem Akh {c : Config} (l : List Step) (h : (Cw c).2 = 0) (k : Nat) : ∃ n nl M, Inv n nl (bAt c l k).1 M := by
 obtain ⟨n, nl, h1, h2, _, h4⟩ := Oz h
 obtain ⟨M, h5, _⟩ := Fs (l.take k) (Tc h1 h2)
 exact ⟨n, nl, M, by unfold bAt; rw [h4]; exact h5⟩
theorem Lr {c : Config} (h : (Cw c).2 ≠ 0) : Cw c = (D3, 3) := by
 unfold Cw at h ⊢
 split
 ·rfl
 ·rename_i h1; rw [if_neg h1] at h; exact absurd rfl h
theorem U8 {c : Config} {l : List Step} {k : Nat} (h : (Cw c).2 = 0) (hk : l.take k = l.take 300) : build c l = bAt c l k := by
 unfold build bAt; rw [if_neg (by rw [h]; decide), hk]
theorem U9 {c : Config} {l : List Step} (h : (Cw c).2 ≠ 0) : build c l = ((Cw c).1, []) := by
 unfold build; rw [if_pos h, Lr h]
theorem Ua {vl : Value} {c : Config} {l : List Step} (hs : St (L) R w) (hl : sl vl l ∈ R) (hcw : c.wf) : Calls Try.prog 14 [.agg c.cells.toArray, vl].toArray w (Bw (fun v : Value × Value × Value × Value => .tuple #[.agg #[v.1, v.2.1, v.2.2.1], v.2.2.2]) (fun v => L) (fun v => sl v.1 (build c l).1.cores :: sl v.2.1 (build c l).1.home :: sl v.2.2.1 (build c l).1.frames :: sl v.2.2.2 (build c l).2 :: R)) := by
 have hlen := Bg hl hs
 refine Aj Try.func14 rfl Try.ntmps14 rfl hs ?_
 clear hs
 refine Gm ?_
 refine bx ?_; intro b2
 refine Zc3 ?_;intro b4
 refine Zar ?_
 refine Ao Try.call16 rfl (fun w hs => refNew (c := c) hs hcw) ?_; intro v16
 refine J.know (p := v16.1.oneCell' = true ∧ v16.2.oneCell' = true) (fun w hs => ⟨isSlice.one (hs.fact (.head _)), isSlice.one (hs.fact (.tail _ (.head _)))⟩) (fun h12 => ?_)
 obtain ⟨hone1, hone2⟩ := h12
 refine rn3 ?_
 refine Zdj ?_;intro b6
 refine s_B (cs := [v16.1, v16.2, .slice none 0 0]) Try.sizeOf33 ?_
 refine ZH ?_
 refine cdy ?_ ?_
 ·intro ht20
  refine Zaf ?_
  refine ZB ?_
  refine s_B (cs := [v16.1, v16.2, .slice none 0 0]) Try.sizeOf33 ?_
  refine Ga1 ?_
  rw [U9 ht20]
  exact G2 (v16.1, v16.2, .slice none 0 0, .slice none 0 0) Try.isAgg33 Try.sizeOf33
 ·intro ht20
  refine ZL ?_
  refine Ga3 ?_
  have hok : (Cw c).2 = 0 := Decidable.not_not.1 ht20
  have e0 : bAt c l 0 = ((Cw c).1, []) := by unfold bAt; simp [Cq]
  refine ZaB ?_
  refine Bx (γ := Nat × Value × Value × Value × Value) (fun g => g.1 ≤ l.length ∧ g.1 ≤ 300) (fun g => row 66 g.2.2.2.2 (bAt c l g.1).2 :: blk b6 33 [g.2.1, g.2.2.1, g.2.2.2.1] :: blk b4 33 [.slice none 0 0, .slice none 0 0, .slice none 0 0] :: L) (fun g => sl g.2.1 (bAt c l g.1).1.cores :: sl g.2.2.1 (bAt c l g.1).1.home :: sl g.2.2.2.1 (bAt c l g.1).1.frames :: R) (fun g => [(4, bp b4 0), (6, bp b6 0), (8, g.2.2.2.2), (22, vl), (23, vi (l.length : Int)), (24, vi (g.1 : Int))]) (fun g => l.length - g.1) (0, v16.1, v16.2, .slice none 0 0, .slice none 0 0) ⟨Nat.zero_le _, by show 0 ≤ 300; omega⟩ alT (fun w hs => by rw [e0]; exact Ai hs) ?_
  rintro ⟨k, cv, hv, fv, dv⟩ ⟨hk, hk3⟩
  try simp only at hk hk3 ⊢
  refine ZE ?_
  refine cdy ?_ ?_
  ·intro ht25
   refine Gl ?_
   refine JC.open0 (xs := l) (v := vl) k mm (by omega) (fun hsw => ?_)
   refine ZI ?_
   refine al_ (cs := zStep.cells) Try.zeroValue28 ?_; intro b10
   refine rn1 ?_
   refine s_B (cs := (l.getD k zStep).cells) Try.sizeOf28 ?_
   refine ZD ?_
   refine cdy ?_ ?_
   ·intro ht30
    exact ZeU
   ·intro ht30
    refine ZK ?_
    obtain ⟨n, nl, M, hI⟩ := Akh l hok k
    refine Ao Try.call20 rfl (fun w hs => refDo4 (x := (bAt c l k).1) (s := (l.getD k zStep)) hs mm mm mm hI hsw) ?_; intro v34
    refine J.know (p := v34.1.oneCell' = true ∧ v34.2.1.oneCell' = true ∧ v34.2.2.1.oneCell' = true) (fun w hs => ⟨isSlice.one (hs.fact (.head _)), isSlice.one (hs.fact (.tail _ (.head _))), isSlice.one (hs.fact (.tail _ (.tail _ (.head _))))⟩) (fun h12 => ?_)
    obtain ⟨hone1, hone2, hone3⟩ := h12
    refine rn4 ?_
    refine al_ (cs := [.slice none 0 0, .slice none 0 0, .slice none 0 0]) Try.zeroValue33 ?_; intro b11
    refine s_B (cs := [v34.1, v34.2.1, v34.2.2.1]) Try.sizeOf33 ?_
    refine Ga2 ?_
    refine kp [4, 5, 6, 8, 9, 10, 11, 12, 13, 22, 23, 24, 25, 26, 27, 28, 29, 30, 31, 32, 33, 34, 35, 36, 37, 38, 39] ?_
    refine ZW ?_
    refine cdy ?_ ?_
    ·intro ht39
     refine ZJ ?_
     refine s_B (cs := [v34.1, v34.2.1, v34.2.2.1]) Try.sizeOf33 ?_
     refine ZK ?_
     refine ap F4 (hb := fun w hs => by have : maxN = 16777216 := rfl; have h8 := Z5 c l k; have h9 := Nu (bAt c l k).1 (l.getD k zStep); omega) (k := ?_); intro v43
     refine ZH ?_
     have e1 := Z4 (c := c) (l := l) (k := k) (by omega) ht39
     refine Bb (k + 1, v34.1, v34.2.1, v34.2.2.1, v43) ⟨by show k + 1 ≤ l.length; omega, by show k + 1 ≤ 300; omega⟩ (by show l.length - (k + 1) < l.length - k; omega) alT (fun w hs => ?_)
     try simp only
     rw [e1]; exact Ai hs
    ·intro ht39
     refine ZD ?_
     have e1 := Afy (c := c) (l := l) (k := k) (by omega) ht39
     refine Bb (k + 1, cv, hv, fv, dv) ⟨by show k + 1 ≤ l.length; omega, by show k + 1 ≤ 300; omega⟩ (by show l.length - (k + 1) < l.length - k; omega) alT (fun w hs => ?_)
     try simp only
     rw [e1]; exact Ai hs
  ·intro ht25
   exact ZeU
def hE0 : List Entry := [⟨0, -1, 0, 0, 0, 0, false, 0, 0, [0, 0]⟩]
theorem Acv {m : Msg} (hs : St (L) R w) (hin : MsgIn m) : Calls Try.prog 72 [.agg m.cells.toArray].toArray w (Bw (fun v : Value => v) (fun v => L) (fun v => sl v (msgBytes m) :: R)) := by
 obtain ⟨k0, k1, k2, k3, k4, k5, k6⟩ := hin
 refine Aj Try.func72 rfl Try.ntmps72 rfl hs ?_
 clear hs
 refine Gm ?_
 refine bx ?_; intro b1
 refine Gb1 ?_
 refine ZH ?_
 refine Bk (b := ?b1) ?e1 ?_ ?_; case e1 => exact rfl
 ·intro ht7
  refine Aa ?_
  refine Gb1 ?_
  refine rn2 ?_
  refine ZdA ?_
  refine liO (α := UInt8) ([u8 m.kind, u8 (16 * m.src + m.dst % 16), u8 m.line, u8 (m.serial / 256), u8 m.serial, u8 (m.turn / 256), u8 m.turn, u8 m.value, 1, 0] : List UInt8) Gy rfl (fun j hj => ⟨⟨_, rfl, rfl⟩, ⟨_, rfl, rfl⟩, ⟨_, rfl, rfl⟩, ⟨_, rfl, rfl⟩, ⟨_, rfl, rfl⟩, ⟨_, rfl, rfl⟩, ⟨_, rfl, rfl⟩, ⟨_, rfl, rfl⟩, ⟨_, rfl, rfl⟩, ⟨_, rfl, rfl⟩, trivial⟩) ?_; intro v40
  have hxs : ([u8 m.kind, u8 (16 * m.src + m.dst % 16), u8 m.line, u8 (m.serial / 256), u8 m.serial, u8 (m.turn / 256), u8 m.turn, u8 m.value, 1, 0] : List UInt8) = Ck m := by unfold Ck; rw [ht7, show 16 * m.src + m.dst % 16 = 16 * m.src + m.dst by omega]; rfl
  rw [hxs]
  have hsm := Oe (Ck m)
  refine Ga1 ?_
  refine kp [2, 4, 5, 41, 42] ?_
  refine ZB ?_
  refine Ao (γ := Unit) (val := fun _ => vi (Hq (Ck m))) Try.call99 rfl (fun w hs => lend .hd (fun L R w hs hf _ => Ha hs hf) hs) ?_; intro _
  refine ZdO ?_;intro v49
  refine ap Gy (hb := fun w hs => by have : maxN = 16777216 := rfl; rw [Jf]; simp only [List.length_cons, List.length_nil]; omega) (k := ?_); intro v50
  refine Ga1 ?_
  exact Co v50 (hs := fun w hs => Ai (St.shut (hs.pick pkk)))
 ·intro ht7
  refine ZK ?_
  refine ZdA ?_
  refine liO (α := UInt8) ([u8 m.kind, u8 (16 * m.src + m.dst % 16), u8 m.line, u8 (m.serial / 256), u8 m.serial, u8 (m.turn / 256), u8 m.turn, u8 m.value, 0, 0] : List UInt8) Gy rfl (fun j hj => ⟨⟨_, rfl, rfl⟩, ⟨_, rfl, rfl⟩, ⟨_, rfl, rfl⟩, ⟨_, rfl, rfl⟩, ⟨_, rfl, rfl⟩, ⟨_, rfl, rfl⟩, ⟨_, rfl, rfl⟩, ⟨_, rfl, rfl⟩, ⟨_, rfl, rfl⟩, ⟨_, rfl, rfl⟩, trivial⟩) ?_; intro v40
  have hxs : ([u8 m.kind, u8 (16 * m.src + m.dst % 16), u8 m.line, u8 (m.serial / 256), u8 m.serial, u8 (m.turn / 256), u8 m.turn, u8 m.value, 0, 0] : List UInt8) = Ck m := by unfold Ck; rw [ht7, show 16 * m.src + m.dst % 16 = 16 * m.src + m.dst by omega]; rfl
  rw [hxs]
  have hsm := Oe (Ck m)
  refine Ga1 ?_
  refine kp [2, 4, 5, 41, 42] ?_
  refine ZB ?_
  refine Ao (γ := Unit) (val := fun _ => vi (Hq (Ck m))) Try.call99 rfl (fun w hs => lend .hd (fun L R w hs hf _ => Ha hs hf) hs) ?_; intro _
  refine ZdO ?_;intro v49
  refine ap Gy (hb := fun w hs => by have : maxN = 16777216 := rfl; rw [Jf]; simp only [List.length_cons, List.length_nil]; omega) (k := ?_); intro v50
  refine Ga1 ?_
  exact Co v50 (hs := fun w hs => Ai (St.shut (hs.pick pkk)))
theorem Aju {b : Nat} {cv hv fv : Value} {x : Chip} (hs : St (row 57 cv x.cores :: blk b 33 [cv, hv, fv] :: L) R w) (hhv : sl hv x.home ∈ R) : Calls Try.prog 75 [bp b 0].toArray w (Bw (fun _ : Unit => .agg (Ap x).cells.toArray) (fun _ => row 57 cv x.cores :: blk b 33 [cv, hv, fv] :: L) (fun _ => R)) := by
 refine Aj Try.func75 rfl Try.ntmps75 rfl hs ?_
 clear hs
 refine Gm ?_
 refine al_ (cs := zConfig.cells) Try.zeroValue23 ?_; intro b2
 refine Gl ?_
 refine cq_ (blk b2 23 zConfig.cells :: row 57 cv x.cores :: blk b 33 [cv, hv, fv] :: L) ?_
 refine jd_ (fun ρ S => blk b2 23 (bif S 11 then [vi (x.cores.length : Int), vi (x.home.length : Int)] else zConfig.cells) :: row 57 cv x.cores :: blk b 33 [cv, hv, fv] :: L) ?_
 refine Zee ?_;intro ρ
 refine xq_ (blk b2 23 [vi (x.cores.length : Int), vi (x.home.length : Int)] :: row 57 cv x.cores :: blk b 33 [cv, hv, fv] :: L) ?_
 refine Gl ?_
 exact N7 () Try.isAgg23 Try.sizeOf23
theorem Aed {b : Nat} {cv hv fv : Value} {x : Chip} (hs : St (blk b 33 [cv, hv, fv] :: L) R w) (hcv : sl cv x.cores ∈ R) (hhv : sl hv x.home ∈ R) : Calls Try.prog 75 [bp b 0].toArray w (Bw (fun _ : Unit => .agg (Ap x).cells.toArray) (fun _ => blk b 33 [cv, hv, fv] :: L) (fun _ => R)) := by
 refine Aj Try.func75 rfl Try.ntmps75 rfl hs ?_
 clear hs
 refine Gm ?_
 refine al_ (cs := zConfig.cells) Try.zeroValue23 ?_; intro b2
 refine Gl ?_
 refine cq_ (blk b2 23 zConfig.cells :: blk b 33 [cv, hv, fv] :: L) ?_
 refine jd_ (fun ρ S => blk b2 23 (bif S 11 then [vi (x.cores.length : Int), vi (x.home.length : Int)] else zConfig.cells) :: blk b 33 [cv, hv, fv] :: L) ?_
 refine Zee ?_;intro ρ
 refine xq_ (blk b2 23 [vi (x.cores.length : Int), vi (x.home.length : Int)] :: blk b 33 [cv, hv, fv] :: L) ?_
 refine Gl ?_
 exact N7 () Try.isAgg23 Try.sizeOf23
theorem Kt {b : Nat} {cv hv fv vm : Value} {fs : Frames} {ms : List Msg} (hs : St (blk b 33 [cv, hv, fv] :: L) R w) (hfv : sl fv fs ∈ R) (hvm : sl vm ms ∈ R) (hmi : ∀ a ∈ ms, MsgIn a) : Calls Try.prog 43 [bp b 0, vm].toArray w (Bw (fun v : Value => .tuple #[]) (fun v => blk b 33 [cv, hv, v] :: L) (fun v => sl v (way fs ms) :: R)) := by
 have hlen := Bg hvm hs
 refine Aj Try.func43 rfl Try.ntmps43 rfl hs ?_
 clear hs
 refine Zad ?_
 refine Bx (γ := Nat × Value) (fun g => g.1 ≤ ms.length) (fun g => blk b 33 [cv, hv, g.2] :: L) (fun g => sl g.2 (way fs (ms.take g.1)) :: R) (fun g => [(0, bp b 0), (6, vm), (7, vi (ms.length : Int)), (8, vi (g.1 : Int))]) (fun g => ms.length - g.1) (0, fv) (Nat.zero_le _) alT (fun w hs => hs.sub .refl (fun f hf => by rcases List.mem_cons.1 hf with e | e; rw [e]; exact hfv; exact e)) ?_
 rintro ⟨k, gv⟩ hk
 try simp only at hk ⊢
 refine ZE ?_
 refine cdy ?_ ?_
 ·intro ht9
  refine Gl ?_
  refine JC.open0 (xs := ms) (v := vm) k mm (by omega) (fun hmw => ?_)
  have hkm : (ms.getD k zMsg) ∈ ms := by rw [List.getD_eq_getElem?_getD, List.getElem?_eq_getElem (by omega)]; exact List.getElem_mem _
  refine ZA ?_
  refine al_ (cs := zMsg.cells) Try.zeroValue49 ?_; intro b5
  refine s_B (cs := (ms.getD k zMsg).cells) Try.sizeOf49 ?_
  refine Gl ?_
  refine cq_ (blk b 33 [cv, hv, gv] :: blk b5 49 (ms.getD k zMsg).cells :: L) ?_
  refine jd_ (fun ρ S => blk b 33 (bif S 10 then [cv, hv, (Gh.dec (γ := Value) (ρ 7))] else [cv, hv, gv]) :: blk b5 49 (ms.getD k zMsg).cells :: L) ?_
  refine dn4 ?_
  refine Ig (v := gv) (fun ρ S hS hB hA => by have h10 : S 10 = false := hA 10 ⟨0, rfl⟩; simp only [h10, cond_false]; exact C3 (hc := A0 pkk (by repeat (first | exact rfl | refine Dd rfl ?_))) Try.isAgg31) (fun _ _ _ _ _ => rfl) ?_
  refine dn1 ?_
  refine Bt (γ := Value) (val := fun v => v) (F := fun v => [sl v (msgBytes (ms.getD k zMsg))]) Try.call72 (fun _ => rfl) (fun ρ L R w hd hs => Acv hs (hmi _ hkm)) (fun _ _ _ _ _ => rfl) ?_
  refine Bt (γ := Value) (val := fun v => v) (F := fun v => [sl v (Cy (way fs (ms.take k)) (msgBytes (ms.getD k zMsg)))]) Try.call71 (fun _ => rfl) (fun ρ L R w hd hs => frz (Uj hs (hd.base mm) (hd.dep (it := ⟨6, _, _, _, _⟩) (by repeat (first | exact List.Mem.head _ | refine List.Mem.tail _ ?_)) ⟨9, rfl⟩ (List.Mem.head _)))) (fun ρ g S hS hA => by have u10 : upS S 7 10 = S 10 := rfl; have h10 : S 10 = false := hA 10 ⟨0, rfl⟩; simp only [u10, h10, cond_false]) ?_
  refine dn2 ?_
  refine Eu (T0 := 33) (f := 2) (vs := fun ρ => [cv, hv, gv]) (v := fun ρ => (Gh.dec (γ := Value) (ρ 7))) (fun ρ => b) Try.sizeOf31 (fun _ => rfl) (fun _ => rfl) (fun ρ S R w L9 hB hd hs => isSlice.one (hs.fact (hd.dep (it := ⟨7, _, _, _, _⟩) (by repeat (first | exact List.Mem.head _ | refine List.Mem.tail _ ?_)) ⟨9, rfl⟩ (List.Mem.head _)))) (fun _ => rfl) (fun ρ g S hS hB hA => ?_) ?_
  ·have ui : upS S 10 10 = true := rfl; have r7 : Rho.set ρ 10 g 7 = ρ 7 := rfl
   simp only [ui, hS, r7, cond_true, cond_false]
   exact pex
  refine dnl ?_; intro ρ
  refine xq_ (blk b 33 [cv, hv, (Gh.dec (γ := Value) (ρ 7))] :: blk b5 49 (ms.getD k zMsg).cells :: L) ?_
  generalize (Gh.dec (γ := Value) (ρ 6)) = v18
  generalize (Gh.dec (γ := Value) (ρ 7)) = v19
  refine ZD ?_
  refine Bb (k + 1, v19) (by show k + 1 ≤ ms.length; omega) (by show ms.length - (k + 1) < ms.length - k; omega) alT (fun w hs => ?_)
  try simp only
  rw [G7 zMsg (by omega), I8]; exact Ai hs
 ·intro ht9
  refine Gl ?_
  have hkl : k = ms.length := by omega
  refine Bf (.inl rfl) (fun B w hs => Im rfl _ w) (fun w hs => ⟨gv, rfl, by rw [hkl, List.take_length] at hs; exact Ai hs⟩)
def SB (x : Chip) (N : Nat) : Prop := ∀ c ∈ x.cores, ∀ l ∈ c.lines, l.serial ≤ (N : Int)
theorem SB.mono {x : Chip} {N K : Nat} (h : SB x N) (hk : N ≤ K) : SB x K := fun c hc l hl => Int.le_trans (h c hc l hl) (by omega)
theorem SB.set {x : Chip} {N : Nat} {p : Nat} {c : Core} (h : SB x N) (hc : ∀ l ∈ c.lines, l.serial ≤ (N : Int)) {hm : List Entry} {fr : Frames} : SB ⟨x.cores.set p c, hm, fr⟩ N := by
 intro d hd l hl
 rcases List.mem_or_eq_of_mem_set hd with h1 | h1
 ·exact h d h1 l hl
 ·subst h1; exact hc l hl
theorem SB.line {c : Core} {N : Int} (h : ∀ l ∈ c.lines, l.serial ≤ N) (h0 : 0 ≤ N) (i : Int) : (Ac c i).serial ≤ N := by
 unfold Ac
 rw [List.getD_eq_getElem?_getD]
 cases e : c.lines[i.toNat]? with
 | none => exact h0
 | some l => exact h l (List.mem_of_getElem? e)
theorem SB.at {x : Chip} {N : Nat} (h : SB x N) (p : Int) : ∀ l ∈ (Aq x p).lines, l.serial ≤ (N : Int) := by
 unfold Aq
 rw [List.getD_eq_getElem?_getD]
 cases e : x.cores[p.toNat]? with
 | none => intro l hl; cases hl
 | some c => exact h c (List.mem_of_getElem? e)
theorem SB.wl {c : Core} {N K : Int} (h : ∀ l ∈ c.lines, l.serial ≤ N) (hk : N ≤ K) {i : Int} {l : Line} {w : Op} (hl : l.serial ≤ K) : ∀ l' ∈ (A2 c i l w).lines, l'.serial ≤ K := by
 intro l' h'
 rcases List.mem_or_eq_of_mem_set h' with h1 | h1
 ·exact Int.le_trans (h l' h1) hk
 ·subst h1; exact hl
theorem SB.hear {c : Core} {N : Nat} (h : ∀ l ∈ c.lines, l.serial ≤ (N : Int)) {id home : Int} {m : Msg} : ∀ l ∈ (Ae c id home m).1.lines, l.serial ≤ (N : Int) := by
 have h0 := SB.line h (by omega) m.line
 unfold Ae
 split
 ·exact h
 split
 ·refine SB.wl h (Int.le_refl _) ?_
  unfold C5; split <;> (try split) <;> exact h0
 split
 ·split
  ·refine SB.wl h (Int.le_refl _) ?_
   unfold Cv; split <;> (try split) <;> exact h0
  split <;> exact h
 split
 ·split
  ·exact h
  split
  ·exact SB.wl h (Int.le_refl _) h0
  ·exact h
 split
 ·exact SB.wl h (Int.le_refl _) h0
 ·exact h
theorem SB.begin {c : Core} {N : Nat} (h : ∀ l ∈ c.lines, l.serial ≤ (N : Int)) {id home : Int} {o : Op} : ∀ l ∈ (Ah c id home o).1.lines, l.serial ≤ ((N + 1 : Nat) : Int) := by
 have h0 := SB.line h (by omega) o.line
 have h1 : (Ax (Ac c o.line) o).serial ≤ ((N + 1 : Nat) : Int) := by
  unfold Ax
  split <;> (try split) <;> (simp only; omega)
 unfold Ah
 split
 ·intro l hl; cases hl
 split
 ·intro l hl; cases hl
 split
 ·intro l hl; cases hl
 split
 ·exact SB.wl h (by omega) h1
 ·exact SB.wl h (by omega) h1
theorem SB.zero {N : Nat} : SB D3 N := fun c hc => by cases hc
theorem SB.step {x : Chip} {N : Nat} (h : SB x N) (s : Step) : SB (Ak x s).1 (N + 1) := by
 have hc : ∀ fr b, SB (Be ⟨x.cores, x.home, fr⟩ b).1 N := by
  intro fr b
  unfold Be
  split
  ·exact h
  split
  ·exact h
  ·exact SB.set h (SB.hear (SB.at h _))
 unfold Ak
 split
 ·split
  ·exact SB.zero
  split
  ·exact SB.zero
  ·exact SB.set (h.mono (by omega)) (SB.begin (SB.at h _))
 split
 ·split
  ·exact SB.zero
  ·exact (hc _ _).mono (by omega)
 split
 ·split
  ·exact SB.zero
  ·exact ZfB
 split
 ·split
  ·exact SB.zero
  ·exact ZfB
 split
 ·split
  ·exact SB.zero
  split
  ·exact SB.zero
  split
  ·exact SB.zero
  ·exact ZfB
 split
 ·split
  ·exact SB.zero
  split
  ·exact ZfB
  ·exact ZfB
 ·exact SB.zero
theorem SB.all : ∀ (l : List Step) {x : Chip} {N : Nat}, SB x N → SB (Cq x l).1 (N + l.length)
 | [], _, _, h => h
 | s :: r, x, N, h => by
  unfold Cq
  split
  ·refine (SB.all r (SB.step h s)).mono ?_
   rw [List.length_cons]; omega
  ·exact (SB.all r h).mono (by rw [List.length_cons]; omega)
theorem SB.build (c : Config) (l : List Step) : SB (build c l).1 300 := by
 unfold Go.Proofs.Ytehpekiedfpnkaa.build
 split
 ·exact SB.zero
 ·rename_i hg
  have h0 : SB (Cw c).1 0 := by
   intro k hk l hl
   unfold Cw at hk
   split at hk
   ·cases hk
   ·have e := List.eq_of_mem_replicate hk
    subst e
    have e2 := List.eq_of_mem_replicate hl
    subst e2
    exact Int.le_refl _
  refine (SB.all (l.take 300) h0).mono ?_
  rw [List.length_take]; omega
def N2 (f : Nat → Bool) : Nat → Bool
 | 0 => true
 | k + 1 => N2 f k && f k
theorem allN_iff {f : Nat → Bool} : ∀ {k : Nat}, N2 f k = true ↔ ∀ i, i < k → f i = true
 | 0 => ⟨fun _ i hi => absurd hi (by omega), fun _ => rfl⟩
 | k + 1 => by
  simp only [N2, Bool.and_eq_true, allN_iff (k := k)]
  refine ⟨fun h i hi => ?_, fun h => ⟨fun i hi => h i (by omega), h k (by omega)⟩⟩
  by_cases e : i = k
  ·rw [e]; exact h.2
  ·exact h.1 i (by omega)
theorem Tv {f : Nat → Bool} {k i : Nat} (hi : i < k) (h : f i = false) : N2 f k = false := by
 cases e : N2 f k with
 | false => rfl
 | true => rw [allN_iff.1 e i hi] at h; cases h
theorem N1 {f : Nat → Bool} {k : Nat} (h : N2 f k = true) (h2 : f k = true) : N2 f (k + 1) = true := by simp only [N2, h, h2, Bool.and_self]
structure CX (x : Chip) : Prop where
 n4 : x.cores.length ≤ 4
 h4 : x.home.length ≤ 4
 ln : ∀ p, p < x.cores.length → (cor x p).lines.length = x.home.length
 la : ∀ i, i < x.home.length → (ent x i).last.length = x.cores.length
 ow : ∀ i, i < x.home.length → (ent x i).phase = 1 → 0 ≤ (ent x i).owner ∧ (ent x i).owner < (x.cores.length : Int)
 sh : ∀ i, i < x.home.length → 0 ≤ (ent x i).sharers ∧ (ent x i).sharers < 16
def stN (x : Chip) (i p : Nat) : Int := (lin x i p).state
def ownB (x : Chip) (i p : Nat) : Bool := stN x i p == 2 || (stN x i p == 3 && decide ((ent x i).last.getD p 0 < (lin x i p).serial))
def valN (x : Chip) (i : Nat) : Nat → Option Int
 | 0 => none
 | k + 1 => match valN x i k with
  | some v => some v
  | none => if ownB x i k then some (lin x i k).value else none
def valE (x : Chip) (i : Nat) : Int := if (ent x i).phase = 1 ∧ (lin x i (ent x i).owner.toNat).gave = (ent x i).turn then (lin x i (ent x i).owner.toNat).given else (ent x i).value
def Adu (x : Chip) (i : Nat) : Int := (valN x i x.cores.length).getD (valE x i)
def stale (x : Chip) (i p : Nat) : Bool := stN x i p == 1 && (lin x i p).value != Adu x i
def sameAt (x : Chip) (i : Nat) : Bool := N2 (fun p => !stale x i p) x.cores.length
def Jt (x : Chip) (i : Nat) : Bool := (ent x i).phase == 0
def Ib (x : Chip) (p : Nat) : Bool := (cor x p).wait.kind == 0
def E9 (x : Chip) : Bool := N2 (Jt x) x.home.length && N2 (Ib x) x.cores.length
def Gf (x : Chip) : Bool := N2 (Jt x) x.home.length && (decide (x.frames.length = 0) && N2 (Ib x) x.cores.length)
theorem Tl (x : Chip) : Gf x = (decide (x.frames.length = 0) && E9 x) := by
 unfold Gf E9
 cases N2 (Jt x) x.home.length <;> cases decide (x.frames.length = 0) <;> simp
section
open Abs
variable {n nl : Nat} {x : Chip} {M : List Int}
theorem Inv.cx (h : Inv n nl x M) : CX x := by
 have h1 := h.nc
 have h2 := h.nh
 have h3 := h.n1
 have h4 := h.l1
 refine ⟨by omega, by omega, fun p hp => ?_, fun i hi => ?_, fun i hi h0 => ?_, fun i hi => ?_⟩
 ·rw [h.ncl p (by omega), h2]
 ·rw [h.nla i (by omega), h1]
 ·have hg := h.gi i (by omega)
  have := hg.f1 h0
  have := hg.own
  simp only [ab] at *
  omega
 ·have hb := h.bit i (by omega)
  have := Hz h3.2 hb.1
  exact this
end
section
variable {n nl : Nat} {x : Chip} {M : List Int}
end
theorem Aef (x : Chip) (b : List UInt8) (fs gs : Frames) : (Be ⟨x.cores, x.home, fs⟩ b).1.cores = (Be ⟨x.cores, x.home, gs⟩ b).1.cores ∧ (Be ⟨x.cores, x.home, fs⟩ b).1.home = (Be ⟨x.cores, x.home, gs⟩ b).1.home ∧ (Be ⟨x.cores, x.home, fs⟩ b).2 = (Be ⟨x.cores, x.home, gs⟩ b).2 := by
 unfold Be Ap A7 C1 Aq
 simp only
 repeat' split
 all_goals exact ⟨rfl, rfl, rfl⟩
theorem Aee (x : Chip) (b : List UInt8) : (Be x b).1.frames = x.frames ∨ ∃ ms, (Be x b).1.frames = way x.frames ms := by
 unfold Be C1
 repeat' split
 ·exact .inl rfl
 ·exact .inr ⟨_, rfl⟩
 ·exact .inr ⟨_, rfl⟩
section
variable {n nl : Nat} {x : Chip} {M : List Int}
def once (x : Chip) (k : Int) : Chip × List Done × Int := Ak x ⟨2, 0, k, 0, zOp⟩
end
theorem Zi {v u : Value} {cs : List Core} {i : Nat} (c : Core) (hu : sl u c.lines ∈ R) (hw : c.wait.wf) (hs : St (foc 57 v cs i (Core.cells u c) :: L) R w) : St (row 57 v (cs.set i c) :: L) R w := hs.unfocus (fun j hj => ⟨u, rfl, hj _ hu, hw⟩)
theorem R6 {v u : Value} {cs : List Core} {i : Nat} (hu : sl u (cs.getD i E4).lines ∈ R) (hw : (cs.getD i E4).wait.wf) (hs : St (foc 57 v cs i (Core.cells u (cs.getD i E4)) :: L) R w) : St (row 57 v cs :: L) R w := by
 have h := Zi _ hu hw hs
 rwa [Ke] at h
theorem Mq {id : Int} : ∀ (l : List Entry) (i : Int), (∀ k, k < l.length → ∀ a ∈ D4 (l.getD k A1) (i + (k : Int)) id, MsgIn a) → ∀ a ∈ Cm id i l, MsgIn a
 | [], i, h, a, ha => by cases ha
 | e :: r, i, h, a, ha => by
  simp only [Cm, List.mem_append] at ha
  rcases ha with ha | ha
  ·exact h 0 (by simp) a (by simpa using ha)
  ·refine Mq r (i + 1) (fun k hk a ha => h (k + 1) (by simpa using hk) a ?_) a ha
   rw [show i + ((k + 1 : Nat) : Int) = i + 1 + (k : Int) by omega]; exact ha
def Lv (x : Chip) (node : Int) : Int := if node < 0 ∨ A7 x < node then 5 else 0
def Fo (x : Chip) (node : Int) : Frames := if node < 0 ∨ A7 x < node then x.frames else if node = A7 x then way x.frames (Fe x.home node) else way x.frames (C9 (Aq x node) node (A7 x))
def Lw (x : Chip) (s : Step) : Frames × Int := if Cp x s.n then ([], 5) else if (Af (Ap x) (Av x.frames s.n)).2 ≠ 0 then ([], 6) else Cg x.frames s.n s.bit
theorem W0 {b : Nat} {cv hv fv : Value} {x : Chip} {node : Int} {n nl : Nat} {M : List Int} (hs : St (row 57 cv x.cores :: blk b 33 [cv, hv, fv] :: L) R w) (hhv : sl hv x.home ∈ R) (hfv : sl fv x.frames ∈ R) (h : Inv n nl x M) : Calls Try.prog 48 [bp b 0, vi node].toArray w (Bw (fun v : Value => vi (Lv x node)) (fun v => row 57 cv x.cores :: blk b 33 [cv, hv, v] :: L) (fun v => sl v (Fo x node) :: R)) := by
 have hnc := h.nc
 have hnh := h.nh
 have hn1 := h.n1
 have hn2 := h.l1
 refine Aj Try.func48 rfl Try.ntmps48 rfl hs ?_
 clear hs
 refine ZE ?_
 rcases (show (node < 0) ∨ (0 ≤ node ∧ (x.cores.length : Int) < node) ∨ (0 ≤ node ∧ node ≤ (x.cores.length : Int)) from by omega) with hc | hc | hc
 ·refine ZB ?_
  refine Ei ?_
  refine Gd10 ?_
  exact Zfy
 ·refine ZB ?_
  refine Bc ?_
  refine rn7 ?_
  refine gy ?_
  refine G3 ?_
  refine Gd2 ?_
  exact Zfy
 ·refine ZB ?_
  refine Bc ?_
  refine rn7 ?_
  refine gy ?_
  refine Fd ?_
  refine Gd2 ?_
  refine Ga8 ?_
  refine cdy ?_ ?_
  ·intro ht33
   refine Za0 ?_
   refine Ao Try.call79 rfl (fun w hs => V7 (l := x.home) (id := node) hs mm (fun i hi => (h.ebs i hi).1) (by omega) (by unfold An; omega)) ?_; intro vt
   refine Ao Try.call43 rfl (fun w hs => Kt (cv := cv) (hv := hv) (fv := fv) (fs := x.frames) (ms := Fe x.home node) (Ai (L' := blk b 33 [cv, hv, fv] :: row 57 cv x.cores :: L) hs) mm mm (Mq _ 0 (fun k hk a ha => h.says_in k hk a (by rw [Int.zero_add] at ha; rw [← hnc, ← ht33]; exact ha)))) ?_; intro vs
   refine ZE ?_
   have er : Lv x node = 0 ∧ Fo x node = way x.frames (Fe x.home node) := by unfold Lv Fo A7; rw [if_neg (by omega), if_neg (by omega), if_pos ht33]; exact ⟨rfl, rfl⟩
   rw [er.1, er.2]
   exact Co vs
  ·intro ht33
   refine JC.focus1 (T := 57) (v := cv) (xs := x.cores) node.toNat pkk (by omega) (fun hwt u => ?_)
   have hkb : KB (Aq x node) := h.kb (p := node.toNat) (by omega)
   have hlb := h.lbs (p := node) (by omega)
   refine Zao ?_
   refine dj ?_
   refine dc (fun _ _ => It (v := cv) (i := node) Qq (hl := Dq (α := Core) (xs := x.cores) pkk)) ?_
   refine djc (fun _ _ => Xv (cs := Core.cells u (Aq x node)) Try.isAgg57 Try.sizeOf57) ?_
   refine dn5 ?_
   refine djc (fun _ _ => Q6 Try.underlying29 rfl (Dq (α := Core) (xs := x.cores) pkk)) ?_
   refine dj ?_
   refine Ze (γ := Value) (val := fun v => v) (F := fun v => [sl v (C9 (Aq x node) node (x.cores.length : Int))]) (C := fun _ => []) Try.call80 (fun _ => rfl) (fun _ _ _ _ => rfl) (fun ρ L R w hd hs => Wt (c := (Aq x node)) (id := node) (home := (x.cores.length : Int)) (u := u) hs (hd.base mm) (by have := hkb.n; omega) (by unfold An; omega) (by unfold An; omega)) ?_
   refine dtl ?_; intro ρ
   have hkn := hkb.n
   generalize (Gh.dec (γ := Value) (ρ 14)) = vt
   refine Ao Try.call43 rfl (fun w hs => Kt (cv := cv) (hv := hv) (fv := fv) (fs := x.frames) (ms := (C9 (Aq x node) node (x.cores.length : Int))) (Ai (L' := blk b 33 [cv, hv, fv] :: foc 57 cv x.cores node.toNat (Core.cells u (Aq x node)) :: L) hs) mm mm (O6 (by omega) (by omega) _ 0 (by omega) (by omega) (Uy (d := zLine) hlb))) ?_; intro vs
   refine Gl ?_
   refine kp [4] ?_
   refine Zas ?_
   have er : Lv x node = 0 ∧ Fo x node = way x.frames (C9 (Aq x node) node (x.cores.length : Int)) := by unfold Lv Fo A7; rw [if_neg (by omega), if_neg (by omega), if_neg ht33]; exact ⟨rfl, rfl⟩
   rw [er.1, er.2]
   exact Co vs (hs := fun w hs => Ai (R6 mm hwt (hs.pick pkk)))
theorem W1 {b : Nat} {cv hv fv : Value} {x : Chip} {s : Step} (hs : St (blk b 33 [cv, hv, fv] :: L) R w) (hcv : sl cv x.cores ∈ R) (hhv : sl hv x.home ∈ R) (hfv : sl fv x.frames ∈ R) (hsn : s.wf) : Calls Try.prog 47 [bp b 0, .agg s.cells.toArray].toArray w (Bw (fun v : Value => .tuple #[v, vi (Lw x s).2]) (fun v => blk b 33 [cv, hv, fv] :: L) (fun v => sl v (Lw x s).1 :: R)) := by
 refine Aj Try.func47 rfl Try.ntmps47 rfl hs ?_
 clear hs
 refine Zaz ?_;intro b3
 refine Ga2 ?_
 rcases (show (Cp x s.n) ∨ (¬ Cp x s.n) from by exact Decidable.em _) with hc | hc
 ·refine Zdc ?_;intro hnt
  refine Zec ?_
  refine Bt (γ := Value × Value) (val := fun v => .tuple #[v.1, v.2, vi 5]) (F := fun v => [sl v.1 ([] : Frames), sl v.2 ([] : List UInt8)]) Try.call44 (fun _ => rfl) (fun ρ L R w hd hs => by have h := Jd (l := x.frames) (n := s.n) hs (hd.base mm) hsn.2.2.1; rw [hnt] at h; exact frz h) (fun _ _ _ _ _ => rfl) ?_
  refine e_p (v := fun ρ => .tuple #[(Gh.dec (γ := Value × Value) (ρ 6)).1, (Gh.dec (γ := Value × Value) (ρ 6)).2, vi 5]) (fun _ _ => S2) (Ind.gh (h := fun g => (.tuple #[(Gh.dec (γ := Value × Value) g).1, (Gh.dec (γ := Value × Value) g).2, vi 5] : Value)) 6 0 rfl) (fun _ _ _ _ _ => rfl) ?_
  refine ZcD ?_
  refine J9 (v := vi 5) (fun _ _ => q_x) (fun _ _ _ _ _ => rfl) ?_
  refine ZcE ?_
  refine J9 (v := vi 5) (fun _ _ => Dv) (fun _ _ _ _ _ => rfl) ?_
  refine dnl ?_; intro ρ
  refine xq_ (blk b3 28 s.cells :: blk b 33 [cv, hv, fv] :: L) ?_
  generalize (Gh.dec (γ := Value × Value) (ρ 6)) = vq
  refine ZJ ?_
  refine ob (Am rfl rfl (F6 (by decide))) ?_
  refine Glc ?_
  refine JC.slNil (List UInt8) ?_
  refine Aa ?_
  refine Ga3 ?_
  have er : Lw x s = ([], 5) := by unfold Lw; rw [if_pos hc]
  rw [er]
  exact Ci (.slice none 0 0)
 ·refine ZcU ?_;intro hnt
  refine Zec ?_
  refine Bt (γ := Value × Value) (val := fun v => .tuple #[v.1, v.2, vi 0]) (F := fun v => [sl v.1 (x.frames.eraseIdx s.n.toNat), sl v.2 (Av x.frames s.n)]) Try.call44 (fun _ => rfl) (fun ρ L R w hd hs => by have h := Jd (l := x.frames) (n := s.n) hs (hd.base mm) hsn.2.2.1; rw [hnt] at h; exact frz h) (fun _ _ _ _ _ => rfl) ?_
  refine e_p (v := fun ρ => .tuple #[(Gh.dec (γ := Value × Value) (ρ 6)).1, (Gh.dec (γ := Value × Value) (ρ 6)).2, vi 0]) (fun _ _ => S2) (Ind.gh (h := fun g => (.tuple #[(Gh.dec (γ := Value × Value) g).1, (Gh.dec (γ := Value × Value) g).2, vi 0] : Value)) 6 0 rfl) (fun _ _ _ _ _ => rfl) ?_
  refine ZcD ?_
  refine J9 (v := vi 0) (fun _ _ => q_x) (fun _ _ _ _ _ => rfl) ?_
  refine ZcE ?_
  refine J9 (v := vi 0) (fun _ _ => Dv) (fun _ _ _ _ _ => rfl) ?_
  refine dnl ?_; intro ρ
  refine xq_ (blk b3 28 s.cells :: blk b 33 [cv, hv, fv] :: L) ?_
  generalize (Gh.dec (γ := Value × Value) (ρ 6)) = vq
  refine ZJ ?_
  refine ob (Am rfl rfl (De rfl)) ?_
  refine Gmc ?_
  refine rn1 ?_
  refine Ao Try.call75 rfl (fun w hs => Aed (x := x) (cv := cv) (hv := hv) (fv := fv) (Ai (L' := blk b 33 [cv, hv, fv] :: blk b3 28 s.cells :: L) hs) mm mm) ?_; intro _
  refine rn1 ?_
  refine Ao Try.call74 rfl (fun w hs => U0 (c := Ap x) (b := Av x.frames s.n) hs mm) ?_; intro _
  refine rn3 ?_
  refine al_ (cs := zMsg.cells) Try.zeroValue49 ?_; intro b9
  refine Zdg ?_
  refine cdy ?_ ?_
  ·intro ht33
   refine Gl ?_
   refine JC.slNil (List UInt8) ?_
   refine kp [0, 3, 4, 5] ?_
   refine ZW ?_
   have er : Lw x s = ([], 6) := by unfold Lw; rw [if_neg hc, if_pos ht33]
   rw [er]
   exact Ci (.slice none 0 0)
  ·intro ht33
   refine Gl ?_
   refine kp [0, 3, 4, 5, 34, 35, 36, 37, 38, 39, 40, 41, 42, 43, 44] ?_
   refine cq_ (blk b9 49 (Af (Ap x) (Av x.frames s.n)).1.cells :: blk b3 28 s.cells :: blk b 33 [cv, hv, fv] :: L) ?_
   refine jd_ (fun ρ S => blk b9 49 (Af (Ap x) (Av x.frames s.n)).1.cells :: blk b3 28 s.cells :: blk b 33 [cv, hv, fv] :: L) ?_
   refine dn8 ?_
   refine Bt (γ := Value) (val := fun v => .tuple #[v, vi (Cg x.frames s.n s.bit).2]) (F := fun v => [sl v (Cg x.frames s.n s.bit).1]) Try.call78 (fun _ => rfl) (fun ρ L R w hd hs => frz (X4 (l := x.frames) (n := s.n) (bit := s.bit) hs (hd.base mm) hsn.2.2.1 hsn.2.2.2.1)) (fun _ _ _ _ _ => rfl) ?_
   refine e_p (v := fun ρ => (Gh.dec (γ := Value) (ρ 8))) (fun _ _ => q_x) (Ind.gh (h := fun g => ((Gh.dec (γ := Value) g) : Value)) 8 0 rfl) (fun _ _ _ _ _ => rfl) ?_
   refine J9 (v := vi (Cg x.frames s.n s.bit).2) (fun _ _ => q_x) (fun _ _ _ _ _ => rfl) ?_
   refine epg 8 0 ?_
   refine J9 (v := vi (Cg x.frames s.n s.bit).2) (fun _ _ => Dv) (fun _ _ _ _ _ => rfl) ?_
   refine dnl ?_; intro ρ
   refine xq_ (blk b9 49 (Af (Ap x) (Av x.frames s.n)).1.cells :: blk b3 28 s.cells :: blk b 33 [cv, hv, fv] :: L) ?_
   generalize (Gh.dec (γ := Value) (ρ 8)) = vz
   refine Gl ?_
   have er : Lw x s = (Cg x.frames s.n s.bit) := by unfold Lw; rw [if_neg hc, if_neg ht33]
   rw [er]
   exact Ci vz
theorem fs_A {a b p : Fact} {R : List Fact} (ha : a ∈ R) (hb : b ∈ R) : ∀ f ∈ a :: b :: p :: R, f ∈ p :: R := fun f hf => by
 simp only [List.mem_cons] at hf ⊢
 rcases hf with e | e | e | e
 ·rw [e]; exact .inr ha
 ·rw [e]; exact .inr hb
 ·exact .inl e
 ·exact .inr e
theorem fs_B {a p q : Fact} {R : List Fact} (ha : a ∈ R) : ∀ f ∈ a :: p :: q :: R, f ∈ p :: q :: R := fun f hf => by
 simp only [List.mem_cons] at hf ⊢
 rcases hf with e | e | e | e
 ·rw [e]; exact .inr (.inr ha)
 ·exact .inl e
 ·exact .inr (.inl e)
 ·exact .inr (.inr e)
theorem Zv {b : Nat} {cv hv fv : Value} {x : Chip} {vb : Value} {bt : List UInt8} {n nl : Nat} {M : List Int} (hs : St (row 57 cv x.cores :: blk b 33 [cv, hv, fv] :: L) R w) (hhv : sl hv x.home ∈ R) (hfv : sl fv x.frames ∈ R) (hvb : sl vb bt ∈ R) (h : Inv n nl x M) : Calls Try.prog 45 [bp b 0, vb].toArray w (Bw (fun g : Value × Value × Value => g.2.2) (fun g => row 57 cv (Be x bt).1.cores :: blk b 33 [cv, g.1, g.2.1] :: L) (fun g => sl g.1 (Be x bt).1.home :: sl g.2.1 (Be x bt).1.frames :: sl g.2.2 (Be x bt).2 :: R)) := by
 have hnc := h.nc
 have hnh := h.nh
 have hn1 := h.n1
 have hn2 := h.l1
 have honec : cv.oneCell' = true := Cn .hd hs
 have honeh : hv.oneCell' = true := isSlice.one (hs.fact hhv)
 have honef : fv.oneCell' = true := isSlice.one (hs.fact hfv)
 have hn64 : An (x.cores.length : Int) := by unfold An; omega
 refine Aj Try.func45 rfl Try.ntmps45 rfl hs ?_
 clear hs
 refine ZL ?_
 refine rn1 ?_
 refine Ao Try.call75 rfl (fun w hs => Aju (x := x) (cv := cv) (hv := hv) (fv := fv) hs mm) ?_; intro _
 refine rn1 ?_
 refine Ao Try.call74 rfl (fun w hs => U0 (c := Ap x) (b := bt) hs mm) ?_; intro _
 refine rn3 ?_
 refine al_ (cs := zMsg.cells) Try.zeroValue49 ?_; intro b5
 refine s_B (cs := (Af (Ap x) bt).1.cells) Try.sizeOf49 ?_
 refine ZH ?_
 refine cdy ?_ ?_
 ·intro ht21
  refine Zaf ?_
  refine Zas ?_
  have er : Be x bt = (x, []) := by unfold Be; rw [if_pos ht21]
  rw [er]
  exact Co (hv, fv, .slice none 0 0) (hs := fun w hs => (Ai hs : St _ (sl (.slice none 0 0) ([] : List Done) :: R) w).sub .refl (fs_A hhv hfv))
 ·intro ht21
  refine Gl ?_
  have hp0 : (Af (Ap x) bt).2 = 0 := Decidable.not_not.1 ht21
  have hpk := Fg (c := Ap x) (b := bt) (m := (Af (Ap x) bt).1) (by rw [← hp0])
  have hwk := Ey hpk.2.2.2.2.1
  have hpw : (Af (Ap x) bt).1.wf := by rw [hpk.2.2.2.2.2]; exact Pm _
  have ecn : (Ap x).cores = (x.cores.length : Int) := rfl
  rw [ecn] at hwk
  refine Aa ?_
  refine Gb6 ?_
  refine Ga4 ?_
  refine cdy ?_ ?_
  ·intro ht30
   refine Gl ?_
   refine cq_ (blk b5 49 (Af (Ap x) bt).1.cells :: row 57 cv x.cores :: blk b 33 [cv, hv, fv] :: L) ?_
   refine jd_ (fun ρ S => blk b5 49 (Af (Ap x) bt).1.cells :: row 57 cv x.cores :: blk b 33 [cv, hv, fv] :: L) ?_
   refine dn6 ?_
   refine Bt (γ := Value × Value) (val := fun v => .tuple #[v.1, v.2]) (F := fun v => [sl v.1 (Al x.home (x.cores.length : Int) (Af (Ap x) bt).1).1, sl v.2 (Al x.home (x.cores.length : Int) (Af (Ap x) bt).1).2]) Try.call76 (fun _ => rfl) (fun ρ L R w hd hs => Rn (l := x.home) (id := (x.cores.length : Int)) (m := (Af (Ap x) bt).1) hs (hd.base mm) (fun i hi => (h.ebs i hi).1) (fun i hi => (h.ebs i hi).2.2.2.2) hpw hn64) (fun _ _ _ _ _ => rfl) ?_
   refine e_p (v := fun ρ => .tuple #[(Gh.dec (γ := Value × Value) (ρ 6)).1, (Gh.dec (γ := Value × Value) (ρ 6)).2]) (fun _ _ => S2) (Ind.gh (h := fun g => (.tuple #[(Gh.dec (γ := Value × Value) g).1, (Gh.dec (γ := Value × Value) g).2] : Value)) 6 0 rfl) (fun _ _ _ _ _ => rfl) ?_
   refine ZcD ?_
   refine ZcE ?_
   refine dnl ?_; intro ρ
   refine xq_ (blk b5 49 (Af (Ap x) bt).1.cells :: row 57 cv x.cores :: blk b 33 [cv, hv, fv] :: L) ?_
   generalize (Gh.dec (γ := Value × Value) (ρ 6)) = vh
   refine Gl ?_
   refine JC.know (p := vh.1.oneCell' = true) (fun w hs => isSlice.one (hs.fact (mm (f := sl vh.1 (Al x.home (x.cores.length : Int) (Af (Ap x) bt).1).1)))) (fun honeh1 => ?_)
   refine kp [0, 4, 5, 7, 8, 9, 41, 42, 43, 44] ?_
   refine ZC ?_
   refine sc ?_
   refine ZK ?_
   refine Ao Try.call43 rfl (fun w hs => Kt (cv := cv) (hv := vh.1) (fv := fv) (fs := x.frames) (ms := (Al x.home (x.cores.length : Int) (Af (Ap x) bt).1).2) (Ai (L' := blk b 33 [cv, vh.1, fv] :: row 57 cv x.cores :: L) hs) mm mm (Nh (by omega) (by omega) h.ebs hwk.2.2.2.1 hwk.2.2.2.2.2.1)) ?_; intro vs
   refine Zaf ?_
   refine Zas ?_
   have er : Be x bt = (⟨x.cores, (Al x.home (x.cores.length : Int) (Af (Ap x) bt).1).1, way x.frames (Al x.home (x.cores.length : Int) (Af (Ap x) bt).1).2⟩, []) := by unfold Be A7; rw [if_neg ht21, if_pos ht30]
   rw [er]
   exact Co (vh.1, vs, .slice none 0 0)
  ·intro ht30
   refine Gl ?_
   refine JC.focus1 (T := 57) (v := cv) (xs := x.cores) (Af (Ap x) bt).1.dst.toNat pkk (by omega) (fun hwt u => ?_)
   have hkb : KB (Aq x (Af (Ap x) bt).1.dst) := h.kb (p := (Af (Ap x) bt).1.dst.toNat) (by omega)
   have hlb := h.lbs (p := (Af (Ap x) bt).1.dst) (by omega)
   have hk4 := hkb.n
   have hpd64 : An (Af (Ap x) bt).1.dst := by unfold An; omega
   refine cq_ (foc 57 cv x.cores (Af (Ap x) bt).1.dst.toNat (Core.cells u (Aq x (Af (Ap x) bt).1.dst)) :: blk b5 49 (Af (Ap x) bt).1.cells :: blk b 33 [cv, hv, fv] :: L) ?_
   refine jd_ (fun ρ S => foc 57 cv x.cores (Af (Ap x) bt).1.dst.toNat (Core.cells u (Aq x (Af (Ap x) bt).1.dst)) :: blk b5 49 (Af (Ap x) bt).1.cells :: blk b 33 [cv, hv, fv] :: ((bif S 17 then [blk (Gh.dec (γ := Nat) (ρ 17)) 57 (bif S 18 then [(Gh.dec (γ := Value × Value × Value) (ρ 12)).1, vi (Ae (Aq x (Af (Ap x) bt).1.dst) (Af (Ap x) bt).1.dst (x.cores.length : Int) (Af (Ap x) bt).1).1.wait.kind, vi (Ae (Aq x (Af (Ap x) bt).1.dst) (Af (Ap x) bt).1.dst (x.cores.length : Int) (Af (Ap x) bt).1).1.wait.line, vi (Ae (Aq x (Af (Ap x) bt).1.dst) (Af (Ap x) bt).1.dst (x.cores.length : Int) (Af (Ap x) bt).1).1.wait.value] else [.slice none 0 0, vi 0, vi 0, vi 0])] else []) ++ (L))) ?_
   refine dn6 ?_
   refine epc (fun _ _ => It (v := cv) (i := (Af (Ap x) bt).1.dst) Qq (hl := Dq (α := Core) (xs := x.cores) pkk)) ?_
   refine epc (fun _ _ => Xv (cs := Core.cells u (Aq x (Af (Ap x) bt).1.dst)) Try.isAgg57 Try.sizeOf57) ?_
   refine dn4 ?_
   refine Bt (γ := Value × Value × Value) (val := fun v => .tuple #[.agg (Core.cells v.1 (Ae (Aq x (Af (Ap x) bt).1.dst) (Af (Ap x) bt).1.dst (x.cores.length : Int) (Af (Ap x) bt).1).1).toArray, v.2.1, v.2.2]) (F := fun v => [sl v.1 (Ae (Aq x (Af (Ap x) bt).1.dst) (Af (Ap x) bt).1.dst (x.cores.length : Int) (Af (Ap x) bt).1).1.lines, sl v.2.1 (Ae (Aq x (Af (Ap x) bt).1.dst) (Af (Ap x) bt).1.dst (x.cores.length : Int) (Af (Ap x) bt).1).2.1, sl v.2.2 (Ae (Aq x (Af (Ap x) bt).1.dst) (Af (Ap x) bt).1.dst (x.cores.length : Int) (Af (Ap x) bt).1).2.2]) Try.call77 (fun _ => rfl) (fun ρ L R w hd hs => Zl (c := (Aq x (Af (Ap x) bt).1.dst)) (id := (Af (Ap x) bt).1.dst) (home := (x.cores.length : Int)) (m := (Af (Ap x) bt).1) (u := u) hs (hd.base mm) hkb.kh hpd64 hn64 hpw) (fun ρ g S hS hA => by have u17 : upS S 12 17 = S 17 := rfl; have u18 : upS S 12 18 = S 18 := rfl; have r17 : Rho.set ρ 12 g 17 = ρ 17 := rfl; have h18 : S 18 = false := hA 18 ⟨0, rfl⟩; simp only [u17, u18, r17, h18, cond_false]) ?_
   refine e_p (v := fun ρ => .tuple #[.agg (Core.cells (Gh.dec (γ := Value × Value × Value) (ρ 12)).1 (Ae (Aq x (Af (Ap x) bt).1.dst) (Af (Ap x) bt).1.dst (x.cores.length : Int) (Af (Ap x) bt).1).1).toArray, (Gh.dec (γ := Value × Value × Value) (ρ 12)).2.1, (Gh.dec (γ := Value × Value × Value) (ρ 12)).2.2]) (fun _ _ => S2) (Ind.gh (h := fun g => (.tuple #[.agg (Core.cells (Gh.dec (γ := Value × Value × Value) g).1 (Ae (Aq x (Af (Ap x) bt).1.dst) (Af (Ap x) bt).1.dst (x.cores.length : Int) (Af (Ap x) bt).1).1).toArray, (Gh.dec (γ := Value × Value × Value) g).2.1, (Gh.dec (γ := Value × Value × Value) g).2.2] : Value)) 12 0 rfl) (fun _ _ _ _ _ => rfl) ?_
   refine e_p (v := fun ρ => .agg (Core.cells (Gh.dec (γ := Value × Value × Value) (ρ 12)).1 (Ae (Aq x (Af (Ap x) bt).1.dst) (Af (Ap x) bt).1.dst (x.cores.length : Int) (Af (Ap x) bt).1).1).toArray) (fun _ _ => q_x) (Ind.gh (h := fun g => (.agg (Core.cells (Gh.dec (γ := Value × Value × Value) g).1 (Ae (Aq x (Af (Ap x) bt).1.dst) (Af (Ap x) bt).1.dst (x.cores.length : Int) (Af (Ap x) bt).1).1).toArray : Value)) 12 1 rfl) (fun _ _ _ _ _ => rfl) ?_
   refine e_p (v := fun ρ => (Gh.dec (γ := Value × Value × Value) (ρ 12)).2.1) (fun _ _ => q_x) (Ind.gh (h := fun g => ((Gh.dec (γ := Value × Value × Value) g).2.1 : Value)) 12 1 rfl) (fun _ _ _ _ _ => rfl) ?_
   refine e_p (v := fun ρ => (Gh.dec (γ := Value × Value × Value) (ρ 12)).2.2) (fun _ _ => q_x) (Ind.gh (h := fun g => ((Gh.dec (γ := Value × Value × Value) g).2.2 : Value)) 12 1 rfl) (fun _ _ _ _ _ => rfl) ?_
   refine J4 (cs := [.slice none 0 0, vi 0, vi 0, vi 0]) Try.zeroValue57 rfl (fun ρ b S hS hA => ?_) ?_
   ·have ui : upS S 17 17 = true := rfl; have u18 : upS S 17 18 = S 18 := rfl; have r12 : Rho.set ρ 17 (Gh.enc b) 12 = ρ 12 := rfl; have h18 : S 18 = false := hA 18 ⟨0, rfl⟩; have rs : (Gh.dec (γ := Nat) (Rho.set ρ 17 (Gh.enc b) 17)) = b := rfl
    simp only [ui, hS, u18, r12, h18, rs, cond_true, cond_false, List.nil_append]
    exact ZeM
   refine es_ 57 0 [17] [] (fun ρ => (Gh.dec (γ := Nat) (ρ 17))) (fun ρ => [.slice none 0 0, vi 0, vi 0, vi 0]) (fun ρ => [(Gh.dec (γ := Value × Value × Value) (ρ 12)).1, vi (Ae (Aq x (Af (Ap x) bt).1.dst) (Af (Ap x) bt).1.dst (x.cores.length : Int) (Af (Ap x) bt).1).1.wait.kind, vi (Ae (Aq x (Af (Ap x) bt).1.dst) (Af (Ap x) bt).1.dst (x.cores.length : Int) (Af (Ap x) bt).1).1.wait.line, vi (Ae (Aq x (Af (Ap x) bt).1.dst) (Af (Ap x) bt).1.dst (x.cores.length : Int) (Af (Ap x) bt).1).1.wait.value]) Try.sizeOf57 (h1 := (fun ρ R w L' hd hs => Bi (isSlice.one (hs.fact (hd.dep (it := ⟨12, _, _, _, _⟩) (by repeat (first | exact List.Mem.head _ | refine List.Mem.tail _ ?_)) ⟨9, rfl⟩ (List.Mem.head _)))) (by repeat (first | exact D7 | refine Bi rfl ?_)))) ?_
   refine e_p (v := fun ρ => (Gh.dec (γ := Value × Value × Value) (ρ 12)).2.1) (fun _ _ => Dv) (Ind.gh (h := fun g => ((Gh.dec (γ := Value × Value × Value) g).2.1 : Value)) 12 0 rfl) (fun _ _ _ _ _ => rfl) ?_
   refine e_p (v := fun ρ => (Gh.dec (γ := Value × Value × Value) (ρ 12)).2.2) (fun _ _ => Dv) (Ind.gh (h := fun g => ((Gh.dec (γ := Value × Value × Value) g).2.2 : Value)) 12 0 rfl) (fun _ _ _ _ _ => rfl) ?_
   refine dnl ?_; intro ρ
   refine xq_ (foc 57 cv x.cores (Af (Ap x) bt).1.dst.toNat (Core.cells u (Aq x (Af (Ap x) bt).1.dst)) :: blk b5 49 (Af (Ap x) bt).1.cells :: blk b 33 [cv, hv, fv] :: (blk (Gh.dec (γ := Nat) (ρ 17)) 57 [(Gh.dec (γ := Value × Value × Value) (ρ 12)).1, vi (Ae (Aq x (Af (Ap x) bt).1.dst) (Af (Ap x) bt).1.dst (x.cores.length : Int) (Af (Ap x) bt).1).1.wait.kind, vi (Ae (Aq x (Af (Ap x) bt).1.dst) (Af (Ap x) bt).1.dst (x.cores.length : Int) (Af (Ap x) bt).1).1.wait.line, vi (Ae (Aq x (Af (Ap x) bt).1.dst) (Af (Ap x) bt).1.dst (x.cores.length : Int) (Af (Ap x) bt).1).1.wait.value] :: L)) ?_
   generalize (Gh.dec (γ := Value × Value × Value) (ρ 12)) = vk
   generalize (Gh.dec (γ := Nat) (ρ 17)) = b10
   refine Gl ?_
   refine JC.conseq (L' := row 57 cv x.cores :: blk b10 57 (Core.cells vk.1 (Ae (Aq x (Af (Ap x) bt).1.dst) (Af (Ap x) bt).1.dst (x.cores.length : Int) (Af (Ap x) bt).1).1) :: blk b5 49 (Af (Ap x) bt).1.cells :: blk b 33 [cv, hv, fv] :: L) (fun w hs => Ai (R6 mm hwt (hs.pick pkk))) ?_
   refine kp [0, 4, 5, 10, 11, 12, 65, 66, 67, 68, 69, 70, 71, 72] ?_
   refine Zac ?_
   refine dtl ?_; intro ρ
   refine s_W (α := Core) (Ae (Aq x (Af (Ap x) bt).1.dst) (Af (Ap x) bt).1.dst (x.cores.length : Int) (Af (Ap x) bt).1).1 Try.sizeOf57 rfl rfl rfl pkk (by omega) (Xr mm (Ro hkb.wwf)) ?_
   refine ZK ?_
   refine Ao Try.call43 rfl (fun w hs => Kt (cv := cv) (hv := hv) (fv := fv) (fs := x.frames) (ms := (Ae (Aq x (Af (Ap x) bt).1.dst) (Af (Ap x) bt).1.dst (x.cores.length : Int) (Af (Ap x) bt).1).2.1) (Ai (L' := blk b 33 [cv, hv, fv] :: row 57 cv (x.cores.set (Af (Ap x) bt).1.dst.toNat (Ae (Aq x (Af (Ap x) bt).1.dst) (Af (Ap x) bt).1.dst (x.cores.length : Int) (Af (Ap x) bt).1).1) :: L) hs) mm mm (Yq (by omega) (by omega) hk4 hlb hwk.2.2.2.2.1)) ?_; intro vs
   refine ZD ?_
   have er : Be x bt = (C1 x (Af (Ap x) bt).1.dst (Ae (Aq x (Af (Ap x) bt).1.dst) (Af (Ap x) bt).1.dst (x.cores.length : Int) (Af (Ap x) bt).1).1 (Ae (Aq x (Af (Ap x) bt).1.dst) (Af (Ap x) bt).1.dst (x.cores.length : Int) (Af (Ap x) bt).1).2.1, (Ae (Aq x (Af (Ap x) bt).1.dst) (Af (Ap x) bt).1.dst (x.cores.length : Int) (Af (Ap x) bt).1).2.2) := by unfold Be A7; rw [if_neg ht21, if_neg ht30]
   rw [er]
   exact Co (hv, vs, vk.2.2) (hs := fun w hs => (Ai hs : St _ (sl vs (way x.frames (Ae (Aq x (Af (Ap x) bt).1.dst) (Af (Ap x) bt).1.dst (x.cores.length : Int) (Af (Ap x) bt).1).2.1) :: sl vk.2.2 (Ae (Aq x (Af (Ap x) bt).1.dst) (Af (Ap x) bt).1.dst (x.cores.length : Int) (Af (Ap x) bt).1).2.2 :: R) w).sub .refl (fs_B hhv))
theorem kv_row {v : Value} {ks : List KV} {cs : List Core} (h : ks.map KV.c = cs) (hs : St (row 57 v ks :: (ks.map Aaf ++ L)) R w) : St (row 57 v cs :: L) R w := by
 subst h
 have h1 : St (ks.map Aaf ++ (row 57 v ks :: L)) R w := hs.perm List.perm_middle.symm
 have h2 := Rg ks h1
 have h3 := Vs (fun x hx => List.mem_append.2 (.inl (List.mem_map.2 ⟨x, hx, rfl⟩))) h2
 exact h3.sub .refl (fun f hf => List.mem_append.2 (.inr hf))
theorem H8 {cv hv fv : Value} {x : Chip} (hs : St L R w) (hcv : sl cv x.cores ∈ R) (hhv : sl hv x.home ∈ R) (hfv : sl fv x.frames ∈ R) (hn4 : x.cores.length ≤ 1000) : Calls Try.prog 22 [.agg #[cv, hv, fv]].toArray w (Bw (fun g : Value × Value × Value => .agg #[g.1, g.2.1, g.2.2]) (fun g => row 57 g.1 x.cores :: L) (fun g => sl g.2.2 x.frames :: sl g.2.1 x.home :: R)) :=
 Ho (Ajt hs hcv hhv hfv hn4) (fun g w' hs' => ⟨(g.1, g.2.1, g.2.2.1), rfl, by
  have h1 := Hh (.head _) hs'
  exact (kv_row h1 hs').sub .refl (fun f hf => .tail _ hf)⟩)
theorem Acj {n nl : Nat} {x : Chip} {M : List Int} (h : Inv n nl x M) (i : Nat) : Inv n nl ⟨x.cores, x.home, x.frames.eraseIdx i⟩ M :=
 ⟨h.n1, h.l1, h.nc, h.nh, h.ncl, h.nla, h.ml, h.mv, h.bit, h.gi, h.ci, h.cw, by have := h.fr; have := List.length_eraseIdx_le x.frames i; simp only; omega, fun b hb => h.mi b (List.mem_of_mem_eraseIdx hb)⟩
end Go.Proofs.Ytehpekiedfpnkaa
