/- This file proves parts of what its law needs: each part is told ahead of it. No conditions. -/
import Derived.Test.YtehpekiedfpnkaaVM3
import Derived.Test.YtehpekiedfpnkaaVM4
import Derived.Test.YtehpekiedfpnkaaVM5
import Derived.Test.YtehpekiedfpnkaaVM1
set_option linter.unusedVariables false
set_option linter.unusedSimpArgs false
set_option maxHeartbeats 1000000
set_option maxRecDepth 8000
namespace Go.Proofs.Ytehpekiedfpnkaa
open Go
variable {L : List Chunk} {R : List Fact} {w : World}
theorem Aaa {m : Msg} (hs : St (L) R w) (hin : MsgIn m) : Calls Try.prog 72 [.agg m.cells.toArray].toArray w (Ca (fun v : Value => v) (fun v => L) (fun v => sl v (Cp m) :: R)) := by
 obtain ⟨k0, k1, k2, k3, k4, k5, k6⟩ := hin
 refine Aj Try.func72 rfl Try.ntmps72 rfl hs ?_
 clear hs
 refine Gm ?_
 refine bx ?_; intro b1
 refine Gb1 ?_
 refine ZE ?_
 refine Bo (b := ?b1) ?e1 ?_ ?_; case e1 => exact rfl
 ·intro ht7
  refine Aa ?_
  refine ZaD ?_
  refine ZdL ?_
  refine liO (α := UInt8) ([u8 m.kind, u8 (16 * m.src + m.dst % 16), u8 m.line, u8 (m.serial / 256), u8 m.serial, u8 (m.turn / 256), u8 m.turn, u8 m.value, 1, 0] : List UInt8) G9 rfl (fun j hj => ⟨⟨_, rfl, rfl⟩, ⟨_, rfl, rfl⟩, ⟨_, rfl, rfl⟩, ⟨_, rfl, rfl⟩, ⟨_, rfl, rfl⟩, ⟨_, rfl, rfl⟩, ⟨_, rfl, rfl⟩, ⟨_, rfl, rfl⟩, ⟨_, rfl, rfl⟩, ⟨_, rfl, rfl⟩, trivial⟩) ?_; intro v40
  have hxs : ([u8 m.kind, u8 (16 * m.src + m.dst % 16), u8 m.line, u8 (m.serial / 256), u8 m.serial, u8 (m.turn / 256), u8 m.turn, u8 m.value, 1, 0] : List UInt8) = Cr m := by unfold Cr; rw [ht7, show 16 * m.src + m.dst % 16 = 16 * m.src + m.dst by omega]; rfl
  rw [hxs]
  have hsm := N1 (Cr m)
  refine Ga1 ?_
  refine kp [2, 4, 5, 41, 42] ?_
  refine ZC ?_
  refine An (γ := Unit) (val := fun _ => vi (H7 (Cr m))) Try.call99 rfl (fun w hs => lend .hd (fun L R w hs hf _ => Hq hs hf) hs) ?_; intro _
  refine Zei ?_;intro v49
  refine ap G9 (hb := fun w hs => by have : maxN = 16777216 := rfl; rw [Jk]; simp only [List.length_cons, List.length_nil]; omega) (k := ?_); intro v50
  refine Ga1 ?_
  exact Bk v50 (hs := fun w hs => Ah (St.shut (hs.pick pkk)))
 ·intro ht7
  refine ZL ?_
  refine ZdL ?_
  refine liO (α := UInt8) ([u8 m.kind, u8 (16 * m.src + m.dst % 16), u8 m.line, u8 (m.serial / 256), u8 m.serial, u8 (m.turn / 256), u8 m.turn, u8 m.value, 0, 0] : List UInt8) G9 rfl (fun j hj => ⟨⟨_, rfl, rfl⟩, ⟨_, rfl, rfl⟩, ⟨_, rfl, rfl⟩, ⟨_, rfl, rfl⟩, ⟨_, rfl, rfl⟩, ⟨_, rfl, rfl⟩, ⟨_, rfl, rfl⟩, ⟨_, rfl, rfl⟩, ⟨_, rfl, rfl⟩, ⟨_, rfl, rfl⟩, trivial⟩) ?_; intro v40
  have hxs : ([u8 m.kind, u8 (16 * m.src + m.dst % 16), u8 m.line, u8 (m.serial / 256), u8 m.serial, u8 (m.turn / 256), u8 m.turn, u8 m.value, 0, 0] : List UInt8) = Cr m := by unfold Cr; rw [ht7, show 16 * m.src + m.dst % 16 = 16 * m.src + m.dst by omega]; rfl
  rw [hxs]
  have hsm := N1 (Cr m)
  refine Ga1 ?_
  refine kp [2, 4, 5, 41, 42] ?_
  refine ZC ?_
  refine An (γ := Unit) (val := fun _ => vi (H7 (Cr m))) Try.call99 rfl (fun w hs => lend .hd (fun L R w hs hf _ => Hq hs hf) hs) ?_; intro _
  refine Zei ?_;intro v49
  refine ap G9 (hb := fun w hs => by have : maxN = 16777216 := rfl; rw [Jk]; simp only [List.length_cons, List.length_nil]; omega) (k := ?_); intro v50
  refine Ga1 ?_
  exact Bk v50 (hs := fun w hs => Ah (St.shut (hs.pick pkk)))
theorem K3 {c : Config} (hs : St (L) R w) : Calls Try.prog 18 [.agg c.cells.toArray].toArray w (Ca (fun _ : Unit => vi (Dw c)) (fun _ => L) (fun _ => R)) := by
 refine Aj Try.func18 rfl Try.ntmps18 rfl hs ?_
 clear hs
 refine Gm ?_
 refine bx ?_; intro b1
 refine Ga1 ?_
 refine Zdq ?_
 refine Dn 20 (.bool (decide ((c.cores < 1) ∨ (4 < c.cores) ∨ (c.lines < 1) ∨ (4 < c.lines)))) ?_ ?_
 ·rcases (show ((c.cores < 1)) ∨ (¬ (c.cores < 1) ∧ (4 < c.cores)) ∨ (¬ (c.cores < 1) ∧ ¬ (4 < c.cores) ∧ (c.lines < 1)) ∨ (¬ (c.cores < 1) ∧ ¬ (4 < c.cores) ∧ ¬ (c.lines < 1) ∧ (4 < c.lines)) ∨ (¬ (c.cores < 1) ∧ ¬ (4 < c.cores) ∧ ¬ (c.lines < 1) ∧ ¬ (4 < c.lines)) from by omega) with hm | hm | hm | hm | hm
  ·refine ZZ ?_
   refine Ga15 ?_
   exact ZeK
  ·refine ZaY ?_
   refine Ga11 ?_
   exact ZeK
  ·refine Zdq ?_
   refine Zas ?_
   refine Za6 ?_
   refine Ga6 ?_
   exact ZeK
  ·refine Zas ?_
   refine ZaJ ?_
   refine Ga1 ?_
   exact ZeK
  ·refine Zdq ?_
   refine Zas ?_
   refine Zav ?_
   refine Ga1 ?_
   exact ZeM
 ·refine Ax ?_
  refine Gl ?_
  first | (refine cdx (p := ?p1) (hd := ?d1) ?e1 ?_ ?_; case e1 => exact rfl) | (refine Bo (b := ?b1) ?e1 ?_ ?_; case e1 => exact rfl)
  ·intro ht20
   refine ZB ?_
   have er : Dw c = 3 := by unfold Dw; rw [if_pos ht20]
   exact Zgf
  ·intro ht20
   refine ZB ?_
   have er : Dw c = 0 := by unfold Dw; rw [if_neg ht20]
   exact Zgf
theorem Po {c : Config} (hs : St (L) R w) (hcw : c.wf) : Calls Try.prog 15 [.agg c.cells.toArray].toArray w (Ca (fun v : Value × Value => .tuple #[.agg #[v.1, v.2, .slice none 0 0], vi (A8 c).2]) (fun v => L) (fun v => sl v.1 (A8 c).1.cores :: sl v.2 (A8 c).1.home :: sl (.slice none 0 0) (A8 c).1.frames :: R)) := by
 refine Aj Try.func15 rfl Try.ntmps15 rfl hs ?_
 clear hs
 refine Gm ?_
 refine bx ?_; intro b1
 refine Zcw ?_;intro b2
 refine ZaZ ?_
 refine An Try.call18 rfl (fun w hs => K3 hs) ?_; intro _
 refine ZE ?_
 refine cdy ?_ ?_
 ·intro ht9
  have h3 : Dw c = 3 := by revert ht9; unfold Dw; split <;> simp
  refine Zcb ?_
  refine Gm ?_
  refine Za9 ?_
  refine rn1 ?_
  refine s_B Try.sizeOf33 ?_
  refine Ga1 ?_
  have h3 : Dw c = 3 := by revert ht9; unfold Dw; split <;> simp
  have er : A8 c = (Dk, 3) := by unfold A8; rw [if_pos ht9]
  rw [er, h3]
  exact He (.slice none 0 0, .slice none 0 0) Try.isAgg33 Try.sizeOf33
 ·intro ht9
  have hcg : ¬ (c.cores < 1 ∨ 4 < c.cores ∨ c.lines < 1 ∨ 4 < c.lines) := by revert ht9; unfold Dw; split <;> simp_all
  refine Zai ?_
  refine An Try.call39 rfl (fun w hs => Z4 (cores := c.cores) (lines := c.lines) hs (by omega) (by omega)) ?_; intro v16
  refine J.know (p := v16.oneCell' = true) (fun w hs => isSlice.one (hs.fact (.head _))) (fun hone16 => ?_)
  refine rn1 ?_
  refine al_ (cs := [.slice none 0 0, .slice none 0 0, .slice none 0 0]) Try.zeroValue33 ?_; intro b5
  refine s_B (cs := [.slice none 0 0, v16, .slice none 0 0]) Try.sizeOf33 ?_
  refine ZU ?_
  refine JC.rowNil 57 Core ?_
  refine Bt (γ := Nat × Value) (fun g => (g.1 : Int) ≤ c.cores) (fun g => row 57 g.2 (List.replicate g.1 (Eu c.lines)) :: blk b5 33 [g.2, v16, .slice none 0 0] :: blk b2 33 [.slice none 0 0, .slice none 0 0, .slice none 0 0] :: blk b1 23 c.cells :: L) (fun _ => sl v16 (Mv c.cores c.lines) :: R) (fun g => [(1, bp b1 0), (2, bp b2 0), (5, bp b5 0), (19, vi c.cores), (20, vi (g.1 : Int))]) (fun g => c.cores.toNat - g.1) (0, .slice none 0 0) (by show (0 : Int) ≤ c.cores; omega) alT (fun w hs => Ah hs) ?_
  rintro ⟨k, vs⟩ hk
  try simp only at hk ⊢
  refine ZB ?_
  refine cdy ?_ ?_
  ·intro ht21
   refine Gl ?_
   refine cq_ (blk b5 33 [vs, v16, .slice none 0 0] :: row 57 vs (List.replicate k (Eu c.lines)) :: blk b2 33 [.slice none 0 0, .slice none 0 0, .slice none 0 0] :: blk b1 23 c.cells :: L) ?_
   refine jd_ (fun ρ S => blk b5 33 (bif S 8 then [(Gh.dec (γ := Value) (ρ 6)), v16, .slice none 0 0] else [vs, v16, .slice none 0 0]) :: (bif S 6 then row 57 (Gh.dec (γ := Value) (ρ 6)) ((List.replicate k (Eu c.lines)) ++ [(Eu c.lines)]) else row 57 vs (List.replicate k (Eu c.lines))) :: blk b2 33 [.slice none 0 0, .slice none 0 0, .slice none 0 0] :: blk b1 23 c.cells :: L) ?_
   refine dn1 ?_
   refine Iq (v := vs) (fun ρ S hS hB hA => by have h8 : S 8 = false := hA 8 ⟨0, rfl⟩; simp only [h8, cond_false]; exact C6 (hc := A7 pkk (by repeat (first | exact rfl | refine Di rfl ?_))) Try.isAgg29) (fun _ _ _ _ _ => rfl) ?_
   refine dn2 ?_
   refine Cc (γ := Value) (val := fun v => .agg (Core.cells v (Eu c.lines)).toArray) (F := fun v => [sl v (Eu c.lines).lines]) Try.call40 (fun _ => rfl) (fun ρ L R w hd hs => Aap (lines := c.lines) hs (by omega)) (fun _ _ _ _ _ => rfl) ?_
   refine Fz ([(Eu c.lines)] : List Core) Q9 rfl (fun _ => rfl) rfl (fun _ => rfl) rfl rfl (fun ρ R hd j hj => ⟨⟨_, rfl, ⟨_, rfl, hj (sl (Gh.dec (γ := Value) (ρ 4)) (Eu c.lines).lines) (hd.dep (it := ⟨4, _, _, _, _⟩) (by repeat (first | exact List.Mem.head _ | refine List.Mem.tail _ ?_)) ⟨9, rfl⟩ (List.Mem.head _)), by unfold Eu zOp Op.wf Ap; simp only; omega⟩⟩, trivial⟩) (fun _ _ _ _ _ => rfl) ?_
   refine F0 (e := 57) (xs := (List.replicate k (Eu c.lines))) (ys := [(Eu c.lines)]) (v := vs) Q9 (fun _ => rfl) (fun _ => rfl) rfl (by decide) (fun ρ R hd => (hd.dep (it := ⟨5, _, _, _, _⟩) (by repeat (first | exact List.Mem.head _ | refine List.Mem.tail _ ?_)) ⟨9, rfl⟩ (List.Mem.head _))) (by have : maxN = 16777216 := rfl; simp only [List.length_cons, List.length_nil, List.length_replicate]; omega) (fun ρ g S hS hB hA => ?_) ?_
   ·have ui : upS S 6 6 = true := rfl; have u8 : upS S 6 8 = S 8 := rfl; have h8 : S 8 = false := hA 8 ⟨0, rfl⟩; have rs : (Gh.dec (γ := Value) (Rho.set ρ 6 (Gh.enc g) 6)) = g := rfl
    simp only [ui, hS, u8, h8, rs, cond_true, cond_false]
    exact pex
   refine dn1 ?_
   refine Em (T0 := 33) (f := 0) (vs := fun ρ => [vs, v16, .slice none 0 0]) (v := fun ρ => (Gh.dec (γ := Value) (ρ 6))) (fun ρ => b5) Try.sizeOf29 (fun _ => rfl) (fun _ => rfl) (fun ρ S R w L9 hB hd hs => by have h6 : S 6 = true := hB 6 ⟨9, rfl⟩; simp only [h6, cond_true] at hs; exact Ci pkk hs) (fun _ => rfl) (fun ρ g S hS hB hA => ?_) ?_
   ·have ui : upS S 8 8 = true := rfl; have u6 : upS S 8 6 = S 6 := rfl; have r6 : Rho.set ρ 8 g 6 = ρ 6 := rfl
    simp only [ui, hS, u6, r6, cond_true, cond_false]
    exact pex
   refine dnl ?_; intro ρ
   refine xq_ (blk b5 33 [(Gh.dec (γ := Value) (ρ 6)), v16, .slice none 0 0] :: row 57 (Gh.dec (γ := Value) (ρ 6)) ((List.replicate k (Eu c.lines)) ++ [(Eu c.lines)]) :: blk b2 33 [.slice none 0 0, .slice none 0 0, .slice none 0 0] :: blk b1 23 c.cells :: L) ?_
   generalize (Gh.dec (γ := Value) (ρ 4)) = v26
   generalize (Gh.dec (γ := Value) (ρ 5)) = v27
   generalize (Gh.dec (γ := Value) (ρ 6)) = v28
   refine ZD ?_
   refine Be (k + 1, v28) (by show ((k + 1 : Nat) : Int) ≤ c.cores; omega) (by show c.cores.toNat - (k + 1) < c.cores.toNat - k; omega) alT (fun w hs => ?_)
   try simp only
   rw [Ls]; exact Ah hs
  ·intro ht21
   refine Gl ?_
   refine JC.know (p := vs.oneCell' = true) (fun w hs => Ci .hd hs) (fun hones => ?_)
   refine JC.shut (v := vs) .hd ?_
   refine JC.slNil (List UInt8) ?_
   refine ZC ?_
   refine s_B (cs := [vs, v16, .slice none 0 0]) Try.sizeOf33 ?_
   refine Ga1 ?_
   have er : A8 c = (⟨List.replicate k (Eu c.lines), Mv c.cores c.lines, []⟩, 0) := by unfold A8; rw [if_neg ht9, show c.cores.toNat = k by omega]
   rw [er]
   exact He (vs, v16) Try.isAgg33 Try.sizeOf33
theorem Agq {b : Nat} {cv hv fv : Value} {x : Chip} (hs : St (row 57 cv x.cores :: blk b 33 [cv, hv, fv] :: L) R w) (hhv : sl hv x.home ∈ R) : Calls Try.prog 75 [bp b 0].toArray w (Ca (fun _ : Unit => .agg (Aq x).cells.toArray) (fun _ => row 57 cv x.cores :: blk b 33 [cv, hv, fv] :: L) (fun _ => R)) := by
 refine Aj Try.func75 rfl Try.ntmps75 rfl hs ?_
 clear hs
 refine Gm ?_
 refine al_ (cs := zConfig.cells) Try.zeroValue23 ?_; intro b2
 refine Gl ?_
 refine cq_ (blk b2 23 zConfig.cells :: row 57 cv x.cores :: blk b 33 [cv, hv, fv] :: L) ?_
 refine jd_ (fun ρ S => blk b2 23 (bif S 11 then [vi (x.cores.length : Int), vi (x.home.length : Int)] else zConfig.cells) :: row 57 cv x.cores :: blk b 33 [cv, hv, fv] :: L) ?_
 refine Zes ?_;intro ρ
 refine xq_ (blk b2 23 [vi (x.cores.length : Int), vi (x.home.length : Int)] :: row 57 cv x.cores :: blk b 33 [cv, hv, fv] :: L) ?_
 refine Gl ?_
 exact Me () Try.isAgg23 Try.sizeOf23
theorem Abb {b : Nat} {cv hv fv : Value} {x : Chip} (hs : St (blk b 33 [cv, hv, fv] :: L) R w) (hcv : sl cv x.cores ∈ R) (hhv : sl hv x.home ∈ R) : Calls Try.prog 75 [bp b 0].toArray w (Ca (fun _ : Unit => .agg (Aq x).cells.toArray) (fun _ => blk b 33 [cv, hv, fv] :: L) (fun _ => R)) := by
 refine Aj Try.func75 rfl Try.ntmps75 rfl hs ?_
 clear hs
 refine Gm ?_
 refine al_ (cs := zConfig.cells) Try.zeroValue23 ?_; intro b2
 refine Gl ?_
 refine cq_ (blk b2 23 zConfig.cells :: blk b 33 [cv, hv, fv] :: L) ?_
 refine jd_ (fun ρ S => blk b2 23 (bif S 11 then [vi (x.cores.length : Int), vi (x.home.length : Int)] else zConfig.cells) :: blk b 33 [cv, hv, fv] :: L) ?_
 refine Zes ?_;intro ρ
 refine xq_ (blk b2 23 [vi (x.cores.length : Int), vi (x.home.length : Int)] :: blk b 33 [cv, hv, fv] :: L) ?_
 refine Gl ?_
 exact Me () Try.isAgg23 Try.sizeOf23
theorem Kq {b : Nat} {cv hv fv vm : Value} {fs : Frames} {ms : List Msg} (hs : St (blk b 33 [cv, hv, fv] :: L) R w) (hfv : sl fv fs ∈ R) (hvm : sl vm ms ∈ R) (hmi : ∀ a ∈ ms, MsgIn a) : Calls Try.prog 43 [bp b 0, vm].toArray w (Ca (fun v : Value => .tuple #[]) (fun v => blk b 33 [cv, hv, v] :: L) (fun v => sl v (way fs ms) :: R)) := by
 have hlen := Bh hvm hs
 refine Aj Try.func43 rfl Try.ntmps43 rfl hs ?_
 clear hs
 refine ZU ?_
 refine Bt (γ := Nat × Value) (fun g => g.1 ≤ ms.length) (fun g => blk b 33 [cv, hv, g.2] :: L) (fun g => sl g.2 (way fs (ms.take g.1)) :: R) (fun g => [(0, bp b 0), (6, vm), (7, vi (ms.length : Int)), (8, vi (g.1 : Int))]) (fun g => ms.length - g.1) (0, fv) (Nat.zero_le _) alT (fun w hs => hs.sub .refl (fun f hf => by rcases List.mem_cons.1 hf with e | e; rw [e]; exact hfv; exact e)) ?_
 rintro ⟨k, gv⟩ hk
 try simp only at hk ⊢
 refine ZB ?_
 refine cdy ?_ ?_
 ·intro ht9
  refine Gl ?_
  refine JC.open0 (xs := ms) (v := vm) k mm (by omega) (fun hmw => ?_)
  have hkm : (ms.getD k zMsg) ∈ ms := by rw [List.getD_eq_getElem?_getD, List.getElem?_eq_getElem (by omega)]; exact List.getElem_mem _
  refine ZA ?_
  refine al_ (cs := zMsg.cells) Try.zeroValue49 ?_; intro b5
  refine s_B (cs := (ms.getD k zMsg).cells) Try.sizeOf49 ?_
  refine Gl ?_
  refine cq_ (blk b 33 [cv, hv, gv] :: blk b5 49 (ms.getD k zMsg).cells :: L) ?_
  refine jd_ (fun ρ S => blk b 33 (bif S 10 then [cv, hv, (Gh.dec (γ := Value) (ρ 7))] else [cv, hv, gv]) :: blk b5 49 (ms.getD k zMsg).cells :: L) ?_
  refine dn4 ?_
  refine Iq (v := gv) (fun ρ S hS hB hA => by have h10 : S 10 = false := hA 10 ⟨0, rfl⟩; simp only [h10, cond_false]; exact C6 (hc := A7 pkk (by repeat (first | exact rfl | refine Di rfl ?_))) Try.isAgg31) (fun _ _ _ _ _ => rfl) ?_
  refine dn1 ?_
  refine Cc (γ := Value) (val := fun v => v) (F := fun v => [sl v (Cp (ms.getD k zMsg))]) Try.call72 (fun _ => rfl) (fun ρ L R w hd hs => Aaa hs (hmi _ hkm)) (fun _ _ _ _ _ => rfl) ?_
  refine Cc (γ := Value) (val := fun v => v) (F := fun v => [sl v (Dd (way fs (ms.take k)) (Cp (ms.getD k zMsg)))]) Try.call71 (fun _ => rfl) (fun ρ L R w hd hs => frz (Tk hs (hd.base mm) (hd.dep (it := ⟨6, _, _, _, _⟩) (by repeat (first | exact List.Mem.head _ | refine List.Mem.tail _ ?_)) ⟨9, rfl⟩ (List.Mem.head _)))) (fun ρ g S hS hA => by have u10 : upS S 7 10 = S 10 := rfl; have h10 : S 10 = false := hA 10 ⟨0, rfl⟩; simp only [u10, h10, cond_false]) ?_
  refine dn2 ?_
  refine Em (T0 := 33) (f := 2) (vs := fun ρ => [cv, hv, gv]) (v := fun ρ => (Gh.dec (γ := Value) (ρ 7))) (fun ρ => b) Try.sizeOf31 (fun _ => rfl) (fun _ => rfl) (fun ρ S R w L9 hB hd hs => isSlice.one (hs.fact (hd.dep (it := ⟨7, _, _, _, _⟩) (by repeat (first | exact List.Mem.head _ | refine List.Mem.tail _ ?_)) ⟨9, rfl⟩ (List.Mem.head _)))) (fun _ => rfl) (fun ρ g S hS hB hA => ?_) ?_
  ·have ui : upS S 10 10 = true := rfl; have r7 : Rho.set ρ 10 g 7 = ρ 7 := rfl
   simp only [ui, hS, r7, cond_true, cond_false]
   exact pex
  refine dnl ?_; intro ρ
  refine xq_ (blk b 33 [cv, hv, (Gh.dec (γ := Value) (ρ 7))] :: blk b5 49 (ms.getD k zMsg).cells :: L) ?_
  generalize (Gh.dec (γ := Value) (ρ 6)) = v18
  generalize (Gh.dec (γ := Value) (ρ 7)) = v19
  refine ZD ?_
  refine Be (k + 1, v19) (by show k + 1 ≤ ms.length; omega) (by show ms.length - (k + 1) < ms.length - k; omega) alT (fun w hs => ?_)
  try simp only
  rw [Fa zMsg (by omega), Je]; exact Ah hs
 ·intro ht9
  refine Gl ?_
  have hkl : k = ms.length := by omega
  refine Bq (.inl rfl) (fun B w hs => Iv rfl _ w) (fun w hs => ⟨gv, rfl, by rw [hkl, List.take_length] at hs; exact Ah hs⟩)
theorem Sl {c : Core} {i : Int} {l : Line} {w : Op} (h0 : 0 ≤ i) (h : i < (c.lines.length : Int)) : Ac (Ay c i l w) i = l := by
 unfold Ac Ay
 rw [List.getD_eq_getElem?_getD, List.getElem?_set_self (by omega)]; rfl
theorem Vu {c : Core} {i : Int} {l l' : Line} {w w' : Op} : Ay (Ay c i l w) i l' w' = Ay c i l' w' := by
 unfold Ay; rw [List.set_set]
theorem Yj {c : Core} {i : Int} {l : Line} {w : Op} : ((Ay c i l w).lines.length : Int) = c.lines.length := by unfold Ay; rw [List.length_set]
theorem core_twice {c : Core} {id home : Int} {m : Msg} : (Ae (Ae c id home m).1 id home m).1 = (Ae c id home m).1 ∧ (Ae (Ae c id home m).1 id home m).2.2 = [] := by
 by_cases o : m.line < 0 ∨ (c.lines.length : Int) ≤ m.line
 ·have h1 : Ae c id home m = (c, [], []) := by unfold Ae; rw [if_pos o]
  exact Zgj
 have hg : ∀ l w, ¬ (m.line < 0 ∨ ((Ay c m.line l w).lines.length : Int) ≤ m.line) := fun l w => by rw [Yj]; exact o
 have hla : ∀ l w, Ac (Ay c m.line l w) m.line = l := fun l w => Sl (by omega) (by omega)
 by_cases k4 : m.kind = 4
 ·have h1 : (Ae c id home m).1 = Ay c m.line (Cs (Ac c m.line) m.turn) c.wait := by unfold Ae; rw [if_neg o, if_pos k4]
  rw [h1]
  have h2 : Cs (Cs (Ac c m.line) m.turn) m.turn = Cs (Ac c m.line) m.turn := by
   generalize Ac c m.line = l
   by_cases a : l.seen < m.turn
   ·have hs : (Cs l m.turn).seen = m.turn := by unfold Cs; rw [if_pos a]; split <;> rfl
    generalize Cs l m.turn = z at hs
    unfold Cs; rw [if_neg (by omega)]
   ·have hs : Cs l m.turn = l := by unfold Cs; rw [if_neg a]
    rw [hs, hs]
  have h3 : Ae (Ay c m.line (Cs (Ac c m.line) m.turn) c.wait) id home m = (Ay c m.line (Cs (Ac c m.line) m.turn) c.wait, [Bl 8 id home m.line m.turn 0], []) := by
   unfold Ae; rw [if_neg (hg _ _), if_pos k4, hla, h2, Vu]; rfl
  rw [h3]; exact ⟨rfl, rfl⟩
 by_cases k5 : m.kind = 5 ∨ m.kind = 6
 ·by_cases f : Dv (Ac c m.line) m.turn
  ·have h1 : ∃ w, (Ae c id home m).1 = Ay c m.line (Cv (Ac c m.line) m.kind m.turn) w := ⟨_, by unfold Ae; rw [if_neg o, if_neg k4, if_pos k5, if_pos f]⟩
   obtain ⟨w, h1⟩ := h1
   rw [h1]
   have h2 : ¬ Dv (Cv (Ac c m.line) m.kind m.turn) m.turn := by
    have : (Cv (Ac c m.line) m.kind m.turn).seen = m.turn := by unfold Cv; split <;> (try split) <;> rfl
    unfold Dv; omega
   unfold Ae
   rw [if_neg (hg _ _), if_neg k4, if_pos k5, hla, if_neg h2]
   split <;> exact ⟨rfl, rfl⟩
  ·have h1 : (Ae c id home m).1 = c ∧ (Ae c id home m).2.2 = [] := by
    unfold Ae; rw [if_neg o, if_neg k4, if_pos k5, if_neg f]; split <;> exact ⟨rfl, rfl⟩
   rw [h1.1]; exact h1
 by_cases k7 : m.kind = 7
 ·by_cases s : (Ac c m.line).serial < m.serial
  ·have h1 : Ae c id home m = (c, [], []) := by unfold Ae; rw [if_neg o, if_neg k4, if_neg k5, if_pos k7, if_pos s]
   exact Zgj
  by_cases a : Gp (Ac c m.line) m
  ·have h1 : (Ae c id home m).1 = Ay c m.line (Fx (Ac c m.line) m c.wait) zOp := by unfold Ae; rw [if_neg o, if_neg k4, if_neg k5, if_pos k7, if_neg s, if_pos a]
   rw [h1]
   have h2 : ¬ Gp (Fx (Ac c m.line) m c.wait) m := by
    have : (Fx (Ac c m.line) m c.wait).want = 0 := rfl
    unfold Gp; omega
   have h3 : (Fx (Ac c m.line) m c.wait).serial = (Ac c m.line).serial := rfl
   unfold Ae
   rw [if_neg (hg _ _), if_neg k4, if_neg k5, if_pos k7, hla, if_neg (by omega), if_neg h2]
   exact ⟨rfl, rfl⟩
  ·have h1 : Ae c id home m = (c, [Bl 10 id home m.line m.turn 0], []) := by unfold Ae; rw [if_neg o, if_neg k4, if_neg k5, if_pos k7, if_neg s, if_neg a]
   exact Zgj
 by_cases k11 : m.kind = 11 ∧ (Ac c m.line).want = 3 ∧ m.serial = (Ac c m.line).serial
 ·have h1 : (Ae c id home m).1 = Ay c m.line { Ac c m.line with state := 0, value := 0, want := 0 } zOp := by unfold Ae; rw [if_neg o, if_neg k4, if_neg k5, if_neg k7, if_pos k11]
  rw [h1]
  unfold Ae
  rw [if_neg (hg _ _), if_neg k4, if_neg k5, if_neg k7, hla, if_neg (fun h => absurd (show (0 : Int) = 3 from h.2.1) (by decide))]
  exact ⟨rfl, rfl⟩
 ·have h1 : Ae c id home m = (c, [], []) := by unfold Ae; rw [if_neg o, if_neg k4, if_neg k5, if_neg k7, if_neg k11]
  exact Zgj
def SB (x : Chip) (N : Nat) : Prop := ∀ c ∈ x.cores, ∀ l ∈ c.lines, l.serial ≤ (N : Int)
theorem SB.mono {x : Chip} {N K : Nat} (h : SB x N) (hk : N ≤ K) : SB x K := fun c hc l hl => Int.le_trans (h c hc l hl) (by omega)
theorem SB.set {x : Chip} {N : Nat} {p : Nat} {c : Core} (h : SB x N) (hc : ∀ l ∈ c.lines, l.serial ≤ (N : Int)) {hm : List Entry} {fr : Frames} : SB ⟨x.cores.set p c, hm, fr⟩ N := by
 intro d hd l hl
 rcases List.mem_or_eq_of_mem_set hd with h1 | h1
 ·exact h d h1 l hl
 ·subst h1; exact hc l hl
theorem SB.line {c : Core} {N : Int} (h : ∀ l ∈ c.lines, l.serial ≤ N) (h0 : 0 ≤ N) (i : Int) : (Ac c i).serial ≤ N := by
 unfold Ac
 rw [List.getD_eq_getElem?_getD]
 cases e : c.lines[i.toNat]? with
 | none => exact h0
 | some l => exact h l (List.mem_of_getElem? e)
theorem SB.at {x : Chip} {N : Nat} (h : SB x N) (p : Int) : ∀ l ∈ (Ar x p).lines, l.serial ≤ (N : Int) := by
 unfold Ar
 rw [List.getD_eq_getElem?_getD]
 cases e : x.cores[p.toNat]? with
 | none => intro l hl; cases hl
 | some c => exact h c (List.mem_of_getElem? e)
theorem SB.wl {c : Core} {N K : Int} (h : ∀ l ∈ c.lines, l.serial ≤ N) (hk : N ≤ K) {i : Int} {l : Line} {w : Op} (hl : l.serial ≤ K) : ∀ l' ∈ (Ay c i l w).lines, l'.serial ≤ K := by
 intro l' h'
 rcases List.mem_or_eq_of_mem_set h' with h1 | h1
 ·exact Int.le_trans (h l' h1) hk
 ·subst h1; exact hl
theorem SB.hear {c : Core} {N : Nat} (h : ∀ l ∈ c.lines, l.serial ≤ (N : Int)) {id home : Int} {m : Msg} : ∀ l ∈ (Ae c id home m).1.lines, l.serial ≤ (N : Int) := by
 have h0 := SB.line h (by omega) m.line
 unfold Ae
 split
 ·exact h
 split
 ·refine SB.wl h (Int.le_refl _) ?_
  unfold Cs; split <;> (try split) <;> exact h0
 split
 ·split
  ·refine SB.wl h (Int.le_refl _) ?_
   unfold Cv; split <;> (try split) <;> exact h0
  split <;> exact h
 split
 ·split
  ·exact h
  split
  ·exact SB.wl h (Int.le_refl _) h0
  ·exact h
 split
 ·exact SB.wl h (Int.le_refl _) h0
 ·exact h
theorem SB.begin {c : Core} {N : Nat} (h : ∀ l ∈ c.lines, l.serial ≤ (N : Int)) {id home : Int} {o : Op} : ∀ l ∈ (Ai c id home o).1.lines, l.serial ≤ ((N + 1 : Nat) : Int) := by
 have h0 := SB.line h (by omega) o.line
 have h1 : (A9 (Ac c o.line) o).serial ≤ ((N + 1 : Nat) : Int) := by
  unfold A9
  split <;> (try split) <;> (simp only; omega)
 unfold Ai
 split
 ·intro l hl; cases hl
 split
 ·intro l hl; cases hl
 split
 ·intro l hl; cases hl
 split
 ·exact SB.wl h (by omega) h1
 ·exact SB.wl h (by omega) h1
theorem SB.zero {N : Nat} : SB Dk N := fun c hc => by cases hc
theorem SB.step {x : Chip} {N : Nat} (h : SB x N) (s : Step) : SB (Al x s).1 (N + 1) := by
 have hc : ∀ fr b, SB (A0 ⟨x.cores, x.home, fr⟩ b).1 N := by
  intro fr b
  unfold A0
  split
  ·exact h
  split
  ·exact h
  ·exact SB.set h (SB.hear (SB.at h _))
 unfold Al
 split
 ·split
  ·exact SB.zero
  split
  ·exact SB.zero
  ·exact SB.set (h.mono (by omega)) (SB.begin (SB.at h _))
 split
 ·split
  ·exact SB.zero
  ·exact (hc _ _).mono (by omega)
 split
 ·split
  ·exact SB.zero
  ·exact ZfP
 split
 ·split
  ·exact SB.zero
  ·exact ZfP
 split
 ·split
  ·exact SB.zero
  split
  ·exact SB.zero
  split
  ·exact SB.zero
  ·exact ZfP
 split
 ·split
  ·exact SB.zero
  split
  ·exact ZfP
  ·exact ZfP
 ·exact SB.zero
theorem SB.all : ∀ (l : List Step) {x : Chip} {N : Nat}, SB x N → SB (C9 x l).1 (N + l.length)
 | [], _, _, h => h
 | s :: r, x, N, h => by
  unfold C9
  split
  ·refine (SB.all r (SB.step h s)).mono ?_
   rw [List.length_cons]; omega
  ·exact (SB.all r h).mono (by rw [List.length_cons]; omega)
theorem SB.build (c : Config) (l : List Step) : SB (build c l).1 300 := by
 unfold Go.Proofs.Ytehpekiedfpnkaa.build
 split
 ·exact SB.zero
 ·rename_i hg
  have h0 : SB (A8 c).1 0 := by
   intro k hk l hl
   unfold A8 at hk
   split at hk
   ·cases hk
   ·have e := List.eq_of_mem_replicate hk
    subst e
    have e2 := List.eq_of_mem_replicate hl
    subst e2
    exact Int.le_refl _
  refine (SB.all (l.take 300) h0).mono ?_
  rw [List.length_take]; omega
def allN (f : Nat → Bool) : Nat → Bool
 | 0 => true
 | k + 1 => allN f k && f k
def stN (x : Chip) (i p : Nat) : Int := (lin x i p).state
def ownB (x : Chip) (i p : Nat) : Bool := stN x i p == 2 || (stN x i p == 3 && decide ((ent x i).last.getD p 0 < (lin x i p).serial))
def valN (x : Chip) (i : Nat) : Nat → Option Int
 | 0 => none
 | k + 1 => match valN x i k with
  | some v => some v
  | none => if ownB x i k then some (lin x i k).value else none
def valE (x : Chip) (i : Nat) : Int := if (ent x i).phase = 1 ∧ (lin x i (ent x i).owner.toNat).gave = (ent x i).turn then (lin x i (ent x i).owner.toNat).given else (ent x i).value
def Aat (x : Chip) (i : Nat) : Int := (valN x i x.cores.length).getD (valE x i)
def stale (x : Chip) (i p : Nat) : Bool := stN x i p == 1 && (lin x i p).value != Aat x i
def sameAt (x : Chip) (i : Nat) : Bool := allN (fun p => !stale x i p) x.cores.length
section
open Abs
variable {n nl : Nat} {x : Chip} {M : List Int}
end
theorem Qh : ∀ {d : List Done} {M M' : List Int} {i : Int}, Fi M d M' → Gf M i d = (M', -1)
 | [], M, M', i, h => by rw [show M' = M from h]; rfl
 | d :: r, M, M', i, ⟨h1, h2, h3, h4, h5⟩ => by
  have e : Ce M d.op = (M.set d.op.line.toNat (Az (M.getD d.op.line.toNat 0) d.op).1, (Az (M.getD d.op.line.toNat 0) d.op).2, 0) := by
   unfold Ce; rw [if_neg (by omega), if_neg (by omega)]
  have e2 : (Az (M.getD d.op.line.toNat 0) d.op).2 = d.value := by
   rw [h4]; split
   ·rename_i k; unfold Az; rw [if_neg (by omega), if_neg (by omega), if_neg (by omega)]
   ·rfl
  rw [Mk (by rw [e]; simp only; rw [e2]; simp), e]
  exact Qh h5
theorem do_err {x : Chip} {s : Step} (h : (Al x s).2.2 ≠ 0) : (Al x s).1 = Dk ∧ (Al x s).2.1 = [] := by
 revert h; unfold Al
 repeat' split
 all_goals (intro h; first | exact ⟨rfl, rfl⟩ | exact absurd rfl h)
theorem Abn (c : Core) (id home : Int) (o : Op) : (Ai c id home o).2.2.1.length ≤ 1 := by
 unfold Ai
 repeat' split
 all_goals simp
theorem Aee (c : Core) (id home : Int) (m : Msg) : (Ae c id home m).2.2.length ≤ 1 := by
 unfold Ae
 repeat' split
 all_goals simp
theorem Abd (x : Chip) (b : List UInt8) : (A0 x b).2.length ≤ 1 := by
 unfold A0
 split
 ·simp
 split
 ·simp
 ·exact Aee ..
theorem do_dl (x : Chip) (s : Step) : (Al x s).2.1.length ≤ 1 := by
 unfold Al
 repeat' split
 all_goals first | exact Abn .. | exact Abd .. | simp
section
variable {n nl : Nat} {x : Chip} {M : List Int}
theorem Agg (h : Inv n nl x M) {s : Step} (hok : (Al x s).2.2 = 0) : (Al x s).1.cores.length = x.cores.length ∧ (Al x s).1.home.length = x.home.length ∧ (Al x s).1.frames.length ≤ 40 ∧ (Al x s).2.1.length ≤ 1 := by
 obtain ⟨M', h', _⟩ := Mu h hok
 exact ⟨by rw [h'.nc, h.nc], by rw [h'.nh, h.nh], h'.fr, do_dl x s⟩
end
theorem Q5 {α : Type} : ∀ (l : List α) (i : Nat) (a : α), (l.set i a).eraseIdx i = l.eraseIdx i
 | [], _, _ => rfl
 | _ :: _, 0, _ => rfl
 | b :: l, i + 1, a => by simp [Q5 l i a]
theorem Wr {l : Frames} {n : Int} {b : List UInt8} (h0 : 0 ≤ n) (h : n < (l.length : Int)) : Aw (l.set n.toNat b) n = b := by
 unfold Aw
 rw [List.getD_eq_getElem?_getD, List.getElem?_set_self (by omega)]; rfl
theorem Ry {x : Chip} {n bit : Int} (hr : ¬ Bx x n) (hp : (Af (Aq x) (Aw x.frames n)).2 = 0) (hok : (Al x ⟨5, 0, n, bit, zOp⟩).2.2 = 0) :
  Al (Al x ⟨5, 0, n, bit, zOp⟩).1 ⟨2, 0, n, 0, zOp⟩ = (⟨x.cores, x.home, x.frames.eraseIdx n.toNat⟩, [], 0) ∧ Al x ⟨3, 0, n, 0, zOp⟩ = (⟨x.cores, x.home, x.frames.eraseIdx n.toNat⟩, [], 0) := by
 have hr' : ¬ (n < 0 ∨ (x.frames.length : Int) ≤ n) := hr
 have hl : (Aw x.frames n).length = 12 := by
  refine Classical.byContradiction fun c => ?_
  have : Af (Aq x) (Aw x.frames n) = (zMsg, 2) := by unfold Af; rw [if_pos c]
  rw [this] at hp; exact absurd hp (by decide)
 have e1 : Al x ⟨5, 0, n, bit, zOp⟩ = if (Bp x.frames n bit).2 ≠ 0 then (Dk, [], (Bp x.frames n bit).2) else (⟨x.cores, x.home, (Bp x.frames n bit).1⟩, [], 0) := by
  unfold Al
  rw [if_neg (by simp), if_neg (by simp), if_neg (by simp), if_neg (by simp), if_pos rfl, if_neg hr, if_neg (by simpa using hp)]
 have hs : ¬ (Bp x.frames n bit).2 ≠ 0 := fun c => by
  rw [e1, if_pos c] at hok; exact c hok
 rw [e1, if_neg hs]
 have hb : ¬ (bit < 0 ∨ 8 * ((Aw x.frames n).length : Int) ≤ bit) := fun c => by
  apply hs; unfold Bp; rw [if_neg hr', if_pos c]; decide
 have e2 : (Bp x.frames n bit).1 = x.frames.set n.toNat (Bw (Aw x.frames n) bit) := by
  unfold Bp; rw [if_neg hr', if_neg hb]
 rw [e2]
 refine ⟨?_, ?_⟩
 ·unfold Al
  rw [if_neg (by simp), if_pos rfl, if_neg (by unfold Bx; simp only [List.length_set]; exact hr')]
  simp only
  rw [Wr (by omega) (by omega), Q5]
  unfold A0
  have hm : Af (Aq x) (Aw x.frames n) = ((Af (Aq x) (Aw x.frames n)).1, 0) := by rw [← hp]
  rw [N0 hm (by omega) (by omega)]
  rw [if_pos (by simp)]
 ·unfold Al
  rw [if_neg (by simp), if_neg (by simp), if_pos rfl, if_neg hr]
theorem Vv : ∀ (ms : List Msg) (l : Frames) (i : Nat), i < l.length → (way l ms)[i]? = l[i]? ∧ l.length ≤ (way l ms).length
 | [], l, i, h => ⟨rfl, Nat.le_refl _⟩
 | m :: r, l, i, h => by
  have h1 : l.length ≤ (Dd l (Cp m)).length := by unfold Dd; split <;> simp
  have h2 := Vv r (Dd l (Cp m)) i (by omega)
  refine ⟨?_, by simp only [way]; omega⟩
  simp only [way]
  rw [h2.1]; unfold Dd; split
  ·rw [List.getElem?_append_left h]
  ·rfl
theorem Abe (x : Chip) (b : List UInt8) (fs gs : Frames) : (A0 ⟨x.cores, x.home, fs⟩ b).1.cores = (A0 ⟨x.cores, x.home, gs⟩ b).1.cores ∧ (A0 ⟨x.cores, x.home, fs⟩ b).1.home = (A0 ⟨x.cores, x.home, gs⟩ b).1.home ∧ (A0 ⟨x.cores, x.home, fs⟩ b).2 = (A0 ⟨x.cores, x.home, gs⟩ b).2 := by
 unfold A0 Aq Bc Cz Ar
 simp only
 repeat' split
 all_goals exact ⟨rfl, rfl, rfl⟩
theorem Abc (x : Chip) (b : List UInt8) : (A0 x b).1.frames = x.frames ∨ ∃ ms, (A0 x b).1.frames = way x.frames ms := by
 unfold A0 Cz
 repeat' split
 ·exact .inl rfl
 ·exact .inr ⟨_, rfl⟩
 ·exact .inr ⟨_, rfl⟩
theorem Abf {x : Chip} {b : List UInt8} {i : Nat} (h : i < x.frames.length) : (A0 x b).1.frames[i]? = x.frames[i]? ∧ x.frames.length ≤ (A0 x b).1.frames.length := by
 rcases Abc x b with e | ⟨ms, e⟩
 ·rw [e]; exact ⟨rfl, Nat.le_refl _⟩
 ·rw [e]; exact Vv ms _ _ h
section
variable {n nl : Nat} {x : Chip} {M : List Int}
theorem set_at {α : Type} (l : List α) (i : Nat) (a d : α) (h : i < l.length) : (l.set i a).getD i d = a := by
 rw [List.getD_eq_getElem?_getD, List.getElem?_set_self h]; rfl
theorem Sw (h : Inv n nl x M) (b : List UInt8) (fs gs : Frames) : (A0 ⟨(A0 ⟨x.cores, x.home, fs⟩ b).1.cores, (A0 ⟨x.cores, x.home, fs⟩ b).1.home, gs⟩ b).1.cores = (A0 ⟨x.cores, x.home, fs⟩ b).1.cores ∧
  (A0 ⟨(A0 ⟨x.cores, x.home, fs⟩ b).1.cores, (A0 ⟨x.cores, x.home, fs⟩ b).1.home, gs⟩ b).1.home = (A0 ⟨x.cores, x.home, fs⟩ b).1.home ∧ (A0 ⟨(A0 ⟨x.cores, x.home, fs⟩ b).1.cores, (A0 ⟨x.cores, x.home, fs⟩ b).1.home, gs⟩ b).2 = [] := by
 have hc0 : ∀ cs es (fs : Frames), Aq ⟨cs, es, fs⟩ = ⟨(cs.length : Int), (es.length : Int)⟩ := fun _ _ _ => rfl
 have hn0 : ∀ cs es (fs : Frames), Bc ⟨cs, es, fs⟩ = (cs.length : Int) := fun _ _ _ => rfl
 by_cases hp : (Af (Aq x) b).2 ≠ 0
 ·have e1 : ∀ gs : Frames, A0 ⟨x.cores, x.home, gs⟩ b = (⟨x.cores, x.home, gs⟩, []) := fun gs => by
   have hcf : Aq ⟨x.cores, x.home, gs⟩ = Aq x := rfl
   unfold A0; rw [hcf, if_pos hp]
  rw [e1 fs]; simp only; rw [e1 gs]; exact ⟨rfl, rfl, rfl⟩
 generalize hm : (Af (Aq x) b).1 = m at *
 by_cases hd : m.dst = Bc x
 ·have e1 : ∀ es (gs : Frames), es.length = x.home.length → A0 ⟨x.cores, es, gs⟩ b = (⟨x.cores, (Ak es (Bc x) m).1, way gs (Ak es (Bc x) m).2⟩, []) := fun es gs he => by
   have hcf : Aq ⟨x.cores, es, gs⟩ = Aq x := by rw [hc0, he]; rfl
   have hnc : Bc ⟨x.cores, es, gs⟩ = Bc x := rfl
   unfold A0
   rw [hcf, hnc, hm, if_neg hp, if_pos hd]
  rw [e1 x.home fs rfl]; simp only
  rw [e1 _ gs (Z3 _ _ _)]
  refine ⟨?_, ?_, ?_⟩ <;> first | trivial | exact Uv fun i hi => ⟨(h.ebs i hi).1, (h.ebs i hi).2.2.2.2⟩
 ·have hpar : Af (Aq x) b = (m, 0) := by
   rw [← hm]
   have : (Af (Aq x) b).2 = 0 := Classical.byContradiction hp
   rw [← this]
  have hdn : 0 ≤ m.dst ∧ m.dst < (x.cores.length : Int) := by
   have hw := (Hl hpar).2.2.2.2.1
   have hc2 : (Aq x).cores = (x.cores.length : Int) := rfl
   have hd' : ¬ m.dst = (x.cores.length : Int) := hd
   have := Gv hw
   omega
  have e1 : ∀ cs (gs : Frames), cs.length = x.cores.length → A0 ⟨cs, x.home, gs⟩ b = (Cz ⟨cs, x.home, gs⟩ m.dst (Ae (cs.getD m.dst.toNat E9) m.dst (Bc x) m).1 (Ae (cs.getD m.dst.toNat E9) m.dst (Bc x) m).2.1, (Ae (cs.getD m.dst.toNat E9) m.dst (Bc x) m).2.2) := fun cs gs he => by
   have hcf : Aq ⟨cs, x.home, gs⟩ = Aq x := by rw [hc0, he]; rfl
   have hnc : Bc ⟨cs, x.home, gs⟩ = Bc x := by rw [hn0, he]; rfl
   unfold A0
   rw [hcf, hnc, hm, if_neg hp, if_neg hd]; rfl
  rw [e1 x.cores fs rfl]; simp only [Cz]
  rw [e1 _ gs (by rw [List.length_set])]
  simp only [Cz]
  rw [set_at _ _ _ _ (show m.dst.toNat < x.cores.length by omega), core_twice.1, core_twice.2, List.set_set]
  refine ⟨?_, ?_, ?_⟩ <;> trivial
theorem Q6 {α : Type} : ∀ (l : List α) (i : Nat) (b : α), i < l.length → (l ++ [b]).eraseIdx i = l.eraseIdx i ++ [b]
 | [], _, _, h => absurd h (by simp)
 | a :: l, 0, b, _ => rfl
 | a :: l, i + 1, b, h => by
  simp only [List.cons_append, List.eraseIdx_cons_succ]
  rw [Q6 l i b (by simpa using h)]
def Qm (x : Chip) (k : Int) : Chip × List Done × Int := Al x ⟨2, 0, k, 0, zOp⟩
def Yb (x : Chip) (k : Int) : Chip × List Done × Int := Al x ⟨4, 0, k, 0, zOp⟩
theorem Se {x : Chip} {k : Int} (hr : ¬ Bx x k) : Qm x k = ((A0 ⟨x.cores, x.home, x.frames.eraseIdx k.toNat⟩ (Aw x.frames k)).1, (A0 ⟨x.cores, x.home, x.frames.eraseIdx k.toNat⟩ (Aw x.frames k)).2, 0) := by
 unfold Qm Al
 rw [if_neg (by simp), if_pos rfl, if_neg hr]
theorem Uc (h : Inv n nl x M) {k : Int} (hr : ¬ Bx x k) (hf : x.frames.length < 40) : (Qm x k).2.2 = 0 ∧ (Yb x k).2.2 = 0 ∧ (Qm (Yb x k).1 k).2.2 = 0 ∧ (Qm (Qm (Yb x k).1 k).1 ((x.frames.length : Int) - 1)).2.2 = 0 ∧
  (Qm (Yb x k).1 k).2.1 = (Qm x k).2.1 ∧ (Qm (Qm (Yb x k).1 k).1 ((x.frames.length : Int) - 1)).2.1 = [] ∧
  (Qm (Qm (Yb x k).1 k).1 ((x.frames.length : Int) - 1)).1.cores = (Qm x k).1.cores ∧ (Qm (Qm (Yb x k).1 k).1 ((x.frames.length : Int) - 1)).1.home = (Qm x k).1.home := by
 have hr' : 0 ≤ k ∧ k < (x.frames.length : Int) := by
  have : ¬ (k < 0 ∨ (x.frames.length : Int) ≤ k) := hr
  omega
 obtain ⟨b, hb⟩ : ∃ b, Aw x.frames k = b := ⟨_, rfl⟩
 have et : Yb x k = (⟨x.cores, x.home, x.frames ++ [b]⟩, [], 0) := by
  unfold Yb Al
  rw [if_neg (by simp), if_neg (by simp), if_neg (by simp), if_pos rfl, if_neg hr]
  simp only
  rw [hb]; unfold Dd; rw [if_pos hf]
 have hr2 : ¬ Bx ⟨x.cores, x.home, x.frames ++ [b]⟩ k := by unfold Bx; simp; omega
 have hb2 : Aw (x.frames ++ [b]) k = b := by
  rw [← hb]; unfold Aw
  rw [List.getD_eq_getElem?_getD, List.getD_eq_getElem?_getD, List.getElem?_append_left (by omega)]
 have e2 := Se hr2
 simp only at e2
 rw [hb2, Q6 _ _ _ (by omega)] at e2
 have e1 := Se hr
 rw [hb] at e1
 rw [et]; simp only
 rw [e2, e1]; simp only
 have hel : (x.frames.eraseIdx k.toNat).length = x.frames.length - 1 := by rw [List.length_eraseIdx, if_pos (by omega)]
 have hat := Abf (x := ⟨x.cores, x.home, x.frames.eraseIdx k.toNat ++ [b]⟩) (b := b) (i := x.frames.length - 1) (by simp; omega)
 simp only at hat
 rw [List.getElem?_append_right (by omega), show x.frames.length - 1 - (x.frames.eraseIdx k.toNat).length = 0 by omega] at hat
 have hr3 : ¬ Bx (A0 ⟨x.cores, x.home, x.frames.eraseIdx k.toNat ++ [b]⟩ b).1 ((x.frames.length : Int) - 1) := by
  unfold Bx
  have := hat.2
  simp at this
  omega
 have hb3 : Aw (A0 ⟨x.cores, x.home, x.frames.eraseIdx k.toNat ++ [b]⟩ b).1.frames ((x.frames.length : Int) - 1) = b := by
  unfold Aw
  rw [List.getD_eq_getElem?_getD, show ((x.frames.length : Int) - 1).toNat = x.frames.length - 1 by omega, hat.1]; rfl
 have e3 := Se hr3
 rw [hb3] at e3
 rw [e3]; simp only
 obtain ⟨c1, c2, c3⟩ := Abe x b (x.frames.eraseIdx k.toNat ++ [b]) (x.frames.eraseIdx k.toNat)
 obtain ⟨d1, d2, d3⟩ := Sw h b (x.frames.eraseIdx k.toNat ++ [b]) ((A0 ⟨x.cores, x.home, x.frames.eraseIdx k.toNat ++ [b]⟩ b).1.frames.eraseIdx ((x.frames.length : Int) - 1).toNat)
 exact ⟨trivial, trivial, trivial, trivial, c3, d3, by rw [d1, c1], by rw [d2, c2]⟩
end
theorem Xm {v u : Value} {cs : List Core} {i : Nat} (c : Core) (hu : sl u c.lines ∈ R) (hw : c.wait.wf) (hs : St (foc 57 v cs i (Core.cells u c) :: L) R w) : St (row 57 v (cs.set i c) :: L) R w := hs.unfocus (fun j hj => ⟨u, rfl, hj _ hu, hw⟩)
theorem Re {v u : Value} {cs : List Core} {i : Nat} (hu : sl u (cs.getD i E9).lines ∈ R) (hw : (cs.getD i E9).wait.wf) (hs : St (foc 57 v cs i (Core.cells u (cs.getD i E9)) :: L) R w) : St (row 57 v cs :: L) R w := by
 have h := Xm _ hu hw hs
 rwa [Kb] at h
theorem L8 {id : Int} : ∀ (l : List Entry) (i : Int), (∀ k, k < l.length → ∀ a ∈ F5 (l.getD k A6) (i + (k : Int)) id, MsgIn a) → ∀ a ∈ Db id i l, MsgIn a
 | [], i, h, a, ha => by cases ha
 | e :: r, i, h, a, ha => by
  simp only [Db, List.mem_append] at ha
  rcases ha with ha | ha
  ·exact h 0 (by simp) a (by simpa using ha)
  ·refine L8 r (i + 1) (fun k hk a ha => h (k + 1) (by simpa using hk) a ?_) a ha
   rw [show i + ((k + 1 : Nat) : Int) = i + 1 + (k : Int) by omega]; exact ha
def Lm (x : Chip) (node : Int) : Int := if node < 0 ∨ Bc x < node then 5 else 0
def Fu (x : Chip) (node : Int) : Frames := if node < 0 ∨ Bc x < node then x.frames else if node = Bc x then way x.frames (G7 x.home node) else way x.frames (D3 (Ar x node) node (Bc x))
def Ln (x : Chip) (s : Step) : Frames × Int := if Bx x s.n then ([], 5) else if (Af (Aq x) (Aw x.frames s.n)).2 ≠ 0 then ([], 6) else Bp x.frames s.n s.bit
theorem Vn {b : Nat} {cv hv fv : Value} {x : Chip} {node : Int} {n nl : Nat} {M : List Int} (hs : St (row 57 cv x.cores :: blk b 33 [cv, hv, fv] :: L) R w) (hhv : sl hv x.home ∈ R) (hfv : sl fv x.frames ∈ R) (h : Inv n nl x M) : Calls Try.prog 48 [bp b 0, vi node].toArray w (Ca (fun v : Value => vi (Lm x node)) (fun v => row 57 cv x.cores :: blk b 33 [cv, hv, v] :: L) (fun v => sl v (Fu x node) :: R)) := by
 have hnc := h.nc
 have hnh := h.nh
 have hn1 := h.n1
 have hn2 := h.l1
 refine Aj Try.func48 rfl Try.ntmps48 rfl hs ?_
 clear hs
 refine ZB ?_
 rcases (show (node < 0) ∨ (0 ≤ node ∧ (x.cores.length : Int) < node) ∨ (0 ≤ node ∧ node ≤ (x.cores.length : Int)) from by omega) with hc | hc | hc
 ·refine ZC ?_
  refine Ea ?_
  refine Gd10 ?_
  exact ZfE
 ·refine ZC ?_
  refine Bi ?_
  refine ZaG ?_
  refine Gt ?_
  refine Gd2 ?_
  exact ZfE
 ·refine ZC ?_
  refine Bi ?_
  refine ZaG ?_
  refine Eg ?_
  refine Gd2 ?_
  refine Ga8 ?_
  refine cdy ?_ ?_
  ·intro ht33
   refine Zat ?_
   refine An Try.call79 rfl (fun w hs => Uw (l := x.home) (id := node) hs mm (fun i hi => (h.ebs i hi).1) (by omega) (by unfold Ap; omega)) ?_; intro vt
   refine An Try.call43 rfl (fun w hs => Kq (cv := cv) (hv := hv) (fv := fv) (fs := x.frames) (ms := G7 x.home node) (Ah (L' := blk b 33 [cv, hv, fv] :: row 57 cv x.cores :: L) hs) mm mm (L8 _ 0 (fun k hk a ha => h.says_in k hk a (by rw [Int.zero_add] at ha; rw [← hnc, ← ht33]; exact ha)))) ?_; intro vs
   refine ZB ?_
   have er : Lm x node = 0 ∧ Fu x node = way x.frames (G7 x.home node) := by unfold Lm Fu Bc; rw [if_neg (by omega), if_neg (by omega), if_pos ht33]; exact ⟨rfl, rfl⟩
   rw [er.1, er.2]
   exact Bk vs
  ·intro ht33
   refine JC.focus1 (T := 57) (v := cv) (xs := x.cores) node.toNat pkk (by omega) (fun hwt u => ?_)
   have hkb : KB (Ar x node) := h.kb (p := node.toNat) (by omega)
   have hlb := h.lbs (p := node) (by omega)
   refine Zar ?_
   refine dj ?_
   refine dc (fun _ _ => I1 (v := cv) (i := node) Pz (hl := D1 (α := Core) (xs := x.cores) pkk)) ?_
   refine djc (fun _ _ => Yc (cs := Core.cells u (Ar x node)) Try.isAgg57 Try.sizeOf57) ?_
   refine dn5 ?_
   refine djc (fun _ _ => Qf Try.underlying29 rfl (D1 (α := Core) (xs := x.cores) pkk)) ?_
   refine dj ?_
   refine Kn (γ := Value) (val := fun v => v) (F := fun v => [sl v (D3 (Ar x node) node (x.cores.length : Int))]) (C := fun _ => []) Try.call80 (fun _ => rfl) (fun _ _ _ _ => rfl) (fun ρ L R w hd hs => Vg (c := (Ar x node)) (id := node) (home := (x.cores.length : Int)) (u := u) hs (hd.base mm) (by have := hkb.n; omega) (by unfold Ap; omega) (by unfold Ap; omega)) ?_
   refine dtl ?_; intro ρ
   have hkn := hkb.n
   generalize (Gh.dec (γ := Value) (ρ 14)) = vt
   refine An Try.call43 rfl (fun w hs => Kq (cv := cv) (hv := hv) (fv := fv) (fs := x.frames) (ms := (D3 (Ar x node) node (x.cores.length : Int))) (Ah (L' := blk b 33 [cv, hv, fv] :: foc 57 cv x.cores node.toNat (Core.cells u (Ar x node)) :: L) hs) mm mm (Oq (by omega) (by omega) _ 0 (by omega) (by omega) (Ts (d := zLine) hlb))) ?_; intro vs
   refine Gl ?_
   refine kp [4] ?_
   refine ZX ?_
   have er : Lm x node = 0 ∧ Fu x node = way x.frames (D3 (Ar x node) node (x.cores.length : Int)) := by unfold Lm Fu Bc; rw [if_neg (by omega), if_neg (by omega), if_neg ht33]; exact ⟨rfl, rfl⟩
   rw [er.1, er.2]
   exact Bk vs (hs := fun w hs => Ah (Re mm hwt (hs.pick pkk)))
theorem Vo {b : Nat} {cv hv fv : Value} {x : Chip} {s : Step} (hs : St (blk b 33 [cv, hv, fv] :: L) R w) (hcv : sl cv x.cores ∈ R) (hhv : sl hv x.home ∈ R) (hfv : sl fv x.frames ∈ R) (hsn : s.wf) : Calls Try.prog 47 [bp b 0, .agg s.cells.toArray].toArray w (Ca (fun v : Value => .tuple #[v, vi (Ln x s).2]) (fun v => blk b 33 [cv, hv, fv] :: L) (fun v => sl v (Ln x s).1 :: R)) := by
 refine Aj Try.func47 rfl Try.ntmps47 rfl hs ?_
 clear hs
 refine Zae ?_;intro b3
 refine Ga2 ?_
 rcases (show (Bx x s.n) ∨ (¬ Bx x s.n) from by exact Decidable.em _) with hc | hc
 ·refine Zdk ?_;intro hnt
  refine Zeq ?_
  refine Cc (γ := Value × Value) (val := fun v => .tuple #[v.1, v.2, vi 5]) (F := fun v => [sl v.1 ([] : Frames), sl v.2 ([] : List UInt8)]) Try.call44 (fun _ => rfl) (fun ρ L R w hd hs => by have h := Ji (l := x.frames) (n := s.n) hs (hd.base mm) hsn.2.2.1; rw [hnt] at h; exact frz h) (fun _ _ _ _ _ => rfl) ?_
  refine e_p (v := fun ρ => .tuple #[(Gh.dec (γ := Value × Value) (ρ 6)).1, (Gh.dec (γ := Value × Value) (ρ 6)).2, vi 5]) (fun _ _ => Pw) (Ind.gh (h := fun g => (.tuple #[(Gh.dec (γ := Value × Value) g).1, (Gh.dec (γ := Value × Value) g).2, vi 5] : Value)) 6 0 rfl) (fun _ _ _ _ _ => rfl) ?_
  refine ZcJ ?_
  refine Jx (v := vi 5) (fun _ _ => q_x) (fun _ _ _ _ _ => rfl) ?_
  refine ZcK ?_
  refine Jx (v := vi 5) (fun _ _ => Dx) (fun _ _ _ _ _ => rfl) ?_
  refine dnl ?_; intro ρ
  refine xq_ (blk b3 28 s.cells :: blk b 33 [cv, hv, fv] :: L) ?_
  generalize (Gh.dec (γ := Value × Value) (ρ 6)) = vq
  refine ZK ?_
  refine ob (Ao rfl rfl (Gd (by decide))) ?_
  refine Glc ?_
  refine JC.slNil (List UInt8) ?_
  refine Aa ?_
  refine Ga3 ?_
  have er : Ln x s = ([], 5) := by unfold Ln; rw [if_pos hc]
  rw [er]
  exact Cj (.slice none 0 0)
 ·refine Zdb ?_;intro hnt
  refine Zeq ?_
  refine Cc (γ := Value × Value) (val := fun v => .tuple #[v.1, v.2, vi 0]) (F := fun v => [sl v.1 (x.frames.eraseIdx s.n.toNat), sl v.2 (Aw x.frames s.n)]) Try.call44 (fun _ => rfl) (fun ρ L R w hd hs => by have h := Ji (l := x.frames) (n := s.n) hs (hd.base mm) hsn.2.2.1; rw [hnt] at h; exact frz h) (fun _ _ _ _ _ => rfl) ?_
  refine e_p (v := fun ρ => .tuple #[(Gh.dec (γ := Value × Value) (ρ 6)).1, (Gh.dec (γ := Value × Value) (ρ 6)).2, vi 0]) (fun _ _ => Pw) (Ind.gh (h := fun g => (.tuple #[(Gh.dec (γ := Value × Value) g).1, (Gh.dec (γ := Value × Value) g).2, vi 0] : Value)) 6 0 rfl) (fun _ _ _ _ _ => rfl) ?_
  refine ZcJ ?_
  refine Jx (v := vi 0) (fun _ _ => q_x) (fun _ _ _ _ _ => rfl) ?_
  refine ZcK ?_
  refine Jx (v := vi 0) (fun _ _ => Dx) (fun _ _ _ _ _ => rfl) ?_
  refine dnl ?_; intro ρ
  refine xq_ (blk b3 28 s.cells :: blk b 33 [cv, hv, fv] :: L) ?_
  generalize (Gh.dec (γ := Value × Value) (ρ 6)) = vq
  refine ZK ?_
  refine ob (Ao rfl rfl (Cy rfl)) ?_
  refine Gmc ?_
  refine rn1 ?_
  refine An Try.call75 rfl (fun w hs => Abb (x := x) (cv := cv) (hv := hv) (fv := fv) (Ah (L' := blk b 33 [cv, hv, fv] :: blk b3 28 s.cells :: L) hs) mm mm) ?_; intro _
  refine rn1 ?_
  refine An Try.call74 rfl (fun w hs => Tt (c := Aq x) (b := Aw x.frames s.n) hs mm) ?_; intro _
  refine rn3 ?_
  refine al_ (cs := zMsg.cells) Try.zeroValue49 ?_; intro b9
  refine Zdo ?_
  refine cdy ?_ ?_
  ·intro ht33
   refine Gl ?_
   refine JC.slNil (List UInt8) ?_
   refine kp [0, 3, 4, 5] ?_
   refine ZP ?_
   have er : Ln x s = ([], 6) := by unfold Ln; rw [if_neg hc, if_pos ht33]
   rw [er]
   exact Cj (.slice none 0 0)
  ·intro ht33
   refine Gl ?_
   refine kp [0, 3, 4, 5, 34, 35, 36, 37, 38, 39, 40, 41, 42, 43, 44] ?_
   refine cq_ (blk b9 49 (Af (Aq x) (Aw x.frames s.n)).1.cells :: blk b3 28 s.cells :: blk b 33 [cv, hv, fv] :: L) ?_
   refine jd_ (fun ρ S => blk b9 49 (Af (Aq x) (Aw x.frames s.n)).1.cells :: blk b3 28 s.cells :: blk b 33 [cv, hv, fv] :: L) ?_
   refine dn8 ?_
   refine Cc (γ := Value) (val := fun v => .tuple #[v, vi (Bp x.frames s.n s.bit).2]) (F := fun v => [sl v (Bp x.frames s.n s.bit).1]) Try.call78 (fun _ => rfl) (fun ρ L R w hd hs => frz (Wp (l := x.frames) (n := s.n) (bit := s.bit) hs (hd.base mm) hsn.2.2.1 hsn.2.2.2.1)) (fun _ _ _ _ _ => rfl) ?_
   refine e_p (v := fun ρ => (Gh.dec (γ := Value) (ρ 8))) (fun _ _ => q_x) (Ind.gh (h := fun g => ((Gh.dec (γ := Value) g) : Value)) 8 0 rfl) (fun _ _ _ _ _ => rfl) ?_
   refine Jx (v := vi (Bp x.frames s.n s.bit).2) (fun _ _ => q_x) (fun _ _ _ _ _ => rfl) ?_
   refine epg 8 0 ?_
   refine Jx (v := vi (Bp x.frames s.n s.bit).2) (fun _ _ => Dx) (fun _ _ _ _ _ => rfl) ?_
   refine dnl ?_; intro ρ
   refine xq_ (blk b9 49 (Af (Aq x) (Aw x.frames s.n)).1.cells :: blk b3 28 s.cells :: blk b 33 [cv, hv, fv] :: L) ?_
   generalize (Gh.dec (γ := Value) (ρ 8)) = vz
   refine Gl ?_
   have er : Ln x s = (Bp x.frames s.n s.bit) := by unfold Ln; rw [if_neg hc, if_neg ht33]
   rw [er]
   exact Cj vz
theorem fs_A {a b p : Fact} {R : List Fact} (ha : a ∈ R) (hb : b ∈ R) : ∀ f ∈ a :: b :: p :: R, f ∈ p :: R := fun f hf => by
 simp only [List.mem_cons] at hf ⊢
 rcases hf with e | e | e | e
 ·rw [e]; exact .inr ha
 ·rw [e]; exact .inr hb
 ·exact .inl e
 ·exact .inr e
theorem fs_B {a p q : Fact} {R : List Fact} (ha : a ∈ R) : ∀ f ∈ a :: p :: q :: R, f ∈ p :: q :: R := fun f hf => by
 simp only [List.mem_cons] at hf ⊢
 rcases hf with e | e | e | e
 ·rw [e]; exact .inr (.inr ha)
 ·exact .inl e
 ·exact .inr (.inl e)
 ·exact .inr (.inr e)
theorem Xx {b : Nat} {cv hv fv : Value} {x : Chip} {vb : Value} {bt : List UInt8} {n nl : Nat} {M : List Int} (hs : St (row 57 cv x.cores :: blk b 33 [cv, hv, fv] :: L) R w) (hhv : sl hv x.home ∈ R) (hfv : sl fv x.frames ∈ R) (hvb : sl vb bt ∈ R) (h : Inv n nl x M) : Calls Try.prog 45 [bp b 0, vb].toArray w (Ca (fun g : Value × Value × Value => g.2.2) (fun g => row 57 cv (A0 x bt).1.cores :: blk b 33 [cv, g.1, g.2.1] :: L) (fun g => sl g.1 (A0 x bt).1.home :: sl g.2.1 (A0 x bt).1.frames :: sl g.2.2 (A0 x bt).2 :: R)) := by
 have hnc := h.nc
 have hnh := h.nh
 have hn1 := h.n1
 have hn2 := h.l1
 have honec : cv.oneCell' = true := Ci .hd hs
 refine ZcA ?_;intro honeh honef
 have hn64 : Ap (x.cores.length : Int) := by unfold Ap; omega
 refine Aj Try.func45 rfl Try.ntmps45 rfl hs ?_
 clear hs
 refine ZaK ?_
 refine An Try.call75 rfl (fun w hs => Agq (x := x) (cv := cv) (hv := hv) (fv := fv) hs mm) ?_; intro _
 refine rn1 ?_
 refine An Try.call74 rfl (fun w hs => Tt (c := Aq x) (b := bt) hs mm) ?_; intro _
 refine rn3 ?_
 refine al_ (cs := zMsg.cells) Try.zeroValue49 ?_; intro b5
 refine s_B (cs := (Af (Aq x) bt).1.cells) Try.sizeOf49 ?_
 refine ZE ?_
 refine cdy ?_ ?_
 ·intro ht21
  refine Zak ?_
  refine ZX ?_
  have er : A0 x bt = (x, []) := by unfold A0; rw [if_pos ht21]
  rw [er]
  exact Bk (hv, fv, .slice none 0 0) (hs := fun w hs => (Ah hs : St _ (sl (.slice none 0 0) ([] : List Done) :: R) w).sub .refl (fs_A hhv hfv))
 ·intro ht21
  refine Gl ?_
  have hp0 : (Af (Aq x) bt).2 = 0 := Decidable.not_not.1 ht21
  have hpk := Hl (c := Aq x) (b := bt) (m := (Af (Aq x) bt).1) (by rw [← hp0])
  have hwk := Gv hpk.2.2.2.2.1
  have hpw : (Af (Aq x) bt).1.wf := by rw [hpk.2.2.2.2.2]; exact O8 _
  have ecn : (Aq x).cores = (x.cores.length : Int) := rfl
  rw [ecn] at hwk
  refine Aa ?_
  refine Gb6 ?_
  refine Ga4 ?_
  refine cdy ?_ ?_
  ·intro ht30
   refine Gl ?_
   refine cq_ (blk b5 49 (Af (Aq x) bt).1.cells :: row 57 cv x.cores :: blk b 33 [cv, hv, fv] :: L) ?_
   refine jd_ (fun ρ S => blk b5 49 (Af (Aq x) bt).1.cells :: row 57 cv x.cores :: blk b 33 [cv, hv, fv] :: L) ?_
   refine dn6 ?_
   refine Cc (γ := Value × Value) (val := fun v => .tuple #[v.1, v.2]) (F := fun v => [sl v.1 (Ak x.home (x.cores.length : Int) (Af (Aq x) bt).1).1, sl v.2 (Ak x.home (x.cores.length : Int) (Af (Aq x) bt).1).2]) Try.call76 (fun _ => rfl) (fun ρ L R w hd hs => Qx (l := x.home) (id := (x.cores.length : Int)) (m := (Af (Aq x) bt).1) hs (hd.base mm) (fun i hi => (h.ebs i hi).1) (fun i hi => (h.ebs i hi).2.2.2.2) hpw hn64) (fun _ _ _ _ _ => rfl) ?_
   refine e_p (v := fun ρ => .tuple #[(Gh.dec (γ := Value × Value) (ρ 6)).1, (Gh.dec (γ := Value × Value) (ρ 6)).2]) (fun _ _ => Pw) (Ind.gh (h := fun g => (.tuple #[(Gh.dec (γ := Value × Value) g).1, (Gh.dec (γ := Value × Value) g).2] : Value)) 6 0 rfl) (fun _ _ _ _ _ => rfl) ?_
   refine ZcJ ?_
   refine ZcK ?_
   refine dnl ?_; intro ρ
   refine xq_ (blk b5 49 (Af (Aq x) bt).1.cells :: row 57 cv x.cores :: blk b 33 [cv, hv, fv] :: L) ?_
   generalize (Gh.dec (γ := Value × Value) (ρ 6)) = vh
   refine Gl ?_
   refine JC.know (p := vh.1.oneCell' = true) (fun w hs => isSlice.one (hs.fact (mm (f := sl vh.1 (Ak x.home (x.cores.length : Int) (Af (Aq x) bt).1).1)))) (fun honeh1 => ?_)
   refine kp [0, 4, 5, 7, 8, 9, 41, 42, 43, 44] ?_
   refine ZH ?_
   refine sc ?_
   refine ZL ?_
   refine An Try.call43 rfl (fun w hs => Kq (cv := cv) (hv := vh.1) (fv := fv) (fs := x.frames) (ms := (Ak x.home (x.cores.length : Int) (Af (Aq x) bt).1).2) (Ah (L' := blk b 33 [cv, vh.1, fv] :: row 57 cv x.cores :: L) hs) mm mm (Mw (by omega) (by omega) h.ebs hwk.2.2.2.1 hwk.2.2.2.2.2.1)) ?_; intro vs
   refine Zak ?_
   refine ZX ?_
   have er : A0 x bt = (⟨x.cores, (Ak x.home (x.cores.length : Int) (Af (Aq x) bt).1).1, way x.frames (Ak x.home (x.cores.length : Int) (Af (Aq x) bt).1).2⟩, []) := by unfold A0 Bc; rw [if_neg ht21, if_pos ht30]
   rw [er]
   exact Bk (vh.1, vs, .slice none 0 0)
  ·intro ht30
   refine Gl ?_
   refine JC.focus1 (T := 57) (v := cv) (xs := x.cores) (Af (Aq x) bt).1.dst.toNat pkk (by omega) (fun hwt u => ?_)
   have hkb : KB (Ar x (Af (Aq x) bt).1.dst) := h.kb (p := (Af (Aq x) bt).1.dst.toNat) (by omega)
   have hlb := h.lbs (p := (Af (Aq x) bt).1.dst) (by omega)
   have hk4 := hkb.n
   have hpd64 : Ap (Af (Aq x) bt).1.dst := by unfold Ap; omega
   refine cq_ (foc 57 cv x.cores (Af (Aq x) bt).1.dst.toNat (Core.cells u (Ar x (Af (Aq x) bt).1.dst)) :: blk b5 49 (Af (Aq x) bt).1.cells :: blk b 33 [cv, hv, fv] :: L) ?_
   refine jd_ (fun ρ S => foc 57 cv x.cores (Af (Aq x) bt).1.dst.toNat (Core.cells u (Ar x (Af (Aq x) bt).1.dst)) :: blk b5 49 (Af (Aq x) bt).1.cells :: blk b 33 [cv, hv, fv] :: ((bif S 17 then [blk (Gh.dec (γ := Nat) (ρ 17)) 57 (bif S 18 then [(Gh.dec (γ := Value × Value × Value) (ρ 12)).1, vi (Ae (Ar x (Af (Aq x) bt).1.dst) (Af (Aq x) bt).1.dst (x.cores.length : Int) (Af (Aq x) bt).1).1.wait.kind, vi (Ae (Ar x (Af (Aq x) bt).1.dst) (Af (Aq x) bt).1.dst (x.cores.length : Int) (Af (Aq x) bt).1).1.wait.line, vi (Ae (Ar x (Af (Aq x) bt).1.dst) (Af (Aq x) bt).1.dst (x.cores.length : Int) (Af (Aq x) bt).1).1.wait.value] else [.slice none 0 0, vi 0, vi 0, vi 0])] else []) ++ (L))) ?_
   refine dn6 ?_
   refine epc (fun _ _ => I1 (v := cv) (i := (Af (Aq x) bt).1.dst) Pz (hl := D1 (α := Core) (xs := x.cores) pkk)) ?_
   refine epc (fun _ _ => Yc (cs := Core.cells u (Ar x (Af (Aq x) bt).1.dst)) Try.isAgg57 Try.sizeOf57) ?_
   refine dn4 ?_
   refine Cc (γ := Value × Value × Value) (val := fun v => .tuple #[.agg (Core.cells v.1 (Ae (Ar x (Af (Aq x) bt).1.dst) (Af (Aq x) bt).1.dst (x.cores.length : Int) (Af (Aq x) bt).1).1).toArray, v.2.1, v.2.2]) (F := fun v => [sl v.1 (Ae (Ar x (Af (Aq x) bt).1.dst) (Af (Aq x) bt).1.dst (x.cores.length : Int) (Af (Aq x) bt).1).1.lines, sl v.2.1 (Ae (Ar x (Af (Aq x) bt).1.dst) (Af (Aq x) bt).1.dst (x.cores.length : Int) (Af (Aq x) bt).1).2.1, sl v.2.2 (Ae (Ar x (Af (Aq x) bt).1.dst) (Af (Aq x) bt).1.dst (x.cores.length : Int) (Af (Aq x) bt).1).2.2]) Try.call77 (fun _ => rfl) (fun ρ L R w hd hs => Xn (c := (Ar x (Af (Aq x) bt).1.dst)) (id := (Af (Aq x) bt).1.dst) (home := (x.cores.length : Int)) (m := (Af (Aq x) bt).1) (u := u) hs (hd.base mm) hkb.kh hpd64 hn64 hpw) (fun ρ g S hS hA => by have u17 : upS S 12 17 = S 17 := rfl; have u18 : upS S 12 18 = S 18 := rfl; have r17 : Rho.set ρ 12 g 17 = ρ 17 := rfl; have h18 : S 18 = false := hA 18 ⟨0, rfl⟩; simp only [u17, u18, r17, h18, cond_false]) ?_
   refine e_p (v := fun ρ => .tuple #[.agg (Core.cells (Gh.dec (γ := Value × Value × Value) (ρ 12)).1 (Ae (Ar x (Af (Aq x) bt).1.dst) (Af (Aq x) bt).1.dst (x.cores.length : Int) (Af (Aq x) bt).1).1).toArray, (Gh.dec (γ := Value × Value × Value) (ρ 12)).2.1, (Gh.dec (γ := Value × Value × Value) (ρ 12)).2.2]) (fun _ _ => Pw) (Ind.gh (h := fun g => (.tuple #[.agg (Core.cells (Gh.dec (γ := Value × Value × Value) g).1 (Ae (Ar x (Af (Aq x) bt).1.dst) (Af (Aq x) bt).1.dst (x.cores.length : Int) (Af (Aq x) bt).1).1).toArray, (Gh.dec (γ := Value × Value × Value) g).2.1, (Gh.dec (γ := Value × Value × Value) g).2.2] : Value)) 12 0 rfl) (fun _ _ _ _ _ => rfl) ?_
   refine e_p (v := fun ρ => .agg (Core.cells (Gh.dec (γ := Value × Value × Value) (ρ 12)).1 (Ae (Ar x (Af (Aq x) bt).1.dst) (Af (Aq x) bt).1.dst (x.cores.length : Int) (Af (Aq x) bt).1).1).toArray) (fun _ _ => q_x) (Ind.gh (h := fun g => (.agg (Core.cells (Gh.dec (γ := Value × Value × Value) g).1 (Ae (Ar x (Af (Aq x) bt).1.dst) (Af (Aq x) bt).1.dst (x.cores.length : Int) (Af (Aq x) bt).1).1).toArray : Value)) 12 1 rfl) (fun _ _ _ _ _ => rfl) ?_
   refine e_p (v := fun ρ => (Gh.dec (γ := Value × Value × Value) (ρ 12)).2.1) (fun _ _ => q_x) (Ind.gh (h := fun g => ((Gh.dec (γ := Value × Value × Value) g).2.1 : Value)) 12 1 rfl) (fun _ _ _ _ _ => rfl) ?_
   refine e_p (v := fun ρ => (Gh.dec (γ := Value × Value × Value) (ρ 12)).2.2) (fun _ _ => q_x) (Ind.gh (h := fun g => ((Gh.dec (γ := Value × Value × Value) g).2.2 : Value)) 12 1 rfl) (fun _ _ _ _ _ => rfl) ?_
   refine Ha (cs := [.slice none 0 0, vi 0, vi 0, vi 0]) Try.zeroValue57 rfl (fun ρ b S hS hA => ?_) ?_
   ·have ui : upS S 17 17 = true := rfl; have u18 : upS S 17 18 = S 18 := rfl; have r12 : Rho.set ρ 17 (Gh.enc b) 12 = ρ 12 := rfl; have h18 : S 18 = false := hA 18 ⟨0, rfl⟩; have rs : (Gh.dec (γ := Nat) (Rho.set ρ 17 (Gh.enc b) 17)) = b := rfl
    simp only [ui, hS, u18, r12, h18, rs, cond_true, cond_false, List.nil_append]
    exact ZeL
   refine es_ 57 0 [17] [] (fun ρ => (Gh.dec (γ := Nat) (ρ 17))) (fun ρ => [.slice none 0 0, vi 0, vi 0, vi 0]) (fun ρ => [(Gh.dec (γ := Value × Value × Value) (ρ 12)).1, vi (Ae (Ar x (Af (Aq x) bt).1.dst) (Af (Aq x) bt).1.dst (x.cores.length : Int) (Af (Aq x) bt).1).1.wait.kind, vi (Ae (Ar x (Af (Aq x) bt).1.dst) (Af (Aq x) bt).1.dst (x.cores.length : Int) (Af (Aq x) bt).1).1.wait.line, vi (Ae (Ar x (Af (Aq x) bt).1.dst) (Af (Aq x) bt).1.dst (x.cores.length : Int) (Af (Aq x) bt).1).1.wait.value]) Try.sizeOf57 (h1 := (fun ρ R w L' hd hs => Bm (isSlice.one (hs.fact (hd.dep (it := ⟨12, _, _, _, _⟩) (by repeat (first | exact List.Mem.head _ | refine List.Mem.tail _ ?_)) ⟨9, rfl⟩ (List.Mem.head _)))) (by repeat (first | exact D5 | refine Bm rfl ?_)))) ?_
   refine e_p (v := fun ρ => (Gh.dec (γ := Value × Value × Value) (ρ 12)).2.1) (fun _ _ => Dx) (Ind.gh (h := fun g => ((Gh.dec (γ := Value × Value × Value) g).2.1 : Value)) 12 0 rfl) (fun _ _ _ _ _ => rfl) ?_
   refine e_p (v := fun ρ => (Gh.dec (γ := Value × Value × Value) (ρ 12)).2.2) (fun _ _ => Dx) (Ind.gh (h := fun g => ((Gh.dec (γ := Value × Value × Value) g).2.2 : Value)) 12 0 rfl) (fun _ _ _ _ _ => rfl) ?_
   refine dnl ?_; intro ρ
   refine xq_ (foc 57 cv x.cores (Af (Aq x) bt).1.dst.toNat (Core.cells u (Ar x (Af (Aq x) bt).1.dst)) :: blk b5 49 (Af (Aq x) bt).1.cells :: blk b 33 [cv, hv, fv] :: (blk (Gh.dec (γ := Nat) (ρ 17)) 57 [(Gh.dec (γ := Value × Value × Value) (ρ 12)).1, vi (Ae (Ar x (Af (Aq x) bt).1.dst) (Af (Aq x) bt).1.dst (x.cores.length : Int) (Af (Aq x) bt).1).1.wait.kind, vi (Ae (Ar x (Af (Aq x) bt).1.dst) (Af (Aq x) bt).1.dst (x.cores.length : Int) (Af (Aq x) bt).1).1.wait.line, vi (Ae (Ar x (Af (Aq x) bt).1.dst) (Af (Aq x) bt).1.dst (x.cores.length : Int) (Af (Aq x) bt).1).1.wait.value] :: L)) ?_
   generalize (Gh.dec (γ := Value × Value × Value) (ρ 12)) = vk
   generalize (Gh.dec (γ := Nat) (ρ 17)) = b10
   refine Gl ?_
   refine JC.conseq (L' := row 57 cv x.cores :: blk b10 57 (Core.cells vk.1 (Ae (Ar x (Af (Aq x) bt).1.dst) (Af (Aq x) bt).1.dst (x.cores.length : Int) (Af (Aq x) bt).1).1) :: blk b5 49 (Af (Aq x) bt).1.cells :: blk b 33 [cv, hv, fv] :: L) (fun w hs => Ah (Re mm hwt (hs.pick pkk))) ?_
   refine kp [0, 4, 5, 10, 11, 12, 65, 66, 67, 68, 69, 70, 71, 72] ?_
   refine Zab ?_
   refine dtl ?_; intro ρ
   refine s_W (α := Core) (Ae (Ar x (Af (Aq x) bt).1.dst) (Af (Aq x) bt).1.dst (x.cores.length : Int) (Af (Aq x) bt).1).1 Try.sizeOf57 rfl rfl rfl pkk (by omega) (Wd mm (Qy hkb.wwf)) ?_
   refine ZL ?_
   refine An Try.call43 rfl (fun w hs => Kq (cv := cv) (hv := hv) (fv := fv) (fs := x.frames) (ms := (Ae (Ar x (Af (Aq x) bt).1.dst) (Af (Aq x) bt).1.dst (x.cores.length : Int) (Af (Aq x) bt).1).2.1) (Ah (L' := blk b 33 [cv, hv, fv] :: row 57 cv (x.cores.set (Af (Aq x) bt).1.dst.toNat (Ae (Ar x (Af (Aq x) bt).1.dst) (Af (Aq x) bt).1.dst (x.cores.length : Int) (Af (Aq x) bt).1).1) :: L) hs) mm mm (W0 (by omega) (by omega) hk4 hlb hwk.2.2.2.2.1)) ?_; intro vs
   refine ZD ?_
   have er : A0 x bt = (Cz x (Af (Aq x) bt).1.dst (Ae (Ar x (Af (Aq x) bt).1.dst) (Af (Aq x) bt).1.dst (x.cores.length : Int) (Af (Aq x) bt).1).1 (Ae (Ar x (Af (Aq x) bt).1.dst) (Af (Aq x) bt).1.dst (x.cores.length : Int) (Af (Aq x) bt).1).2.1, (Ae (Ar x (Af (Aq x) bt).1.dst) (Af (Aq x) bt).1.dst (x.cores.length : Int) (Af (Aq x) bt).1).2.2) := by unfold A0 Bc; rw [if_neg ht21, if_neg ht30]
   rw [er]
   exact Bk (hv, vs, vk.2.2) (hs := fun w hs => (Ah hs : St _ (sl vs (way x.frames (Ae (Ar x (Af (Aq x) bt).1.dst) (Af (Aq x) bt).1.dst (x.cores.length : Int) (Af (Aq x) bt).1).2.1) :: sl vk.2.2 (Ae (Ar x (Af (Aq x) bt).1.dst) (Af (Aq x) bt).1.dst (x.cores.length : Int) (Af (Aq x) bt).1).2.2 :: R) w).sub .refl (fs_B hhv))
theorem kv_row {v : Value} {ks : List KV} {cs : List Core} (h : ks.map KV.c = cs) (hs : St (row 57 v ks :: (ks.map Yg ++ L)) R w) : St (row 57 v cs :: L) R w := by
 subst h
 have h1 : St (ks.map Yg ++ (row 57 v ks :: L)) R w := hs.perm List.perm_middle.symm
 have h2 := Qr ks h1
 have h3 := Ul (fun x hx => List.mem_append.2 (.inl (List.mem_map.2 ⟨x, hx, rfl⟩))) h2
 exact h3.sub .refl (fun f hf => List.mem_append.2 (.inr hf))
theorem Gy {cv hv fv : Value} {x : Chip} (hs : St L R w) (hcv : sl cv x.cores ∈ R) (hhv : sl hv x.home ∈ R) (hfv : sl fv x.frames ∈ R) (hn4 : x.cores.length ≤ 1000) : Calls Try.prog 22 [.agg #[cv, hv, fv]].toArray w (Ca (fun g : Value × Value × Value => .agg #[g.1, g.2.1, g.2.2]) (fun g => row 57 g.1 x.cores :: L) (fun g => sl g.2.2 x.frames :: sl g.2.1 x.home :: R)) :=
 Jm (Agp hs hcv hhv hfv hn4) (fun g w' hs' => ⟨(g.1, g.2.1, g.2.2.1), rfl, by
  have h1 := Hy (.head _) hs'
  exact (kv_row h1 hs').sub .refl (fun f hf => .tail _ hf)⟩)
theorem Zz {n nl : Nat} {x : Chip} {M : List Int} (h : Inv n nl x M) (i : Nat) : Inv n nl ⟨x.cores, x.home, x.frames.eraseIdx i⟩ M :=
 ⟨h.n1, h.l1, h.nc, h.nh, h.ncl, h.nla, h.ml, h.mv, h.bit, h.gi, h.ci, h.cw, by have := h.fr; have := List.length_eraseIdx_le x.frames i; simp only; omega, fun b hb => h.mi b (List.mem_of_mem_eraseIdx hb)⟩
theorem Aaz {cv hv fv : Value} {x : Chip} {s : Step} {n nl : Nat} {M : List Int} (hs : St (L) R w) (hcv : sl cv x.cores ∈ R) (hhv : sl hv x.home ∈ R) (hfv : sl fv x.frames ∈ R) (hsn : s.wf) (h : Inv n nl x M) (hk : s.kind = 1) : Calls Try.prog 19 [.agg #[cv, hv, fv], .agg s.cells.toArray].toArray w (Ca (fun v : Value × Value × Value × Value => .tuple #[.agg #[v.1, v.2.1, v.2.2.1], v.2.2.2, vi (Al x s).2.2]) (fun v => L) (fun v => sl v.1 (Al x s).1.cores :: sl v.2.1 (Al x s).1.home :: sl v.2.2.1 (Al x s).1.frames :: sl v.2.2.2 (Al x s).2.1 :: R)) := by
 refine Zbf ?_;intro hnc hnh hn1 hn2 honec honeh honef hn64 hop
 clear hs
 refine ZaM ?_;intro b2 b3 b4
 refine rn1 ?_
 refine An Try.call22 rfl (fun w hs => Gy (x := x) (cv := cv) (hv := hv) (fv := fv) hs mm mm mm (by omega)) ?_; intro ⟨cY, hY, fY⟩
 refine Zbj ?_;intro h12
 obtain ⟨honeY1, honeY2, honeY3⟩ := h12
 refine Zbl ?_;intro b7
 refine Zax ?_
 rcases (show (s.node < 0) ∨ (0 ≤ s.node ∧ (x.cores.length : Int) ≤ s.node) ∨ (0 ≤ s.node ∧ s.node < (x.cores.length : Int)) from by omega) with hc | hc | hc
 ·refine ZZ ?_
  refine Gc8 ?_
  exact Zgz
 ·refine Zad ?_
  refine ZaF ?_
  refine Gc1 ?_
  exact Zgz
 ·refine Za1 ?_
  refine Gc1 ?_
  refine ZcZ ?_;intro hwt u hkb hlb hk4
  refine cq_ (row 57 cY x.cores :: blk b7 33 [cY, hY, fY] :: blk b4 33 [.slice none 0 0, .slice none 0 0, .slice none 0 0] :: blk b3 28 s.cells :: blk b2 33 [cv, hv, fv] :: L) ?_
  refine jd_ (fun ρ S => row 57 cY x.cores :: blk b7 33 [cY, hY, fY] :: blk b4 33 [.slice none 0 0, .slice none 0 0, .slice none 0 0] :: blk b3 28 s.cells :: blk b2 33 [cv, hv, fv] :: ((bif S 19 then [blk (Gh.dec (γ := Nat) (ρ 19)) 57 (bif S 20 then [(Gh.dec (γ := Value × Value × Value) (ρ 13)).1, vi (Ai (Ar x s.node) s.node (x.cores.length : Int) s.op).1.wait.kind, vi (Ai (Ar x s.node) s.node (x.cores.length : Int) s.op).1.wait.line, vi (Ai (Ar x s.node) s.node (x.cores.length : Int) s.op).1.wait.value] else [.slice none 0 0, vi 0, vi 0, vi 0])] else []) ++ (L))) ?_
  refine dn13 ?_
  refine Cc (γ := Value × Value × Value) (val := fun v => .tuple #[.agg (Core.cells v.1 (Ai (Ar x s.node) s.node (x.cores.length : Int) s.op).1).toArray, v.2.1, v.2.2, vi (Ai (Ar x s.node) s.node (x.cores.length : Int) s.op).2.2.2]) (F := fun v => [sl v.1 (Ai (Ar x s.node) s.node (x.cores.length : Int) s.op).1.lines, sl v.2.1 (Ai (Ar x s.node) s.node (x.cores.length : Int) s.op).2.1, sl v.2.2 (Ai (Ar x s.node) s.node (x.cores.length : Int) s.op).2.2.1]) Try.call42 (fun _ => rfl) (fun ρ L R w hd hs => Vi (c := (Ar x s.node)) (id := s.node) (home := (x.cores.length : Int)) (q := s.op) (u := u) hs (hd.base mm) hkb hsn.2.1 hn64 hop) (fun ρ g S hS hA => by have u19 : upS S 13 19 = S 19 := rfl; have u20 : upS S 13 20 = S 20 := rfl; have r19 : Rho.set ρ 13 g 19 = ρ 19 := rfl; have h20 : S 20 = false := hA 20 ⟨0, rfl⟩; simp only [u19, u20, r19, h20, cond_false]) ?_
  refine e_p (v := fun ρ => .tuple #[.agg (Core.cells (Gh.dec (γ := Value × Value × Value) (ρ 13)).1 (Ai (Ar x s.node) s.node (x.cores.length : Int) s.op).1).toArray, (Gh.dec (γ := Value × Value × Value) (ρ 13)).2.1, (Gh.dec (γ := Value × Value × Value) (ρ 13)).2.2, vi (Ai (Ar x s.node) s.node (x.cores.length : Int) s.op).2.2.2]) (fun _ _ => Pw) (Ind.gh (h := fun g => (.tuple #[.agg (Core.cells (Gh.dec (γ := Value × Value × Value) g).1 (Ai (Ar x s.node) s.node (x.cores.length : Int) s.op).1).toArray, (Gh.dec (γ := Value × Value × Value) g).2.1, (Gh.dec (γ := Value × Value × Value) g).2.2, vi (Ai (Ar x s.node) s.node (x.cores.length : Int) s.op).2.2.2] : Value)) 13 0 rfl) (fun _ _ _ _ _ => rfl) ?_
  refine e_p (v := fun ρ => .agg (Core.cells (Gh.dec (γ := Value × Value × Value) (ρ 13)).1 (Ai (Ar x s.node) s.node (x.cores.length : Int) s.op).1).toArray) (fun _ _ => q_x) (Ind.gh (h := fun g => (.agg (Core.cells (Gh.dec (γ := Value × Value × Value) g).1 (Ai (Ar x s.node) s.node (x.cores.length : Int) s.op).1).toArray : Value)) 13 1 rfl) (fun _ _ _ _ _ => rfl) ?_
  refine e_p (v := fun ρ => (Gh.dec (γ := Value × Value × Value) (ρ 13)).2.1) (fun _ _ => q_x) (Ind.gh (h := fun g => ((Gh.dec (γ := Value × Value × Value) g).2.1 : Value)) 13 1 rfl) (fun _ _ _ _ _ => rfl) ?_
  refine e_p (v := fun ρ => (Gh.dec (γ := Value × Value × Value) (ρ 13)).2.2) (fun _ _ => q_x) (Ind.gh (h := fun g => ((Gh.dec (γ := Value × Value × Value) g).2.2 : Value)) 13 1 rfl) (fun _ _ _ _ _ => rfl) ?_
  refine Ze5 ?_
  refine Ha (cs := [.slice none 0 0, vi 0, vi 0, vi 0]) Try.zeroValue57 rfl (fun ρ b S hS hA => ?_) ?_
  ·have ui : upS S 19 19 = true := rfl; have u20 : upS S 19 20 = S 20 := rfl; have r13 : Rho.set ρ 19 (Gh.enc b) 13 = ρ 13 := rfl; have h20 : S 20 = false := hA 20 ⟨0, rfl⟩; have rs : (Gh.dec (γ := Nat) (Rho.set ρ 19 (Gh.enc b) 19)) = b := rfl
   simp only [ui, hS, u20, r13, h20, rs, cond_true, cond_false, List.nil_append]
   exact ZeL
  refine es_ 57 0 [19] [] (fun ρ => (Gh.dec (γ := Nat) (ρ 19))) (fun ρ => [.slice none 0 0, vi 0, vi 0, vi 0]) (fun ρ => [(Gh.dec (γ := Value × Value × Value) (ρ 13)).1, vi (Ai (Ar x s.node) s.node (x.cores.length : Int) s.op).1.wait.kind, vi (Ai (Ar x s.node) s.node (x.cores.length : Int) s.op).1.wait.line, vi (Ai (Ar x s.node) s.node (x.cores.length : Int) s.op).1.wait.value]) Try.sizeOf57 (h1 := (fun ρ R w L' hd hs => Bm (isSlice.one (hs.fact (hd.dep (it := ⟨13, _, _, _, _⟩) (by repeat (first | exact List.Mem.head _ | refine List.Mem.tail _ ?_)) ⟨9, rfl⟩ (List.Mem.head _)))) (by repeat (first | exact D5 | refine Bm rfl ?_)))) ?_
  refine e_p (v := fun ρ => (Gh.dec (γ := Value × Value × Value) (ρ 13)).2.1) (fun _ _ => Dx) (Ind.gh (h := fun g => ((Gh.dec (γ := Value × Value × Value) g).2.1 : Value)) 13 0 rfl) (fun _ _ _ _ _ => rfl) ?_
  refine e_p (v := fun ρ => (Gh.dec (γ := Value × Value × Value) (ρ 13)).2.2) (fun _ _ => Dx) (Ind.gh (h := fun g => ((Gh.dec (γ := Value × Value × Value) g).2.2 : Value)) 13 0 rfl) (fun _ _ _ _ _ => rfl) ?_
  refine Jx (v := vi (Ai (Ar x s.node) s.node (x.cores.length : Int) s.op).2.2.2) (fun _ _ => Dx) (fun _ _ _ _ _ => rfl) ?_
  refine dnl ?_; intro ρ
  refine xq_ (row 57 cY x.cores :: blk b7 33 [cY, hY, fY] :: blk b4 33 [.slice none 0 0, .slice none 0 0, .slice none 0 0] :: blk b3 28 s.cells :: blk b2 33 [cv, hv, fv] :: (blk (Gh.dec (γ := Nat) (ρ 19)) 57 [(Gh.dec (γ := Value × Value × Value) (ρ 13)).1, vi (Ai (Ar x s.node) s.node (x.cores.length : Int) s.op).1.wait.kind, vi (Ai (Ar x s.node) s.node (x.cores.length : Int) s.op).1.wait.line, vi (Ai (Ar x s.node) s.node (x.cores.length : Int) s.op).1.wait.value] :: L)) ?_
  generalize (Gh.dec (γ := Value × Value × Value) (ρ 13)) = vk
  generalize (Gh.dec (γ := Nat) (ρ 19)) = b10
  refine Gl ?_
  refine kp [2, 3, 4, 5, 6, 7, 8, 9, 10, 11, 12, 13, 20, 54, 55] ?_
  refine ZP ?_
  refine cdy ?_ ?_
  ·intro ht55
   refine Gl ?_
   refine Zaa ?_
   refine Zbq ?_
   have er : Al x s = (Dk, [], (Ai (Ar x s.node) s.node (x.cores.length : Int) s.op).2.2.2) := by unfold Al Bc; rw [if_pos (by omega), if_neg (by omega), if_pos ht55]
   rw [er]
   exact ZeU
  ·intro ht55
   refine Gm ?_
   refine rn6 ?_
   refine s_W (α := Core) (Ai (Ar x s.node) s.node (x.cores.length : Int) s.op).1 Try.sizeOf57 rfl rfl rfl pkk (by omega) (Wd mm (Oj hop)) ?_
   refine ZK ?_
   refine An Try.call43 rfl (fun w hs => Kq (cv := cY) (hv := hY) (fv := fY) (fs := x.frames) (ms := (Ai (Ar x s.node) s.node (x.cores.length : Int) s.op).2.1) (Ah (L' := blk b7 33 [cY, hY, fY] :: row 57 cY (x.cores.set s.node.toNat (Ai (Ar x s.node) s.node (x.cores.length : Int) s.op).1) :: blk b4 33 [.slice none 0 0, .slice none 0 0, .slice none 0 0] :: blk b3 28 s.cells :: blk b2 33 [cv, hv, fv] :: L) hs) mm mm (T4 (by omega) (by omega) hk4 hlb)) ?_; intro vs
   refine Gm ?_
   refine Gb2 ?_
   refine rn1 ?_
   refine Zb5 ?_
   refine JC.shut (v := cY) (xs := (x.cores.set s.node.toNat (Ai (Ar x s.node) s.node (x.cores.length : Int) s.op).1)) pkk ?_
   refine JC.know (p := vs.oneCell' = true) (fun w hs => isSlice.one (hs.fact (mm (f := sl vs (way x.frames (Ai (Ar x s.node) s.node (x.cores.length : Int) s.op).2.1))))) (fun honevs => ?_)
   refine ZA ?_
   refine s_B (cs := [cY, hY, vs]) Try.sizeOf33 ?_
   refine Ga2 ?_
   have er : Al x s = (Cz x s.node (Ai (Ar x s.node) s.node (x.cores.length : Int) s.op).1 (Ai (Ar x s.node) s.node (x.cores.length : Int) s.op).2.1, (Ai (Ar x s.node) s.node (x.cores.length : Int) s.op).2.2.1, 0) := by unfold Al Bc; rw [if_pos (by omega), if_neg (by omega), if_neg ht55]
   rw [er]
   exact Ct (cY, hY, vs, vk.2.2) Try.isAgg33 Try.sizeOf33
theorem Aba {cv hv fv : Value} {x : Chip} {s : Step} {n nl : Nat} {M : List Int} (hs : St (L) R w) (hcv : sl cv x.cores ∈ R) (hhv : sl hv x.home ∈ R) (hfv : sl fv x.frames ∈ R) (hsn : s.wf) (h : Inv n nl x M) (hk : s.kind < 1 ∨ 6 < s.kind) : Calls Try.prog 19 [.agg #[cv, hv, fv], .agg s.cells.toArray].toArray w (Ca (fun v : Value × Value × Value × Value => .tuple #[.agg #[v.1, v.2.1, v.2.2.1], v.2.2.2, vi (Al x s).2.2]) (fun v => L) (fun v => sl v.1 (Al x s).1.cores :: sl v.2.1 (Al x s).1.home :: sl v.2.2.1 (Al x s).1.frames :: sl v.2.2.2 (Al x s).2.1 :: R)) := by
 refine Zbf ?_;intro hnc hnh hn1 hn2 honec honeh honef hn64 hop
 clear hs
 refine ZaM ?_;intro b2 b3 b4
 refine rn1 ?_
 refine An Try.call22 rfl (fun w hs => Gy (x := x) (cv := cv) (hv := hv) (fv := fv) hs mm mm mm (by omega)) ?_; intro ⟨cY, hY, fY⟩
 refine Zbj ?_;intro h12
 obtain ⟨honeY1, honeY2, honeY3⟩ := h12
 refine Zbl ?_;intro b7
 refine ZF ?_
 refine ZF ?_
 refine ZF ?_
 refine ZF ?_
 refine ZF ?_
 refine ZF ?_
 refine ZaZ ?_
 refine ZaR ?_
 refine Zbq ?_
 have er : Al x s = (Dk, [], 1) := by unfold Al Bc; rw [if_neg (by omega), if_neg (by omega), if_neg (by omega), if_neg (by omega), if_neg (by omega), if_neg (by omega)]
 rw [er]
 exact ZeU
theorem Aay {cv hv fv : Value} {x : Chip} {s : Step} {n nl : Nat} {M : List Int} (hs : St (L) R w) (hcv : sl cv x.cores ∈ R) (hhv : sl hv x.home ∈ R) (hfv : sl fv x.frames ∈ R) (hsn : s.wf) (h : Inv n nl x M) (hk : s.kind = 2) : Calls Try.prog 19 [.agg #[cv, hv, fv], .agg s.cells.toArray].toArray w (Ca (fun v : Value × Value × Value × Value => .tuple #[.agg #[v.1, v.2.1, v.2.2.1], v.2.2.2, vi (Al x s).2.2]) (fun v => L) (fun v => sl v.1 (Al x s).1.cores :: sl v.2.1 (Al x s).1.home :: sl v.2.2.1 (Al x s).1.frames :: sl v.2.2.2 (Al x s).2.1 :: R)) := by
 refine Zbf ?_;intro hnc hnh hn1 hn2 honec honeh honef hn64 hop
 clear hs
 refine ZaM ?_;intro b2 b3 b4
 refine rn1 ?_
 refine An Try.call22 rfl (fun w hs => Gy (x := x) (cv := cv) (hv := hv) (fv := fv) hs mm mm mm (by omega)) ?_; intro ⟨cY, hY, fY⟩
 refine Zbj ?_;intro h12
 obtain ⟨honeY1, honeY2, honeY3⟩ := h12
 refine Zbl ?_;intro b7
 refine ZF ?_
 refine Zax ?_
 rcases (show (Bx x s.n) ∨ (¬ Bx x s.n) from by exact Classical.em _) with hc | hc
 ·refine Zdk ?_;intro hnt
  refine ZH ?_
  refine An (γ := Value × Value) (val := fun v => .tuple #[v.1, v.2, vi 5]) (Rf := fun v => sl v.1 ([] : Frames) :: sl v.2 ([] : List UInt8) :: _) Try.call44 rfl (fun w hs => by have h := Ji (v0 := fv) (l := x.frames) (n := s.n) hs mm hsn.2.2.1; rw [hnt] at h; exact frz h) ?_; intro ⟨va, vb⟩
  refine Gb7 ?_
  refine rn1 ?_
  refine ZaR ?_
  refine kp [2, 3, 4, 5, 6, 7, 8, 9, 14, 15, 16, 20, 81, 82] ?_
  refine Zbq ?_
  have er : Al x s = (Dk, [], 5) := by unfold Al Bc; rw [if_neg (by omega), if_pos (by omega)]; rw [if_pos hc]
  rw [er]
  exact ZeU
 ·refine Zdb ?_;intro hnt
  refine ZH ?_
  refine An (γ := Value × Value) (val := fun v => .tuple #[v.1, v.2, vi 0]) (Rf := fun v => sl v.1 (x.frames.eraseIdx s.n.toNat) :: sl v.2 (Aw x.frames s.n) :: _) Try.call44 rfl (fun w hs => by have h := Ji (v0 := fv) (l := x.frames) (n := s.n) hs mm hsn.2.2.1; rw [hnt] at h; exact frz h) ?_; intro ⟨va, vb⟩
  refine Gb7 ?_
  refine rn1 ?_
  refine Zb5 ?_
  refine JC.know (p := va.oneCell' = true) (fun w hs => isSlice.one (hs.fact (mm (f := sl va (x.frames.eraseIdx s.n.toNat))))) (fun honeva => ?_)
  refine kp [2, 3, 4, 5, 6, 7, 8, 9, 14, 15, 20, 83, 84] ?_
  refine ZA ?_
  refine sc ?_
  refine ZL ?_
  refine Ck ?_
  refine Gmc ?_
  refine rn1 ?_
  refine An Try.call45 rfl (fun w hs => Xx (x := ⟨x.cores, x.home, x.frames.eraseIdx s.n.toNat⟩) (cv := cY) (hv := hY) (fv := va) (bt := (Aw x.frames s.n)) (Ah (L' := row 57 cY x.cores :: blk b7 33 [cY, hY, va] :: blk b4 33 [.slice none 0 0, .slice none 0 0, .slice none 0 0] :: blk b3 28 s.cells :: blk b2 33 [cv, hv, fv] :: L) hs) mm mm mm (Zz h _)) ?_; intro ⟨vh, vf, vd⟩
  refine ZaZ ?_
  refine Zb5 ?_
  refine JC.shut (v := cY) (xs := (A0 ⟨x.cores, x.home, x.frames.eraseIdx s.n.toNat⟩ (Aw x.frames s.n)).1.cores) pkk ?_
  refine JC.know (p := vh.oneCell' = true) (fun w hs => isSlice.one (hs.fact (mm (f := sl vh (A0 ⟨x.cores, x.home, x.frames.eraseIdx s.n.toNat⟩ (Aw x.frames s.n)).1.home)))) (fun honevh => ?_)
  refine JC.know (p := vf.oneCell' = true) (fun w hs => isSlice.one (hs.fact (mm (f := sl vf (A0 ⟨x.cores, x.home, x.frames.eraseIdx s.n.toNat⟩ (Aw x.frames s.n)).1.frames)))) (fun honevf => ?_)
  refine ZA ?_
  refine s_B (cs := [cY, vh, vf]) Try.sizeOf33 ?_
  refine Ga2 ?_
  have er : Al x s = ((A0 ⟨x.cores, x.home, x.frames.eraseIdx s.n.toNat⟩ (Aw x.frames s.n)).1, (A0 ⟨x.cores, x.home, x.frames.eraseIdx s.n.toNat⟩ (Aw x.frames s.n)).2, 0) := by unfold Al Bc; rw [if_neg (by omega), if_pos (by omega)]; rw [if_neg hc]
  rw [er]
  exact Ct (cY, vh, vf, vd) Try.isAgg33 Try.sizeOf33
theorem Aax {cv hv fv : Value} {x : Chip} {s : Step} {n nl : Nat} {M : List Int} (hs : St (L) R w) (hcv : sl cv x.cores ∈ R) (hhv : sl hv x.home ∈ R) (hfv : sl fv x.frames ∈ R) (hsn : s.wf) (h : Inv n nl x M) (hk : s.kind = 3) : Calls Try.prog 19 [.agg #[cv, hv, fv], .agg s.cells.toArray].toArray w (Ca (fun v : Value × Value × Value × Value => .tuple #[.agg #[v.1, v.2.1, v.2.2.1], v.2.2.2, vi (Al x s).2.2]) (fun v => L) (fun v => sl v.1 (Al x s).1.cores :: sl v.2.1 (Al x s).1.home :: sl v.2.2.1 (Al x s).1.frames :: sl v.2.2.2 (Al x s).2.1 :: R)) := by
 refine Zbf ?_;intro hnc hnh hn1 hn2 honec honeh honef hn64 hop
 clear hs
 refine ZaM ?_;intro b2 b3 b4
 refine rn1 ?_
 refine An Try.call22 rfl (fun w hs => Gy (x := x) (cv := cv) (hv := hv) (fv := fv) hs mm mm mm (by omega)) ?_; intro ⟨cY, hY, fY⟩
 refine Zbj ?_;intro h12
 obtain ⟨honeY1, honeY2, honeY3⟩ := h12
 refine Zbl ?_;intro b7
 refine Zau ?_
 refine Gc1 ?_
 rcases (show (Bx x s.n) ∨ (¬ Bx x s.n) from by exact Classical.em _) with hc | hc
 ·refine Zdk ?_;intro hnt
  refine ZH ?_
  refine An (γ := Value × Value) (val := fun v => .tuple #[v.1, v.2, vi 5]) (Rf := fun v => sl v.1 ([] : Frames) :: sl v.2 ([] : List UInt8) :: _) Try.call44 rfl (fun w hs => by have h := Ji (v0 := fv) (l := x.frames) (n := s.n) hs mm hsn.2.2.1; rw [hnt] at h; exact frz h) ?_; intro ⟨va, vb⟩
  refine Ga7 ?_
  refine kp [2, 3, 4, 5, 6, 7, 8, 9, 14, 15, 16, 20, 79, 80] ?_
  refine ZC ?_
  refine ZaR ?_
  refine Zbq ?_
  have er : Al x s = (Dk, [], 5) := by unfold Al Bc; rw [if_neg (by omega), if_neg (by omega), if_pos (by omega)]; rw [if_pos hc]
  rw [er]
  exact ZeU
 ·refine Zdb ?_;intro hnt
  refine ZH ?_
  refine An (γ := Value × Value) (val := fun v => .tuple #[v.1, v.2, vi 0]) (Rf := fun v => sl v.1 (x.frames.eraseIdx s.n.toNat) :: sl v.2 (Aw x.frames s.n) :: _) Try.call44 rfl (fun w hs => by have h := Ji (v0 := fv) (l := x.frames) (n := s.n) hs mm hsn.2.2.1; rw [hnt] at h; exact frz h) ?_; intro ⟨va, vb⟩
  refine Ga7 ?_
  refine kp [2, 3, 4, 5, 6, 7, 8, 9, 14, 15, 16, 20, 79, 80] ?_
  refine ZC ?_
  refine Zb5 ?_
  refine JC.know (p := va.oneCell' = true) (fun w hs => isSlice.one (hs.fact (mm (f := sl va (x.frames.eraseIdx s.n.toNat))))) (fun honeva => ?_)
  refine ZA ?_
  refine sc ?_
  refine ZL ?_
  refine Av ?_
  refine Gmc ?_
  refine rn1 ?_
  refine Zb5 ?_
  refine Zda ?_
  have er : Al x s = (⟨x.cores, x.home, x.frames.eraseIdx s.n.toNat⟩, [], 0) := by unfold Al Bc; rw [if_neg (by omega), if_neg (by omega), if_pos (by omega)]; rw [if_neg hc]
  exact ZgC
theorem Aaw {cv hv fv : Value} {x : Chip} {s : Step} {n nl : Nat} {M : List Int} (hs : St (L) R w) (hcv : sl cv x.cores ∈ R) (hhv : sl hv x.home ∈ R) (hfv : sl fv x.frames ∈ R) (hsn : s.wf) (h : Inv n nl x M) (hk : s.kind = 4) : Calls Try.prog 19 [.agg #[cv, hv, fv], .agg s.cells.toArray].toArray w (Ca (fun v : Value × Value × Value × Value => .tuple #[.agg #[v.1, v.2.1, v.2.2.1], v.2.2.2, vi (Al x s).2.2]) (fun v => L) (fun v => sl v.1 (Al x s).1.cores :: sl v.2.1 (Al x s).1.home :: sl v.2.2.1 (Al x s).1.frames :: sl v.2.2.2 (Al x s).2.1 :: R)) := by
 refine Zbf ?_;intro hnc hnh hn1 hn2 honec honeh honef hn64 hop
 clear hs
 refine ZaM ?_;intro b2 b3 b4
 refine rn1 ?_
 refine An Try.call22 rfl (fun w hs => Gy (x := x) (cv := cv) (hv := hv) (fv := fv) hs mm mm mm (by omega)) ?_; intro ⟨cY, hY, fY⟩
 refine Zbj ?_;intro h12
 obtain ⟨honeY1, honeY2, honeY3⟩ := h12
 refine Zbl ?_;intro b7
 refine ZF ?_
 refine Zau ?_
 refine Gc1 ?_
 rcases (show (Bx x s.n) ∨ (¬ Bx x s.n) from by exact Classical.em _) with hc | hc
 ·have hnt : Fk x.frames s.n = ([], 5) := by unfold Fk; rw [if_pos (show s.n < 0 ∨ (x.frames.length : Int) ≤ s.n from hc)]
  refine ZH ?_
  refine An (γ := Value) (val := fun v => .tuple #[v, vi 5]) (Rf := fun v => sl v ([] : Frames) :: _) Try.call46 rfl (fun w hs => by have h := Qp (v0 := fv) (l := x.frames) (n := s.n) hs mm hsn.2.2.1; rw [hnt] at h; exact frz h) ?_; intro va
  refine ZcX ?_;intro honeva
  refine ZC ?_
  refine ZaR ?_
  refine Zbq ?_
  have er : Al x s = (Dk, [], 5) := by unfold Al Bc; rw [if_neg (by omega), if_neg (by omega), if_neg (by omega), if_pos (by omega)]; rw [if_pos hc]
  rw [er]
  exact ZeU
 ·have hnt : Fk x.frames s.n = (Dd x.frames (Aw x.frames s.n), 0) := by unfold Fk; rw [if_neg (show ¬ (s.n < 0 ∨ (x.frames.length : Int) ≤ s.n) from hc)]
  refine ZH ?_
  refine An (γ := Value) (val := fun v => .tuple #[v, vi 0]) (Rf := fun v => sl v (Dd x.frames (Aw x.frames s.n)) :: _) Try.call46 rfl (fun w hs => by have h := Qp (v0 := fv) (l := x.frames) (n := s.n) hs mm hsn.2.2.1; rw [hnt] at h; exact frz h) ?_; intro va
  refine ZcX ?_;intro honeva
  refine ZC ?_
  refine Zb5 ?_
  refine Zda ?_
  have er : Al x s = (⟨x.cores, x.home, Dd x.frames (Aw x.frames s.n)⟩, [], 0) := by unfold Al Bc; rw [if_neg (by omega), if_neg (by omega), if_neg (by omega), if_pos (by omega)]; rw [if_neg hc]
  exact ZgC
theorem Aav {cv hv fv : Value} {x : Chip} {s : Step} {n nl : Nat} {M : List Int} (hs : St (L) R w) (hcv : sl cv x.cores ∈ R) (hhv : sl hv x.home ∈ R) (hfv : sl fv x.frames ∈ R) (hsn : s.wf) (h : Inv n nl x M) (hk : s.kind = 5) : Calls Try.prog 19 [.agg #[cv, hv, fv], .agg s.cells.toArray].toArray w (Ca (fun v : Value × Value × Value × Value => .tuple #[.agg #[v.1, v.2.1, v.2.2.1], v.2.2.2, vi (Al x s).2.2]) (fun v => L) (fun v => sl v.1 (Al x s).1.cores :: sl v.2.1 (Al x s).1.home :: sl v.2.2.1 (Al x s).1.frames :: sl v.2.2.2 (Al x s).2.1 :: R)) := by
 refine Zbf ?_;intro hnc hnh hn1 hn2 honec honeh honef hn64 hop
 clear hs
 refine ZaM ?_;intro b2 b3 b4
 refine rn1 ?_
 refine An Try.call22 rfl (fun w hs => Gy (x := x) (cv := cv) (hv := hv) (fv := fv) hs mm mm mm (by omega)) ?_; intro ⟨cY, hY, fY⟩
 refine Zbj ?_;intro h12
 obtain ⟨honeY1, honeY2, honeY3⟩ := h12
 refine Zbl ?_;intro b7
 refine ZaX ?_
 refine Gd1 ?_
 refine rn1 ?_
 refine An Try.call47 rfl (fun w hs => Vo (x := x) (cv := cv) (hv := hv) (fv := fv) (s := s) (Ah (L' := blk b2 33 [cv, hv, fv] :: row 57 cY x.cores :: blk b7 33 [cY, hY, fY] :: blk b4 33 [.slice none 0 0, .slice none 0 0, .slice none 0 0] :: blk b3 28 s.cells :: L) hs) mm mm mm hsn) ?_; intro va
 refine ZcX ?_;intro honeva
 refine ZP ?_
 refine cdy ?_ ?_
 ·intro ht115
  refine Gl ?_
  refine Zaa ?_
  refine Zbq ?_
  have er : Al x s = (Dk, [], (Ln x s).2) := by unfold Al Bc; rw [if_neg (by omega), if_neg (by omega), if_neg (by omega), if_neg (by omega), if_pos (by omega)]; revert ht115; unfold Ln; (repeat' split) <;> simp_all
  rw [er]
  exact Ct (.slice none 0 0, .slice none 0 0, .slice none 0 0, .slice none 0 0) Try.isAgg33 Try.sizeOf33
 ·intro ht115
  refine Gl ?_
  refine Zda ?_
  have er : Al x s = (⟨x.cores, x.home, (Ln x s).1⟩, [], 0) := by unfold Al Bc; rw [if_neg (by omega), if_neg (by omega), if_neg (by omega), if_neg (by omega), if_pos (by omega)]; revert ht115; unfold Ln; (repeat' split) <;> simp_all
  rw [er]
  exact Ct (cY, hY, va, .slice none 0 0) Try.isAgg33 Try.sizeOf33
theorem Aau {cv hv fv : Value} {x : Chip} {s : Step} {n nl : Nat} {M : List Int} (hs : St (L) R w) (hcv : sl cv x.cores ∈ R) (hhv : sl hv x.home ∈ R) (hfv : sl fv x.frames ∈ R) (hsn : s.wf) (h : Inv n nl x M) (hk : s.kind = 6) : Calls Try.prog 19 [.agg #[cv, hv, fv], .agg s.cells.toArray].toArray w (Ca (fun v : Value × Value × Value × Value => .tuple #[.agg #[v.1, v.2.1, v.2.2.1], v.2.2.2, vi (Al x s).2.2]) (fun v => L) (fun v => sl v.1 (Al x s).1.cores :: sl v.2.1 (Al x s).1.home :: sl v.2.2.1 (Al x s).1.frames :: sl v.2.2.2 (Al x s).2.1 :: R)) := by
 refine Zbf ?_;intro hnc hnh hn1 hn2 honec honeh honef hn64 hop
 clear hs
 refine ZaM ?_;intro b2 b3 b4
 refine rn1 ?_
 refine An Try.call22 rfl (fun w hs => Gy (x := x) (cv := cv) (hv := hv) (fv := fv) hs mm mm mm (by omega)) ?_; intro ⟨cY, hY, fY⟩
 refine Zbj ?_;intro h12
 obtain ⟨honeY1, honeY2, honeY3⟩ := h12
 refine Zbl ?_;intro b7
 refine ZF ?_
 refine ZaX ?_
 refine Gd1 ?_
 refine rn2 ?_
 refine An Try.call48 rfl (fun w hs => Vn (x := x) (cv := cY) (hv := hY) (fv := fY) (node := s.node) (Ah (L' := row 57 cY x.cores :: blk b7 33 [cY, hY, fY] :: blk b4 33 [.slice none 0 0, .slice none 0 0, .slice none 0 0] :: blk b3 28 s.cells :: blk b2 33 [cv, hv, fv] :: L) hs) mm mm h) ?_; intro va
 refine J.know (p := va.oneCell' = true) (fun w hs => isSlice.one (hs.fact (.head _))) (fun honeva => ?_)
 refine ZE ?_
 refine cdy ?_ ?_
 ·intro ht115
  refine Gl ?_
  refine Zaa ?_
  refine kp [4, 5, 6, 7, 8, 9, 116, 117] ?_
  refine Zbq ?_
  have er : Al x s = (Dk, [], (Lm x s.node)) := by unfold Al Bc; rw [if_neg (by omega), if_neg (by omega), if_neg (by omega), if_neg (by omega), if_neg (by omega), if_pos (by omega)]; revert ht115; unfold Lm Bc; split <;> simp_all
  rw [er]
  exact Ct (.slice none 0 0, .slice none 0 0, .slice none 0 0, .slice none 0 0) Try.isAgg33 Try.sizeOf33
 ·intro ht115
  refine Gl ?_
  refine JC.shut (v := cY) (xs := x.cores) pkk ?_
  refine ZT ?_
  refine kp [4, 5, 6, 7, 8, 118, 119] ?_
  refine ZA ?_
  refine s_B (cs := [cY, hY, va]) Try.sizeOf33 ?_
  refine Ga2 ?_
  have er : Al x s = (⟨x.cores, x.home, Fu x s.node⟩, [], 0) := by unfold Al Bc; rw [if_neg (by omega), if_neg (by omega), if_neg (by omega), if_neg (by omega), if_neg (by omega), if_pos (by omega)]; revert ht115; unfold Lm Fu Bc; split <;> simp_all; split <;> rfl
  rw [er]
  exact Ct (cY, hY, va, .slice none 0 0) Try.isAgg33 Try.sizeOf33
theorem Ee {cv hv fv : Value} {x : Chip} {s : Step} {n nl : Nat} {M : List Int} (hs : St (L) R w) (hcv : sl cv x.cores ∈ R) (hhv : sl hv x.home ∈ R) (hfv : sl fv x.frames ∈ R) (hsn : s.wf) (h : Inv n nl x M) : Calls Try.prog 19 [.agg #[cv, hv, fv], .agg s.cells.toArray].toArray w (Ca (fun v : Value × Value × Value × Value => .tuple #[.agg #[v.1, v.2.1, v.2.2.1], v.2.2.2, vi (Al x s).2.2]) (fun v => L) (fun v => sl v.1 (Al x s).1.cores :: sl v.2.1 (Al x s).1.home :: sl v.2.2.1 (Al x s).1.frames :: sl v.2.2.2 (Al x s).2.1 :: R)) := by
 by_cases h1 : s.kind = 1
 ·exact Aaz hs hcv hhv hfv hsn h h1
 by_cases h2 : s.kind = 2
 ·exact Aay hs hcv hhv hfv hsn h h2
 by_cases h3 : s.kind = 3
 ·exact Aax hs hcv hhv hfv hsn h h3
 by_cases h4 : s.kind = 4
 ·exact Aaw hs hcv hhv hfv hsn h h4
 by_cases h5 : s.kind = 5
 ·exact Aav hs hcv hhv hfv hsn h h5
 by_cases h6 : s.kind = 6
 ·exact Aau hs hcv hhv hfv hsn h h6
 exact Aba hs hcv hhv hfv hsn h (by omega)
theorem P2 {u0 u1 : Value} {a : Core} (hs : St L R w) (h0 : sl u0 a.lines ∈ R) (h1 : sl u1 a.lines ∈ R) : Calls Try.prog 25 [.agg (a.cells u0).toArray, .agg (a.cells u1).toArray].toArray w (Ca (fun _ : Unit => .bool true) (fun _ => L) (fun _ => R)) := by
 have h := Yt hs h0 h1; rw [decide_eq_true rfl] at h; exact h
theorem P1 {v0 v1 : Value} {a : List Entry} (hs : St L R w) (h0 : sl v0 a ∈ R) (h1 : sl v1 a ∈ R) : Calls Try.prog 26 [v0, v1].toArray w (Ca (fun _ : Unit => .bool true) (fun _ => L) (fun _ => R)) := by
 have h := Yr hs h0 h1; rw [decide_eq_true rfl] at h; exact h
theorem R5 {v0 v1 : Value} {a : Frames} (hs : St L R w) (h0 : sl v0 a ∈ R) (h1 : sl v1 a ∈ R) : Calls Try.prog 41 [v0, v1].toArray w (Ca (fun _ : Unit => .bool true) (fun _ => L) (fun _ => R)) := by
 have h := Ug hs h0 h1; rw [decide_eq_true rfl] at h; exact h
theorem V6 {c1 h1 f1 c2 h2 f2 : Value} {a : Chip} (hs : St (L) R w) (ha : sl c1 a.cores ∈ R) (hb : sl h1 a.home ∈ R) (hc : sl f1 a.frames ∈ R) (hd : sl c2 a.cores ∈ R) (he : sl h2 a.home ∈ R) (hf : sl f2 a.frames ∈ R) : Calls Try.prog 17 [.agg #[c1, h1, f1], .agg #[c2, h2, f2]].toArray w (Ca (fun _ : Unit => .bool true) (fun _ => L) (fun _ => R)) := by
 have hla := Bh ha hs
 have honec1 : c1.oneCell' = true := isSlice.one (hs.fact ha)
 have honeh1 : h1.oneCell' = true := isSlice.one (hs.fact hb)
 have honef1 : f1.oneCell' = true := isSlice.one (hs.fact hc)
 have honec2 : c2.oneCell' = true := isSlice.one (hs.fact hd)
 have honeh2 : h2.oneCell' = true := isSlice.one (hs.fact he)
 have honef2 : f2.oneCell' = true := isSlice.one (hs.fact hf)
 refine Aj Try.func17 rfl Try.ntmps17 rfl hs ?_
 clear hs
 refine ZbF ?_;intro b2 b3
 refine Gb1 ?_
 refine rn6 ?_
 refine ob (Ao rfl rfl (Cy (by simp))) ?_
 refine ZN ?_
 refine An Try.call26 rfl (fun w hs => P1 (a := a.home) hs mm mm) ?_; intro _
 refine ZaG ?_
 refine An Try.call41 rfl (fun w hs => R5 (a := a.frames) hs mm mm) ?_; intro _
 refine Gd2 ?_
 refine Ga4 ?_
 refine Bt (γ := Nat) (fun k => k ≤ a.cores.length) (fun _ => blk b2 33 [c1, h1, f1] :: blk b3 33 [c2, h2, f2] :: L) (fun _ => R) (fun k => [(2, bp b2 0), (3, bp b3 0), (31, vi (a.cores.length : Int)), (32, vi (k : Int))]) (fun k => a.cores.length - k) 0 (Nat.zero_le _) alT (fun w hs => Ah hs) ?_
 rintro k hk
 refine ZB ?_
 refine cdy ?_ ?_
 ·intro ht33
  refine Gl ?_
  refine kp [2, 3, 4, 5, 31, 32, 33, 34] ?_
  refine ZP ?_
  refine Kf k (v := c1) mm (by omega) (fun _ ua honeua => ?_)
  refine Kf k (v := c2) mm (by omega) (fun _ ub honeub => ?_)
  refine Cd ?_
  refine Xe ?_
  refine dj ?_
  refine Kn (γ := Unit) (val := fun _ => .bool true) (F := fun _ => []) (C := fun _ => []) Try.call25 (fun _ => rfl) (fun _ _ _ _ => rfl) (fun ρ L R w hd hs => P2 (a := cor a k) hs (hd.base mm) (hd.base mm)) ?_
  exact Zf9
 ·intro ht33
  refine Gl ?_
  refine kp [2, 3, 4, 5, 31, 32, 33, 34, 35, 36, 37, 38, 39, 40, 41, 42, 43, 44, 45, 46, 47] ?_
  refine ZX ?_
  exact Bk ()
theorem Hx {c1 h1 f1 c2 h2 f2 : Value} {a b : Chip} (e : a = b) (hs : St L R w) (ha : sl c1 a.cores ∈ R) (hb : sl h1 a.home ∈ R) (hc : sl f1 a.frames ∈ R) (hd : sl c2 b.cores ∈ R) (he : sl h2 b.home ∈ R) (hf : sl f2 b.frames ∈ R) : Calls Try.prog 17 [.agg #[c1, h1, f1], .agg #[c2, h2, f2]].toArray w (Ca (fun _ : Unit => .bool true) (fun _ => L) (fun _ => R)) := by
 subst e; exact V6 hs ha hb hc hd he hf
theorem It {v0 v1 : Value} {a b : List Done} (e : a = b) (hs : St L R w) (h0 : sl v0 a ∈ R) (h1 : sl v1 b ∈ R) : Calls Try.prog 21 [v0, v1].toArray w (Ca (fun _ : Unit => .bool true) (fun _ => L) (fun _ => R)) := by
 have h := Ys hs h0 h1; rw [decide_eq_true e] at h; exact h
theorem Agr (c : Config) : Dw c = (A8 c).2 := by
 unfold A8
 split
 ·rename_i h; revert h; unfold Dw; split <;> simp
 ·rename_i h; exact Decidable.not_not.1 h
theorem Nx {vl : Value} {c : Config} {l : List Step} {s : Step} (hs : St (L) R w) (hl : sl vl l ∈ R) (hcw : c.wf) (hsw : s.wf) : Calls Try.prog 3 [.agg c.cells.toArray, vl, .agg s.cells.toArray].toArray w (Ca (fun _ : Unit => .bool true) (fun _ => L) (fun _ => R)) := by
 refine Aj Try.func3 rfl Try.ntmps3 rfl hs ?_
 clear hs
 refine Zae ?_;intro b3
 refine bx ?_; intro b5
 refine ZaD ?_
 refine An Try.call14 rfl (fun w hs => Lt (c := c) (l := l) hs mm hcw) ?_; intro v20
 refine J.know (p := v20.1.oneCell' = true ∧ v20.2.1.oneCell' = true ∧ v20.2.2.1.oneCell' = true) (fun w hs => ⟨isSlice.one (hs.fact (.head _)), isSlice.one (hs.fact (.tail _ (.head _))), isSlice.one (hs.fact (.tail _ (.tail _ (.head _))))⟩) (fun h12 => ?_)
 obtain ⟨hone1, hone2, hone3⟩ := h12
 refine rn3 ?_
 refine Zbk ?_;intro b7
 refine s_B (cs := [v20.1, v20.2.1, v20.2.2.1]) Try.sizeOf33 ?_
 refine ZaZ ?_
 refine An Try.call15 rfl (fun w hs => Po (c := c) hs hcw) ?_; intro v25
 refine J.know (p := v25.1.oneCell' = true ∧ v25.2.oneCell' = true) (fun w hs => ⟨isSlice.one (hs.fact (.head _)), isSlice.one (hs.fact (.tail _ (.head _)))⟩) (fun h12 => ?_)
 obtain ⟨honev251, honev252⟩ := h12
 refine rn3 ?_
 refine Zcx ?_;intro b9
 refine s_B (cs := [v25.1, v25.2, .slice none 0 0]) Try.sizeOf33 ?_
 refine ZaZ ?_
 refine An Try.call16 rfl (fun w hs => V9 (c := c) hs hcw) ?_; intro v30
 refine J.know (p := v30.1.oneCell' = true ∧ v30.2.oneCell' = true) (fun w hs => ⟨isSlice.one (hs.fact (.head _)), isSlice.one (hs.fact (.tail _ (.head _)))⟩) (fun h12 => ?_)
 obtain ⟨honev301, honev302⟩ := h12
 refine rn3 ?_
 refine Zds ?_;intro b11
 refine s_B (cs := [v30.1, v30.2, .slice none 0 0]) Try.sizeOf33 ?_
 refine ZaD ?_
 refine ob (Ao rfl rfl (Cy rfl)) ?_
 refine ZM ?_
 refine An Try.call17 rfl (fun w hs => Hx (a := (A8 c).1) rfl hs mm mm mm mm mm mm) ?_; intro _
 refine ZG ?_
 refine An Try.call18 rfl (fun w hs => K3 hs) ?_; intro _
 refine ZaC ?_
 refine ob (Ao rfl rfl (Cy (Agr c))) ?_
 refine Gc1 ?_
 refine kp [5, 6, 7, 10, 12, 48, 49] ?_
 refine ZP ?_
 refine cdy ?_ ?_
 ·intro ht49
  refine ZB ?_
  exact Bk ()
 ·intro ht49
  have hok : (A8 c).2 = 0 := Decidable.not_not.1 ht49
  obtain ⟨n, nl, hcc, M, hI, _⟩ := Qw (l := l) hok
  refine ZL ?_
  refine An Try.call19 rfl (fun w hs => Ee (x := (build c l).1) (s := s) hs mm mm mm hsw hI) ?_; intro v53
  refine Zea ?_;intro h12
  obtain ⟨honev531, honev532, honev533⟩ := h12
  refine rn4 ?_
  refine al_ (cs := [.slice none 0 0, .slice none 0 0, .slice none 0 0]) Try.zeroValue33 ?_; intro b13
  refine s_B (cs := [v53.1, v53.2.1, v53.2.2.1]) Try.sizeOf33 ?_
  refine Gb2 ?_
  refine rn2 ?_
  refine An Try.call20 rfl (fun w hs => Wb (x := (build c l).1) (s := s) hs mm mm mm hI hsw) ?_; intro v60
  refine J.know (p := v60.1.oneCell' = true ∧ v60.2.1.oneCell' = true ∧ v60.2.2.1.oneCell' = true) (fun w hs => ⟨isSlice.one (hs.fact (.head _)), isSlice.one (hs.fact (.tail _ (.head _))), isSlice.one (hs.fact (.tail _ (.tail _ (.head _))))⟩) (fun h12 => ?_)
  obtain ⟨honev601, honev602, honev603⟩ := h12
  refine rn4 ?_
  refine al_ (cs := [.slice none 0 0, .slice none 0 0, .slice none 0 0]) Try.zeroValue33 ?_; intro b15
  refine s_B (cs := [v60.1, v60.2.1, v60.2.2.1]) Try.sizeOf33 ?_
  refine Ga2 ?_
  refine Zaq ?_
  refine djc (fun _ _ => Ao rfl rfl (Bf rfl)) ?_
  refine djm ?_
  refine dn2 ?_
  refine dj (dgy ?_)
  refine Kn (γ := Unit) (val := fun _ => .bool true) (F := fun _ => []) (C := fun _ => []) Try.call17 (fun _ => rfl) (fun _ _ _ _ => rfl) (fun ρ L R w hd hs => Hx (a := (Al (build c l).1 s).1) rfl hs (hd.base mm) (hd.base mm) (hd.base mm) (hd.base mm) (hd.base mm) (hd.base mm)) ?_
  refine Zah ?_
  refine dn2 ?_
  refine dj (dgy ?_)
  refine Kn (γ := Unit) (val := fun _ => .bool true) (F := fun _ => []) (C := fun _ => []) Try.call21 (fun _ => rfl) (fun _ _ _ _ => rfl) (fun ρ L R w hd hs => It (a := (Al (build c l).1 s).2.1) rfl hs (hd.base mm) (hd.base mm)) ?_
  refine Zah ?_
  refine dn1 ?_
  refine dj (dgy ?_)
  refine Kn (γ := Value × Value × Value) (val := fun v => .agg #[v.1, v.2.1, v.2.2]) (F := fun v => [sl v.1 (build c l).1.cores, sl v.2.2 (build c l).1.frames, sl v.2.1 (build c l).1.home]) (C := fun _ => []) Try.call22 (fun _ => rfl) (fun _ _ _ _ => rfl) (fun ρ L R w hd hs => frz (Gy (x := (build c l).1) hs (hd.base mm) (hd.base mm) (hd.base mm) (by have := hI.nc; have := hI.n1; omega))) ?_
  refine dn1 ?_
  refine dj (dgy ?_)
  refine Kn (γ := Unit) (val := fun _ => .bool true) (F := fun _ => []) (C := fun _ => []) Try.call17 (fun _ => rfl) (fun _ _ _ _ => rfl) (fun ρ L R w hd hs => Hx (a := (build c l).1) (b := (build c l).1) rfl hs (hd.dep (it := ⟨15, _, _, _, _⟩) (by repeat (first | exact List.Mem.head _ | refine List.Mem.tail _ ?_)) ⟨9, rfl⟩ (List.Mem.head _)) (hd.dep (it := ⟨15, _, _, _, _⟩) (by repeat (first | exact List.Mem.head _ | refine List.Mem.tail _ ?_)) ⟨9, rfl⟩ (.tail _ (.tail _ (.head _)))) (hd.dep (it := ⟨15, _, _, _, _⟩) (by repeat (first | exact List.Mem.head _ | refine List.Mem.tail _ ?_)) ⟨9, rfl⟩ (.tail _ (.head _))) (hd.base mm) (hd.base mm) (hd.base mm)) ?_
  refine ZQ ?_
  refine ZR ?_;intro ρ
  refine Gl ?_
  exact Bk ()
theorem q_fld {P : Program} {n : Nat} {L : List Chunk} {R : List Fact} {al : List (Nat × Value)} {d : Nat} {x : Operand} {T ty : TypeId} {pos : String} {aft : Array Edge} {fld off : Nat} {cs : List Value} {v : Value} {fs : Array Field} {fl : Field} (ht : P.underlying T = some (.struct fs)) (hf : fs[fld]? = some fl) (ho : fl.offset = off) (hg : ∀ w, (isAgg fl.type).run P w = .ok false w) (hc : cs[off]? = some v) (hx : ev n al x = some (.agg cs.toArray)) : Ba P n al L R ⟨some d, .field T x fld, ty, pos, aft, none⟩ v :=
 ⟨rfl, fun ρ w h _ => by
  have e : (Instr.field T (.agg cs.toArray) fld).run P w = .ok v w := by
   simp [Instr.field, C5 ht, hf, ho, part, hg, hc, asAgg]
  show (Instr.field T (ρ x) fld >>= fun v => Pure.pure (Next.value v)).run P w = _
  rw [h x (by simp [Op.operands]) _ hx, Sem.run_bind, e]; rfl⟩
def hX : Chip := Et 1 1
def hS : Step := ⟨1, 0, 0, 0, ⟨1, 0, 0⟩⟩
def hY : Chip := (Al hX hS).1
theorem h_new : A8 ⟨1, 1⟩ = (hX, 0) := by decide
theorem h_do : Al hX hS = (hY, [], 0) := Prod.ext rfl (Prod.ext (by decide) (by decide))
theorem h_inv : Inv 1 1 hX [0] := Mt (by decide) (by decide)
theorem h_fr : (hY.frames.length : Int) = 1 := by decide
theorem h_co : (hX.cores.length : Int) = 1 := by decide
theorem h_cy : hY.cores.length ≤ 1000 := by decide
theorem h_wr : Dw ⟨0, 0⟩ = 3 := by decide
theorem Nn  (hs : St (L) R w) : Calls Try.prog 23 [].toArray w (Ca (fun _ : Unit => .bool true) (fun _ => L) (fun _ => R)) := by
 refine Aj Try.func23 rfl Try.ntmps23 rfl hs ?_
 clear hs
 refine ZaK ?_
 refine An Try.call15 rfl (fun w hs => by have h := Po (c := ⟨1, 1⟩) hs (by unfold Config.wf Ap; decide); rw [h_new] at h; exact h) ?_; intro v8
 refine J.know (p := v8.1.oneCell' = true ∧ v8.2.oneCell' = true) (fun w hs => ⟨isSlice.one (hs.fact (.head _)), isSlice.one (hs.fact (.tail _ (.head _)))⟩) (fun h12 => ?_)
 obtain ⟨honev81, honev82⟩ := h12
 refine rn3 ?_
 refine al_ (cs := [.slice none 0 0, .slice none 0 0, .slice none 0 0]) Try.zeroValue33 ?_; intro b1
 refine s_B (cs := [v8.1, v8.2, .slice none 0 0]) Try.sizeOf33 ?_
 refine Gb1 ?_
 refine rn3 ?_
 refine An Try.call19 rfl (fun w hs => by have h := Ee (x := hX) (s := hS) hs mm mm mm (by unfold Step.wf Ap; decide) h_inv; rw [h_do] at h; exact h) ?_; intro v15
 refine J.know (p := v15.1.oneCell' = true ∧ v15.2.1.oneCell' = true ∧ v15.2.2.1.oneCell' = true) (fun w hs => ⟨isSlice.one (hs.fact (.head _)), isSlice.one (hs.fact (.tail _ (.head _))), isSlice.one (hs.fact (.tail _ (.tail _ (.head _))))⟩) (fun h12 => ?_)
 obtain ⟨honev151, honev152, honev153⟩ := h12
 refine rn4 ?_
 refine al_ (cs := [.slice none 0 0, .slice none 0 0, .slice none 0 0]) Try.zeroValue33 ?_; intro b3
 refine s_B (cs := [v15.1, v15.2.1, v15.2.2.1]) Try.sizeOf33 ?_
 refine Gb2 ?_
 refine rn1 ?_
 refine Ck ?_
 refine Zap ?_
 refine Za4 ?_
 refine ZG ?_
 refine Za4 ?_
 refine ZN ?_
 refine ob (Ao rfl rfl (Bf h_fr)) ?_
 refine ZN ?_
 refine ob (Ao rfl rfl (Bf h_co)) ?_
 refine ZM ?_
 refine An Try.call22 rfl (fun w hs => frz (Gy (x := hY) hs mm mm mm h_cy)) ?_; intro v44
 refine gy ?_
 refine ob (q_fld (fs := _) (fl := _) (cs := [v44.1, v44.2.1, v44.2.2]) (off := 2) Try.underlying33 rfl rfl Try.isAgg31 rfl rfl) ?_
 refine ZaC ?_
 refine ob (Ao rfl rfl (Bf h_fr)) ?_
 refine Zap ?_
 refine ob (Eh (cs := zConfig.cells) st_23) ?_
 refine gy ?_
 refine An Try.call18 rfl (fun w hs => by have h := K3 (c := ⟨0, 0⟩) hs; rw [h_wr] at h; exact h) ?_; intro _u
 refine gy ?_
 refine Ck ?_
 refine Ga2 ?_
 exact Bk ()
theorem Jb (c : Config) (l : List Step) : (build c l).1.cores = [] ∨ ∃ n nl : Nat, c = Hu n nl ∧ ∃ M, Inv n nl (build c l).1 M := by
 by_cases h : (A8 c).2 = 0
 ·obtain ⟨n, nl, h1, M, h2, _⟩ := Qw (l := l) h
  exact .inr ⟨n, nl, h1, M, h2⟩
 ·left; rw [T3 h, Li h]; rfl
theorem Lo {vl : Value} {c : Config} {l : List Step} {s : Step} (hs : St (L) R w) (hl : sl vl l ∈ R) (hcw : c.wf) (hsw : s.wf) : Calls Try.prog 6 [.agg c.cells.toArray, vl, .agg s.cells.toArray].toArray w (Ca (fun _ : Unit => .bool true) (fun _ => L) (fun _ => R)) := by
 refine Aj Try.func6 rfl Try.ntmps6 rfl hs ?_
 clear hs
 refine Zae ?_;intro b3
 refine bx ?_; intro b5
 refine Gb1 ?_
 refine An Try.call23 rfl (fun w hs => Nn hs) ?_; intro _
 refine Gd1 ?_
 refine rn2 ?_
 refine An Try.call14 rfl (fun w hs => Lt (c := c) (l := l) hs mm hcw) ?_; intro v17
 refine J.know (p := v17.1.oneCell' = true ∧ v17.2.1.oneCell' = true ∧ v17.2.2.1.oneCell' = true) (fun w hs => ⟨isSlice.one (hs.fact (.head _)), isSlice.one (hs.fact (.tail _ (.head _))), isSlice.one (hs.fact (.tail _ (.tail _ (.head _))))⟩) (fun h12 => ?_)
 obtain ⟨hone1, hone2, hone3⟩ := h12
 refine rn3 ?_
 refine Zbk ?_;intro b7
 refine s_B (cs := [v17.1, v17.2.1, v17.2.2.1]) Try.sizeOf33 ?_
 refine Ga1 ?_
 rcases (show ((build c l).1.cores = []) ∨ (¬ (build c l).1.cores = []) from by exact Classical.em _) with hc | hc
 ·refine ZJ ?_
  refine ob (Ao rfl rfl (Bf (by rw [hc]; rfl))) ?_
  refine Gmc ?_
  exact Zf8
 ·obtain ⟨n_, nl, hcc, M, hI⟩ := (Jb c l).resolve_left hc
  refine ZJ ?_
  refine ob (Ao rfl rfl (Cb (fun h => hc (List.length_eq_zero_iff.1 (by omega))))) ?_
  refine Gmc ?_
  refine rn2 ?_
  refine An Try.call19 rfl (fun w hs => Ee (x := (build c l).1) (s := s) hs mm mm mm hsw hI) ?_; intro v27
  refine J.know (p := v27.1.oneCell' = true ∧ v27.2.1.oneCell' = true ∧ v27.2.2.1.oneCell' = true) (fun w hs => ⟨isSlice.one (hs.fact (.head _)), isSlice.one (hs.fact (.tail _ (.head _))), isSlice.one (hs.fact (.tail _ (.tail _ (.head _))))⟩) (fun h12 => ?_)
  obtain ⟨honev271, honev272, honev273⟩ := h12
  refine rn4 ?_
  refine Zcx ?_;intro b9
  refine s_B (cs := [v27.1, v27.2.1, v27.2.2.1]) Try.sizeOf33 ?_
  refine Gb2 ?_
  refine Ga2 ?_
  refine cdy ?_ ?_
  ·intro ht32
   have hd0 := do_err ht32
   refine Gl ?_
   refine Zcb ?_
   refine kp [6, 7, 9, 10, 33, 34, 35, 36, 37, 38, 39, 40] ?_
   refine ZC ?_
   refine Za9 ?_
   refine An Try.call17 rfl (fun w hs => Hx (a := (Al (build c l).1 s).1) (b := Dk) hd0.1 hs mm mm mm mm mm mm) ?_; intro _u
   refine ZM ?_
   refine ob (Ao rfl rfl (Bf (by rw [hd0.2]; rfl))) ?_
   refine Ga2 ?_
   exact Bk ()
  ·intro ht32
   have hd1 := Agg hI (Decidable.not_not.1 ht32)
   refine Gl ?_
   refine kp [6, 7, 9, 10, 41, 42, 43, 44, 45, 46, 47, 48, 49, 50, 51, 52, 53, 54, 55, 56, 57, 58, 59, 60, 61, 62, 63, 64, 65, 66, 67] ?_
   refine Zat ?_
   refine ob (Ao rfl rfl (Bf (by rw [hd1.1]))) ?_
   refine ZaG ?_
   refine ob (Ao rfl rfl (Bf (by rw [hd1.2.1]))) ?_
   refine ZN ?_
   refine ob (Ao rfl rfl (K6 (by have := hd1.2.2.1; omega))) ?_
   refine ZG ?_
   refine ob (Ao rfl rfl (K6 (by have := hd1.2.2.2; omega))) ?_
   refine Ga2 ?_
   exact Bk ()
theorem Nc {vl : Value} {c : Config} {l : List Step} {n bit : Int} (hs : St (L) R w) (hl : sl vl l ∈ R) (hcw : c.wf) (hn : Ap n) (hb : Ap bit) : Calls Try.prog 4 [.agg c.cells.toArray, vl, vi n, vi bit].toArray w (Ca (fun _ : Unit => .bool true) (fun _ => L) (fun _ => R)) := by
 refine Aj Try.func4 rfl Try.ntmps4 rfl hs ?_
 clear hs
 refine Gm ?_
 refine bx ?_; intro b4
 refine Gb1 ?_
 refine An Try.call23 rfl (fun w hs => Nn hs) ?_; intro _
 refine Gd1 ?_
 refine rn2 ?_
 refine An Try.call14 rfl (fun w hs => Lt (c := c) (l := l) hs mm hcw) ?_; intro v26
 refine J.know (p := v26.1.oneCell' = true ∧ v26.2.1.oneCell' = true ∧ v26.2.2.1.oneCell' = true) (fun w hs => ⟨isSlice.one (hs.fact (.head _)), isSlice.one (hs.fact (.tail _ (.head _))), isSlice.one (hs.fact (.tail _ (.tail _ (.head _))))⟩) (fun h12 => ?_)
 obtain ⟨hone1, hone2, hone3⟩ := h12
 refine rn3 ?_
 refine Zcx ?_;intro b9
 refine s_B (cs := [v26.1, v26.2.1, v26.2.2.1]) Try.sizeOf33 ?_
 refine Ga1 ?_
 rcases (show (((build c l).1.cores.length : Int) = 0) ∨ (((build c l).1.cores.length : Int) ≠ 0 ∧ n < 0) ∨ (((build c l).1.cores.length : Int) ≠ 0 ∧ 0 ≤ n ∧ ((build c l).1.frames.length : Int) ≤ n) ∨ (((build c l).1.cores.length : Int) ≠ 0 ∧ 0 ≤ n ∧ n < ((build c l).1.frames.length : Int)) from by omega) with hc | hc | hc | hc
 ·refine ZJ ?_
  refine Ck ?_
  refine Gd11 ?_
  exact Zf8
 ·refine Zbt ?_
  refine Ea ?_
  refine Gd8 ?_
  exact Zf8
 ·refine Zbt ?_
  refine Bi ?_
  refine ZaF ?_
  refine Gd1 ?_
  exact Zf8
 ·obtain ⟨n_, nl, hcc, M, hI⟩ := (Jb c l).resolve_left (fun h => by rw [h, List.length_nil] at hc; omega)
  refine Zbt ?_
  refine ZaN ?_
  refine Gc1 ?_
  generalize (build c l).1 = X at hI hc ⊢
  have hr : ¬ Bx X n := by unfold Bx; omega
  have hcx : Aq X = c := by
   show (⟨((X.cores.length : Nat) : Int), ((X.home.length : Nat) : Int)⟩ : Config) = c
   rw [hI.nc, hI.nh]; exact hcc.symm
  refine JC.open1 (xs := X.frames) (v := v26.2.2.1) n.toNat mm (by omega) (fun _ fu => ?_)
  refine cq_ (blk b9 33 [v26.1, v26.2.1, v26.2.2.1] :: blk b4 23 c.cells :: L) ?_
  refine jd_ (fun ρ S => blk b9 33 [v26.1, v26.2.1, v26.2.2.1] :: blk b4 23 c.cells :: ((bif S 10 then [blk (Gh.dec (γ := Nat) (ρ 10)) 49 (bif S 11 then (Af c (X.frames.getD n.toNat [])).1.cells else zMsg.cells)] else []) ++ (L))) ?_
  refine dn6 ?_
  refine Cc (γ := Unit) (val := fun _ => .tuple #[.agg (Af c (X.frames.getD n.toNat [])).1.cells.toArray, vi (Af c (X.frames.getD n.toNat [])).2]) (F := fun _ => []) Try.call24 (fun _ => rfl) (fun ρ L R w hd hs => Ow (c := c) hs (hd.base mm) hcw) (fun _ _ _ _ _ => rfl) ?_
  first | refine epc (fun _ _ => Pw) ?_ | refine epp (fun _ _ => Pw) ?_
  first | refine epc (fun _ _ => q_x) ?_ | refine epp (fun _ _ => q_x) ?_
  first | refine epc (fun _ _ => q_x) ?_ | refine epp (fun _ _ => q_x) ?_
  refine Ha (cs := zMsg.cells) Try.zeroValue49 rfl (fun ρ b S hS hA => ?_) ?_
  ·have ui : upS S 10 10 = true := rfl; have u11 : upS S 10 11 = S 11 := rfl; have h11 : S 11 = false := hA 11 ⟨0, rfl⟩; have rs : (Gh.dec (γ := Nat) (Rho.set ρ 10 (Gh.enc b) 10)) = b := rfl
   simp only [ui, hS, u11, h11, rs, cond_true, cond_false, List.nil_append]
   exact ZeL
  refine es_ 49 0 [10] [] (fun ρ => (Gh.dec (γ := Nat) (ρ 10))) (fun ρ => zMsg.cells) (fun ρ => (Af c (X.frames.getD n.toNat [])).1.cells) Try.sizeOf49 ?_
  first | refine epc (fun _ _ => Dx) ?_ | refine epp (fun _ _ => Dx) ?_
  refine dnl ?_; intro ρ
  refine xq_ (blk b9 33 [v26.1, v26.2.1, v26.2.2.1] :: blk b4 23 c.cells :: (blk (Gh.dec (γ := Nat) (ρ 10)) 49 (Af c (X.frames.getD n.toNat [])).1.cells :: L)) ?_
  generalize (Gh.dec (γ := Nat) (ρ 10)) = b11
  refine Gl ?_
  refine kp [2, 3, 8, 9, 12, 54, 55] ?_
  refine ZP ?_
  refine cdy ?_ ?_
  ·intro ht55
   refine ZB ?_
   exact Bk ()
  ·intro ht55
   have hp : (Af (Aq X) (Aw X.frames n)).2 = 0 := by rw [hcx]; exact Decidable.not_not.1 ht55
   obtain ⟨A5, e5⟩ : ∃ a, Al X ⟨5, 0, n, bit, zOp⟩ = a := ⟨_, rfl⟩
   refine Zai ?_
   refine An Try.call19 rfl (fun w hs => by have h := Ee (x := X) (s := ⟨5, 0, n, bit, zOp⟩) hs mm mm mm (by have := hn; have := hb; unfold Step.wf Ap zOp at *; simp only; omega) hI; rw [e5] at h; exact h) ?_; intro v61
   refine Zeb ?_;intro h12
   obtain ⟨honev611, honev612, honev613⟩ := h12
   refine rn4 ?_
   refine al_ (cs := [.slice none 0 0, .slice none 0 0, .slice none 0 0]) Try.zeroValue33 ?_; intro b13
   refine s_B (cs := [v61.1, v61.2.1, v61.2.2.1]) Try.sizeOf33 ?_
   refine Gb2 ?_
   refine Ga2 ?_
   refine cdy ?_ ?_
   ·intro ht66
    refine ZB ?_
    exact Bk ()
   ·intro ht66
    have hok : (Al X ⟨5, 0, n, bit, zOp⟩).2.2 = 0 := by rw [e5]; exact Decidable.not_not.1 ht66
    have hsl := Ry hr hp hok
    obtain ⟨M5, hI5, _⟩ := Mu hI hok
    rw [e5] at hsl hI5
    refine Zaj ?_
    refine An Try.call19 rfl (fun w hs => by have h := Ee (x := A5.1) (s := ⟨2, 0, n, 0, zOp⟩) hs mm mm mm (by have := hn; unfold Step.wf Ap zOp at *; simp only; omega) hI5; rw [hsl.1] at h; exact h) ?_; intro v71
    refine J.know (p := v71.1.oneCell' = true ∧ v71.2.1.oneCell' = true ∧ v71.2.2.1.oneCell' = true) (fun w hs => ⟨isSlice.one (hs.fact (.head _)), isSlice.one (hs.fact (.tail _ (.head _))), isSlice.one (hs.fact (.tail _ (.tail _ (.head _))))⟩) (fun h12 => ?_)
    obtain ⟨honev711, honev712, honev713⟩ := h12
    refine rn4 ?_
    refine al_ (cs := [.slice none 0 0, .slice none 0 0, .slice none 0 0]) Try.zeroValue33 ?_; intro b16
    refine s_B (cs := [v71.1, v71.2.1, v71.2.2.1]) Try.sizeOf33 ?_
    refine Gb2 ?_
    refine rn3 ?_
    refine An Try.call19 rfl (fun w hs => by have h := Ee (x := X) (cv := v26.1) (hv := v26.2.1) (fv := v26.2.2.1) (s := ⟨3, 0, n, 0, zOp⟩) hs mm mm mm (by have := hn; unfold Step.wf Ap zOp at *; simp only; omega) hI; rw [hsl.2] at h; exact h) ?_; intro v79
    refine J.know (p := v79.1.oneCell' = true ∧ v79.2.1.oneCell' = true ∧ v79.2.2.1.oneCell' = true) (fun w hs => ⟨isSlice.one (hs.fact (.head _)), isSlice.one (hs.fact (.tail _ (.head _))), isSlice.one (hs.fact (.tail _ (.tail _ (.head _))))⟩) (fun h12 => ?_)
    obtain ⟨honev791, honev792, honev793⟩ := h12
    refine rn4 ?_
    refine al_ (cs := [.slice none 0 0, .slice none 0 0, .slice none 0 0]) Try.zeroValue33 ?_; intro b18
    refine s_B (cs := [v79.1, v79.2.1, v79.2.2.1]) Try.sizeOf33 ?_
    refine Ga2 ?_
    refine kp [8, 15, 16, 17, 18, 20, 83, 84, 85, 86, 87, 88, 89, 90, 91, 92, 93, 94, 95, 96, 97, 98] ?_
    refine ZC ?_
    refine Za4 ?_
    refine Zap ?_
    refine Za4 ?_
    refine ZG ?_
    refine Za4 ?_
    refine ZG ?_
    refine An Try.call17 rfl (fun w hs => Hx (a := ⟨X.cores, X.home, X.frames.eraseIdx n.toNat⟩) rfl hs mm mm mm mm mm mm) ?_; intro _u
    refine Ga2 ?_
    exact Bk ()
theorem Uh {u0 u1 : Value} {a b : Core} (e : a = b) (hs : St L R w) (h0 : sl u0 a.lines ∈ R) (h1 : sl u1 b.lines ∈ R) : Calls Try.prog 25 [.agg (a.cells u0).toArray, .agg (b.cells u1).toArray].toArray w (Ca (fun _ : Unit => .bool true) (fun _ => L) (fun _ => R)) := by
 subst e; exact P2 hs h0 h1
theorem Uf {v0 v1 : Value} {a b : List Entry} (e : a = b) (hs : St L R w) (h0 : sl v0 a ∈ R) (h1 : sl v1 b ∈ R) : Calls Try.prog 26 [v0, v1].toArray w (Ca (fun _ : Unit => .bool true) (fun _ => L) (fun _ => R)) := by
 subst e; exact P1 hs h0 h1
theorem Nw {vl : Value} {c : Config} {l : List Step} {n : Int} (hs : St (L) R w) (hl : sl vl l ∈ R) (hcw : c.wf) (hn : Ap n) : Calls Try.prog 5 [.agg c.cells.toArray, vl, vi n].toArray w (Ca (fun _ : Unit => .bool true) (fun _ => L) (fun _ => R)) := by
 refine Aj Try.func5 rfl Try.ntmps5 rfl hs ?_
 clear hs
 refine Zae ?_;intro b3
 refine Gb1 ?_
 refine An Try.call23 rfl (fun w hs => Nn hs) ?_; intro _
 refine Gd1 ?_
 refine rn2 ?_
 refine An Try.call14 rfl (fun w hs => Lt (c := c) (l := l) hs mm hcw) ?_; intro v25
 refine Zec ?_;intro h12
 obtain ⟨hone1, hone2, hone3⟩ := h12
 refine rn3 ?_
 refine Zbk ?_;intro b7
 refine s_B (cs := [v25.1, v25.2.1, v25.2.2.1]) Try.sizeOf33 ?_
 refine Ga1 ?_
 rcases (show (((build c l).1.cores.length : Int) = 0) ∨ (((build c l).1.cores.length : Int) ≠ 0 ∧ n < 0) ∨ (((build c l).1.cores.length : Int) ≠ 0 ∧ 0 ≤ n ∧ ((build c l).1.frames.length : Int) ≤ n) ∨ (((build c l).1.cores.length : Int) ≠ 0 ∧ 0 ≤ n ∧ n < ((build c l).1.frames.length : Int) ∧ 40 ≤ ((build c l).1.frames.length : Int)) ∨ (((build c l).1.cores.length : Int) ≠ 0 ∧ 0 ≤ n ∧ n < ((build c l).1.frames.length : Int) ∧ ((build c l).1.frames.length : Int) < 40) from by omega) with hc | hc | hc | hc | hc
 ·refine ZJ ?_
  refine Ck ?_
  refine Gc17 ?_
  exact ZfS
 ·refine Zbt ?_
  refine Ea ?_
  refine Gc14 ?_
  exact ZfS
 ·refine Zbt ?_
  refine Bi ?_
  refine ZaF ?_
  refine Gc7 ?_
  exact ZfS
 ·refine Zbt ?_
  refine ZaN ?_
  refine ZN ?_
  refine G6 ?_
  refine Gc1 ?_
  exact ZfS
 ·obtain ⟨n_, nl, hcc, M, hI⟩ := (Jb c l).resolve_left (fun h => by rw [h, List.length_nil] at hc; omega)
  refine Zbt ?_
  refine ZaN ?_
  refine ZN ?_
  refine Dl ?_
  refine Gc1 ?_
  generalize (build c l).1 = X at hI hc ⊢
  have hr : ¬ Bx X n := by unfold Bx; omega
  have hto := Uc hI hr (by omega)
  unfold Qm Yb at hto
  obtain ⟨A1, eA1⟩ : ∃ a, Al X ⟨2, 0, n, 0, zOp⟩ = a := ⟨_, rfl⟩
  obtain ⟨A2, eA2⟩ : ∃ a, Al X ⟨4, 0, n, 0, zOp⟩ = a := ⟨_, rfl⟩
  rw [eA1, eA2] at hto
  obtain ⟨A3, eA3⟩ : ∃ a, Al A2.1 ⟨2, 0, n, 0, zOp⟩ = a := ⟨_, rfl⟩
  rw [eA3] at hto
  obtain ⟨A4, eA4⟩ : ∃ a, Al A3.1 ⟨2, 0, ((X.frames.length : Int) - 1), 0, zOp⟩ = a := ⟨_, rfl⟩
  rw [eA4] at hto
  obtain ⟨h1_, h2_, h3_, h4_, h5_, h6_, h7_, h8_⟩ := hto
  obtain ⟨M2, hI2, _⟩ := Mu hI (s := ⟨4, 0, n, 0, zOp⟩) (by rw [eA2]; exact h2_)
  rw [eA2] at hI2
  obtain ⟨M3, hI3, _⟩ := Mu hI2 (s := ⟨2, 0, n, 0, zOp⟩) (by rw [eA3]; exact h3_)
  rw [eA3] at hI3
  obtain ⟨M4, hI4, _⟩ := Mu hI3 (s := ⟨2, 0, ((X.frames.length : Int) - 1), 0, zOp⟩) (by rw [eA4]; exact h4_)
  rw [eA4] at hI4
  have hn4 : A4.1.cores.length ≤ 4 := by rw [hI4.nc]; exact hI4.n1.2
  have hl4 : A4.2.1.length = 0 := by rw [h6_]; rfl
  have hlc : A4.1.cores.length = A1.1.cores.length := by rw [h7_]
  refine kp [2, 6, 7, 9, 10, 11, 49, 50, 51, 52, 53, 54, 55, 56] ?_
  refine ZJ ?_
  refine An Try.call19 rfl (fun w hs => by have h := Ee (x := X) (s := ⟨2, 0, n, 0, zOp⟩) hs mm mm mm (by have := hn; unfold Step.wf Ap zOp at *; simp only; omega) hI; rw [eA1] at h; exact h) ?_; intro v53
  refine Zea ?_;intro h12
  obtain ⟨honev531, honev532, honev533⟩ := h12
  refine rn4 ?_
  refine Zcx ?_;intro b9
  refine s_B (cs := [v53.1, v53.2.1, v53.2.2.1]) Try.sizeOf33 ?_
  refine Gb2 ?_
  refine rn3 ?_
  refine An Try.call19 rfl (fun w hs => by have h := Ee (x := X) (s := ⟨4, 0, n, 0, zOp⟩) hs mm mm mm (by have := hn; unfold Step.wf Ap zOp at *; simp only; omega) hI; rw [eA2] at h; exact h) ?_; intro v61
  refine Zeb ?_;intro h12
  obtain ⟨honev611, honev612, honev613⟩ := h12
  refine rn4 ?_
  refine al_ (cs := [.slice none 0 0, .slice none 0 0, .slice none 0 0]) Try.zeroValue33 ?_; intro b12
  refine s_B (cs := [v61.1, v61.2.1, v61.2.2.1]) Try.sizeOf33 ?_
  refine Gb2 ?_
  refine rn1 ?_
  refine ob (Ao rfl rfl (Cy h1_)) ?_
  refine Zap ?_
  refine ob (Ao rfl rfl (Cy h2_)) ?_
  refine Gd1 ?_
  refine rn3 ?_
  refine An Try.call19 rfl (fun w hs => by have h := Ee (x := A2.1) (s := ⟨2, 0, n, 0, zOp⟩) hs mm mm mm (by have := hn; unfold Step.wf Ap zOp at *; simp only; omega) hI2; rw [eA3] at h; exact h) ?_; intro v75
  refine J.know (p := v75.1.oneCell' = true ∧ v75.2.1.oneCell' = true ∧ v75.2.2.1.oneCell' = true) (fun w hs => ⟨isSlice.one (hs.fact (.head _)), isSlice.one (hs.fact (.tail _ (.head _))), isSlice.one (hs.fact (.tail _ (.tail _ (.head _))))⟩) (fun h12 => ?_)
  obtain ⟨honev751, honev752, honev753⟩ := h12
  refine rn4 ?_
  refine s_B (cs := [v75.1, v75.2.1, v75.2.2.1]) Try.sizeOf33 ?_
  refine Ga2 ?_
  refine kp [6, 7, 9, 10, 12, 14, 15, 16, 17, 18, 79, 80, 81, 82, 83, 84, 85, 86, 87, 88, 89] ?_
  refine Zat ?_
  refine An Try.call19 rfl (fun w hs => by have h := Ee (x := A3.1) (s := ⟨2, 0, ((X.frames.length : Int) - 1), 0, zOp⟩) hs mm mm mm (by unfold Step.wf Ap zOp; simp only; omega) hI3; rw [eA4] at h; exact h) ?_; intro v86
  refine J.know (p := v86.1.oneCell' = true ∧ v86.2.1.oneCell' = true ∧ v86.2.2.1.oneCell' = true) (fun w hs => ⟨isSlice.one (hs.fact (.head _)), isSlice.one (hs.fact (.tail _ (.head _))), isSlice.one (hs.fact (.tail _ (.tail _ (.head _))))⟩) (fun h12 => ?_)
  obtain ⟨honev861, honev862, honev863⟩ := h12
  refine rn4 ?_
  refine al_ (cs := [.slice none 0 0, .slice none 0 0, .slice none 0 0]) Try.zeroValue33 ?_; intro b16
  refine s_B (cs := [v86.1, v86.2.1, v86.2.2.1]) Try.sizeOf33 ?_
  refine Gb2 ?_
  refine rn1 ?_
  refine ob (Ao rfl rfl (Cy h3_)) ?_
  refine Zap ?_
  refine ob (Ao rfl rfl (Cy h4_)) ?_
  refine ZG ?_
  refine An Try.call21 rfl (fun w hs => It h5_.symm hs mm mm) ?_; intro _u
  refine ZN ?_
  refine Eg ?_
  refine rn8 ?_
  refine gy ?_
  refine H1 ?_
  refine Gc1 ?_
  refine kp [6, 9, 16, 116, 117, 118, 119] ?_
  refine Aa ?_
  refine Ga4 ?_
  refine Bt (γ := Nat) (fun k => k ≤ A4.1.cores.length) (fun _ => blk b16 33 [v86.1, v86.2.1, v86.2.2.1] :: blk b9 33 [v53.1, v53.2.1, v53.2.2.1] :: L) (fun _ => sl v86.1 A4.1.cores :: sl v86.2.1 A4.1.home :: sl v53.1 A1.1.cores :: sl v53.2.1 A1.1.home :: R) (fun k => [(9, bp b9 0), (16, bp b16 0), (118, vi (A4.1.cores.length : Int)), (119, vi (k : Int))]) (fun k => A4.1.cores.length - k) 0 (Nat.zero_le _) alT (fun w hs => Ah hs) ?_
  rintro k hk
  refine ZB ?_
  refine cdy ?_ ?_
  ·intro ht120
   refine ZD ?_
   refine Kf k (x := A4.1) (v := v86.1) mm (by omega) (fun _ ua honeua => ?_)
   refine Kf k (x := A1.1) (v := v53.1) mm (by omega) (fun _ ub honeub => ?_)
   have hck : cor A4.1 k = cor A1.1 k := by unfold cor; rw [h7_]
   refine Cd ?_
   refine Xe ?_
   refine dj ?_
   refine Kn (γ := Unit) (val := fun _ => .bool true) (F := fun _ => []) (C := fun _ => []) Try.call25 (fun _ => rfl) (fun _ _ _ _ => rfl) (fun ρ L R w hd hs => Uh hck hs (hd.base mm) (hd.base mm)) ?_
   exact Zf9
  ·intro ht120
   refine Zai ?_
   refine An Try.call26 rfl (fun w hs => Uf h8_ hs mm mm) ?_; intro _u
   refine Ga1 ?_
   exact Bk ()
instance instGhV5 : Gh (Value × Value × Value × Value × Value) := ⟨fun g => (g.a, g.b, g.c, match g.d with | .tuple x => (x.getD 0 undef, x.getD 1 undef) | _ => (undef, undef)), fun v => ⟨v.1, v.2.1, v.2.2.1, .tuple #[v.2.2.2.1, v.2.2.2.2], 0⟩, fun _ => rfl⟩
theorem rdAns {R : List Fact} {e : Answer} (hw : e.wf) : ∀ j, (∀ q ∈ R, q.p j) → RdV [e] [.agg e.cells.toArray] j := fun j _ => ⟨⟨_, rfl, rfl, hw⟩, trivial⟩
def F4 : Chip → List Step → List Answer
 | _, [] => []
 | x, s :: r => ⟨(Al x s).2.2, ((Al x s).2.1.length : Int)⟩ :: F4 (if (Al x s).2.2 = 0 then (Al x s).1 else x) r
def Pu (x : Chip) (s : Step) : Answer := ⟨(Al x s).2.2, ((Al x s).2.1.length : Int)⟩
theorem J6 (s : Step) : ∀ (l : List Step) (x : Chip), F4 x (l ++ [s]) = F4 x l ++ [Pu (C9 x l).1 s]
 | [], x => rfl
 | a :: l, x => by
  rw [List.cons_append]; unfold F4
  rw [List.cons_append]; congr 1
  by_cases h : (Al x a).2.2 = 0
  ·rw [if_pos h, F1 h]; exact J6 s l _
  ·rw [if_neg h, F2 h]; exact J6 s l _
theorem Jq : ∀ (l : List Step) (x : Chip), (F4 x l).length = l.length
 | [], _ => rfl
 | a :: l, x => by unfold F4; rw [List.length_cons, Jq l, List.length_cons]
def aAt (c : Config) (l : List Step) (k : Nat) : List Answer := F4 (A8 c).1 (l.take k)
theorem Ua {c : Config} {l : List Step} {k : Nat} (h : k < l.length) : aAt c l (k + 1) = aAt c l k ++ [Pu (bAt c l k).1 (l.getD k zStep)] := by
 unfold aAt bAt; rw [Fa zStep h]; exact J6 ..
theorem Ahj {c : Config} {l : List Step} {k : Nat} (h : k ≤ l.length) : (aAt c l k).length = k := by
 unfold aAt; rw [Jq, List.length_take]; omega
def Am (c : Config) (l : List Step) : Chip × List Answer × List Done × Int :=
 if (A8 c).2 ≠ 0 then (Dk, [], [], (A8 c).2)
 else if 300 < l.length then (Dk, [], [], 4)
 else ((C9 (A8 c).1 l).1, F4 (A8 c).1 l, (C9 (A8 c).1 l).2, 0)
theorem Aci {c : Config} {l : List Step} (h : (A8 c).2 ≠ 0) : Am c l = (Dk, [], [], (A8 c).2) := if_pos h
theorem pS_2 {c : Config} {l : List Step} (h : (A8 c).2 = 0) (h2 : 300 < l.length) : Am c l = (Dk, [], [], 4) := by unfold Am; rw [if_neg (by rw [h]; decide), if_pos h2]
theorem pS_3 {c : Config} {l : List Step} (h : (A8 c).2 = 0) (h2 : l.length ≤ 300) : Am c l = ((bAt c l l.length).1, aAt c l l.length, (bAt c l l.length).2, 0) := by
 unfold Am bAt aAt; rw [if_neg (by rw [h]; decide), if_neg (by omega), List.take_length]
theorem X1 (c : Core) (id home : Int) (o : Op) : 0 ≤ (Ai c id home o).2.2.2 ∧ (Ai c id home o).2.2.2 ≤ 8 := by
 unfold Ai
 repeat' split
 all_goals exact ⟨by simp, by simp⟩
theorem V0 (l : Frames) (k b : Int) : 0 ≤ (Bp l k b).2 ∧ (Bp l k b).2 ≤ 8 := by
 unfold Bp
 repeat' split
 all_goals exact ⟨by simp, by simp⟩
theorem Agh (x : Chip) (s : Step) : 0 ≤ (Al x s).2.2 ∧ (Al x s).2.2 ≤ 8 := by
 have h1 := V0 x.frames s.n s.bit
 have h2 := X1 (Ar x s.node) s.node (Bc x) s.op
 unfold Al
 generalize Bp x.frames s.n s.bit = z at *
 generalize Ai (Ar x s.node) s.node (Bc x) s.op = y at *
 repeat' split
 all_goals first | exact h1 | exact h2 | exact ⟨by simp, by simp⟩
theorem Abv (x : Chip) (s : Step) : (Pu x s).wf := by
 have h1 := Agh x s; have h2 := Ra x s
 unfold Answer.wf Pu Ap; simp only; omega
def Da (l : List Done) (p : Int) : List Done := l.filter (fun d => d.core == p)
theorem Ty {l : List Done} {p : Int} {k : Nat} (h : k < l.length) (hd : (l.getD k zDone).core = p) : Da (l.take (k + 1)) p = Da (l.take k) p ++ [l.getD k zDone] := by
 unfold Da; rw [Fa zDone h, List.filter_append]; congr 1; generalize l.getD k zDone = d at hd ⊢; simp [hd]
theorem Tz {l : List Done} {p : Int} {k : Nat} (h : k < l.length) (hd : ¬ (l.getD k zDone).core = p) : Da (l.take (k + 1)) p = Da (l.take k) p := by
 unfold Da; rw [Fa zDone h, List.filter_append]; generalize l.getD k zDone = d at hd ⊢; simp [hd]
theorem Og (l : List Done) (p : Int) (k : Nat) : (Da (l.take k) p).length ≤ l.length := by
 unfold Da
 exact Nat.le_trans (List.length_filter_le _ _) (by rw [List.length_take]; omega)
theorem Gz {vl : Value} {c : Config} {l : List Step} (hs : St (L) R w) (hl : sl vl l ∈ R) (hcw : c.wf) : Calls Try.prog 27 [.agg c.cells.toArray, vl].toArray w (Ca (fun v : Value × Value × Value × Value × Value => .tuple #[.agg #[v.1, v.2.1, v.2.2.1], v.2.2.2.1, v.2.2.2.2, vi (Am c l).2.2.2]) (fun v => L) (fun v => sl v.1 (Am c l).1.cores :: sl v.2.1 (Am c l).1.home :: sl v.2.2.1 (Am c l).1.frames :: sl v.2.2.2.1 (Am c l).2.1 :: sl v.2.2.2.2 (Am c l).2.2.1 :: R)) := by
 have hlen := Bh hl hs
 refine Aj Try.func27 rfl Try.ntmps27 rfl hs ?_
 clear hs
 refine Gm ?_
 refine bx ?_; intro b2
 refine Zcc ?_;intro b4
 refine Gb3 ?_
 refine rn1 ?_
 refine An Try.call15 rfl (fun w hs => Po (c := c) hs hcw) ?_; intro v19
 refine J.know (p := v19.1.oneCell' = true ∧ v19.2.oneCell' = true) (fun w hs => ⟨isSlice.one (hs.fact (.head _)), isSlice.one (hs.fact (.tail _ (.head _)))⟩) (fun h12 => ?_)
 obtain ⟨honev191, honev192⟩ := h12
 refine rn3 ?_
 refine al_ (cs := [.slice none 0 0, .slice none 0 0, .slice none 0 0]) Try.zeroValue33 ?_; intro b8
 refine s_B (cs := [v19.1, v19.2, .slice none 0 0]) Try.sizeOf33 ?_
 refine ZE ?_
 refine cdy ?_ ?_
 ·intro ht23
  refine Gl ?_
  refine Zaa ?_
  refine JC.slNil Answer ?_
  refine Aa ?_
  refine Za9 ?_
  refine rn1 ?_
  refine Za2 ?_
  refine Ga3 ?_
  rw [Aci ht23]
  exact ZfY
 ·intro ht23
  refine ZU ?_
  refine cdy ?_ ?_
  ·intro ht28
   refine Gl ?_
   refine Zaa ?_
   refine JC.slNil Answer ?_
   refine Aa ?_
   refine Za9 ?_
   refine Za2 ?_
   refine Ga3 ?_
   rw [pS_2 (Decidable.not_not.1 ht23) (by omega)]
   exact ZfY
  ·intro ht28
   refine ZS ?_
   refine Zaw ?_
   have hok : (A8 c).2 = 0 := Decidable.not_not.1 ht23
   have hl3 : l.length ≤ 300 := by omega
   have e0 : bAt c l 0 = ((A8 c).1, []) := by unfold bAt; simp [C9]
   have e0a : aAt c l 0 = [] := by unfold aAt; simp [F4]
   refine Zay ?_
   refine JC.rowNil 64 Answer ?_
   refine Bt (γ := Nat × Value × Value × Value × Value × Value) (fun g => g.1 ≤ l.length) (fun g => row 64 g.2.2.2.2.1 (aAt c l g.1) :: row 66 g.2.2.2.2.2 (bAt c l g.1).2 :: blk b8 33 [g.2.1, g.2.2.1, g.2.2.2.1] :: blk b4 33 [.slice none 0 0, .slice none 0 0, .slice none 0 0] :: L) (fun g => sl g.2.1 (bAt c l g.1).1.cores :: sl g.2.2.1 (bAt c l g.1).1.home :: sl g.2.2.2.1 (bAt c l g.1).1.frames :: R) (fun g => [(4, bp b4 0), (8, bp b8 0), (10, g.2.2.2.2.1), (11, g.2.2.2.2.2), (30, vl), (31, vi (l.length : Int)), (32, vi (g.1 : Int))]) (fun g => l.length - g.1) (0, v19.1, v19.2, .slice none 0 0, .slice none 0 0, .slice none 0 0) (Nat.zero_le _) alT (fun w hs => by rw [e0, e0a]; exact Ah hs) ?_
   rintro ⟨k, cv, hv, fv, av, dv⟩ hk
   try simp only at hk ⊢
   refine ZB ?_
   refine cdy ?_ ?_
   ·intro ht33
    refine Gl ?_
    refine Zc6 ?_;intro hsw
    refine ZA ?_
    refine al_ (cs := zStep.cells) Try.zeroValue28 ?_; intro b13
    refine Zc3 ?_
    refine ZL ?_
    obtain ⟨n, nl, M, hI⟩ := S6 l hok k
    have hle := Ahj (c := c) (l := l) (k := k) (by omega)
    have h8 := K7 c l k
    have h9 := Ra (bAt c l k).1 (l.getD k zStep)
    refine An Try.call19 rfl (fun w hs => Ee (x := (bAt c l k).1) (s := (l.getD k zStep)) hs mm mm mm hsw hI) ?_; intro v39
    refine J.know (p := v39.1.oneCell' = true ∧ v39.2.1.oneCell' = true ∧ v39.2.2.1.oneCell' = true) (fun w hs => ⟨isSlice.one (hs.fact (.head _)), isSlice.one (hs.fact (.tail _ (.head _))), isSlice.one (hs.fact (.tail _ (.tail _ (.head _))))⟩) (fun h12 => ?_)
    obtain ⟨honev391, honev392, honev393⟩ := h12
    refine rn4 ?_
    refine al_ (cs := [.slice none 0 0, .slice none 0 0, .slice none 0 0]) Try.zeroValue33 ?_; intro b14
    refine s_B (cs := [v39.1, v39.2.1, v39.2.2.1]) Try.sizeOf33 ?_
    refine Ga2 ?_
    refine kp [4, 5, 6, 7, 8, 10, 11, 13, 14, 15, 16, 30, 31, 32, 33, 34, 35, 36, 37, 38, 39, 40, 41, 42, 43, 44, 45, 46, 47, 48, 49] ?_
    refine Za5 ?_
    refine li (α := Answer) ([Pu (bAt c l k).1 (l.getD k zStep)] : List Answer) eo_60 rfl (rdAns (Abv _ _)) ?_; intro v48
    refine ap eo_60 (hb := fun w hs => by have : maxN = 16777216 := rfl; (try simp only [List.length_cons, List.length_nil]); omega) (k := ?_); intro v49
    refine ZE ?_
    refine cdy ?_ ?_
    ·intro ht51
     refine ZK ?_
     refine s_B (cs := [v39.1, v39.2.1, v39.2.2.1]) Try.sizeOf33 ?_
     refine ZL ?_
     refine ap F8 (hb := fun w hs => by have : maxN = 16777216 := rfl; (try simp only [List.length_cons, List.length_nil]); omega) (k := ?_); intro v55
     refine ZE ?_
     have e1 := Ps (c := c) (l := l) (k := k) (by omega) ht51
     have e2 := Ua (c := c) (l := l) (k := k) (by omega)
     refine Be (k + 1, v39.1, v39.2.1, v39.2.2.1, v49, v55) (by show k + 1 ≤ l.length; omega) (by show l.length - (k + 1) < l.length - k; omega) alT (fun w hs => ?_)
     try simp only
     rw [e1, e2]; exact Ah hs
    ·intro ht51
     refine ZD ?_
     have e1 := T7 (c := c) (l := l) (k := k) (by omega) ht51
     have e2 := Ua (c := c) (l := l) (k := k) (by omega)
     refine Be (k + 1, cv, hv, fv, v49, dv) (by show k + 1 ≤ l.length; omega) (by show l.length - (k + 1) < l.length - k; omega) alT (fun w hs => ?_)
     try simp only
     rw [e1, e2]; exact Ah hs
   ·intro ht33
    refine Gl ?_
    have hkl : k = l.length := by omega
    subst hkl
    refine JC.shut (v := av) pkk ?_
    refine JC.shut (v := dv) pkk ?_
    refine JC.know (p := cv.oneCell' = true ∧ hv.oneCell' = true ∧ fv.oneCell' = true) (fun w hs => ⟨isSlice.one (hs.fact (mm (f := sl cv (bAt c l l.length).1.cores))), isSlice.one (hs.fact (mm (f := sl hv (bAt c l l.length).1.home))), isSlice.one (hs.fact (mm (f := sl fv (bAt c l l.length).1.frames)))⟩) (fun h12 => ?_)
    obtain ⟨hone1, hone2, hone3⟩ := h12
    refine ZJ ?_
    refine s_B (cs := [cv, hv, fv]) Try.sizeOf33 ?_
    refine Ga3 ?_
    rw [pS_3 hok hl3]
    exact E1 (cv, hv, fv, av, dv) Try.isAgg33 Try.sizeOf33
theorem O2 {v0 : Value} {l : List Done} {p : Int} (hs : St (L) R w) (h0 : sl v0 l ∈ R) (hlb : l.length ≤ 1000) (hp : Ap p) : Calls Try.prog 28 [v0, vi p].toArray w (Ca (fun v : Value => v) (fun v => L) (fun v => sl v (Da l p) :: R)) := by
 have hlen := Bh h0 hs
 refine Aj Try.func28 rfl Try.ntmps28 rfl hs ?_
 clear hs
 refine ZS ?_
 refine Zaw ?_
 refine Zay ?_
 refine Bt (γ := Nat × Value) (fun g => g.1 ≤ l.length) (fun g => row 66 g.2 (Da (l.take g.1) p) :: L) (fun _ => R) (fun g => [(1, vi p), (5, g.2), (8, v0), (9, vi (l.length : Int)), (10, vi (g.1 : Int))]) (fun g => l.length - g.1) (0, .slice none 0 0) (Nat.zero_le _) alT (fun w hs => Ah hs) ?_
 rintro ⟨k, v⟩ hk
 try simp only at hk ⊢
 have hdl := Og l p k
 refine ZB ?_
 refine cdy ?_ ?_
 ·intro ht11
  refine Gl ?_
  refine JC.open0 (xs := l) (v := v0) k mm (by omega) (fun hdw => ?_)
  refine ZA ?_
  refine al_ (cs := zDone.cells) Try.zeroValue66 ?_; intro b7
  refine s_B (cs := (l.getD k zDone).cells) Try.sizeOf66 ?_
  refine Gm ?_
  refine Ga4 ?_
  refine cdy ?_ ?_
  ·intro ht17
   refine ZA ?_
   refine li (α := Done) ([(l.getD k zDone)] : List Done) F8 rfl (Ga hdw) ?_; intro v20
   refine ap F8 (hb := fun w hs => by have : maxN = 16777216 := rfl; (try simp only [List.length_cons, List.length_nil]); omega) (k := ?_); intro v21
   refine ZE ?_
   have e1 := Ty (l := l) (k := k) (by omega) ht17
   refine Be (k + 1, v21) (by show k + 1 ≤ l.length; omega) (by show l.length - (k + 1) < l.length - k; omega) alT (fun w hs => ?_)
   try simp only
   rw [e1]; exact Ah hs
  ·intro ht17
   refine ZD ?_
   have e1 := Tz (l := l) (k := k) (by omega) ht17
   refine Be (k + 1, v) (by show k + 1 ≤ l.length; omega) (by show l.length - (k + 1) < l.length - k; omega) alT (fun w hs => ?_)
   exact Zf6
 ·intro ht11
  refine Gl ?_
  refine JC.shut (v := v) pkk ?_
  refine ZP ?_
  have hkl : k = l.length := by omega
  subst hkl
  rw [List.take_length]
  exact Bk v
theorem Adk {v1 : Value} {l : List Done} {lines : Int} (hs : St (L) R w) (h1 : sl v1 l ∈ R) (hl0 : 0 ≤ lines) (hl4 : lines ≤ 100) : Calls Try.prog 30 [vi lines, v1].toArray w (Ca (fun v : Value => .tuple #[v, vi (Hn lines l).2]) (fun v => L) (fun v => sl v (Hn lines l).1 :: R)) := by
 have hlen := Bh h1 hs
 refine Aj Try.func30 rfl Try.ntmps30 rfl hs ?_
 clear hs
 refine Gm ?_
 refine Gb2 ?_
 refine ZaZ ?_
 refine ob (q_mx (a := lines) rfl hl0) ?_
 refine Ga1 ?_
 refine JC.rowNil 3 Int ?_
 refine Bt (γ := Nat × Value) (fun g => (g.1 : Int) ≤ lines) (fun g => row 3 g.2 (List.replicate g.1 (0 : Int)) :: L) (fun _ => R) (fun g => [(1, v1), (6, g.2), (13, vi lines), (14, vi (g.1 : Int))]) (fun g => lines.toNat - g.1) (0, .slice none 0 0) (by show (0 : Int) ≤ lines; omega) alT (fun w hs => Ah hs) ?_
 rintro ⟨k, v6⟩ hk
 try simp only at hk ⊢
 refine ZB ?_
 refine cdy ?_ ?_
 ·intro ht15
  refine ZK ?_
  refine li (α := Int) ([0] : List Int) E3 rfl (fun j hj => ⟨⟨_, rfl, rfl, by unfold Ap; decide⟩, trivial⟩) ?_; intro v17
  refine ap E3 (hb := fun w hs => by have : maxN = 16777216 := rfl; simp only [List.length_cons, List.length_nil, List.length_replicate]; omega) (k := ?_); intro v18
  refine ZE ?_
  refine Be (k + 1, v18) (by show ((k + 1 : Nat) : Int) ≤ lines; omega) (by show lines.toNat - (k + 1) < lines.toNat - k; omega) alT (fun w hs => ?_)
  try simp only
  rw [List.replicate_succ']; exact Ah hs
 ·intro ht15
  refine Gl ?_
  have hkl : lines.toNat = k := by omega
  refine JC.shut (v := v6) pkk ?_
  rw [show List.replicate k (0 : Int) = Ub lines by unfold Ub; rw [hkl]]
  refine Aa ?_
  refine Ga3 ?_
  refine Bt (γ := Nat × Value × List Int) (fun g => g.1 ≤ l.length ∧ g.2.2.length ≤ 16777216 ∧ Hn lines l = Gf g.2.2 (g.1 : Int) (l.drop g.1)) (fun _ => L) (fun g => sl g.2.1 g.2.2 :: R) (fun g => [(6, g.2.1), (20, v1), (21, vi (l.length : Int)), (22, vi (g.1 : Int))]) (fun g => l.length - g.1) (0, v6, Ub lines) ⟨by simp, by unfold Ub; rw [List.length_replicate]; omega, rfl⟩ alT (fun w hs => Ah hs) ?_
  rintro ⟨j, v, mk⟩ ⟨hj, hmk, hpl⟩
  try simp only at hj hmk hpl ⊢
  refine ZB ?_
  refine cdy ?_ ?_
  ·intro ht23
   refine Gl ?_
   refine JC.open0 (xs := l) (v := v1) j mm (by omega) (fun hdw => ?_)
   have hd : l[j]? = some (l.getD j zDone) := by rw [List.getD_eq_getElem?_getD, List.getElem?_eq_getElem (by omega)]; rfl
   refine ZJ ?_
   refine al_ (cs := zDone.cells) Try.zeroValue66 ?_; intro b8
   refine rn1 ?_
   refine s_B (cs := (l.getD j zDone).cells) Try.sizeOf66 ?_
   refine ZL ?_
   refine Zb4 ?_
   refine An Try.call66 rfl (fun w hs => refDo (m := mk) (o := (l.getD j zDone).op) hs mm) ?_; intro v31
   refine Ga7 ?_
   refine kp [4, 5, 6, 7, 8, 9, 10, 11, 20, 21, 22, 23, 24, 25, 26, 27, 28, 29, 30, 31, 32, 33, 34, 35, 36, 37, 38, 39, 40, 41, 42] ?_
   refine Dn 42 (.bool (decide (((Ce mk (l.getD j zDone).op).2.2 ≠ 0) ∨ ((Ce mk (l.getD j zDone).op).2.1 ≠ (l.getD j zDone).value)))) ?_ ?_
   ·rcases (show (((Ce mk (l.getD j zDone).op).2.2 ≠ 0)) ∨ (¬ ((Ce mk (l.getD j zDone).op).2.2 ≠ 0) ∧ ((Ce mk (l.getD j zDone).op).2.1 ≠ (l.getD j zDone).value)) ∨ (¬ ((Ce mk (l.getD j zDone).op).2.2 ≠ 0) ∧ ¬ ((Ce mk (l.getD j zDone).op).2.1 ≠ (l.getD j zDone).value)) from by omega) with hm | hm | hm
    ·refine ZC ?_
     refine H0 ?_
     refine Ga6 ?_
     exact ZeK
    ·refine ZC ?_
     refine H1 ?_
     refine ZG ?_
     refine H0 ?_
     refine Ga1 ?_
     exact ZeK
    ·refine ZC ?_
     refine H1 ?_
     refine ZG ?_
     refine H1 ?_
     refine Ga1 ?_
     exact ZeM
   ·refine Ax ?_
    refine Gl ?_
    first | (refine cdx (p := ?p3) (hd := ?d3) ?e3 ?_ ?_; case e3 => exact rfl) | (refine Bo (b := ?b3) ?e3 ?_ ?_; case e3 => exact rfl)
    ·intro ht42
     refine Gm ?_
     refine Ga4 ?_
     have er : Hn lines l = (mk, (j : Int)) := by rw [hpl, Xb hd, O3 (by omega)]
     rw [er]
     exact Cj v
    ·intro ht42
     refine Gm ?_
     refine Gb2 ?_
     refine Ga2 ?_
     refine Be (j + 1, v31, (Ce mk (l.getD j zDone).op).1) ⟨by show j + 1 ≤ l.length; omega, Nat.le_trans U7 hmk, ?_⟩ (by show l.length - (j + 1) < l.length - j; omega) alT (fun w hs => Ah hs)
     show Hn lines l = Gf (Ce mk (l.getD j zDone).op).1 ((j + 1 : Nat) : Int) (l.drop (j + 1))
     rw [hpl, Xb hd, Mk (by rintro (h | h) <;> omega)]; rfl
  ·intro ht23
   refine ZU ?_
   have er : Hn lines l = (mk, -1) := by rw [hpl, List.drop_of_length_le (by omega)]; rfl
   rw [er]
   exact Cj v
theorem pS_err {c : Config} {l : List Step} (h : (Am c l).2.2.2 ≠ 0) : (Am c l).2.2.1 = [] ∧ (Am c l).2.1 = [] := by
 by_cases h1 : (A8 c).2 = 0
 ·by_cases h2 : 300 < l.length
  ·rw [pS_2 h1 h2]; exact ⟨rfl, rfl⟩
  ·rw [pS_3 h1 (by omega)] at h; exact absurd rfl h
 ·rw [Aci h1]; exact ⟨rfl, rfl⟩
theorem Wl {c : Config} {l : List Step} (h : (Am c l).2.2.2 = 0) : ∃ n nl : Nat, (1 ≤ n ∧ n ≤ 4) ∧ (1 ≤ nl ∧ nl ≤ 4) ∧ c = Hu n nl ∧ l.length ≤ 300 ∧ Am c l = ((C9 (Et n nl) l).1, F4 (Et n nl) l, (C9 (Et n nl) l).2, 0) := by
 by_cases h1 : (A8 c).2 = 0
 ·by_cases h2 : 300 < l.length
  ·rw [pS_2 h1 h2] at h; exact absurd h (by decide)
  ·obtain ⟨n, nl, a1, a2, a3, a4⟩ := H4 h1
   refine ⟨n, nl, a1, a2, a3, by omega, ?_⟩
   unfold Am
   rw [if_neg (by rw [h1]; decide), if_neg h2, a4]
 ·rw [Aci h1] at h; exact absurd h h1
theorem Adp {c : Config} {l : List Step} (h : (Am c l).2.2.2 = 0) : (0 ≤ c.lines ∧ c.lines ≤ 100) ∧ (Hn c.lines (Am c l).2.2.1).2 = -1 := by
 obtain ⟨n, nl, h1, h2, h3, h4, h5⟩ := Wl h
 obtain ⟨M, _, h7⟩ := I7 l (Mt h1 h2)
 have hc : c.lines = (nl : Int) := by rw [h3]; rfl
 refine ⟨by omega, ?_⟩
 rw [h5, hc]; unfold Hn Ub
 rw [Int.toNat_natCast]; simp only
 rw [Qh h7]
theorem Nb : ∀ (a b : List Step) (x : Chip), C9 x (a ++ b) = ((C9 (C9 x a).1 b).1, (C9 x a).2 ++ (C9 (C9 x a).1 b).2)
 | [], b, x => by rw [List.nil_append]; simp [C9]
 | s :: a, b, x => by
  rw [List.cons_append]
  by_cases h : (Al x s).2.2 = 0
  ·rw [F1 h, F1 h, Nb a b]; simp
  ·rw [F2 h, F2 h, Nb a b]
theorem Ok : ∀ (a b : List Step) (x : Chip), ∃ r, F4 x (a ++ b) = F4 x a ++ r
 | [], b, x => ⟨_, rfl⟩
 | s :: a, b, x => by
  rw [List.cons_append]; unfold F4
  obtain ⟨r, hr⟩ := Ok a b (if (Al x s).2.2 = 0 then (Al x s).1 else x)
  exact ⟨r, by rw [hr]; rfl⟩
theorem Ql {c : Config} {l : List Step} {n : Nat} (hn : n ≤ l.length) (h : (Am c l).2.2.2 = 0) : (Am c (l.take n)).2.2.2 = 0 ∧ (∃ r, (Am c l).2.2.1 = (Am c (l.take n)).2.2.1 ++ r) ∧ (∃ r, (Am c l).2.1 = (Am c (l.take n)).2.1 ++ r) ∧ (Am c (l.take n)).2.1.length = n ∧ (Am c l).2.1.length = l.length := by
 obtain ⟨m, nl, h1, h2, h3, h4, h5⟩ := Wl h
 have hc : A8 c = (Et m nl, 0) := by
  by_cases h6 : (A8 c).2 = 0
  ·obtain ⟨m', nl', _, _, b3, b4⟩ := H4 h6
   rw [h3] at b3
   have e1 : (m : Int) = m' := congrArg Config.cores b3
   have e2 : (nl : Int) = nl' := congrArg Config.lines b3
   rw [b4, show m = m' by omega, show nl = nl' by omega]
  ·rw [Aci h6] at h; exact absurd h h6
 have e : Am c (l.take n) = ((C9 (Et m nl) (l.take n)).1, F4 (Et m nl) (l.take n), (C9 (Et m nl) (l.take n)).2, 0) := by
  unfold Am
  rw [if_neg (by rw [hc]; exact fun h => h rfl), if_neg (by rw [List.length_take]; omega), hc]
 rw [e, h5]; simp only
 have hl : l = l.take n ++ l.drop n := (List.take_append_drop n l).symm
 refine ⟨trivial, ?_, ?_, ?_, ?_⟩
 ·conv => enter [1, r, 1]; rw [hl, Nb]
  exact ⟨_, rfl⟩
 ·conv => enter [1, r, 1]; rw [hl]
  exact Ok _ _ _
 ·rw [Jq, List.length_take]; omega
 ·exact Jq _ _
def Ml (x : Chip) (p : Int) : List Op := if 0 ≤ p ∧ p < Bc x ∧ (Ar x p).wait.kind ≠ 0 then [(Ar x p).wait] else []
theorem Zk (x : Chip) (p : Int) : (Ml x p).length ≤ 1 := by unfold Ml; split <;> simp
def Gn (x : Chip) (s : Step) (p : Int) : List Op := if s.kind = 1 ∧ s.node = p ∧ (Al x s).2.2 = 0 then [s.op] else []
def E7 : Chip → List Step → Int → List Op
 | _, [], _ => []
 | x, s :: r, p => Gn x s p ++ E7 (if (Al x s).2.2 = 0 then (Al x s).1 else x) r p
theorem Im (s : Step) (p : Int) : ∀ (l : List Step) (x : Chip), E7 x (l ++ [s]) p = E7 x l p ++ Gn (C9 x l).1 s p
 | [], x => by rw [List.nil_append]; simp [E7, C9]
 | a :: l, x => by
  rw [List.cons_append]; unfold E7
  rw [List.append_assoc]; congr 1
  by_cases h : (Al x a).2.2 = 0
  ·rw [if_pos h, F1 h]; exact Im s p l _
  ·rw [if_neg h, F2 h]; exact Im s p l _
theorem Q2 {α : Type} (l : List α) (q p : Int) (a d : α) (h0 : 0 ≤ q) (hq : q < (l.length : Int)) (hp : 0 ≤ p) : (l.set q.toNat a).getD p.toNat d = if p = q then a else l.getD p.toNat d := by
 have h1 := Dq l q.toNat p.toNat a d (by omega)
 rw [h1]
 by_cases e : p = q
 ·rw [if_pos (by omega), if_pos e]
 ·rw [if_neg (by omega), if_neg e]
theorem Tg {x : Chip} {q p : Int} {k : Core} {h : List Entry} {f : Frames} (h0 : 0 ≤ q) (hq : q < Bc x) (hp : 0 ≤ p) : Ml ⟨x.cores.set q.toNat k, h, f⟩ p = if p = q then (if k.wait.kind ≠ 0 then [k.wait] else []) else Ml x p := by
 unfold Ml Bc Ar at *
 simp only [List.length_set]
 rw [Q2 x.cores q p k E9 h0 hq hp]
 by_cases e : p = q
 ·subst e
  rw [if_pos rfl, if_pos rfl]
  by_cases w : k.wait.kind ≠ 0
  ·rw [if_pos ⟨hp, hq, w⟩, if_pos w]
  ·rw [if_neg (fun h => w h.2.2), if_neg w]
 ·rw [if_neg e, if_neg e]
theorem Th {x : Chip} {p : Int} (h : p < 0) : Ml x p = [] := by unfold Ml; rw [if_neg (by omega)]
theorem Qj {x y : Chip} (p : Int) (h : y.cores = x.cores) : Ml y p = Ml x p := by unfold Ml Bc Ar; rw [h]
theorem O6 (p : Int) : Da [] p = [] := rfl
theorem Ti (d : Done) (p : Int) : (Da [d] p).map Done.op = if d.core = p then [d.op] else [] := by
 unfold Da; by_cases h : d.core = p <;> simp [h]
theorem of_app (a b : List Done) (p : Int) : Da (a ++ b) p = Da a p ++ Da b p := List.filter_append ..
theorem Rn {c : Core} {id home : Int} {o : Op} (h : (Ai c id home o).2.2.2 = 0) : c.wait.kind = 0 ∧ o.kind ≠ 0 ∧ (((Ai c id home o).1.wait = zOp ∧ ∃ v, (Ai c id home o).2.2.1 = [⟨id, o, v⟩]) ∨ ((Ai c id home o).1.wait = o ∧ (Ai c id home o).2.2.1 = [])) := by
 revert h; unfold Ai
 split
 ·intro h; exact absurd h (by simp)
 split
 ·intro h; exact absurd h (by simp)
 split
 ·intro h; exact absurd h (by simp)
 rename_i h1 h2 h3
 split
 ·intro _; exact ⟨by omega, by omega, .inl ⟨rfl, _, rfl⟩⟩
 ·intro _; exact ⟨by omega, by omega, .inr ⟨rfl, rfl⟩⟩
theorem Z5 {c : Core} {id home : Int} {m : Msg} (hw : ∀ i : Nat, i < c.lines.length → (c.lines.getD i zLine).want ≠ 0 → c.wait.kind ≠ 0) : ((Ae c id home m).1.wait = c.wait ∧ (Ae c id home m).2.2 = []) ∨ (c.wait.kind ≠ 0 ∧ (Ae c id home m).1.wait = zOp ∧ ∃ v, (Ae c id home m).2.2 = [⟨id, c.wait, v⟩]) := by
 have hz : ¬ (m.line < 0 ∨ (c.lines.length : Int) ≤ m.line) → (Ac c m.line).want ≠ 0 → c.wait.kind ≠ 0 := fun h => hw m.line.toNat (by omega)
 unfold Ae
 split
 ·exact ZfU
 rename_i h0
 have hz := hz h0
 split
 ·exact ZfU
 split
 ·split
  ·by_cases w : (Ac c m.line).want = 3
   ·rw [if_pos w, if_pos w]
    exact .inr ⟨hz (by omega), rfl, _, rfl⟩
   ·rw [if_neg w, if_neg w]
    exact ZfU
  split
  ·exact ZfU
  ·exact ZfU
 split
 ·split
  ·exact ZfU
  split
  ·rename_i ha
   exact .inr ⟨hz (by have := ha.2; omega), rfl, _, rfl⟩
  ·exact ZfU
 split
 ·rename_i ha
  exact .inr ⟨hz (by have := ha.2.1; omega), rfl, _, rfl⟩
 ·exact ZfU
section
variable {n nl : Nat} {x : Chip} {M : List Int}
theorem Ww (h : Inv n nl x M) {p : Int} (h0 : 0 ≤ p) (hp : p < Bc x) : ∀ i : Nat, i < (Ar x p).lines.length → ((Ar x p).lines.getD i zLine).want ≠ 0 → (Ar x p).wait.kind ≠ 0 := by
 have hn := h.nc; unfold Bc at hp
 have hp' : p.toNat < n := by omega
 intro i hi hw
 have hl := h.ncl p.toNat hp'
 exact (Pj (h.cw p.toNat hp') (by rw [← hl]; exact hi) hw).1
theorem Yo (h : Inv n nl x M) (s : Step) (p : Int) (hok : (Al x s).2.2 = 0) : Ml x p ++ Gn x s p = (Da (Al x s).2.1 p).map Done.op ++ Ml (Al x s).1 p := by
 have hn := h.nc
 have hnc : Bc x = (n : Int) := by unfold Bc; rw [hn]
 by_cases hp0 : p < 0
 ·rw [Th hp0, Th hp0, List.nil_append, List.append_nil]
  have hb : Gn x s p = [] := by
   unfold Gn; rw [if_neg]; intro ⟨b1, b2, b3⟩
   unfold Al at b3; rw [if_pos b1, if_pos (by omega)] at b3; exact absurd b3 (by decide)
  rw [hb]
  have hd : ∀ d ∈ (Al x s).2.1, d.core ≠ p := by
   intro d hd
   revert hd; unfold Al
   split
   ·split
    ·simp
    split
    ·simp
    ·rename_i a1 a2 a3
     rcases (Rn (Decidable.not_not.1 a3)).2.2 with ⟨_, v, e⟩ | ⟨_, e⟩
     ·rw [e]; intro hd; rw [List.mem_singleton.1 hd]; simp only; omega
     ·rw [e]; simp
   split
   ·split
    ·simp
    ·simp only
     unfold A0
     split
     ·simp
     split
     ·simp
     ·simp only
      intro hd
      by_cases hm : (Af (Aq ⟨x.cores, x.home, x.frames.eraseIdx s.n.toNat⟩) (Aw x.frames s.n)).1.dst < 0
      ·rename_i b1 b2
       have hpar : Af (Aq ⟨x.cores, x.home, x.frames.eraseIdx s.n.toNat⟩) (Aw x.frames s.n) = ((Af (Aq ⟨x.cores, x.home, x.frames.eraseIdx s.n.toNat⟩) (Aw x.frames s.n)).1, 0) := by
        rw [← Decidable.not_not.1 b1]
       have hw := Gv (Hl hpar).2.2.2.2.1
       omega
      ·generalize (Af (Aq ⟨x.cores, x.home, x.frames.eraseIdx s.n.toNat⟩) (Aw x.frames s.n)).1 = m at *
       revert hd; unfold Ae
       repeat' split
       all_goals first | (simp; done) | (intro hd; rw [List.mem_singleton.1 hd]; simp only; omega)
   all_goals (repeat' split) <;> simp
  have : Da (Al x s).2.1 p = [] := List.filter_eq_nil_iff.2 fun d hm => by simp [hd d hm]
  rw [this]; rfl
 have hp0' : 0 ≤ p := by omega
 have hno : ∀ fr hm, Ml ⟨x.cores, hm, fr⟩ p = Ml x p := fun fr hm => Qj p rfl
 by_cases k1 : s.kind = 1
 ·unfold Gn
  revert hok
  unfold Al
  rw [if_pos k1]
  split
  ·intro hok; exact absurd hok (by simp)
  split
  ·intro hok; exact absurd hok (by assumption)
  rename_i a1 a2
  intro _
  simp only [true_and, and_true, k1]
  have hb := Rn (Decidable.not_not.1 a2)
  obtain ⟨w0, w1, w2⟩ := hb
  unfold Cz
  rw [Tg (by omega) (by omega) hp0']
  by_cases e : p = s.node
  ·subst e
   rw [if_pos rfl, if_pos rfl]
   have hx : Ml x s.node = [] := by unfold Ml; rw [if_neg (fun h => h.2.2 w0)]
   rw [hx, List.nil_append]
   rcases w2 with ⟨e1, v, e2⟩ | ⟨e1, e2⟩
   ·rw [e1, e2, Ti]; simp [zOp]
   ·rw [e1, e2, O6, if_pos w1]; rfl
  ·rw [if_neg (fun h => e h.symm), if_neg e, List.append_nil]
   rcases w2 with ⟨_, v, e2⟩ | ⟨_, e2⟩
   ·rw [e2, Ti, if_neg (fun h => e h.symm)]; rfl
   ·rw [e2]; rfl
 have hb1 : Gn x s p = [] := by unfold Gn; rw [if_neg (fun h => k1 h.1)]
 rw [hb1, List.append_nil]
 by_cases k2 : s.kind = 2
 ·revert hok
  unfold Al
  rw [if_neg k1, if_pos k2]
  split
  ·intro hok; exact absurd hok (by simp)
  intro _
  simp only
  unfold A0
  split
  ·rw [O6, hno]; rfl
  split
  ·rw [O6, hno]; rfl
  rename_i b1 b2
  have hpar : Af (Aq ⟨x.cores, x.home, x.frames.eraseIdx s.n.toNat⟩) (Aw x.frames s.n) = ((Af (Aq ⟨x.cores, x.home, x.frames.eraseIdx s.n.toNat⟩) (Aw x.frames s.n)).1, 0) := by
   rw [← Decidable.not_not.1 b1]
  have hw := Gv (Hl hpar).2.2.2.2.1
  generalize (Af (Aq ⟨x.cores, x.home, x.frames.eraseIdx s.n.toNat⟩) (Aw x.frames s.n)).1 = m at *
  have hc2 : (Aq ⟨x.cores, x.home, x.frames.eraseIdx s.n.toNat⟩).cores = Bc x := rfl
  have hn2 : Bc ⟨x.cores, x.home, x.frames.eraseIdx s.n.toNat⟩ = Bc x := rfl
  have hca : Ar ⟨x.cores, x.home, x.frames.eraseIdx s.n.toNat⟩ m.dst = Ar x m.dst := rfl
  rw [hn2] at b2 ⊢
  rw [hca]
  have hd : 0 ≤ m.dst ∧ m.dst < Bc x := by rw [hc2] at hw; omega
  unfold Cz
  simp only
  rw [Tg hd.1 hd.2 hp0']
  have ho := Z5 (id := m.dst) (home := Bc x) (m := m) (Ww h hd.1 hd.2)
  by_cases e : p = m.dst
  ·subst e
   rw [if_pos rfl]
   rcases ho with ⟨e1, e2⟩ | ⟨w, e1, v, e2⟩
   ·rw [e1, e2, O6]; unfold Ml
    by_cases w : (Ar x m.dst).wait.kind ≠ 0
    ·rw [if_pos ⟨hd.1, hd.2, w⟩, if_pos w]; rfl
    ·rw [if_neg (fun h => w h.2.2), if_neg w]; rfl
   ·rw [e1, e2, Ti, if_pos rfl]; unfold Ml; rw [if_pos ⟨hd.1, hd.2, w⟩]; simp [zOp]
  ·rw [if_neg e]
   rcases ho with ⟨_, e2⟩ | ⟨_, _, v, e2⟩
   ·rw [e2]; rfl
   ·rw [e2, Ti, if_neg (fun h => e h.symm)]; rfl
 have hcs : (Al x s).1.cores = x.cores ∧ (Al x s).2.1 = [] := by
  revert hok
  unfold Al
  rw [if_neg k1, if_neg k2]
  repeat' split
  all_goals (intro hok; first | exact ⟨rfl, rfl⟩ | exact absurd hok (by assumption) | exact absurd hok (by simp))
 rw [hcs.2, Qj p hcs.1]; rfl
theorem S7 (p : Int) : ∀ (l : List Step) {x : Chip} {M : List Int}, Inv n nl x M → Ml x p ++ E7 x l p = (Da (C9 x l).2 p).map Done.op ++ Ml (C9 x l).1 p
 | [], x, M, h => by simp [E7, C9, Da]
 | s :: l, x, M, h => by
  unfold E7
  by_cases hok : (Al x s).2.2 = 0
  ·obtain ⟨M', h', _⟩ := Mu h hok
   rw [if_pos hok, F1 hok, of_app, List.map_append, ← List.append_assoc, Yo h s p hok, List.append_assoc, S7 p l h', List.append_assoc]
  ·have hb : Gn x s p = [] := by unfold Gn; rw [if_neg (fun h => hok h.2.2)]
   rw [if_neg hok, F2 hok, hb, List.nil_append]
   exact S7 p l h
end
theorem Zj (n nl : Nat) (p : Int) : Ml (Et n nl) p = [] := by
 unfold Ml; rw [if_neg]
 intro ⟨h1, h2, h3⟩
 apply h3
 unfold Ar Et Bc at *
 simp only [List.length_replicate] at h2 ⊢
 rw [List.getD_eq_getElem?_getD, List.getElem?_replicate, if_pos (by omega)]; rfl
theorem Wn {c : Config} {l : List Step} (p : Int) (h : (Am c l).2.2.2 = 0) : ∃ w, E7 (A8 c).1 l p = (Da (Am c l).2.2.1 p).map Done.op ++ w ∧ w.length ≤ 1 := by
 obtain ⟨n, nl, h1, h2, h3, h4, h5⟩ := Wl h
 refine Zdu ?_;intro hc
 have e : Am c l = ((C9 (A8 c).1 l).1, F4 (A8 c).1 l, (C9 (A8 c).1 l).2, 0) := by
  unfold Am; rw [if_neg (by rw [hc]; decide), if_neg (by omega)]
 obtain ⟨m, ml, g1, g2, _, g4⟩ := H4 hc
 refine ⟨Ml (C9 (A8 c).1 l).1 p, ?_, Zk _ _⟩
 rw [e]; simp only
 rw [g4]; simp only
 have := S7 p l (Mt g1 g2)
 rw [Zj, List.nil_append] at this
 exact this
def gAt (c : Config) (l : List Step) (p : Int) (k : Nat) : List Op := E7 (A8 c).1 (l.take k) p
theorem Pe {c : Config} {l : List Step} {p : Int} {k : Nat} (h : k < l.length) : gAt c l p (k + 1) = gAt c l p k ++ Gn (bAt c l k).1 (l.getD k zStep) p := by
 unfold gAt bAt; rw [Fa zStep h]; exact Im ..
theorem W5 (c : Config) (l : List Step) (p : Int) : ∀ k, k ≤ l.length → (gAt c l p k).length ≤ k
 | 0, _ => by simp [gAt, E7]
 | k + 1, h => by
  have ih := W5 c l p k (by omega)
  rw [Pe (by omega), List.length_append]
  have : (Gn (bAt c l k).1 (l.getD k zStep) p).length ≤ 1 := by unfold Gn; split <;> simp
  omega
theorem Aeh {c : Config} {l : List Step} {p : Int} : gAt c l p l.length = E7 (A8 c).1 l p := by unfold gAt; rw [List.take_length]
theorem Ada : ∀ (l : List Step) (x : Chip) (k : Nat), k < l.length → (F4 x l).getD k zAnswer = Pu (C9 x (l.take k)).1 (l.getD k zStep)
 | [], _, _, h => absurd h (by simp)
 | s :: l, x, 0, _ => rfl
 | s :: l, x, k + 1, h => by
  have ih := Ada l (if (Al x s).2.2 = 0 then (Al x s).1 else x) k (by simpa using h)
  unfold F4
  rw [List.take_succ_cons]
  show (F4 _ l).getD k zAnswer = _
  rw [ih]
  by_cases h1 : (Al x s).2.2 = 0
  ·rw [if_pos h1, F1 h1]; rfl
  ·rw [if_neg h1, F2 h1]; rfl
theorem Ach {c : Config} {l : List Step} (h : (Am c l).2.2.2 = 0) {k : Nat} (hk : k < l.length) : (Am c l).2.1.getD k zAnswer = Pu (bAt c l k).1 (l.getD k zStep) := by
 obtain ⟨n, nl, h1, h2, h3, h4, h5⟩ := Wl h
 refine Zdu ?_;intro hc
 have e : Am c l = ((C9 (A8 c).1 l).1, F4 (A8 c).1 l, (C9 (A8 c).1 l).2, 0) := by
  unfold Am; rw [if_neg (by rw [hc]; decide), if_neg (by omega)]
 rw [e]; exact Ada _ _ _ hk
theorem Sd {c : Config} {l : List Step} (h : (Am c l).2.2.2 = 0) : (Am c l).2.1.length = l.length ∧ (Am c l).2.2.1.length ≤ l.length ∧ l.length ≤ 300 := by
 have h2 := (Ql (Nat.le_refl _) h).2.2.2.2
 obtain ⟨n, nl, _, _, _, h4, h5⟩ := Wl h
 refine Zdu ?_;intro hc
 refine ⟨h2, ?_, h4⟩
 rw [pS_3 hc h4]
 exact K7 c l l.length
def pL : List Step := [⟨1, 0, 0, 0, ⟨4, 0, 0⟩⟩, ⟨2, 0, 0, 0, ⟨0, 0, 0⟩⟩]
def pX : Chip := (Am ⟨1, 1⟩ pL).1
def pA : List Answer := [⟨0, 1⟩, ⟨5, 0⟩]
def pD : List Done := [⟨0, ⟨4, 0, 0⟩, 0⟩]
theorem p_al : Am ⟨1, 1⟩ pL = (pX, pA, pD, 0) := Prod.ext rfl (Prod.ext (by decide) (Prod.ext (by decide) (by decide)))
theorem p_co : (pX.cores.length : Int) = 1 := by decide
theorem p_o0 : ((Da pD 0).length : Int) = 1 := by decide
theorem p_o1 : ((Da pD 1).length : Int) = 0 := by decide
theorem rdOp' {R : List Fact} {e : Op} (hw : e.wf) : ∀ j, (∀ q ∈ R, q.p j) → RdV [e] [.agg e.cells.toArray] j := fun j _ => ⟨⟨_, rfl, rfl, hw⟩, trivial⟩
theorem Nm  (hs : St (L) R w) : Calls Try.prog 29 [].toArray w (Ca (fun _ : Unit => .bool true) (fun _ => L) (fun _ => R)) := by
 refine Aj Try.func29 rfl Try.ntmps29 rfl hs ?_
 clear hs
 refine ZS ?_
 refine rn4 ?_
 refine li (α := Step) pL eo_24 rfl (fun j hj => ⟨⟨_, rfl, rfl, by unfold Step.wf Ap; decide⟩, ⟨_, rfl, rfl, by unfold Step.wf Ap; decide⟩, trivial⟩) ?_; intro v10
 refine An Try.call27 rfl (fun w hs => by have h := Gz (c := ⟨1, 1⟩) (l := pL) hs mm (by unfold Config.wf Ap; decide); rw [p_al] at h; exact h) ?_; intro v11
 refine J.know (p := v11.1.oneCell' = true ∧ v11.2.1.oneCell' = true ∧ v11.2.2.1.oneCell' = true) (fun w hs => ⟨isSlice.one (hs.fact (.head _)), isSlice.one (hs.fact (.tail _ (.head _))), isSlice.one (hs.fact (.tail _ (.tail _ (.head _))))⟩) (fun h12 => ?_)
 obtain ⟨honev111, honev112, honev113⟩ := h12
 refine rn5 ?_
 refine al_ (cs := [.slice none 0 0, .slice none 0 0, .slice none 0 0]) Try.zeroValue33 ?_; intro b1
 refine s_B (cs := [v11.1, v11.2.1, v11.2.2.1]) Try.sizeOf33 ?_
 refine Ga3 ?_
 refine JC.open0 (xs := pA) (v := v11.2.2.2.1) 0 mm (by decide) (fun _ => ?_)
 refine JC.open0 (xs := pA) (v := v11.2.2.2.1) 1 mm (by decide) (fun _ => ?_)
 refine ZC ?_
 refine Za4 ?_
 refine ZM ?_
 refine Za4 ?_
 refine ZM ?_
 refine ob (F6 (i := 0) Adc) ?_
 refine Zap ?_
 refine Za4 ?_
 refine ZM ?_
 refine ob (F6 (i := 1) Adc) ?_
 refine Zap ?_
 refine Za4 ?_
 refine ZG ?_
 refine Za4 ?_
 refine ZN ?_
 refine ob (Ao rfl rfl (Bf p_co)) ?_
 refine ZM ?_
 refine An Try.call28 rfl (fun w hs => O2 (l := pD) (p := 0) hs mm (by decide) (by unfold Ap; decide)) ?_; intro v50
 refine ZaC ?_
 refine ob (Ao rfl rfl (Bf p_o0)) ?_
 refine ZM ?_
 refine An Try.call28 rfl (fun w hs => O2 (l := pD) (p := 1) hs mm (by decide) (by unfold Ap; decide)) ?_; intro v56
 refine ZaC ?_
 refine ob (Ao rfl rfl (Bf p_o1)) ?_
 refine Ga2 ?_
 exact Bk ()
theorem Qi {vl : Value} {c : Config} {l : List Step} (hs : St (L) R w) (hl : sl vl l ∈ R) (hcw : c.wf) : Calls Try.prog 8 [.agg c.cells.toArray, vl].toArray w (Ca (fun _ : Unit => .bool true) (fun _ => L) (fun _ => R)) := by
 refine Aj Try.func8 rfl Try.ntmps8 rfl hs ?_
 clear hs
 refine Gm ?_
 refine bx ?_; intro b2
 refine Gb1 ?_
 refine An Try.call29 rfl (fun w hs => Nm hs) ?_; intro _
 refine Gd1 ?_
 refine rn2 ?_
 refine An Try.call27 rfl (fun w hs => Gz (c := c) (l := l) hs mm hcw) ?_; intro v16
 refine J.know (p := v16.1.oneCell' = true ∧ v16.2.1.oneCell' = true ∧ v16.2.2.1.oneCell' = true) (fun w hs => ⟨isSlice.one (hs.fact (.head _)), isSlice.one (hs.fact (.tail _ (.head _))), isSlice.one (hs.fact (.tail _ (.tail _ (.head _))))⟩) (fun h12 => ?_)
 obtain ⟨honev161, honev162, honev163⟩ := h12
 refine rn5 ?_
 refine al_ (cs := [.slice none 0 0, .slice none 0 0, .slice none 0 0]) Try.zeroValue33 ?_; intro b5
 refine s_B (cs := [v16.1, v16.2.1, v16.2.2.1]) Try.sizeOf33 ?_
 refine Gb3 ?_
 refine Ga2 ?_
 refine cdy ?_ ?_
 ·intro ht22
  have hpe := (pS_err ht22).1
  refine ZL ?_
  refine ob (Ao rfl rfl (Bf (by rw [hpe]; rfl))) ?_
  exact Zf8
 ·intro ht22
  have hpp := Adp (Decidable.not_not.1 ht22)
  refine Zaj ?_
  refine An Try.call30 rfl (fun w hs => by have h := Adk (l := (Am c l).2.2.1) (lines := c.lines) hs mm hpp.1.1 hpp.1.2; rw [hpp.2] at h; exact h) ?_; intro v30
  refine Gb5 ?_
  refine rn1 ?_
  refine Ea ?_
  exact Zf8
theorem Nu {vl : Value} {c : Config} {l : List Step} {p : Int} (hs : St (L) R w) (hl : sl vl l ∈ R) (hcw : c.wf) (hp : Ap p) : Calls Try.prog 9 [.agg c.cells.toArray, vl, vi p].toArray w (Ca (fun _ : Unit => .bool true) (fun _ => L) (fun _ => R)) := by
 have hlen := Bh hl hs
 refine Aj Try.func9 rfl Try.ntmps9 rfl hs ?_
 clear hs
 refine Zae ?_;intro b3
 refine Gb1 ?_
 refine An Try.call29 rfl (fun w hs => Nm hs) ?_; intro _
 refine Gd1 ?_
 refine rn2 ?_
 refine An Try.call27 rfl (fun w hs => Gz (c := c) (l := l) hs mm hcw) ?_; intro v22
 refine J.know (p := v22.1.oneCell' = true ∧ v22.2.1.oneCell' = true ∧ v22.2.2.1.oneCell' = true) (fun w hs => ⟨isSlice.one (hs.fact (.head _)), isSlice.one (hs.fact (.tail _ (.head _))), isSlice.one (hs.fact (.tail _ (.tail _ (.head _))))⟩) (fun h12 => ?_)
 obtain ⟨honev221, honev222, honev223⟩ := h12
 refine rn5 ?_
 refine Zbk ?_;intro b7
 refine s_B (cs := [v22.1, v22.2.1, v22.2.2.1]) Try.sizeOf33 ?_
 refine Ga3 ?_
 rcases (show ((Am c l).2.2.2 ≠ 0) ∨ ((Am c l).2.2.2 = 0) from by omega) with hc | hc
 ·refine ZC ?_
  refine H0 ?_
  refine Gd7 ?_
  refine rn1 ?_
  refine H0 ?_
  exact Zf8
 ·have hal := Sd hc
  refine ZC ?_
  refine H1 ?_
  refine ZN ?_
  refine ob (Ao rfl rfl (Cy (by rw [hal.1]))) ?_
  refine Gd1 ?_
  refine Zaw ?_
  have e0 : gAt c l p 0 = [] := by unfold gAt; simp [E7]
  refine JC.rowNil 26 Op ?_
  refine Bt (γ := Nat × Value) (fun g => g.1 ≤ l.length) (fun g => row 26 g.2 (gAt c l p g.1) :: L) (fun _ => sl v22.2.2.2.1 (Am c l).2.1 :: sl v22.2.2.2.2 (Am c l).2.2.1 :: R) (fun g => [(2, vi p), (8, v22.2.2.2.1), (9, v22.2.2.2.2), (11, g.2), (38, vl), (39, vi (l.length : Int)), (40, vi (g.1 : Int))]) (fun g => l.length - g.1) (0, .slice none 0 0) (Nat.zero_le _) alT (fun w hs => by rw [e0]; exact Ah hs) ?_
  rintro ⟨k, vb⟩ hk
  try simp only at hk ⊢
  have hgl := W5 c l p k hk
  refine ZB ?_
  refine cdy ?_ ?_
  ·intro ht41
   refine Gl ?_
   have hans := Ach hc (k := k) (by omega)
   refine Zc6 ?_;intro hsw
   refine kp [2, 6, 8, 9, 11, 12, 13, 38, 39, 40, 41, 42, 43, 44] ?_
   refine ZJ ?_
   refine al_ (cs := zStep.cells) Try.zeroValue28 ?_; intro b13
   refine rn1 ?_
   refine Zc3 ?_
   refine Gl ?_
   refine JC.open0 (xs := (Am c l).2.1) (v := v22.2.2.2.1) k mm (by omega) (fun _ => ?_)
   refine Ze2 ?_
   refine Dn 61 (.bool (decide (((l.getD k zStep).kind = 1) ∧ ((l.getD k zStep).node = p) ∧ (((Am c l).2.1.getD k (El0.df (α := Answer))).err = 0)))) ?_ ?_
   ·rcases (show (¬ ((l.getD k zStep).kind = 1)) ∨ (((l.getD k zStep).kind = 1) ∧ ¬ ((l.getD k zStep).node = p)) ∨ (((l.getD k zStep).kind = 1) ∧ ((l.getD k zStep).node = p) ∧ ¬ (((Am c l).2.1.getD k (El0.df (α := Answer))).err = 0)) ∨ (((l.getD k zStep).kind = 1) ∧ ((l.getD k zStep).node = p) ∧ (((Am c l).2.1.getD k (El0.df (α := Answer))).err = 0)) from by omega) with hm | hm | hm | hm
    ·refine ZA ?_
     refine Av ?_
     refine Ga14 ?_
     exact ZeM
    ·refine ZA ?_
     refine Ck ?_
     refine ZG ?_
     refine Av ?_
     refine Ga9 ?_
     exact ZeM
    ·refine Ze2 ?_
     refine ZA ?_
     refine Ck ?_
     refine ZG ?_
     refine Ck ?_
     refine ZaG ?_
     refine Av ?_
     refine Ga1 ?_
     exact ZeM
    ·refine ZA ?_
     refine Ck ?_
     refine ZG ?_
     refine Ck ?_
     refine ZaG ?_
     refine Ck ?_
     refine Ga1 ?_
     exact ZeK
   ·refine Ax ?_
    first | (refine cdx (p := ?p2) (hd := ?d2) ?e2 ?_ ?_; case e2 => exact rfl) | (refine Bo (b := ?b2) ?e2 ?_ ?_; case e2 => exact rfl)
    ·intro ht61
     refine kp [2, 6, 8, 9, 11, 12, 13, 38, 39, 40, 41, 42, 43, 44, 45, 46, 47, 48, 49, 50, 51, 52, 53, 54, 55, 56, 57, 58, 59, 60, 61, 62, 63, 64, 65, 66] ?_
     refine ZA ?_
     refine Zb4 ?_
     refine li (α := Op) ([(l.getD k zStep).op] : List Op) eo_72 rfl (rdOp' ⟨hsw.2.2.2.2.1, hsw.2.2.2.2.2.1, hsw.2.2.2.2.2.2⟩) ?_; intro v65
     refine ap eo_72 (hb := fun w hs => by have : maxN = 16777216 := rfl; (try simp only [List.length_cons, List.length_nil]); omega) (k := ?_); intro v66
     refine ZE ?_
     have e1 := Pe (c := c) (l := l) (p := p) (k := k) (by omega)
     have e2 : Gn (bAt c l k).1 (l.getD k zStep) p = [(l.getD k zStep).op] := by
      have h9 : ((Am c l).2.1.getD k zAnswer).err = (Al (bAt c l k).1 (l.getD k zStep)).2.2 := by rw [hans]; rfl
      unfold Gn; rw [if_pos ⟨ht61.1, ht61.2.1, h9.symm.trans ht61.2.2⟩]
     rw [e2] at e1
     refine Be (k + 1, v66) (by show k + 1 ≤ l.length; omega) (by show l.length - (k + 1) < l.length - k; omega) alT (fun w hs => ?_)
     try simp only
     rw [e1]; exact Ah hs
    ·intro ht61
     refine Gl ?_
     refine kp [2, 6, 8, 9, 11, 12, 13, 38, 39, 40, 41, 42, 43, 44, 45, 46, 47, 48, 49, 50, 51, 52, 53, 54, 55, 56, 57, 58, 59, 60, 61, 62, 63, 64, 65, 66, 67] ?_
     refine ZP ?_
     have e1 := Pe (c := c) (l := l) (p := p) (k := k) (by omega)
     have e2 : Gn (bAt c l k).1 (l.getD k zStep) p = [] := by
      have h9 : ((Am c l).2.1.getD k zAnswer).err = (Al (bAt c l k).1 (l.getD k zStep)).2.2 := by rw [hans]; rfl
      unfold Gn; rw [if_neg (fun h => ht61 ⟨h.1, h.2.1, h9.trans h.2.2⟩)]
     rw [e2, List.append_nil] at e1
     refine Be (k + 1, vb) (by show k + 1 ≤ l.length; omega) (by show l.length - (k + 1) < l.length - k; omega) alT (fun w hs => ?_)
     exact Zf6
  ·intro ht41
   refine Gl ?_
   have hkl : k = l.length := by omega
   subst hkl
   refine JC.shut (v := vb) pkk ?_
   obtain ⟨wx, how, hwl⟩ := Wn p hc
   rw [← Aeh] at how
   have hbl : (gAt c l p l.length).length = (Da (Am c l).2.2.1 p).length + wx.length := by rw [how, List.length_append, List.length_map]
   refine kp [2, 6, 8, 9, 11, 12, 13, 14, 38, 39, 40, 41, 42, 43, 44, 45, 46, 47, 48, 49, 50, 51, 52, 53, 54, 55, 56, 57, 58, 59, 60, 61, 62, 63, 64, 65, 66, 67, 68, 69, 70] ?_
   refine ZA ?_
   refine An Try.call28 rfl (fun w hs => O2 (l := (Am c l).2.2.1) (p := p) hs mm (by omega) hp) ?_; intro v70
   refine Gb1 ?_
   refine rn4 ?_
   refine Eg ?_
   refine rn6 ?_
   refine gy ?_
   refine Eg ?_
   refine Gd1 ?_
   refine Ga3 ?_
   refine Bt (γ := Nat) (fun j => j ≤ (Da (Am c l).2.2.1 p).length) (fun _ => L) (fun _ => sl v70 (Da (Am c l).2.2.1 p) :: sl vb (gAt c l p l.length) :: R) (fun j => [(11, vb), (84, v70), (85, vi ((Da (Am c l).2.2.1 p).length : Int)), (86, vi (j : Int))]) (fun j => (Da (Am c l).2.2.1 p).length - j) 0 (Nat.zero_le _) alT (fun w hs => Ah hs) ?_
   intro j hj
   refine ZB ?_
   refine cdy ?_ ?_
   ·intro ht87
    refine Gl ?_
    refine JC.open0 (xs := (Da (Am c l).2.2.1 p)) (v := v70) j mm (by omega) (fun hdw => ?_)
    refine ZJ ?_
    refine al_ (cs := zDone.cells) Try.zeroValue66 ?_; intro b16
    refine rn1 ?_
    refine s_B (cs := ((Da (Am c l).2.2.1 p).getD j zDone).cells) Try.sizeOf66 ?_
    refine Gl ?_
    refine JC.open0 (xs := (gAt c l p l.length)) (v := vb) j mm (by omega) (fun _ => ?_)
    have hjj : ((Da (Am c l).2.2.1 p).getD j zDone).op = ((gAt c l p l.length).getD j zOp) := by
     rw [how, List.getD_eq_getElem?_getD, List.getD_eq_getElem?_getD, List.getElem?_append_left (by rw [List.length_map]; omega), List.getElem?_map, List.getElem?_eq_getElem (by omega)]; rfl
    refine Zar ?_
    refine djc (fun _ _ => I3 rfl rfl (Abx ((Da (Am c l).2.2.1 p).getD j zDone).op ((gAt c l p l.length).getD j zOp) _) (S2 (x := ((Da (Am c l).2.2.1 p).getD j zDone).op) (y := ((gAt c l p l.length).getD j zOp)) hjj)) ?_
    refine dnl ?_; intro ρ
    refine Glc ?_
    refine kp [6, 11, 15, 16, 84, 85, 86, 87, 88, 89, 90, 91, 92, 93, 94, 95, 96, 97, 98] ?_
    refine ZP ?_
    refine Be (j + 1) (by omega) (by omega) alT (fun w hs => Ah hs)
   ·intro ht87
    refine ZB ?_
    exact Bk ()
theorem Nt {vl : Value} {c : Config} {l : List Step} {n : Int} (hs : St (L) R w) (hl : sl vl l ∈ R) (hcw : c.wf) (hn : Ap n) : Calls Try.prog 10 [.agg c.cells.toArray, vl, vi n].toArray w (Ca (fun _ : Unit => .bool true) (fun _ => L) (fun _ => R)) := by
 have hlen := Bh hl hs
 refine Aj Try.func10 rfl Try.ntmps10 rfl hs ?_
 clear hs
 refine Zae ?_;intro b3
 refine Gb1 ?_
 refine An Try.call29 rfl (fun w hs => Nm hs) ?_; intro _
 refine Gc1 ?_
 rcases (show (n < 0) ∨ (0 ≤ n ∧ (l.length : Int) < n) ∨ (0 ≤ n ∧ n ≤ (l.length : Int)) from by omega) with hc | hc | hc
 ·refine ZbT ?_
  exact Zf8
 ·refine Za3 ?_
  refine Gt ?_
  refine Gd1 ?_
  exact Zf8
 ·refine Za3 ?_
  refine Eg ?_
  refine Gd1 ?_
  refine rn2 ?_
  refine An Try.call27 rfl (fun w hs => Gz (c := c) (l := l) hs mm hcw) ?_; intro v29
  refine J.know (p := v29.1.oneCell' = true ∧ v29.2.1.oneCell' = true ∧ v29.2.2.1.oneCell' = true) (fun w hs => ⟨isSlice.one (hs.fact (.head _)), isSlice.one (hs.fact (.tail _ (.head _))), isSlice.one (hs.fact (.tail _ (.tail _ (.head _))))⟩) (fun h12 => ?_)
  obtain ⟨honev291, honev292, honev293⟩ := h12
  refine rn5 ?_
  refine Zbk ?_;intro b7
  refine s_B (cs := [v29.1, v29.2.1, v29.2.2.1]) Try.sizeOf33 ?_
  refine Ga3 ?_
  refine cq_ (blk b7 33 [v29.1, v29.2.1, v29.2.2.1] :: blk b3 23 c.cells :: L) ?_
  refine jd_ (fun ρ S => blk b7 33 [v29.1, v29.2.1, v29.2.2.1] :: blk b3 23 c.cells :: ((bif S 10 then [blk (Gh.dec (γ := Nat) (ρ 10)) 33 (bif S 11 then [(Gh.dec (γ := Value × Value × Value × Value × Value) (ρ 4)).1, (Gh.dec (γ := Value × Value × Value × Value × Value) (ρ 4)).2.1, (Gh.dec (γ := Value × Value × Value × Value × Value) (ρ 4)).2.2.1] else [.slice none 0 0, .slice none 0 0, .slice none 0 0])] else []) ++ (L))) ?_
  refine dn3 ?_
  refine dj ?_
  refine Ph (α := Step) (xs := l) (lo := 0) (hi := n.toNat) so_24 (fun _ => rfl) mm (fun _ => rfl) (fun _ => by show _ = some (vi _); rw [Int.toNat_of_nonneg (by omega)]; rfl) (by omega) (by omega) (fun _ _ _ _ => rfl) ?_
  refine Cc (γ := Value × Value × Value × Value × Value) (val := fun v => .tuple #[.agg #[v.1, v.2.1, v.2.2.1], v.2.2.2.1, v.2.2.2.2, vi (Am c (l.take n.toNat)).2.2.2]) (F := fun v => [sl v.1 (Am c (l.take n.toNat)).1.cores, sl v.2.1 (Am c (l.take n.toNat)).1.home, sl v.2.2.1 (Am c (l.take n.toNat)).1.frames, sl v.2.2.2.1 (Am c (l.take n.toNat)).2.1, sl v.2.2.2.2 (Am c (l.take n.toNat)).2.2.1]) Try.call27 (fun _ => rfl) (fun ρ L R w hd hs => Gz (c := c) (l := (l.take n.toNat)) hs (hd.dep (it := ⟨3, _, _, _, _⟩) (by repeat (first | exact List.Mem.head _ | refine List.Mem.tail _ ?_)) ⟨9, rfl⟩ (List.Mem.head _)) hcw) (fun ρ g S hS hA => by have u10 : upS S 4 10 = S 10 := rfl; have u11 : upS S 4 11 = S 11 := rfl; have r10 : Rho.set ρ 4 g 10 = ρ 10 := rfl; have h11 : S 11 = false := hA 11 ⟨0, rfl⟩; simp only [u10, u11, r10, h11, cond_false]) ?_
  refine e_p (v := fun ρ => .tuple #[.agg #[(Gh.dec (γ := Value × Value × Value × Value × Value) (ρ 4)).1, (Gh.dec (γ := Value × Value × Value × Value × Value) (ρ 4)).2.1, (Gh.dec (γ := Value × Value × Value × Value × Value) (ρ 4)).2.2.1], (Gh.dec (γ := Value × Value × Value × Value × Value) (ρ 4)).2.2.2.1, (Gh.dec (γ := Value × Value × Value × Value × Value) (ρ 4)).2.2.2.2, vi (Am c (l.take n.toNat)).2.2.2]) (fun _ _ => Pw) (Ind.gh (h := fun g => (.tuple #[.agg #[(Gh.dec (γ := Value × Value × Value × Value × Value) g).1, (Gh.dec (γ := Value × Value × Value × Value × Value) g).2.1, (Gh.dec (γ := Value × Value × Value × Value × Value) g).2.2.1], (Gh.dec (γ := Value × Value × Value × Value × Value) g).2.2.2.1, (Gh.dec (γ := Value × Value × Value × Value × Value) g).2.2.2.2, vi (Am c (l.take n.toNat)).2.2.2] : Value)) 4 0 rfl) (fun _ _ _ _ _ => rfl) ?_
  refine e_p (v := fun ρ => .agg #[(Gh.dec (γ := Value × Value × Value × Value × Value) (ρ 4)).1, (Gh.dec (γ := Value × Value × Value × Value × Value) (ρ 4)).2.1, (Gh.dec (γ := Value × Value × Value × Value × Value) (ρ 4)).2.2.1]) (fun _ _ => q_x) (Ind.gh (h := fun g => (.agg #[(Gh.dec (γ := Value × Value × Value × Value × Value) g).1, (Gh.dec (γ := Value × Value × Value × Value × Value) g).2.1, (Gh.dec (γ := Value × Value × Value × Value × Value) g).2.2.1] : Value)) 4 1 rfl) (fun _ _ _ _ _ => rfl) ?_
  refine e_p (v := fun ρ => (Gh.dec (γ := Value × Value × Value × Value × Value) (ρ 4)).2.2.2.1) (fun _ _ => q_x) (Ind.gh (h := fun g => ((Gh.dec (γ := Value × Value × Value × Value × Value) g).2.2.2.1 : Value)) 4 1 rfl) (fun _ _ _ _ _ => rfl) ?_
  refine e_p (v := fun ρ => (Gh.dec (γ := Value × Value × Value × Value × Value) (ρ 4)).2.2.2.2) (fun _ _ => q_x) (Ind.gh (h := fun g => ((Gh.dec (γ := Value × Value × Value × Value × Value) g).2.2.2.2 : Value)) 4 1 rfl) (fun _ _ _ _ _ => rfl) ?_
  refine Jx (v := vi (Am c (l.take n.toNat)).2.2.2) (fun _ _ => q_x) (fun _ _ _ _ _ => rfl) ?_
  refine Ha (cs := [.slice none 0 0, .slice none 0 0, .slice none 0 0]) Try.zeroValue33 rfl (fun ρ b S hS hA => ?_) ?_
  ·have ui : upS S 10 10 = true := rfl; have u11 : upS S 10 11 = S 11 := rfl; have r4 : Rho.set ρ 10 (Gh.enc b) 4 = ρ 4 := rfl; have h11 : S 11 = false := hA 11 ⟨0, rfl⟩; have rs : (Gh.dec (γ := Nat) (Rho.set ρ 10 (Gh.enc b) 10)) = b := rfl
   simp only [ui, hS, u11, r4, h11, rs, cond_true, cond_false, List.nil_append]
   exact ZeL
  refine es_ 33 0 [10] [] (fun ρ => (Gh.dec (γ := Nat) (ρ 10))) (fun ρ => [.slice none 0 0, .slice none 0 0, .slice none 0 0]) (fun ρ => [(Gh.dec (γ := Value × Value × Value × Value × Value) (ρ 4)).1, (Gh.dec (γ := Value × Value × Value × Value × Value) (ρ 4)).2.1, (Gh.dec (γ := Value × Value × Value × Value × Value) (ρ 4)).2.2.1]) Try.sizeOf33 (h1 := (fun ρ R w L' hd hs => Bm (isSlice.one (hs.fact (hd.dep (it := ⟨4, _, _, _, _⟩) (by repeat (first | exact List.Mem.head _ | refine List.Mem.tail _ ?_)) ⟨9, rfl⟩ (List.Mem.head _)))) (Bm (isSlice.one (hs.fact (hd.dep (it := ⟨4, _, _, _, _⟩) (by repeat (first | exact List.Mem.head _ | refine List.Mem.tail _ ?_)) ⟨9, rfl⟩ (.tail _ (.head _))))) (Bm (isSlice.one (hs.fact (hd.dep (it := ⟨4, _, _, _, _⟩) (by repeat (first | exact List.Mem.head _ | refine List.Mem.tail _ ?_)) ⟨9, rfl⟩ (.tail _ (.tail _ (.head _)))))) D5)))) ?_
  refine e_p (v := fun ρ => (Gh.dec (γ := Value × Value × Value × Value × Value) (ρ 4)).2.2.2.1) (fun _ _ => Dx) (Ind.gh (h := fun g => ((Gh.dec (γ := Value × Value × Value × Value × Value) g).2.2.2.1 : Value)) 4 0 rfl) (fun _ _ _ _ _ => rfl) ?_
  refine e_p (v := fun ρ => (Gh.dec (γ := Value × Value × Value × Value × Value) (ρ 4)).2.2.2.2) (fun _ _ => Dx) (Ind.gh (h := fun g => ((Gh.dec (γ := Value × Value × Value × Value × Value) g).2.2.2.2 : Value)) 4 0 rfl) (fun _ _ _ _ _ => rfl) ?_
  refine Jx (v := vi (Am c (l.take n.toNat)).2.2.2) (fun _ _ => Dx) (fun _ _ _ _ _ => rfl) ?_
  refine dnl ?_; intro ρ
  refine xq_ (blk b7 33 [v29.1, v29.2.1, v29.2.2.1] :: blk b3 23 c.cells :: (blk (Gh.dec (γ := Nat) (ρ 10)) 33 [(Gh.dec (γ := Value × Value × Value × Value × Value) (ρ 4)).1, (Gh.dec (γ := Value × Value × Value × Value × Value) (ρ 4)).2.1, (Gh.dec (γ := Value × Value × Value × Value × Value) (ρ 4)).2.2.1] :: L)) ?_
  generalize (Gh.dec (γ := Value) (ρ 3)) = v38
  generalize (Gh.dec (γ := Value × Value × Value × Value × Value) (ρ 4)) = vq
  generalize (Gh.dec (γ := Nat) (ρ 10)) = b11
  refine Gl ?_
  rcases (show ((Am c l).2.2.2 ≠ 0) ∨ ((Am c l).2.2.2 = 0) from by omega) with hc | hc
  ·refine kp [2, 6, 8, 9, 10, 12, 13, 14, 44, 45, 46, 47, 48, 49] ?_
   refine ZC ?_
   refine H0 ?_
   refine Gd4 ?_
   refine rn1 ?_
   refine H0 ?_
   exact Zf8
  ·have hpl := Ql (n := n.toNat) (by omega) hc
   obtain ⟨rd, hrd⟩ := hpl.2.1
   obtain ⟨ra, hra⟩ := hpl.2.2.1
   have hl3 := hpl.2.2.2
   have hld := congrArg List.length hrd
   have hla := congrArg List.length hra
   rw [List.length_append] at hld hla
   have hlen300 := (Sd hc).2.2
   refine kp [2, 6, 8, 9, 10, 12, 13, 14, 44, 45, 46, 47, 48, 49] ?_
   refine ZC ?_
   refine H1 ?_
   refine Zap ?_
   refine ob (Ao rfl rfl (Cy hpl.1)) ?_
   refine Gd1 ?_
   refine rn4 ?_
   refine Eg ?_
   refine ZG ?_
   refine H1 ?_
   refine ZN ?_
   refine Bi ?_
   refine Gd1 ?_
   refine Ga3 ?_
   refine Bt (γ := Nat) (fun k => k ≤ (Am c (l.take n.toNat)).2.1.length) (fun _ => L) (fun _ => sl v29.2.2.2.1 (Am c l).2.1 :: sl v29.2.2.2.2 (Am c l).2.2.1 :: sl vq.2.2.2.1 (Am c (l.take n.toNat)).2.1 :: sl vq.2.2.2.2 (Am c (l.take n.toNat)).2.2.1 :: R) (fun k => [(8, v29.2.2.2.1), (9, v29.2.2.2.2), (12, vq.2.2.2.1), (13, vq.2.2.2.2), (70, vi ((Am c (l.take n.toNat)).2.1.length : Int)), (71, vi (k : Int))]) (fun k => (Am c (l.take n.toNat)).2.1.length - k) 0 (Nat.zero_le _) alT (fun w hs => Ah hs) ?_
   intro k hk
   refine ZB ?_
   refine cdy ?_ ?_
   ·intro ht72
    refine ZD ?_
    refine JC.open0 (xs := (Am c l).2.1) (v := v29.2.2.2.1) k mm (by omega) (fun _ => ?_)
    refine JC.open0 (xs := (Am c (l.take n.toNat)).2.1) (v := vq.2.2.2.1) k mm (by omega) (fun _ => ?_)
    have hkk : (Am c l).2.1.getD k zAnswer = (Am c (l.take n.toNat)).2.1.getD k zAnswer := by
     rw [hra, List.getD_eq_getElem?_getD, List.getElem?_append_left (by omega), List.getD_eq_getElem?_getD]
    refine Zab ?_
    refine djc (fun _ _ => I3 rfl rfl (Rw ((Am c l).2.1.getD k zAnswer) ((Am c (l.take n.toNat)).2.1.getD k zAnswer) _) (Nd (x := ((Am c l).2.1.getD k zAnswer)) (y := ((Am c (l.take n.toNat)).2.1.getD k zAnswer)) hkk)) ?_
    refine dnl ?_; intro ρ
    refine Glc ?_
    refine kp [6, 8, 9, 12, 13, 15, 70, 71, 72, 73, 74, 75, 76, 77, 78, 79, 80, 81, 82, 83] ?_
    refine ZP ?_
    refine Be (k + 1) (by omega) (by omega) alT (fun w hs => Ah hs)
   ·intro ht72
    refine Zaj ?_
    refine Zg (α := Done) (xs := (Am c l).2.2.1) (lo := 0) (hi := (Am c (l.take n.toNat)).2.2.1.length) so_34 rfl mm rfl rfl (by omega) (by omega) ?_; intro v87
    refine rn1 ?_
    refine An Try.call21 rfl (fun w hs => It (a := ((Am c l).2.2.1.take (Am c (l.take n.toNat)).2.2.1.length).drop 0) (b := (Am c (l.take n.toNat)).2.2.1) (by rw [List.drop_zero, hrd, List.take_left]) hs mm mm) ?_; intro _u
    exact Zf8
theorem Ns {vl : Value} {c : Config} {l : List Step} {p : Int} (hs : St (L) R w) (hl : sl vl l ∈ R) (hcw : c.wf) (hp : Ap p) : Calls Try.prog 7 [.agg c.cells.toArray, vl, vi p].toArray w (Ca (fun _ : Unit => .bool true) (fun _ => L) (fun _ => R)) := by
 have hlen := Bh hl hs
 refine Aj Try.func7 rfl Try.ntmps7 rfl hs ?_
 clear hs
 refine Zae ?_;intro b3
 refine ZaD ?_
 refine An Try.call27 rfl (fun w hs => Gz (c := c) (l := l) hs mm hcw) ?_; intro v25
 refine Zec ?_;intro h12
 obtain ⟨honev251, honev252, honev253⟩ := h12
 refine rn5 ?_
 refine Zbk ?_;intro b7
 refine s_B (cs := [v25.1, v25.2.1, v25.2.2.1]) Try.sizeOf33 ?_
 refine Gb3 ?_
 refine rn1 ?_
 refine An Try.call16 rfl (fun w hs => V9 (c := c) hs hcw) ?_; intro v32
 refine J.know (p := v32.1.oneCell' = true ∧ v32.2.oneCell' = true) (fun w hs => ⟨isSlice.one (hs.fact (.head _)), isSlice.one (hs.fact (.tail _ (.head _)))⟩) (fun h12 => ?_)
 obtain ⟨honev321, honev322⟩ := h12
 refine rn3 ?_
 refine Zds ?_;intro b11
 refine s_B (cs := [v32.1, v32.2, .slice none 0 0]) Try.sizeOf33 ?_
 refine ZE ?_
 refine cdy ?_ ?_
 ·intro ht36
  have h1_ := Aci (l := l) ht36
  refine ZL ?_
  refine ob (Ao rfl rfl (Bf (by rw [h1_]))) ?_
  refine ZM ?_
  refine ob (Ao rfl rfl (Bf (by rw [h1_]; rfl))) ?_
  refine ZG ?_
  refine ob (Ao rfl rfl (Bf (by rw [h1_]; rfl))) ?_
  refine Ga2 ?_
  exact Bk ()
 ·intro ht36
  have hok : (A8 c).2 = 0 := Decidable.not_not.1 ht36
  refine ZU ?_
  refine cdy ?_ ?_
  ·intro ht52
   have h2_ := pS_2 (l := l) hok (by omega)
   refine ZK ?_
   refine ob (Ao rfl rfl (Bf (by rw [h2_]))) ?_
   refine ZM ?_
   refine ob (Ao rfl rfl (Bf (by rw [h2_]; rfl))) ?_
   refine ZG ?_
   refine ob (Ao rfl rfl (Bf (by rw [h2_]; rfl))) ?_
   refine Ga2 ?_
   exact Bk ()
  ·intro ht52
   have hl3 : l.length ≤ 300 := by omega
   have h3_ := pS_3 hok hl3
   have hE : (Am c l).2.2.2 = 0 := by rw [h3_]
   have hal := Sd hE
   refine ZK ?_
   refine ob (Ao rfl rfl (Cy hE)) ?_
   refine ZN ?_
   refine ob (Ao rfl rfl (Cy (by rw [hal.1]))) ?_
   refine Gc1 ?_
   refine kp [1, 2, 6, 7, 8, 9, 11, 13, 14] ?_
   refine Aa ?_
   refine Gb2 ?_
   refine Ga3 ?_
   have e0 : bAt c l 0 = ((A8 c).1, []) := by unfold bAt; simp [C9]
   refine Zay ?_
   refine Bt (γ := Nat × Value × Value × Value × Value) (fun g => g.1 ≤ l.length) (fun g => row 66 g.2.2.2.2 (bAt c l g.1).2 :: blk b11 33 [g.2.1, g.2.2.1, g.2.2.2.1] :: blk b7 33 [v25.1, v25.2.1, v25.2.2.1] :: L) (fun g => sl g.2.1 (bAt c l g.1).1.cores :: sl g.2.2.1 (bAt c l g.1).1.home :: sl g.2.2.2.1 (bAt c l g.1).1.frames :: sl v25.1 (Am c l).1.cores :: sl v25.2.1 (Am c l).1.home :: sl v25.2.2.1 (Am c l).1.frames :: sl v25.2.2.2.1 (Am c l).2.1 :: sl v25.2.2.2.2 (Am c l).2.2.1 :: R) (fun g => [(2, vi p), (7, bp b7 0), (8, v25.2.2.2.1), (9, v25.2.2.2.2), (11, bp b11 0), (13, g.2.2.2.2), (14, .slice none 0 0), (74, vl), (75, vi (l.length : Int)), (76, vi (g.1 : Int))]) (fun g => l.length - g.1) (0, v32.1, v32.2, .slice none 0 0, .slice none 0 0) (Nat.zero_le _) alT (fun w hs => by rw [e0]; exact Ah hs) ?_
   rintro ⟨k, cv, hv, fv, dv⟩ hk
   try simp only at hk ⊢
   refine ZB ?_
   refine cdy ?_ ?_
   ·intro ht77
    refine Gl ?_
    refine Zc6 ?_;intro hsw
    have hans := Ach hE (k := k) (by omega)
    refine ZJ ?_
    refine al_ (cs := zStep.cells) Try.zeroValue28 ?_; intro b16
    refine rn1 ?_
    refine Zc3 ?_
    refine ZL ?_
    obtain ⟨n, nl, M, hI⟩ := S6 l hok k
    have h8 := K7 c l k
    have h9 := Ra (bAt c l k).1 (l.getD k zStep)
    refine An Try.call20 rfl (fun w hs => Wb (x := (bAt c l k).1) (s := (l.getD k zStep)) hs mm mm mm hI hsw) ?_; intro v84
    refine J.know (p := v84.1.oneCell' = true ∧ v84.2.1.oneCell' = true ∧ v84.2.2.1.oneCell' = true) (fun w hs => ⟨isSlice.one (hs.fact (.head _)), isSlice.one (hs.fact (.tail _ (.head _))), isSlice.one (hs.fact (.tail _ (.tail _ (.head _))))⟩) (fun h12 => ?_)
    obtain ⟨honev841, honev842, honev843⟩ := h12
    refine rn4 ?_
    refine al_ (cs := [.slice none 0 0, .slice none 0 0, .slice none 0 0]) Try.zeroValue33 ?_; intro b17
    refine s_B (cs := [v84.1, v84.2.1, v84.2.2.1]) Try.sizeOf33 ?_
    refine Ga2 ?_
    refine JC.open0 (xs := (Am c l).2.1) (v := v25.2.2.2.1) k mm (by omega) (fun _ => ?_)
    refine Aa ?_
    refine rn8 ?_
    refine ob (I3 rfl rfl (Rw ((Am c l).2.1.getD k zAnswer) (Pu (bAt c l k).1 (l.getD k zStep)) _) (Nd (x := ((Am c l).2.1.getD k zAnswer)) (y := (Pu (bAt c l k).1 (l.getD k zStep))) hans)) ?_
    refine Glc ?_
    refine kp [2, 6, 7, 8, 9, 11, 13, 14, 15, 16, 17, 18, 19, 74, 75, 76, 77, 78, 79, 80, 81, 82, 83, 84, 85, 86, 87, 88, 89, 90, 91, 92, 93, 94, 95, 96, 97, 98] ?_
    refine ZP ?_
    refine cdy ?_ ?_
    ·intro ht98
     refine ZK ?_
     refine s_B (cs := [v84.1, v84.2.1, v84.2.2.1]) Try.sizeOf33 ?_
     refine ZL ?_
     refine ap F8 (hb := fun w hs => by have : maxN = 16777216 := rfl; (try simp only [List.length_cons, List.length_nil]); omega) (k := ?_); intro v102
     refine ZE ?_
     have e1 := Ps (c := c) (l := l) (k := k) (by omega) ht98
     refine Be (k + 1, v84.1, v84.2.1, v84.2.2.1, v102) (by show k + 1 ≤ l.length; omega) (by show l.length - (k + 1) < l.length - k; omega) alT (fun w hs => ?_)
     exact Zf6
    ·intro ht98
     refine ZD ?_
     have e1 := T7 (c := c) (l := l) (k := k) (by omega) ht98
     refine Be (k + 1, cv, hv, fv, dv) (by show k + 1 ≤ l.length; omega) (by show l.length - (k + 1) < l.length - k; omega) alT (fun w hs => ?_)
     exact Zf6
   ·intro ht77
    refine Gl ?_
    have hkl : k = l.length := by omega
    subst hkl
    refine JC.shut (v := dv) pkk ?_
    have h8 := K7 c l l.length
    refine Aa ?_
    refine Ga3 ?_
    refine Zay ?_
    refine Bt (γ := Nat × Value) (fun g => g.1 ≤ (bAt c l l.length).2.length) (fun g => row 66 g.2 (Da ((bAt c l l.length).2.take g.1) p) :: blk b11 33 [cv, hv, fv] :: blk b7 33 [v25.1, v25.2.1, v25.2.2.1] :: L) (fun _ => sl dv (bAt c l l.length).2 :: sl cv (bAt c l l.length).1.cores :: sl hv (bAt c l l.length).1.home :: sl fv (bAt c l l.length).1.frames :: sl v25.1 (Am c l).1.cores :: sl v25.2.1 (Am c l).1.home :: sl v25.2.2.1 (Am c l).1.frames :: sl v25.2.2.2.1 (Am c l).2.1 :: sl v25.2.2.2.2 (Am c l).2.2.1 :: R) (fun g => [(2, vi p), (7, bp b7 0), (9, v25.2.2.2.2), (11, bp b11 0), (13, dv), (14, g.2), (104, dv), (105, vi ((bAt c l l.length).2.length : Int)), (106, vi (g.1 : Int))]) (fun g => (bAt c l l.length).2.length - g.1) (0, .slice none 0 0) (Nat.zero_le _) alT (fun w hs => Ah hs) ?_
    rintro ⟨j, vo⟩ hj
    try simp only at hj ⊢
    have hdl := Og (bAt c l l.length).2 p j
    refine ZB ?_
    refine cdy ?_ ?_
    ·intro ht107
     refine Gl ?_
     refine JC.open0 (xs := (bAt c l l.length).2) (v := dv) j mm (by omega) (fun hdw => ?_)
     refine ZA ?_
     refine al_ (cs := zDone.cells) Try.zeroValue66 ?_; intro b21
     refine s_B (cs := ((bAt c l l.length).2.getD j zDone).cells) Try.sizeOf66 ?_
     refine Gm ?_
     refine Ga4 ?_
     refine cdy ?_ ?_
     ·intro ht113
      refine ZA ?_
      refine li (α := Done) ([((bAt c l l.length).2.getD j zDone)] : List Done) F8 rfl (Ga hdw) ?_; intro v116
      refine ap F8 (hb := fun w hs => by have : maxN = 16777216 := rfl; (try simp only [List.length_cons, List.length_nil]); omega) (k := ?_); intro v117
      refine ZE ?_
      have e1 := Ty (l := (bAt c l l.length).2) (k := j) (by omega) ht113
      refine Be (j + 1, v117) (by show j + 1 ≤ (bAt c l l.length).2.length; omega) (by show (bAt c l l.length).2.length - (j + 1) < (bAt c l l.length).2.length - j; omega) alT (fun w hs => ?_)
      try simp only
      rw [e1]; exact Ah hs
     ·intro ht113
      refine ZD ?_
      have e1 := Tz (l := (bAt c l l.length).2) (k := j) (by omega) ht113
      refine Be (j + 1, vo) (by show j + 1 ≤ (bAt c l l.length).2.length; omega) (by show (bAt c l l.length).2.length - (j + 1) < (bAt c l l.length).2.length - j; omega) alT (fun w hs => ?_)
      exact Zf6
    ·intro ht107
     refine Gl ?_
     have hjl : j = (bAt c l l.length).2.length := by omega
     subst hjl
     refine JC.shut (v := vo) pkk ?_
     refine ZA ?_
     refine An Try.call17 rfl (fun w hs => Hx (a := (Am c l).1) (b := (bAt c l l.length).1) (by rw [h3_]) hs mm mm mm mm mm mm) ?_; intro _u
     refine ZM ?_
     refine An Try.call21 rfl (fun w hs => It (a := (Am c l).2.2.1) (b := (bAt c l l.length).2) (by rw [h3_]) hs mm mm) ?_; intro _u
     refine ZG ?_
     refine An Try.call28 rfl (fun w hs => O2 (l := (bAt c l l.length).2) (p := p) hs mm (by omega) hp) ?_; intro v130
     refine ZaC ?_
     refine An Try.call21 rfl (fun w hs => It (a := Da (bAt c l l.length).2 p) (b := Da ((bAt c l l.length).2.take (bAt c l l.length).2.length) p) (by rw [List.take_length]) hs mm mm) ?_; intro _u
     refine Ga2 ?_
     exact Bk ()
end Go.Proofs.Ytehpekiedfpnkaa
