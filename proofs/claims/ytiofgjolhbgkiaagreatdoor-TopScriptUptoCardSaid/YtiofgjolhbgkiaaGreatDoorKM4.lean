/- This file proves parts of what its law needs: each part is told ahead of it. No conditions. -/
import Derived.Test.YtiofgjolhbgkiaaGreatDoorKM3
import Derived.Test.YtiofgjolhbgkiaaGreatDoorKM2
import Derived.Test.YtiofgjolhbgkiaaGreatDoorKM1
set_option linter.unusedVariables false
set_option linter.unusedSimpArgs false
set_option linter.unusedSectionVars false
set_option maxHeartbeats 1000000
set_option maxRecDepth 8000
namespace Go.Proofs.YtiofgjolhbgkiaaGreatDoor
open Go
variable {L : List Chunk} {R : List Fact} {w : World}
theorem Q5 {P : Program} {n : Nat} {Q : Exit → Act → World → Prop} {L : List Chunk} {R : List Fact} {al : List (Nat × Value)} {cd : Code} {v : Value} {x : Chip} (p : Nat) (hm : sl v x.cores ∈ R) (hp : p < x.cores.length) (k : (cor x p).wait.wf → ∀ u, u.oneCell' = true → JC P n cd Q L (cF v 4 p (Core.cells u (cor x p)) :: sl u (cor x p).lines :: R) al) : JC P n cd Q L R al :=
 JC.open1 p hm hp fun hw u => JC.know (p := u.oneCell' = true) (fun w hs => isSlice.one (hs.fact (.tail _ (.head _)))) (k hw u)
theorem X7 {P : Program} {n : Nat} {Q : Exit → Act → World → Prop} {L : List Chunk} {R : List Fact} {al : List (Nat × Value)} {cd : Code} {v : Value} {x : Chip} (i : Nat) (hm : sl v x.home ∈ R) (hi : i < x.home.length) (k : (ent x i).wf → ∀ u, u.oneCell' = true → JC P n cd Q L (cF v 10 i (Entry.cells u (ent x i)) :: sl u (ent x i).last :: R) al) : JC P n cd Q L R al :=
 JC.open1 i hm hi fun hw u => JC.know (p := u.oneCell' = true) (fun w hs => isSlice.one (hs.fact (.tail _ (.head _)))) (k hw u)
section
variable {P : Program} {n : Nat} {Q : Exit → Act → World → Prop} {Sh : Rho → (Nat → Bool) → List Chunk} {R0 : List Fact} {al0 : List (Nat × Value)}
variable {ops : Array Oper} {i : Nat} {rest : List Oper} {its : List Item} {d : Nat} {x y : Operand} {T ty : TypeId} {pos : String} {aft : Array Edge}
theorem V6 {α : Type} [Enc α] {t e : TypeId} {d sz bytes : Nat} {z : Value} {xs : List α} {ys : Rho → List α} {v : Value} {u : Rho → Value} (he : ElemOf P t e sz z bytes) (hx : ∀ ρ, ev n (Dt its al0 ρ) x = some v) (hy : ∀ ρ, ev n (Dt its al0 ρ) y = some (u ρ)) (hsz : Enc.sz α = sz) (hpos : 0 < sz)
  (hm : ∀ ρ R', Deps ops R0 its i ρ R' → sl (u ρ) (ys ρ) ∈ R') (hb : ∀ ρ, xs.length + (ys ρ).length ≤ maxN)
  (hSh : ∀ ρ (g : Value) S, S i = false → (∀ j, Bef ops j i → S j = true) → (∀ j, Bef ops i j → S j = false) → ∃ L1, (Sh ρ S).Perm (row e v xs :: L1) ∧ (Sh (Rho.set ρ i (Gh.enc g)) (upS S i)).Perm (row e g (xs ++ ys ρ) :: L1))
  (k : DJ P n ops Q Sh R0 al0 (i + 1) rest (⟨i, some d, fun ρ => (Gh.dec (ρ i) : Value), fun _ => [], fun _ => []⟩ :: its)) :
  DJ P n ops Q Sh R0 al0 i (⟨some d, .call { callee := .builtin .append, args := #[x, y], argTypes := #[t, t] }, ty, pos, aft, none⟩ :: rest) its := by
 refine dj ⟨⟨i, some d, fun ρ => (Gh.dec (ρ i) : Value), fun _ => [], fun _ => []⟩, rfl, rfl, Ind.self (h := fun g => (Gh.dec g : Value)), Ind.const _, Ind.const _, ?_, k⟩
 intro ρ S a L' R' w K hS hbef haft hag hdep hbase hst hK
 rw [if_pos (by simp [Region.wanted])]
 left
 unfold Oper.wp
 obtain ⟨L1, p1, _⟩ := hSh ρ undef S hS hbef haft
 have hs' : St (row e v xs :: (L1 ++ L')) R' w := hst.perm (p1.append_right L')
 obtain ⟨v', w', h1, h2⟩ := Jt (ty := ty) he hsz hpos hs' (hm ρ R' ⟨hbase, hdep⟩) (hb ρ)
 have hx' := Ca hag (by simp [Op.operands, Call.operands]) (hx ρ)
 have hy' := Ca hag (by simp [Op.operands, Call.operands]) (hy ρ)
 rw [E1 (w' := w') (v := v') (by rw [hx', hy']; exact h1), Oper.upon_value]
 obtain ⟨L2, q1, q2⟩ := hSh ρ v' S hS hbef haft
 have e2 : (Rho.set ρ i (Gh.enc v')) i = Gh.enc v' := by simp [Rho.set]
 have h3 := h2
 have hL : L1.Perm L2 := (List.perm_cons _).1 (p1.symm.trans q1)
 have := hK (Gh.enc v') w' ((h3.perm ((hL.append_right L').cons _)).perm (by
  refine List.Perm.trans ?_ (q2.symm.append_right L')
  exact List.Perm.refl _))
 simp only [e2, Gh.ok] at this
 exact this
theorem e_litR {α : Type} [Enc α] {t el : TypeId} {sz bytes len : Nat} {z : Value} {parts : List (Nat × Operand)} {vs : Rho → List Value} (xs : Rho → List α) (he : ElemOf P t el sz z bytes) (hsz : Enc.sz α = sz)
  (ha : ∀ ρ, evL n (Dt its al0 ρ) (parts.map (·.2)) = some (vs ρ)) (hidx : parts.map (·.1) = List.range' 0 len) (hlv : ∀ ρ, (vs ρ).length = len) (hsmall : Nat.ble (len * sz) 1000 = true) (hsm2 : Nat.ble len 1000 = true)
  (hrd : ∀ ρ R', Deps ops R0 its i ρ R' → ∀ j, (∀ q ∈ R', q.p j) → RdV (xs ρ) (vs ρ) j) (hxi : Ind ops i xs) (hxs : ∀ ρ g, xs (Rho.set ρ i g) = xs ρ) (hSh : Hz ops Sh i)
  (k : DJ P n ops Q Sh R0 al0 (i + 1) rest (⟨i, some d, fun ρ => (Gh.dec (ρ i) : Value), fun ρ => [sl (Gh.dec (ρ i) : Value) (xs ρ)], fun _ => []⟩ :: its)) :
  DJ P n ops Q Sh R0 al0 i (⟨some d, .buildSlice t len parts.toArray, ty, pos, aft, none⟩ :: rest) its := by
 refine dj ⟨⟨i, some d, fun ρ => (Gh.dec (ρ i) : Value), fun ρ => [sl (Gh.dec (ρ i) : Value) (xs ρ)], fun _ => []⟩, rfl, rfl, Ind.self (h := fun g => (Gh.dec g : Value)), (fun q g ρ hq hn => ?_), Ind.const _, ?_, k⟩
 ·show [sl (Gh.dec ((Rho.set ρ q g) i) : Value) (xs (Rho.set ρ q g))] = [sl (Gh.dec (ρ i) : Value) (xs ρ)]
  rw [hxi q g ρ hq hn]; simp [Rho.set, Ne.symm hq]
 intro ρ S ac L' R' w K hS hbef haft hag hdep hbase hst hK
 rw [if_pos (by simp [Region.wanted])]
 left
 obtain ⟨j, hj, hrj⟩ := hst.ex
 have hrd' := hrd ρ R' ⟨hbase, hdep⟩
 obtain ⟨h1, h2, h3⟩ := (hrd' j hrj).list
 have hlen := hlv ρ
 have hb := Nat.le_of_ble_eq_true hsmall
 have hb2 := Nat.le_of_ble_eq_true hsm2
 have hrun := E4 (vs := vs ρ) he (fun v hv => by rw [h2 v hv, hsz]) (by rw [hlen]; exact hb) w
 have e : (execOp ac.eval ⟨some d, .buildSlice t len parts.toArray, ty, pos, aft, none⟩).run P w = .ok (.value (.slice (some ⟨w.heap.size, 0, none⟩) len len)) (w.alloc (.cells ((vs ρ).flatMap fun v => v.cells.toList).toArray el)) := by
  show (Instr.buildSlice t len (parts.toArray.map fun (i, x) => (i, ac.eval x)) >>= fun v => Pure.pure (Next.value v)).run P w = _
  have hp : (parts.toArray.map fun (i, x) => (i, ac.eval x)) = ((parts.map (·.1)).zip (vs ρ)).toArray := by
   rw [← Ft hag (fun x hx => by simpa [Op.operands] using hx) (ha ρ)]
   simp only [List.map_toArray, List.map_map, List.zip_map', Function.comp_def]
  rw [hp, hidx, Sem.run_bind, ← hlen, hrun]; rfl
 unfold Oper.wp
 rw [e, Oper.upon_value]
 obtain ⟨m, j', hd, hmw, hjw, hst', hr⟩ := hst
 have hnew : St (row el (.slice (some ⟨w.heap.size, 0, none⟩) len len) (xs ρ) :: (Sh ρ S ++ L')) R' (w.alloc (.cells ((vs ρ).flatMap fun v => v.cells.toList).toArray el)) := by
  obtain ⟨g1, g2, g3⟩ := (hrd' j' hr).list
  have hcl : ((vs ρ).flatMap fun v => v.cells.toList).length = len * sz := by rw [g3.len, g1, hlen, hsz]
  exact St.newC hd hmw hjw hst' hr rfl rfl rfl ⟨by rw [g1, hlen]; have : maxN = 16777216 := rfl; omega, .inr ⟨w.heap.size, len, _, _, by rw [g1, hlen], Dv _ _, by rw [g1, hlen]; exact Nat.le_refl _, by unfold maxLen; omega, by rw [hsz]; simpa using hcl, rfl, by
   rw [g1, hlen, hsz, ← hcl, List.toList_toArray, List.take_length]; exact g3⟩⟩
 have e2 : (Rho.set ρ i (Gh.enc (Value.slice (some ⟨w.heap.size, 0, none⟩) len len))) i = Gh.enc (Value.slice (some ⟨w.heap.size, 0, none⟩) len len) := by simp [Rho.set]
 have := hK (Gh.enc (Value.slice (some ⟨w.heap.size, 0, none⟩) len len)) (w.alloc (.cells ((vs ρ).flatMap fun v => v.cells.toList).toArray el))
 simp only [e2, Gh.ok, hxs, hSh ρ _ S hS haft] at this
 exact this hnew.shut
end
structure KV where
 c : Core
 u : Value
instance instEncKV : Enc KV where
 sz := 4
 rd x cs _ := cs = x.c.cells x.u ∧ x.c.wait.wf ∧ x.u.oneCell' = true
 mono _ _ _ _ _ h := h
 len x cs _ h := by rw [h.1]; rfl
 one x cs _ h := by have := h.2.2; rw [h.1]; simp [Core.cells] at this ⊢; refine ⟨this, ?_⟩; simp [Value.oneCell']
def Xk (x : KV) : Chunk := row 120 x.u x.c.lines
def linF (x : KV) : Fact := sl x.u x.c.lines
theorem Oh {L : List Chunk} {w : World} : ∀ (l : List KV) {R : List Fact}, St (l.map Xk ++ L) R w → St L (l.map linF ++ R) w
 | [], _, hs => hs
 | x :: l, R, hs => by
  have h1 : St (row 120 x.u x.c.lines :: (l.map Xk ++ L)) R w := hs
  have h2 := Oh l h1.shut
  exact h2.sub .refl (fun f hf => by
   simp only [List.map_cons, List.cons_append, List.mem_append, List.mem_cons] at hf ⊢
   rcases hf with e | e | e
   ·exact .inr (.inl e)
   ·exact .inl e
   ·exact .inr (.inr e))
theorem Sm {T : TypeId} {v : Value} {l : List KV} (hf : ∀ x ∈ l, linF x ∈ R) (hs : St (row T v l :: L) R w) : St (row T v (l.map KV.c) :: L) R w := by
 obtain ⟨m, j, hd, hm, hj, ⟨m1, m2, hd', h1, h2, hc, hst⟩, hr⟩ := hs
 obtain ⟨rs, r1, r2, r3⟩ := Jf hc
 refine ⟨m, j, hd, hm, hj, ⟨m1, m2, hd', h1, h2, Pq (xs := l.map KV.c) (rs := rs) r1 (by rw [r2]; simp) (fun k e r he hkr => ?_), hst⟩, hr⟩
 exact Zdd
theorem Afz {cv hv fv : Value} {x : Chip} (hs : St (L) R w) (hcv : sl cv x.cores ∈ R) (hhv : sl hv x.home ∈ R) (hfv : sl fv x.frames ∈ R) (hn4 : x.cores.length ≤ 1000) : Calls Tryz.prog 36 [.agg #[cv, hv, fv]].toArray w (Bh (fun g : Value × Value × Value × List KV => .agg #[g.1, g.2.1, g.2.2.1]) (fun g => row 93 g.1 g.2.2.2 :: (g.2.2.2.map Xk ++ L)) (fun g => pr (g.2.2.2.map KV.c = x.cores) :: sl g.2.2.1 x.frames :: sl g.2.1 x.home :: R)) := by
 refine ZaO ?_;intro honec honeh honef
 refine Ag Tryz.func36 rfl Tryz.ntmps36 rfl hs ?_
 clear hs
 refine Zbk ?_;intro b1 b2
 refine Gl ?_
 refine cq_ (blk b2 39 [.slice none 0 0, .slice none 0 0, .slice none 0 0] :: blk b1 39 [cv, hv, fv] :: L) ?_
 refine jd_ (fun ρ S => blk b2 39 [.slice none 0 0, .slice none 0 0, .slice none 0 0] :: blk b1 39 [cv, hv, fv] :: ((bif S 7 then [blk (Gh.dec (γ := Nat) (ρ 7)) 39 (bif S 8 then [.slice none 0 0, (Gh.dec (γ := Value) (ρ 2)), (Gh.dec (γ := Value) (ρ 5))] else [.slice none 0 0, .slice none 0 0, .slice none 0 0])] else []) ++ (L))) ?_
 refine dn2 ?_
 refine Fr (γ := Value) (val := fun v => v) (F := fun v => [sl v x.home]) Tryz.call52 (fun _ => rfl) (fun ρ L R w hd hs => Rj (l := x.home) hs (hd.base mm)) (fun ρ g S hS hA => by have u7 : upS S 2 7 = S 7 := rfl; have u8 : upS S 2 8 = S 8 := rfl; have r5 : Rho.set ρ 2 g 5 = ρ 5 := rfl; have r7 : Rho.set ρ 2 g 7 = ρ 7 := rfl; have h8 : S 8 = false := hA 8 ⟨0, rfl⟩; simp only [u7, u8, r5, r7, h8, cond_false]) ?_
 refine dn2 ?_
 refine Fr (γ := Value) (val := fun v => v) (F := fun v => [sl v x.frames]) Tryz.call53 (fun _ => rfl) (fun ρ L R w hd hs => frz (Q8 (l := x.frames) hs (hd.base mm))) (fun ρ g S hS hA => by have u7 : upS S 5 7 = S 7 := rfl; have u8 : upS S 5 8 = S 8 := rfl; have r2 : Rho.set ρ 5 g 2 = ρ 2 := rfl; have r7 : Rho.set ρ 5 g 7 = ρ 7 := rfl; have h8 : S 8 = false := hA 8 ⟨0, rfl⟩; simp only [u7, u8, r2, r7, h8, cond_false]) ?_
 refine e_pd (v := fun ρ => .agg ([.slice none 0 0, (Gh.dec (γ := Value) (ρ 2)), (Gh.dec (γ := Value) (ρ 5))]).toArray) (fun ρ S R' L' w hd hs => by have h1 : ((Gh.dec (γ := Value) (ρ 2))).oneCell' = true := isSlice.one (hs.fact (hd.dep (it := ⟨2, _, _, _, _⟩) (by repeat (first | exact List.Mem.head _ | refine List.Mem.tail _ ?_)) ⟨9, rfl⟩ (List.Mem.head _))); have h2 : ((Gh.dec (γ := Value) (ρ 5))).oneCell' = true := isSlice.one (hs.fact (hd.dep (it := ⟨5, _, _, _, _⟩) (by repeat (first | exact List.Mem.head _ | refine List.Mem.tail _ ?_)) ⟨9, rfl⟩ (List.Mem.head _))); exact E6 Iv) (Ind.gh2 (h := fun g g' => Value.agg ([.slice none 0 0, (Gh.dec (γ := Value) g), (Gh.dec (γ := Value) g')]).toArray) 2 5 3 rfl rfl) (fun _ _ _ _ _ => rfl) ?_
 refine Jr (cs := [.slice none 0 0, .slice none 0 0, .slice none 0 0]) Tryz.zeroValue39 rfl (fun ρ b S hS hA => ?_) ?_
 ·have ui : upS S 7 7 = true := rfl; have u8 : upS S 7 8 = S 8 := rfl; have r2 : Rho.set ρ 7 (Gh.enc b) 2 = ρ 2 := rfl; have r5 : Rho.set ρ 7 (Gh.enc b) 5 = ρ 5 := rfl; have h8 : S 8 = false := hA 8 ⟨0, rfl⟩; have rs : (Gh.dec (γ := Nat) (Rho.set ρ 7 (Gh.enc b) 7)) = b := rfl
  simp only [ui, hS, u8, r2, r5, h8, rs, cond_true, cond_false, List.nil_append]
  exact ZcQ
 refine es_ 39 0 [7] [] (fun ρ => (Gh.dec (γ := Nat) (ρ 7))) (fun ρ => [.slice none 0 0, .slice none 0 0, .slice none 0 0]) (fun ρ => [.slice none 0 0, (Gh.dec (γ := Value) (ρ 2)), (Gh.dec (γ := Value) (ρ 5))]) Tryz.sizeOf39 (h1 := (fun ρ R w L' hd hs => Ec rfl (Ec (isSlice.one (hs.fact (hd.dep (it := ⟨2, _, _, _, _⟩) (by repeat (first | exact List.Mem.head _ | refine List.Mem.tail _ ?_)) ⟨9, rfl⟩ (List.Mem.head _)))) (Ec (isSlice.one (hs.fact (hd.dep (it := ⟨5, _, _, _, _⟩) (by repeat (first | exact List.Mem.head _ | refine List.Mem.tail _ ?_)) ⟨9, rfl⟩ (List.Mem.head _)))) Ie)))) ?_
 refine dnl ?_; intro ρ
 refine xq_ (blk b2 39 [.slice none 0 0, .slice none 0 0, .slice none 0 0] :: blk b1 39 [cv, hv, fv] :: (blk (Gh.dec (γ := Nat) (ρ 7)) 39 [.slice none 0 0, (Gh.dec (γ := Value) (ρ 2)), (Gh.dec (γ := Value) (ρ 5))] :: L)) ?_
 generalize (Gh.dec (γ := Value) (ρ 2)) = v8
 generalize (Gh.dec (γ := Value) (ρ 5)) = v11
 generalize (Gh.dec (γ := Nat) (ρ 7)) = b3
 refine Gm ?_
 refine Ga4 ?_
 refine JC.rowNil 93 KV ?_
 refine Cn (γ := Nat × Value × List KV) (fun g => g.1 ≤ x.cores.length ∧ g.2.2.map KV.c = x.cores.take g.1) (fun g => row 93 g.2.1 g.2.2 :: blk b3 39 [g.2.1, v8, v11] :: blk b2 39 [.slice none 0 0, .slice none 0 0, .slice none 0 0] :: blk b1 39 [cv, hv, fv] :: (g.2.2.map Xk ++ L)) (fun _ => sl v11 x.frames :: sl v8 x.home :: R) (fun g => [(2, bp b2 0), (3, bp b3 0), (14, cv), (15, vi (x.cores.length : Int)), (16, vi (g.1 : Int))]) (fun g => x.cores.length - g.1) (0, .slice none 0 0, []) ⟨Nat.zero_le _, by simp⟩ alT (fun w hs => Af hs) ?_
 rintro ⟨k, vs, xs⟩ ⟨hk, hxc⟩
 try simp only at hk hxc ⊢
 have hxl : xs.length = k := by
  have := congrArg List.length hxc
  simp at this; omega
 refine ZC ?_
 refine cdy ?_ ?_
 ·intro ht17
  refine Gl ?_
  refine Q5 k (v := cv) mm (by omega) (fun hwp up honep => ?_)
  refine ZA ?_
  refine al_ (cs := [.slice none 0 0, vi 0, vi 0, vi 0]) Tryz.zeroValue93 ?_; intro b5
  refine s_B (cs := Core.cells up (cor x k)) Tryz.sizeOf93 ?_
  refine Gl ?_
  refine cq_ (blk b3 39 [vs, v8, v11] :: row 93 vs xs :: blk b5 93 (Core.cells up (cor x k)) :: blk b2 39 [.slice none 0 0, .slice none 0 0, .slice none 0 0] :: blk b1 39 [cv, hv, fv] :: (xs.map Xk ++ L)) ?_
  refine jd_ (fun ρ S => blk b3 39 (bif S 7 then [(Gh.dec (γ := Value) (ρ 5)), v8, v11] else [vs, v8, v11]) :: (bif S 5 then row 93 (Gh.dec (γ := Value) (ρ 5)) (xs ++ [(⟨cor x k, (Gh.dec (γ := Value) (ρ 3))⟩ : KV)]) else row 93 vs xs) :: blk b5 93 (Core.cells up (cor x k)) :: blk b2 39 [.slice none 0 0, .slice none 0 0, .slice none 0 0] :: blk b1 39 [cv, hv, fv] :: ((xs.map Xk ++ L))) ?_
  refine dn1 ?_
  refine H6 (v := vs) (fun ρ S hS hB hA => by have h7 : S 7 = false := hA 7 ⟨0, rfl⟩; simp only [h7, cond_false]; exact Cp (hc := Bg pkk (by repeat (first | exact rfl | refine Cr rfl ?_))) Tryz.isAgg35) (fun _ _ _ _ _ => rfl) ?_
  refine dn1 ?_
  refine V5 (γ := Value) (val := fun v => .agg (Core.cells v (cor x k)).toArray) (F := fun v => [pr (v.oneCell' = true)]) (C := fun v => [row 120 v (cor x k).lines]) Tryz.call54 (fun _ => rfl) (fun ρ L R w hd hs => Hs (F4 (u := up) (c := cor x k) hs (hd.base mm)) (fun v w hs => ⟨v, rfl, St.pr (A8 .hd hs) hs⟩)) (fun ρ g S hS hA => by have u5 : upS S 3 5 = S 5 := rfl; have u7 : upS S 3 7 = S 7 := rfl; have r5 : Rho.set ρ 3 g 5 = ρ 5 := rfl; have h5 : S 5 = false := hA 5 ⟨0, rfl⟩; simp only [u5, u7, r5, h5, cond_false]) ?_
  refine e_litR (fun ρ => [(⟨cor x k, (Gh.dec (γ := Value) (ρ 3))⟩ : KV)]) Z3 rfl (fun _ => rfl) rfl (fun _ => rfl) rfl rfl (fun ρ R hd j hj => ⟨⟨_, rfl, rfl, hwp, hj (pr (((Gh.dec (γ := Value) (ρ 3))).oneCell' = true)) (hd.dep (it := ⟨3, _, _, _, _⟩) (by repeat (first | exact List.Mem.head _ | refine List.Mem.tail _ ?_)) ⟨9, rfl⟩ (List.Mem.head _))⟩, trivial⟩) (Ind.gh (h := fun g => [(⟨cor x k, Gh.dec (γ := Value) g⟩ : KV)]) 3 0 rfl) (fun _ _ => rfl) (fun _ _ _ _ _ => rfl) ?_
  refine V6 (e := 93) (xs := xs) (ys := fun ρ => [(⟨cor x k, (Gh.dec (γ := Value) (ρ 3))⟩ : KV)]) (v := vs) Z3 (fun _ => rfl) (fun _ => rfl) rfl (by decide) (fun ρ R hd => (hd.dep (it := ⟨4, _, _, _, _⟩) (by repeat (first | exact List.Mem.head _ | refine List.Mem.tail _ ?_)) ⟨9, rfl⟩ (List.Mem.head _))) (fun _ => by have : maxN = 16777216 := rfl; simp only [List.length_cons, List.length_nil]; omega) (fun ρ g S hS hB hA => ?_) ?_
  ·have ui : upS S 5 5 = true := rfl; have u7 : upS S 5 7 = S 7 := rfl; have r3 : Rho.set ρ 5 (Gh.enc g) 3 = ρ 3 := rfl; have h7 : S 7 = false := hA 7 ⟨0, rfl⟩; have rs : (Gh.dec (γ := Value) (Rho.set ρ 5 (Gh.enc g) 5)) = g := rfl
   simp only [ui, hS, u7, r3, h7, rs, cond_true, cond_false]
   exact pex
  refine dn1 ?_
  refine Cy (T0 := 39) (f := 0) (vs := fun ρ => [vs, v8, v11]) (v := fun ρ => (Gh.dec (γ := Value) (ρ 5))) (fun ρ => b3) Tryz.sizeOf35 (fun _ => rfl) (fun _ => rfl) (fun ρ S R w L9 hB hd hs => by have h5 : S 5 = true := hB 5 ⟨9, rfl⟩; simp only [h5, cond_true] at hs; exact A8 pkk hs) (fun _ => rfl) (fun ρ g S hS hB hA => ?_) ?_
  ·have ui : upS S 7 7 = true := rfl; have u5 : upS S 7 5 = S 5 := rfl; have r3 : Rho.set ρ 7 g 3 = ρ 3 := rfl; have r5 : Rho.set ρ 7 g 5 = ρ 5 := rfl
   simp only [ui, hS, u5, r3, r5, cond_true, cond_false]
   exact pex
  refine dnl ?_; intro ρ
  refine JX.conseq (L' := row 120 (Gh.dec (γ := Value) (ρ 3)) (cor x k).lines :: blk b3 39 [(Gh.dec (γ := Value) (ρ 5)), v8, v11] :: row 93 (Gh.dec (γ := Value) (ρ 5)) (xs ++ [(⟨cor x k, (Gh.dec (γ := Value) (ρ 3))⟩ : KV)]) :: blk b5 93 (Core.cells up (cor x k)) :: blk b2 39 [.slice none 0 0, .slice none 0 0, .slice none 0 0] :: blk b1 39 [cv, hv, fv] :: ((xs.map Xk ++ L))) (fun w hs => Af hs) ?_
  generalize (Gh.dec (γ := Value) (ρ 3)) = v23
  generalize (Gh.dec (γ := Value) (ρ 4)) = v24
  generalize (Gh.dec (γ := Value) (ρ 5)) = v25
  refine ZE ?_
  refine Br (k + 1, v25, xs ++ [⟨cor x k, v23⟩]) ⟨by show k + 1 ≤ x.cores.length; omega, by rw [List.map_append, hxc, J4 Fw (by omega)]; rfl⟩ (by show x.cores.length - (k + 1) < x.cores.length - k; omega) alT (fun w hs => ?_)
  try simp only
  have h9 : St (row 93 v25 (xs ++ [⟨cor x k, v23⟩]) :: blk b3 39 [v25, v8, v11] :: blk b2 39 [.slice none 0 0, .slice none 0 0, .slice none 0 0] :: blk b1 39 [cv, hv, fv] :: row 120 v23 (cor x k).lines :: (xs.map Xk ++ L)) (sl v11 x.frames :: sl v8 x.home :: R) w := Af hs
  refine h9.perm (.cons _ (.cons _ (.cons _ (.cons _ ?_))))
  rw [List.map_append, List.append_assoc]
  exact List.perm_middle.symm
 ·intro ht17
  refine Gl ?_
  refine JC.know (p := vs.oneCell' = true) (fun w hs => A8 .hd hs) (fun hone5 => ?_)
  refine JC.know (p := v8.oneCell' = true ∧ v11.oneCell' = true) (fun w hs => ⟨isSlice.one (hs.fact (.tail _ (.head _))), isSlice.one (hs.fact (.head _))⟩) (fun h12 => ?_)
  obtain ⟨hone1, hone2⟩ := h12
  refine ZB ?_
  refine s_B (cs := [vs, v8, v11]) Tryz.sizeOf39 ?_
  refine Gl ?_
  have hkl : k = x.cores.length := by omega
  rw [hkl, List.take_length] at hxc
  exact Sp (vs, v8, v11, xs) Tryz.isAgg39 Tryz.sizeOf39 (hs := fun w hs => St.pr hxc (Af hs))
theorem F2 {v0 : Value} {b : List UInt8} (hs : St L R w) (h0 : sl v0 b ∈ R) : Calls Tryz.prog 85 [v0].toArray w (Bh (fun _ : Unit => vi (Ko b)) (fun _ => L) (fun _ => R)) := by
 have hlen := Bv h0 hs
 refine Ag Tryz.func85 rfl Tryz.ntmps85 rfl hs ?_
 clear hs
 repeat refine C3 ?_
 refine Aa ?_
 refine ZT ?_
 repeat refine C3 ?_
 refine Aa ?_
 refine ZT ?_
 repeat refine C3 ?_
 refine ZN ?_
 refine r_len Tryz.underlying53 rfl (by first | exact Ef pkk | exact D8 mm) ?_
 refine D2 rfl ?_
 refine Zaq ?_
 repeat refine C3 ?_
 refine Fy ?_
 refine Cn (γ := Nat) (fun k => k ≤ b.length) (fun _ => L) (fun _ => R) (fun k => [(0, v0), (6, v0), (7, vi (b.length : Int)), (8, vi (k : Int)), (3, vi ((Lp b k).toNat : Int))]) (fun k => b.length - k) 0 (by omega) ⟨rfl, rfl, rfl, rfl, rfl, trivial⟩ (fun w hs => hs) ?_
 intro k hk
 repeat refine C3 ?_
 refine Aa ?_
 refine Iz rfl rfl Nm ?_
 refine Zaq ?_
 repeat refine C3 ?_
 refine Cb rfl (fun ht9 => ?_) (fun ht9 => ?_)
 ·
  try simp only [decide_eq_true_eq, decide_eq_false_iff_not, beq_iff_eq, bne_iff_ne, beq_eq_false_iff_ne, bne_eq_false_iff_eq, Int.not_lt, Int.not_le, Bool.not_eq_true, ne_eq, Bool.not_eq_eq_eq_not, Bool.not_true, Bool.not_false] at ht9
  refine Hb ?_
  refine A7 ?_
  repeat refine C3 ?_
  refine Fy ?_
  repeat refine C3 ?_
  refine Aa ?_
  first | refine Jx Ee rfl rfl (by first | exact Ef pkk | exact D8 mm) (by first | assumption | omega | (simp only [List.length_nil, List.length_cons, List.length_append, List.length_take, List.length_drop, List.length_set, List.length_replicate]; omega)) ?_ | refine Ic Ee rfl rfl (by first | exact Ef pkk | exact D8 mm) (by first | assumption | omega | (simp only [List.length_nil, List.length_cons, List.length_append, List.length_take, List.length_drop, List.length_set, List.length_replicate]; omega)) (by first | assumption | omega | (simp only [List.length_nil, List.length_cons, List.length_append, List.length_take, List.length_drop, List.length_set, List.length_replicate]; omega)) ?_
  first | refine Ps Tryz.isAgg5 rfl (Bg pkk (by exact rfl)) ?_ | refine Ps Tryz.isAgg5 rfl (Mg pkk (by first | assumption | omega | (simp only [List.length_nil, List.length_cons, List.length_append, List.length_take, List.length_drop, List.length_set, List.length_replicate]; omega))) ?_ | refine Ps Tryz.isAgg5 rfl (Rz mm (by first | assumption | omega | (simp only [List.length_nil, List.length_cons, List.length_append, List.length_take, List.length_drop, List.length_set, List.length_replicate]; omega))) ?_
  refine ZT ?_
  repeat refine C3 ?_
  refine ZN ?_
  refine D2 rfl ?_
  refine r_p (Au Tryz.underlying5 Tryz.underlying3 rfl (Bo _)) rfl ?_
  refine Pr rfl rfl (W3 (s := 8) (by omega) (by have := (b.getD k 0).toNat_lt; omega)) ?_
  refine Iz rfl rfl (Ace (lt63 _) (by have := (b.getD k 0).toNat_lt; omega)) ?_
  refine ZT ?_
  repeat refine C3 ?_
  refine ZN ?_
  refine Zaq ?_
  refine Fy ?_
  refine Cn (γ := Nat) (fun j => j ≤ 8) (fun _ => L) (fun _ => R) (fun j => [(0, v0), (6, v0), (7, vi (b.length : Int)), (8, vi (k : Int)), (17, vi (j : Int)), (3, vi ((Ik j (Lp b k ^^^ (E2 (b.getD k 0) <<< 8))).toNat : Int))]) (fun j => 8 - j) 0 (by omega) ⟨rfl, rfl, rfl, rfl, rfl, congrArg (fun z : Nat => some (vi (z : Int))) (crc_in _ _), trivial⟩ (fun w hs => hs) ?_
  intro j hj
  generalize hx : Ik j (Lp b k ^^^ (E2 (b.getD k 0) <<< 8)) = x
  have hcb : Ik (j + 1) (Lp b k ^^^ (E2 (b.getD k 0) <<< 8)) = H8 x := by rw [← hx]; rfl
  repeat refine C3 ?_
  refine Aa ?_
  refine Iz rfl rfl Nm ?_
  refine Zaq ?_
  repeat refine C3 ?_
  refine Cb rfl (fun ht18 => ?_) (fun ht18 => ?_)
  ·
   try simp only [decide_eq_true_eq, decide_eq_false_iff_not, beq_iff_eq, bne_iff_ne, beq_eq_false_iff_ne, bne_eq_false_iff_eq, Int.not_lt, Int.not_le, Bool.not_eq_true, ne_eq, Bool.not_eq_eq_eq_not, Bool.not_true, Bool.not_false] at ht18
   refine Hb ?_
   refine A7 ?_
   repeat refine C3 ?_
   refine Fy ?_
   repeat refine C3 ?_
   refine ZN ?_
   refine Iz rfl rfl (W6 (b := 32768) (lt63 _) (by omega)) ?_
   refine Iz rfl rfl Aaw ?_
   refine Zaq ?_
   repeat refine C3 ?_
   refine Cb rfl (fun ht21 => ?_) (fun ht21 => ?_)
   ·
    try simp only [decide_eq_true_eq, decide_eq_false_iff_not, beq_iff_eq, bne_iff_ne, beq_eq_false_iff_ne, bne_eq_false_iff_eq, Int.not_lt, Int.not_le, Bool.not_eq_true, ne_eq, Bool.not_eq_eq_eq_not, Bool.not_true, Bool.not_false] at ht21
    replace ht21 : x.toNat &&& 32768 ≠ 0 := by intro h; apply ht21; rw [h]; rfl
    refine ZN ?_
    refine Pr rfl rfl (W3 (s := 1) (by omega) (by have := x.isLt; omega)) ?_
    refine Iz rfl rfl (Ace (b := 4129) (by have := x.isLt; omega) (by omega)) ?_
    refine ZT ?_
    refine ZN ?_
    refine Iz rfl rfl (W6 (b := 65535) (Qs (by have := x.isLt; omega) (by omega)) (by omega)) ?_
    refine Di rfl ?_
    refine J.nil ?_
    refine ZbD ?_
    refine Br (j + 1) (by omega) (by omega) ⟨rfl, rfl, rfl, rfl, rfl, ?_, trivial⟩ (fun w hs => hs)
    rw [hcb]; exact congrArg (fun z : Nat => some (vi (z : Int))) (crc_hi x ht21)
   ·
    try simp only [decide_eq_true_eq, decide_eq_false_iff_not, beq_iff_eq, bne_iff_ne, beq_eq_false_iff_ne, bne_eq_false_iff_eq, Int.not_lt, Int.not_le, Bool.not_eq_true, ne_eq, Bool.not_eq_eq_eq_not, Bool.not_true, Bool.not_false] at ht21
    replace ht21 : x.toNat &&& 32768 = 0 := by omega
    refine ZN ?_
    refine Pr rfl rfl (W3 (s := 1) (by omega) (by have := x.isLt; omega)) ?_
    refine ZT ?_
    refine ZN ?_
    refine Iz rfl rfl (W6 (b := 65535) (by have := x.isLt; omega) (by omega)) ?_
    refine Di rfl ?_
    refine J.nil ?_
    refine ZbD ?_
    refine Br (j + 1) (by omega) (by omega) ⟨rfl, rfl, rfl, rfl, rfl, ?_, trivial⟩ (fun w hs => hs)
    rw [hcb]; exact congrArg (fun z : Nat => some (vi (z : Int))) (crc_lo x ht21)
  ·
   try simp only [decide_eq_true_eq, decide_eq_false_iff_not, beq_iff_eq, bne_iff_ne, beq_eq_false_iff_ne, bne_eq_false_iff_eq, Int.not_lt, Int.not_le, Bool.not_eq_true, ne_eq, Bool.not_eq_eq_eq_not, Bool.not_true, Bool.not_false] at ht18
   refine Jm ?_
   repeat (first | refine Ex ?_ | refine Ha rfl ?_)
   refine Ey ?_
   refine ZbD ?_
   refine Br (k + 1) (by omega) (by omega) ⟨rfl, rfl, rfl, rfl, ?_, trivial⟩ (fun w hs => hs)
   have h8 : j = 8 := by omega
   subst h8
   rw [Sc (by omega), ← hx]; rfl
 ·
  try simp only [decide_eq_true_eq, decide_eq_false_iff_not, beq_iff_eq, bne_iff_ne, beq_eq_false_iff_ne, bne_eq_false_iff_eq, Int.not_lt, Int.not_le, Bool.not_eq_true, ne_eq, Bool.not_eq_eq_eq_not, Bool.not_true, Bool.not_false] at ht9
  refine Jm ?_
  repeat (first | refine Ex ?_ | refine Ha rfl ?_)
  refine Ey ?_
  refine A7 ?_
  repeat refine C3 ?_
  refine ZN ?_
  refine ZT ?_
  refine J0 ?_
  repeat (first | refine Ek ?_ | refine Dq ?_)
  have hkl : k = b.length := by omega
  subst hkl
  rw [sum_vi]
  refine Ax (.inr rfl) (fun B w _ => Uw rfl rfl B w) (fun w hs => ⟨(), ?_, Af hs⟩)
  rfl
theorem J6 {P : Program} {n : Nat} {Q : Exit → Act → World → Prop} {L : List Chunk} {R : List Fact} {al : List (Nat × Value)} {c : Code} {v : Value} {b : List UInt8} (i : Nat) (hm : sl v b ∈ R) (hi : i < b.length) (k : JC P n c Q L (cF v 1 i [vb (b.getD i 0)] :: R) al) : JC P n c Q L R al := JC.open0 (xs := b) i hm hi (fun _ => k)
theorem Pick.perm {L L' : List Chunk} {c : Chunk} (h : Pick L c L') : L.Perm (c :: L') := by
 induction h with
 | hd => exact .refl _
 | tl _ ih => exact (ih.cons _).trans (.swap ..)
theorem b_subE {P : Program} {T : TypeId} {a b r : Int} (h : a - b = r) (h1 : -9223372036854775808 ≤ r) (h2 : r ≤ 9223372036854775807) (w : World) : (binOp .sub T (vi a) (vi b)).run P w = .ok (vi r) w := by subst h; exact b_sub h1 h2 w
theorem C1 {L1 : List Chunk} {n : Int} {c : Config} {b2 : Nat} (hs : St (L) R w) (hp : Pick L (blk b2 23 c.cells) L1) : Calls Tryz.prog 110 [vi n, bp b2 0].toArray w (Bh (fun _ : Unit => .bool (decide (0 ≤ n ∧ n ≤ c.cores))) (fun _ => L) (fun _ => R)) := by
 refine Ag Tryz.func110 rfl Tryz.ntmps110 rfl hs ?_
 clear hs
 refine ZC ?_
 refine JC.pick hp ?_
 rcases (show (n < 0) ∨ (0 ≤ n ∧ n ≤ c.cores) ∨ (0 ≤ n ∧ c.cores < n) from by omega) with hc | hc | hc
 ·refine ZB ?_
  refine Eo ?_
  refine Ga7 ?_
  exact Zdb
 ·refine ZB ?_
  refine J8 ?_
  refine ZF ?_
  refine oleqT ?_
  refine Ga2 ?_
  exact Zdb
 ·refine ZB ?_
  refine J8 ?_
  refine ZF ?_
  refine oleqF ?_
  refine Ga2 ?_
  exact Zdb
theorem Y1 {c : Config} {m : Msg} (hs : St (L) R w) : Calls Tryz.prog 86 [.agg c.cells.toArray, .agg m.cells.toArray].toArray w (Bh (fun _ : Unit => vi (Bi c m)) (fun _ => L) (fun _ => R)) := by
 refine Ag Tryz.func86 rfl Tryz.ntmps86 rfl hs ?_
 clear hs
 refine Gm ?_
 refine bx ?_; intro b2
 refine bx ?_; intro b3
 refine Gb1 ?_
 refine Jh (vs := [bp b2 0]) rfl ?_
 refine Ga1 ?_
 refine kp [2, 3, 4, 5, 7, 8, 9, 10, 11, 12, 13, 14, 15] ?_
 refine Ff 7 (.bool (decide ((m.kind < 1) ∨ (11 < m.kind)))) ?_ ?_
 ·rcases (show ((m.kind < 1)) ∨ (¬ (m.kind < 1) ∧ (11 < m.kind)) ∨ (¬ (m.kind < 1) ∧ ¬ (11 < m.kind)) from by omega) with hm | hm | hm
  ·refine Zay ?_
   refine Ga6 ?_
   exact ZcT
  ·refine ZaV ?_
   refine Ga2 ?_
   exact ZcT
  ·refine Zah ?_
   refine Ga2 ?_
   exact Zda
 ·refine A7 ?_
  first | (refine cdx (p := ?p1) (hd := ?d1) ?e1 ?_ ?_; case e1 => exact rfl) | (refine Cb (b := ?b1) ?e1 ?_ ?_; case e1 => exact rfl)
  ·intro ht7
   refine ZC ?_
   have er : Bi c m = 1 := by unfold Bi; rw [if_pos (by omega)]
   exact Zdz
  ·intro ht7
   refine Gl ?_
   refine ZbU ?_
   refine Ff 16 (.bool (decide (m.src < 0 ∨ c.cores < m.src ∨ m.dst < 0 ∨ c.cores < m.dst ∨ m.line < 0 ∨ c.lines ≤ m.line ∨ m.serial < 0 ∨ 65535 < m.serial ∨ m.turn < 0 ∨ 65535 < m.turn ∨ m.value < 0 ∨ 255 < m.value))) ?_ ?_
   ·rcases (show ((¬ (0 ≤ m.src ∧ m.src ≤ c.cores))) ∨ ((0 ≤ m.src ∧ m.src ≤ c.cores) ∧ (¬ (0 ≤ m.dst ∧ m.dst ≤ c.cores))) ∨ ((0 ≤ m.src ∧ m.src ≤ c.cores) ∧ (0 ≤ m.dst ∧ m.dst ≤ c.cores) ∧ (m.line < 0)) ∨ ((0 ≤ m.src ∧ m.src ≤ c.cores) ∧ (0 ≤ m.dst ∧ m.dst ≤ c.cores) ∧ ¬ (m.line < 0) ∧ (c.lines ≤ m.line)) ∨ ((0 ≤ m.src ∧ m.src ≤ c.cores) ∧ (0 ≤ m.dst ∧ m.dst ≤ c.cores) ∧ ¬ (m.line < 0) ∧ ¬ (c.lines ≤ m.line) ∧ (m.serial < 0)) ∨ ((0 ≤ m.src ∧ m.src ≤ c.cores) ∧ (0 ≤ m.dst ∧ m.dst ≤ c.cores) ∧ ¬ (m.line < 0) ∧ ¬ (c.lines ≤ m.line) ∧ ¬ (m.serial < 0) ∧ (65535 < m.serial)) ∨ ((0 ≤ m.src ∧ m.src ≤ c.cores) ∧ (0 ≤ m.dst ∧ m.dst ≤ c.cores) ∧ ¬ (m.line < 0) ∧ ¬ (c.lines ≤ m.line) ∧ ¬ (m.serial < 0) ∧ ¬ (65535 < m.serial) ∧ (m.turn < 0)) ∨ ((0 ≤ m.src ∧ m.src ≤ c.cores) ∧ (0 ≤ m.dst ∧ m.dst ≤ c.cores) ∧ ¬ (m.line < 0) ∧ ¬ (c.lines ≤ m.line) ∧ ¬ (m.serial < 0) ∧ ¬ (65535 < m.serial) ∧ ¬ (m.turn < 0) ∧ (65535 < m.turn)) ∨ ((0 ≤ m.src ∧ m.src ≤ c.cores) ∧ (0 ≤ m.dst ∧ m.dst ≤ c.cores) ∧ ¬ (m.line < 0) ∧ ¬ (c.lines ≤ m.line) ∧ ¬ (m.serial < 0) ∧ ¬ (65535 < m.serial) ∧ ¬ (m.turn < 0) ∧ ¬ (65535 < m.turn) ∧ (m.value < 0)) ∨ ((0 ≤ m.src ∧ m.src ≤ c.cores) ∧ (0 ≤ m.dst ∧ m.dst ≤ c.cores) ∧ ¬ (m.line < 0) ∧ ¬ (c.lines ≤ m.line) ∧ ¬ (m.serial < 0) ∧ ¬ (65535 < m.serial) ∧ ¬ (m.turn < 0) ∧ ¬ (65535 < m.turn) ∧ ¬ (m.value < 0) ∧ (255 < m.value)) ∨ ((0 ≤ m.src ∧ m.src ≤ c.cores) ∧ (0 ≤ m.dst ∧ m.dst ≤ c.cores) ∧ ¬ (m.line < 0) ∧ ¬ (c.lines ≤ m.line) ∧ ¬ (m.serial < 0) ∧ ¬ (65535 < m.serial) ∧ ¬ (m.turn < 0) ∧ ¬ (65535 < m.turn) ∧ ¬ (m.value < 0) ∧ ¬ (255 < m.value)) from by grind) with hm | hm | hm | hm | hm | hm | hm | hm | hm | hm | hm
    ·refine ZI ?_
     refine Bt (γ := Unit) (val := fun _ => .bool (decide (0 ≤ m.src ∧ m.src ≤ c.cores))) (caps := [bp b2 0]) (vs := [vi m.src]) rfl Tryz.call110 rfl (fun w hs => C1 hs pkk) ?_; intro _
     refine ob (Abr rfl (decide_eq_false (by omega))) ?_
     refine rn32 ?_
     refine Ga18 ?_
     refine A2 ?_ (fun w hs => hs)
     exact meT
    ·refine Zae ?_
     refine Bt (γ := Unit) (val := fun _ => .bool (decide (0 ≤ m.src ∧ m.src ≤ c.cores))) (caps := [bp b2 0]) (vs := [vi m.src]) rfl Tryz.call110 rfl (fun w hs => C1 hs pkk) ?_; intro _
     refine ZM ?_
     refine Bt (γ := Unit) (val := fun _ => .bool (decide (0 ≤ m.dst ∧ m.dst ≤ c.cores))) (caps := [bp b2 0]) (vs := [vi m.dst]) rfl Tryz.call110 rfl (fun w hs => C1 hs pkk) ?_; intro _
     refine gy ?_
     refine ob (Abr rfl (decide_eq_false (by omega))) ?_
     refine rn32 ?_
     refine Ga12 ?_
     refine A2 ?_ (fun w hs => hs)
     exact meT
    ·refine Zae ?_
     refine Bt (γ := Unit) (val := fun _ => .bool (decide (0 ≤ m.src ∧ m.src ≤ c.cores))) (caps := [bp b2 0]) (vs := [vi m.src]) rfl Tryz.call110 rfl (fun w hs => C1 hs pkk) ?_; intro _
     refine ZM ?_
     refine Bt (γ := Unit) (val := fun _ => .bool (decide (0 ≤ m.dst ∧ m.dst ≤ c.cores))) (caps := [bp b2 0]) (vs := [vi m.dst]) rfl Tryz.call110 rfl (fun w hs => C1 hs pkk) ?_; intro _
     refine gy ?_
     refine ZM ?_
     refine Fm ?_
     refine rn32 ?_
     refine Ga7 ?_
     refine A2 ?_ (fun w hs => hs)
     exact meT
    ·refine Zae ?_
     refine Bt (γ := Unit) (val := fun _ => .bool (decide (0 ≤ m.src ∧ m.src ≤ c.cores))) (caps := [bp b2 0]) (vs := [vi m.src]) rfl Tryz.call110 rfl (fun w hs => C1 hs pkk) ?_; intro _
     refine ZM ?_
     refine Bt (γ := Unit) (val := fun _ => .bool (decide (0 ≤ m.dst ∧ m.dst ≤ c.cores))) (caps := [bp b2 0]) (vs := [vi m.dst]) rfl Tryz.call110 rfl (fun w hs => C1 hs pkk) ?_; intro _
     refine gy ?_
     refine ZM ?_
     refine Bj ?_
     refine ZL ?_
     refine J8 ?_
     refine Ga32 ?_
     refine A2 ?_ (fun w hs => hs)
     exact meT
    ·refine Zae ?_
     refine Bt (γ := Unit) (val := fun _ => .bool (decide (0 ≤ m.src ∧ m.src ≤ c.cores))) (caps := [bp b2 0]) (vs := [vi m.src]) rfl Tryz.call110 rfl (fun w hs => C1 hs pkk) ?_; intro _
     refine ZM ?_
     refine Bt (γ := Unit) (val := fun _ => .bool (decide (0 ≤ m.dst ∧ m.dst ≤ c.cores))) (caps := [bp b2 0]) (vs := [vi m.dst]) rfl Tryz.call110 rfl (fun w hs => C1 hs pkk) ?_; intro _
     refine gy ?_
     refine ZM ?_
     refine Zag ?_
     refine ZF ?_
     refine Fm ?_
     refine Ga27 ?_
     refine A2 ?_ (fun w hs => hs)
     exact meT
    ·refine Zae ?_
     refine Bt (γ := Unit) (val := fun _ => .bool (decide (0 ≤ m.src ∧ m.src ≤ c.cores))) (caps := [bp b2 0]) (vs := [vi m.src]) rfl Tryz.call110 rfl (fun w hs => C1 hs pkk) ?_; intro _
     refine ZM ?_
     refine Bt (γ := Unit) (val := fun _ => .bool (decide (0 ≤ m.dst ∧ m.dst ≤ c.cores))) (caps := [bp b2 0]) (vs := [vi m.dst]) rfl Tryz.call110 rfl (fun w hs => C1 hs pkk) ?_; intro _
     refine gy ?_
     refine ZM ?_
     refine Zag ?_
     refine Za4 ?_
     refine J7 ?_
     refine Ga22 ?_
     refine A2 ?_ (fun w hs => hs)
     exact meT
    ·refine Zae ?_
     refine Bt (γ := Unit) (val := fun _ => .bool (decide (0 ≤ m.src ∧ m.src ≤ c.cores))) (caps := [bp b2 0]) (vs := [vi m.src]) rfl Tryz.call110 rfl (fun w hs => C1 hs pkk) ?_; intro _
     refine ZM ?_
     refine Bt (γ := Unit) (val := fun _ => .bool (decide (0 ≤ m.dst ∧ m.dst ≤ c.cores))) (caps := [bp b2 0]) (vs := [vi m.dst]) rfl Tryz.call110 rfl (fun w hs => C1 hs pkk) ?_; intro _
     refine ZaS ?_
     refine ZF ?_
     refine Fm ?_
     refine Ga17 ?_
     refine A2 ?_ (fun w hs => hs)
     exact meT
    ·refine Zae ?_
     refine Bt (γ := Unit) (val := fun _ => .bool (decide (0 ≤ m.src ∧ m.src ≤ c.cores))) (caps := [bp b2 0]) (vs := [vi m.src]) rfl Tryz.call110 rfl (fun w hs => C1 hs pkk) ?_; intro _
     refine ZM ?_
     refine Bt (γ := Unit) (val := fun _ => .bool (decide (0 ≤ m.dst ∧ m.dst ≤ c.cores))) (caps := [bp b2 0]) (vs := [vi m.dst]) rfl Tryz.call110 rfl (fun w hs => C1 hs pkk) ?_; intro _
     refine ZaS ?_
     refine Za4 ?_
     refine J7 ?_
     refine Ga12 ?_
     refine A2 ?_ (fun w hs => hs)
     exact meT
    ·refine Zae ?_
     refine Bt (γ := Unit) (val := fun _ => .bool (decide (0 ≤ m.src ∧ m.src ≤ c.cores))) (caps := [bp b2 0]) (vs := [vi m.src]) rfl Tryz.call110 rfl (fun w hs => C1 hs pkk) ?_; intro _
     refine ZM ?_
     refine Bt (γ := Unit) (val := fun _ => .bool (decide (0 ≤ m.dst ∧ m.dst ≤ c.cores))) (caps := [bp b2 0]) (vs := [vi m.dst]) rfl Tryz.call110 rfl (fun w hs => C1 hs pkk) ?_; intro _
     refine ZaS ?_
     refine Zat ?_
     refine ZF ?_
     refine Fm ?_
     refine Ga7 ?_
     refine A2 ?_ (fun w hs => hs)
     exact meT
    ·refine Zae ?_
     refine Bt (γ := Unit) (val := fun _ => .bool (decide (0 ≤ m.src ∧ m.src ≤ c.cores))) (caps := [bp b2 0]) (vs := [vi m.src]) rfl Tryz.call110 rfl (fun w hs => C1 hs pkk) ?_; intro _
     refine ZM ?_
     refine Bt (γ := Unit) (val := fun _ => .bool (decide (0 ≤ m.dst ∧ m.dst ≤ c.cores))) (caps := [bp b2 0]) (vs := [vi m.dst]) rfl Tryz.call110 rfl (fun w hs => C1 hs pkk) ?_; intro _
     refine ZaS ?_
     refine Zat ?_
     refine Za4 ?_
     refine J7 ?_
     refine Ga2 ?_
     refine A2 ?_ (fun w hs => hs)
     exact meT
    ·refine Zae ?_
     refine Bt (γ := Unit) (val := fun _ => .bool (decide (0 ≤ m.src ∧ m.src ≤ c.cores))) (caps := [bp b2 0]) (vs := [vi m.src]) rfl Tryz.call110 rfl (fun w hs => C1 hs pkk) ?_; intro _
     refine ZM ?_
     refine Bt (γ := Unit) (val := fun _ => .bool (decide (0 ≤ m.dst ∧ m.dst ≤ c.cores))) (caps := [bp b2 0]) (vs := [vi m.dst]) rfl Tryz.call110 rfl (fun w hs => C1 hs pkk) ?_; intro _
     refine ZaS ?_
     refine Zat ?_
     refine Zat ?_
     refine Ga2 ?_
     refine A2 ?_ (fun w hs => hs)
     exact meF
   ·refine A7 ?_
    first | (refine cdx (p := ?p2) (hd := ?d2) ?e2 ?_ ?_; case e2 => exact rfl) | (refine Cb (b := ?b2) ?e2 ?_ ?_; case e2 => exact rfl)
    ·intro ht16
     refine Gl ?_
     refine kp [2, 3, 4] ?_
     refine Aa ?_
     refine Ga1 ?_
     have er : Bi c m = 3 := by unfold Bi; rw [if_neg (by omega), if_pos ht16]
     exact Zdz
    ·intro ht16
     refine Gl ?_
     refine kp [2, 3, 4, 71, 72, 73, 74, 75, 76, 77, 78, 79, 80, 81, 82] ?_
     refine Aa ?_
     refine rn10 ?_
     refine ob (p_bool rfl rfl (Aaz Tryz.underlying4)) ?_
     refine Ga1 ?_
     refine Cb (b := ?b3) ?e3 ?_ ?_; case e3 => exact rfl
     ·intro ht71
      refine ZC ?_
      have er : Bi c m = 6 := by unfold Bi; rw [if_neg (by omega), if_neg ht16, if_pos (decide_eq_decide.1 (beq_iff_eq.1 ht71))]
      exact Zdz
     ·intro ht71
      refine ZC ?_
      have er : Bi c m = 0 := by unfold Bi; rw [if_neg (by omega), if_neg ht16, if_neg (fun h => by rw [beq_iff_eq.2 (decide_eq_decide.2 h)] at ht71; cases ht71)]
      exact Zdz
theorem Rn {v1 : Value} {b : List UInt8} {c : Config} (hs : St (L) R w) (h1 : sl v1 b ∈ R) : Calls Tryz.prog 60 [.agg c.cells.toArray, v1].toArray w (Bh (fun _ : Unit => .tuple #[.agg (Ae c b).1.cells.toArray, vi (Ae c b).2]) (fun _ => L) (fun _ => R)) := by
 have hlen := Bv h1 hs
 have B : ∀ i, (b.getD i 0).toNat < 256 := fun i => (b.getD i 0).toNat_lt
 refine Ag Tryz.func60 rfl Tryz.ntmps60 rfl hs ?_
 clear hs
 refine Gm ?_
 refine bx ?_; intro b2
 refine al_ (cs := zMsg.cells) Tryz.zeroValue128 ?_; intro b4
 refine Gb1 ?_
 refine Ga3 ?_
 refine cdy ?_ ?_
 ·intro ht11
  refine Gm ?_
  refine Zbn ?_
  have er : Ae c b = (zMsg, 2) := by
   unfold Ae
   rw [if_pos (by omega)]
  exact Zdy
 ·intro ht11
  refine Gl ?_
  have B0 := B 0; have B1 := B 1; have B2 := B 2; have B3 := B 3; have B4 := B 4; have B5 := B 5; have B6 := B 6; have B7 := B 7; have B8 := B 8; have B9 := B 9; have B10 := B 10; have B11 := B 11
  refine ZA ?_
  refine ob (Ai rfl rfl (b_subE (r := ((10 : Nat) : Int)) (by omega) (by omega) (by omega))) ?_
  refine Ga1 ?_
  refine J6 (v := v1) (b := b) 10 mm (by omega) ?_
  refine J6 (v := v1) (b := b) 11 mm (by omega) ?_
  refine Zak ?_
  refine dj ?_
  refine Z6 (α := UInt8) (xs := b) (lo := 0) (hi := 10) Ee (fun _ => rfl) mm (fun _ => rfl) (fun _ => rfl) (by omega) (by omega) (fun _ _ _ _ => rfl) ?_
  refine dj ?_
  refine Acb (γ := Unit) (val := fun _ => vi (Ko (b.take 10))) (F := fun _ => []) (C := fun _ => []) Tryz.call85 (fun _ => rfl) (fun _ _ _ _ => rfl) (fun ρ L R w hd hs => F2 hs (hd.dep (it := ⟨2, _, _, _, _⟩) (by repeat (first | exact List.Mem.head _ | refine List.Mem.tail _ ?_)) ⟨9, rfl⟩ (List.Mem.head _))) ?_
  refine dn2 ?_
  refine djc (fun _ _ => I0 (i := 10) Ee) ?_
  refine dj ?_
  first | refine dc (fun _ _ => Cp Tryz.isAgg5) ?_ | refine dp (fun _ _ => Cp Tryz.isAgg5) ?_
  refine dj ?_
  first | refine dc (fun _ _ => Au Tryz.underlying5 Tryz.underlying3 rfl (Bo _)) ?_ | refine dp (fun _ _ => Au Tryz.underlying5 Tryz.underlying3 rfl (Bo _)) ?_
  refine djc (fun _ _ => Ai rfl rfl (Nk (by omega) (by omega))) ?_
  refine dn2 ?_
  refine dj ?_
  refine dc (fun _ _ => Ai rfl rfl (v := vi ((11 : Nat) : Int)) (b_addN (a := 10) (b := 1) (by omega))) ?_
  refine djc (fun _ _ => I0 (i := 11) Ee) ?_
  refine dj ?_
  first | refine dc (fun _ _ => Cp Tryz.isAgg5) ?_ | refine dp (fun _ _ => Cp Tryz.isAgg5) ?_
  refine dj ?_
  first | refine dc (fun _ _ => Au Tryz.underlying5 Tryz.underlying3 rfl (Bo _)) ?_ | refine dp (fun _ _ => Au Tryz.underlying5 Tryz.underlying3 rfl (Bo _)) ?_
  refine djc (fun _ _ => Ai rfl rfl (Qm (by omega) (by omega) (by omega) (by omega))) ?_
  refine dj ?_
  first | refine dc (fun _ _ => Fl T4) ?_ | refine dp (fun _ _ => Fl T4) ?_
  refine dnl ?_; intro ρ
  refine Gl ?_
  refine cdy ?_ ?_
  ·intro ht33
   refine Gm ?_
   refine Zbn ?_
   have er : Ae c b = (zMsg, 7) := by
    unfold Ae
    rw [if_neg (by omega), if_pos (by show Ko (b.take 10) ≠ _; unfold at8; omega)]
   exact Zdy
  ·intro ht33
   refine Gl ?_
   refine J6 (v := v1) (b := b) 8 mm (by omega) ?_
   refine J6 (v := v1) (b := b) 9 mm (by omega) ?_
   refine ZB ?_
   refine ob (I0 (i := 8) Ee) ?_
   refine rn3 ?_
   refine jgx (t := 39) (p := ?p3) (hd := ?d3) ?e3 ?_ ?_; case e3 => exact rfl
   ·intro ht39
    refine Gc5 ?_
    exact Zdc
   ·intro ht39
    refine rn1 ?_
    refine gy ?_
    refine ob (I0 (i := 9) Ee) ?_
    refine Ga3 ?_
    refine cdy ?_ ?_
    ·intro ht44
     refine Gl ?_
     exact Zdc
    ·intro ht44
     refine Gl ?_
     refine J6 (v := v1) (b := b) 0 mm (by omega) ?_
     refine J6 (v := v1) (b := b) 1 mm (by omega) ?_
     refine J6 (v := v1) (b := b) 2 mm (by omega) ?_
     refine J6 (v := v1) (b := b) 3 mm (by omega) ?_
     refine J6 (v := v1) (b := b) 4 mm (by omega) ?_
     refine J6 (v := v1) (b := b) 5 mm (by omega) ?_
     refine J6 (v := v1) (b := b) 6 mm (by omega) ?_
     refine J6 (v := v1) (b := b) 7 mm (by omega) ?_
     refine kp [1, 2, 4, 5, 7, 46, 47, 48, 49, 50, 51, 52, 53, 54, 55, 56, 57, 58, 59, 60, 61, 62, 63, 64, 65, 66, 67, 68, 69, 70, 71, 72, 73, 74, 75, 76, 77, 78, 79, 80, 81, 82, 83, 84, 85, 86, 87, 88, 89, 90, 91, 92] ?_
     refine cq_ (blk b4 128 zMsg.cells :: blk b2 23 c.cells :: L) ?_
     refine jd_ (fun ρ S => blk b4 128 zMsg.cells :: blk b2 23 c.cells :: ((bif S 47 then [blk (Gh.dec (γ := Nat) (ρ 47)) 128 (bif S 48 then (Hx b).cells else zMsg.cells)] else []) ++ (L))) ?_
     refine dn1 ?_
     first | refine epc (fun _ _ => I0 (i := 0) Ee) ?_ | refine epp (fun _ _ => I0 (i := 0) Ee) ?_
     first | refine epc (fun _ _ => Cp Tryz.isAgg5) ?_ | refine epp (fun _ _ => Cp Tryz.isAgg5) ?_
     first | refine epc (fun _ _ => Au Tryz.underlying5 Tryz.underlying3 rfl (Bo _)) ?_ | refine epp (fun _ _ => Au Tryz.underlying5 Tryz.underlying3 rfl (Bo _)) ?_
     refine dn1 ?_
     first | refine epc (fun _ _ => I0 (i := 1) Ee) ?_ | refine epp (fun _ _ => I0 (i := 1) Ee) ?_
     first | refine epc (fun _ _ => Cp Tryz.isAgg5) ?_ | refine epp (fun _ _ => Cp Tryz.isAgg5) ?_
     refine epc (fun _ _ => Ai rfl rfl Agl) ?_
     refine epc (fun _ _ => Au Tryz.underlying5 Tryz.underlying3 rfl (Ts _)) ?_
     refine dn1 ?_
     first | refine epc (fun _ _ => I0 (i := 1) Ee) ?_ | refine epp (fun _ _ => I0 (i := 1) Ee) ?_
     first | refine epc (fun _ _ => Cp Tryz.isAgg5) ?_ | refine epp (fun _ _ => Cp Tryz.isAgg5) ?_
     refine epc (fun _ _ => Ai rfl rfl Abb) ?_
     refine epc (fun _ _ => Au Tryz.underlying5 Tryz.underlying3 rfl (Tr _)) ?_
     refine dn1 ?_
     first | refine epc (fun _ _ => I0 (i := 2) Ee) ?_ | refine epp (fun _ _ => I0 (i := 2) Ee) ?_
     first | refine epc (fun _ _ => Cp Tryz.isAgg5) ?_ | refine epp (fun _ _ => Cp Tryz.isAgg5) ?_
     first | refine epc (fun _ _ => Au Tryz.underlying5 Tryz.underlying3 rfl (Bo _)) ?_ | refine epp (fun _ _ => Au Tryz.underlying5 Tryz.underlying3 rfl (Bo _)) ?_
     refine dn1 ?_
     first | refine epc (fun _ _ => I0 (i := 3) Ee) ?_ | refine epp (fun _ _ => I0 (i := 3) Ee) ?_
     first | refine epc (fun _ _ => Cp Tryz.isAgg5) ?_ | refine epp (fun _ _ => Cp Tryz.isAgg5) ?_
     first | refine epc (fun _ _ => Au Tryz.underlying5 Tryz.underlying3 rfl (Bo _)) ?_ | refine epp (fun _ _ => Au Tryz.underlying5 Tryz.underlying3 rfl (Bo _)) ?_
     refine epc (fun _ _ => Ai rfl rfl (Nk (by omega) (by omega))) ?_
     refine dn1 ?_
     first | refine epc (fun _ _ => I0 (i := 4) Ee) ?_ | refine epp (fun _ _ => I0 (i := 4) Ee) ?_
     first | refine epc (fun _ _ => Cp Tryz.isAgg5) ?_ | refine epp (fun _ _ => Cp Tryz.isAgg5) ?_
     first | refine epc (fun _ _ => Au Tryz.underlying5 Tryz.underlying3 rfl (Bo _)) ?_ | refine epp (fun _ _ => Au Tryz.underlying5 Tryz.underlying3 rfl (Bo _)) ?_
     refine epc (fun _ _ => Ai rfl rfl (Qm (by omega) (by omega) (by omega) (by omega))) ?_
     refine dn1 ?_
     first | refine epc (fun _ _ => I0 (i := 5) Ee) ?_ | refine epp (fun _ _ => I0 (i := 5) Ee) ?_
     first | refine epc (fun _ _ => Cp Tryz.isAgg5) ?_ | refine epp (fun _ _ => Cp Tryz.isAgg5) ?_
     first | refine epc (fun _ _ => Au Tryz.underlying5 Tryz.underlying3 rfl (Bo _)) ?_ | refine epp (fun _ _ => Au Tryz.underlying5 Tryz.underlying3 rfl (Bo _)) ?_
     refine epc (fun _ _ => Ai rfl rfl (Nk (by omega) (by omega))) ?_
     refine dn1 ?_
     first | refine epc (fun _ _ => I0 (i := 6) Ee) ?_ | refine epp (fun _ _ => I0 (i := 6) Ee) ?_
     first | refine epc (fun _ _ => Cp Tryz.isAgg5) ?_ | refine epp (fun _ _ => Cp Tryz.isAgg5) ?_
     first | refine epc (fun _ _ => Au Tryz.underlying5 Tryz.underlying3 rfl (Bo _)) ?_ | refine epp (fun _ _ => Au Tryz.underlying5 Tryz.underlying3 rfl (Bo _)) ?_
     refine epc (fun _ _ => Ai rfl rfl (Qm (by omega) (by omega) (by omega) (by omega))) ?_
     refine dn1 ?_
     first | refine epc (fun _ _ => I0 (i := 7) Ee) ?_ | refine epp (fun _ _ => I0 (i := 7) Ee) ?_
     first | refine epc (fun _ _ => Cp Tryz.isAgg5) ?_ | refine epp (fun _ _ => Cp Tryz.isAgg5) ?_
     first | refine epc (fun _ _ => Au Tryz.underlying5 Tryz.underlying3 rfl (Bo _)) ?_ | refine epp (fun _ _ => Au Tryz.underlying5 Tryz.underlying3 rfl (Bo _)) ?_
     refine dn1 ?_
     first | refine epc (fun _ _ => I0 (i := 8) Ee) ?_ | refine epp (fun _ _ => I0 (i := 8) Ee) ?_
     first | refine epc (fun _ _ => Cp Tryz.isAgg5) ?_ | refine epp (fun _ _ => Cp Tryz.isAgg5) ?_
     first | refine epc (fun _ _ => Fl T6) ?_ | refine epp (fun _ _ => Fl T6) ?_
     first | refine epc (fun _ _ => Du Cv) ?_ | refine epc (fun _ _ => E6 Cv) ?_ | refine epp (fun _ _ => Du Cv) ?_ | refine epp (fun _ _ => E6 Cv) ?_
     refine Jr (cs := zMsg.cells) Tryz.zeroValue128 rfl (fun ρ b S hS hA => ?_) ?_
     ·have ui : upS S 47 47 = true := rfl; have u48 : upS S 47 48 = S 48 := rfl; have h48 : S 48 = false := hA 48 ⟨0, rfl⟩; have rs : (Gh.dec (γ := Nat) (Rho.set ρ 47 (Gh.enc b) 47)) = b := rfl
      simp only [ui, hS, u48, h48, rs, cond_true, cond_false, List.nil_append]
      exact ZcQ
     refine es_ 128 0 [47] [] (fun ρ => (Gh.dec (γ := Nat) (ρ 47))) (fun ρ => zMsg.cells) (fun ρ => (Hx b).cells) Tryz.sizeOf128 ?_
     refine dnl ?_; intro ρ
     refine xq_ (blk b4 128 zMsg.cells :: blk b2 23 c.cells :: (blk (Gh.dec (γ := Nat) (ρ 47)) 128 (Hx b).cells :: L)) ?_
     generalize (Gh.dec (γ := Nat) (ρ 47)) = b7
     refine Gl ?_
     refine kp [2, 4, 5, 7, 8, 93, 94, 95] ?_
     refine ZA ?_
     refine Aj Tryz.call86 rfl (fun w hs => Y1 (c := c) (m := Hx b) hs) ?_; intro _
     refine ZK ?_
     refine cdy ?_ ?_
     ·intro ht97
      refine Gm ?_
      refine ob (Du (cs := zMsg.cells) Cv) ?_
      refine rn1 ?_
      refine s_B Tryz.sizeOf128 ?_
      refine Ga1 ?_
      have er : Ae c b = (zMsg, Bi c (Hx b)) := by
       unfold Ae
       rw [if_neg (by omega), if_neg (by show ¬ Ko (b.take 10) ≠ _; unfold at8; omega), if_neg (by unfold at8; omega), if_pos (by omega)]
      exact Zdy
     ·intro ht97
      refine ZW ?_
      refine s_B Tryz.sizeOf128 ?_
      refine Ga1 ?_
      have er : Ae c b = (Hx b, 0) := by
       unfold Ae
       rw [if_neg (by omega), if_neg (by show ¬ Ko (b.take 10) ≠ _; unfold at8; omega), if_neg (by unfold at8; omega), if_neg (by omega)]
      exact Zdy
theorem K6 {v0 : Value} {b : List UInt8} {bit : Int} (hs : St L R w) (h0 : sl v0 b ∈ R) (hbit : An bit) : Calls Tryz.prog 93 [v0, vi bit].toArray w (Bh (fun v : Value => v) (fun _ => L) (fun v => sl v (Eh b bit) :: R)) := by
 have hlen := Bv h0 hs
 have hbit' := hbit
 unfold An at hbit'
 refine Ag Tryz.func93 rfl Tryz.ntmps93 rfl hs ?_
 clear hs
 repeat refine C3 ?_
 refine Aa ?_
 refine ZT ?_
 repeat refine C3 ?_
 refine ZN ?_
 refine J.rowNil 5 UInt8 ?_
 refine Q3 Ka rfl rfl rfl (by decide) .hd h0 (fun w hs => by have : maxN = 16777216 := rfl; simp; omega) ?_; intro v7
 rw [List.nil_append]
 refine ZT ?_
 repeat refine C3 ?_
 refine ZN ?_
 refine Iz rfl rfl Qp ?_
 refine D2 rfl ?_
 refine P6 (t := 10) (b := ?b1) ?e1 ?_ ?_
 case e1 => exact rfl
 ·
  intro ht10
  try simp only [decide_eq_true_eq, decide_eq_false_iff_not, beq_iff_eq, bne_iff_ne, beq_eq_false_iff_ne, bne_eq_false_iff_eq, Int.not_lt, Int.not_le, Bool.not_eq_true, ne_eq, Bool.not_eq_eq_eq_not, Bool.not_true, Bool.not_false] at ht10
  refine J.guardYes ?_ ?_
  ·exact rfl
  refine D2 rfl ?_
  refine J.guardYes ?_ ?_
  ·exact rfl
  refine D2 rfl ?_
  refine J.guardYes ?_ ?_
  ·exact rfl
  refine r_len Tryz.underlying53 rfl (by first | exact Ef pkk | exact D8 mm) ?_
  refine J.guardYes ?_ ?_
  ·exact rfl
  refine Iz rfl rfl (Aax (by omega) (by omega)) ?_
  refine J.guardYes ?_ ?_
  ·exact rfl
  refine Iz rfl rfl Nm ?_
  refine Adg rfl rfl ?_
  refine Zaq ?_
  repeat refine C3 ?_
  refine Cb rfl (fun ht16 => ?_) (fun ht16 => ?_)
  ·
   try simp only [decide_eq_true_eq, decide_eq_false_iff_not, beq_iff_eq, bne_iff_ne, beq_eq_false_iff_ne, bne_eq_false_iff_eq, Int.not_lt, Int.not_le, Bool.not_eq_true, ne_eq, Bool.not_eq_eq_eq_not, Bool.not_true, Bool.not_false] at ht16
   obtain ⟨q, rfl⟩ : ∃ q : Nat, bit = (q : Int) := ⟨bit.toNat, by omega⟩
   have hq : q / 8 < b.length := by omega
   have hq8 : q % 8 < 8 := by omega
   refine P5 mixed (by kernel_rfl) (by kernel_rfl) (fun _ _ => _) (fun _ => rfl) ?_
   refine dj ?_
   refine Zb6 ?_
   refine Zb6 ?_
   refine d_pc (fun _ _ => Ai rfl rfl (b_quoN (b := 8) (by omega) (by decide))) rfl (fun _ _ _ _ => rfl) ?_
   refine dj ?_
   first | refine d_pc (fun _ _ => G6 Ee rfl rfl (by first | exact Ef pkk | exact D8 mm) (by first | assumption | omega | (simp only [List.length_nil, List.length_cons, List.length_append, List.length_take, List.length_drop, List.length_set, List.length_replicate]; omega))) rfl (fun _ _ _ _ => rfl) ?_ | refine d_indexAddr Ee (fun _ => rfl) (fun _ => rfl) (fun _ _ => (by first | exact Ef pkk | exact D8 mm)) (by first | assumption | omega | (simp only [List.length_nil, List.length_cons, List.length_append, List.length_take, List.length_drop, List.length_set, List.length_replicate]; omega)) (by first | assumption | omega | (simp only [List.length_nil, List.length_cons, List.length_append, List.length_take, List.length_drop, List.length_set, List.length_replicate]; omega)) (fun _ _ _ _ => rfl) ?_
   refine dj ?_
   first | refine Qd Tryz.isAgg5 (fun _ => rfl) (fun _ _ => Bg pkk (by exact rfl)) (fun _ _ _ _ => rfl) ?_ | refine Qd Tryz.isAgg5 (fun _ => rfl) (fun _ _ => Mg pkk (by first | assumption | omega | (simp only [List.length_nil, List.length_cons, List.length_append, List.length_take, List.length_drop, List.length_set, List.length_replicate]; omega))) (fun _ _ _ _ => rfl) ?_ | refine Qd Tryz.isAgg5 (fun _ => rfl) (fun _ _ => Rz mm (by first | assumption | omega | (simp only [List.length_nil, List.length_cons, List.length_append, List.length_take, List.length_drop, List.length_set, List.length_replicate]; omega))) (fun _ _ _ _ => rfl) ?_
   refine dj ?_
   refine Zb6 ?_
   refine d_pc (fun _ _ => Ai rfl rfl (b_remN (b := 8) (by decide) (by decide))) rfl (fun _ _ _ _ => rfl) ?_
   refine dj ?_
   refine d_pc (fun _ _ => Ai rfl rfl (b_shl8 (x := 1) (by omega) (by omega))) rfl (fun _ _ _ _ => rfl) ?_
   refine dj ?_
   first | refine d_pc (fun _ _ => Ai rfl rfl Acf) rfl (fun _ _ _ _ => rfl) ?_ | refine d_p (fun _ _ => Ai rfl rfl Acf) rfl (by first | exact Ind.const _ | exact fun _ _ _ _ _ => rfl | exact Ind.self | exact Ind.gh _ 3 rfl) (fun _ _ _ _ => rfl) ?_
   refine Wb (by kernel_rfl) ?_; intro ρ; simp only [Fc, facts, Dt, List.append_nil, List.nil_append, List.cons_append]
   first | refine Jx Ee rfl rfl (by first | exact Ef pkk | exact D8 mm) (by first | assumption | omega | (simp only [List.length_nil, List.length_cons, List.length_append, List.length_take, List.length_drop, List.length_set, List.length_replicate]; omega)) ?_ | refine Ic Ee rfl rfl (by first | exact Ef pkk | exact D8 mm) (by first | assumption | omega | (simp only [List.length_nil, List.length_cons, List.length_append, List.length_take, List.length_drop, List.length_set, List.length_replicate]; omega)) (by first | assumption | omega | (simp only [List.length_nil, List.length_cons, List.length_append, List.length_take, List.length_drop, List.length_set, List.length_replicate]; omega)) ?_
   refine Hj (α := UInt8) (f := 0) (e' := b.getD (q / 8) 0 ^^^ ((1 : UInt8) <<< UInt8.ofNat (q % 8))) Tryz.sizeOf5 rfl rfl rfl rfl (by intro u hu; cases List.mem_singleton.1 hu; rfl) pkk (getD_some 0 hq) (fun ds m hr => by rw [show ds = [vb _] from hr]; exact Nat.le_refl _) (fun j _ ds hr => by rw [show ds = [vb _] from hr]; show [vb (b.getD (q / 8) 0 ^^^ u8 (((1 : UInt8).toNat : Int) * 2 ^ (((q % 8 : Nat) : Int)).toNat))] = [vb _]; rw [Int.toNat_natCast, Ady ⟨q % 8, hq8⟩]) ?_
   refine Zaq ?_
   repeat refine C3 ?_
   refine ZN ?_
   refine ZT ?_
   refine J0 ?_
   repeat (first | refine Ek ?_ | refine Dq ?_)
   have e1 : ((q : Int) / 8).toNat = q / 8 := by omega
   have e2 : ((q : Int) % 8).toNat = q % 8 := by omega
   have ht : Eh b (q : Int) = b.set (q / 8) (b.getD (q / 8) 0 ^^^ ((1 : UInt8) <<< UInt8.ofNat (q % 8))) := by unfold Eh; rw [if_pos (by omega), e1, e2]
   refine Ax (.inr rfl) (fun B w hs => Uw rfl rfl B w) (fun w hs => ?_)
   refine ⟨v7, rfl, ?_⟩
   rw [ht]
   exact (St.shut (hs.pick pkk)).sub (by repeat (first | exact .refl | exact .nil | refine .cons pkk ?_ | refine .drop ?_)) (by repeat (first | exact FSub.refl | exact FSub.nil | refine FSub.cons (by first | assumption | (repeat (first | assumption | exact List.Mem.head _ | refine .tail _ ?_))) ?_ | refine FSub.drop ?_))
  ·
   try simp only [decide_eq_true_eq, decide_eq_false_iff_not, beq_iff_eq, bne_iff_ne, beq_eq_false_iff_ne, bne_eq_false_iff_eq, Int.not_lt, Int.not_le, Bool.not_eq_true, ne_eq, Bool.not_eq_eq_eq_not, Bool.not_true, Bool.not_false] at ht16
   refine Hb ?_
   refine A7 ?_
   repeat refine C3 ?_
   refine ZN ?_
   refine ZT ?_
   refine J0 ?_
   repeat (first | refine Ek ?_ | refine Dq ?_)
   have ht : Eh b bit = b := by unfold Eh; rw [if_neg (by omega)]
   refine Ax (.inr rfl) (fun B w hs => Uw rfl rfl B w) (fun w hs => ?_)
   refine ⟨v7, rfl, ?_⟩
   rw [ht]
   exact (St.shut (hs.pick pkk)).sub (by repeat (first | exact .refl | exact .nil | refine .cons pkk ?_ | refine .drop ?_)) (by repeat (first | exact FSub.refl | exact FSub.nil | refine FSub.cons (by first | assumption | (repeat (first | assumption | exact List.Mem.head _ | refine .tail _ ?_))) ?_ | refine FSub.drop ?_))
 ·
  intro ht10
  try simp only [decide_eq_true_eq, decide_eq_false_iff_not, beq_iff_eq, bne_iff_ne, beq_eq_false_iff_ne, bne_eq_false_iff_eq, Int.not_lt, Int.not_le, Bool.not_eq_true, ne_eq, Bool.not_eq_eq_eq_not, Bool.not_true, Bool.not_false] at ht10
  refine J.guardNo ?_ ?_
  ·exact rfl
  refine J.guardNo ?_ ?_
  ·exact rfl
  refine J.guardNo ?_ ?_
  ·exact rfl
  refine J.guardNo ?_ ?_
  ·exact rfl
  refine J.guardNo ?_ ?_
  ·exact rfl
  refine Adh rfl rfl ?_
  refine Zaq ?_
  repeat refine C3 ?_
  refine Rg rfl ?_
  refine Hb ?_
  refine A7 ?_
  repeat refine C3 ?_
  refine ZN ?_
  refine ZT ?_
  refine J0 ?_
  repeat (first | refine Ek ?_ | refine Dq ?_)
  have ht : Eh b bit = b := by unfold Eh; rw [if_neg (by omega)]
  refine Ax (.inr rfl) (fun B w hs => Uw rfl rfl B w) (fun w hs => ?_)
  refine ⟨v7, rfl, ?_⟩
  rw [ht]
  exact (St.shut (hs.pick pkk)).sub (by repeat (first | exact .refl | exact .nil | refine .cons pkk ?_ | refine .drop ?_)) (by repeat (first | exact FSub.refl | exact FSub.nil | refine FSub.cons (by first | assumption | (repeat (first | assumption | exact List.Mem.head _ | refine .tail _ ?_))) ?_ | refine FSub.drop ?_))
theorem Qb {α : Type} {l : List α} {i : Nat} : l.eraseIdx i = l.take i ++ l.drop (i + 1) := List.eraseIdx_eq_take_drop_succ ..
theorem RdL.erase {α : Type} [Enc α] {m : Mem} {xs : List α} {cs : List Value} {i : Nat} (hz : Enc.sz α = 1) (hi : i < xs.length) (h : RdL xs cs m) : RdL (xs.eraseIdx i) (cs.take i ++ cs.drop (i + 1)) m := by
 have h1 : xs = xs.take i ++ xs.drop i := (List.take_append_drop i xs).symm
 rw [h1] at h
 obtain ⟨a, b, e1, e2, e3⟩ := RdL.split h
 have la : a.length = i := by rw [e2.len, hz, List.length_take]; omega
 rw [List.drop_eq_getElem_cons hi] at e3
 obtain ⟨c1, c2, g1, g2, g3⟩ := e3
 have lc : c1.length = 1 := by rw [Enc.len _ _ _ g2, hz]
 rw [Qb]
 have ea : cs.take i = a := by rw [e1, ← la]; simp
 have eb : cs.drop (i + 1) = c2 := by
  rw [e1, g1, ← la, List.drop_append, show a.length + 1 - a.length = 1 by omega, List.drop_append, lc]
  simp [List.drop_of_length_le, lc]
 rw [ea, eb]
 exact RdL.append g3 e2
theorem P3 {L : List Chunk} {R : List Fact} {a : Addr} {k c : Nat} : Dm L R (.slice (some a) k c) k := fun w _ => ⟨some a, c, rfl, fun _ => ⟨a, rfl⟩⟩
theorem X6 {P : Program} {n : Nat} {L : List Chunk} {R : List Fact} {al : List (Nat × Value)} {d : Nat} {x p q r : Operand} {T ty : TypeId} {pos : String} {aft : Array Edge} {e : TypeId} {sz len cap lo hi mx : Nat} {a : Addr} (ht : Cu P T e sz) (hx : ev n al x = some (.slice (some a) len cap)) (h1 : ev n al p = some (vi (lo : Int))) (h2 : ev n al q = some (vi (hi : Int))) (h3 : ev n al r = some (vi (mx : Int))) (l1 : lo ≤ hi) (l2 : hi ≤ mx) (l3 : mx ≤ cap) :
  Ao P n al L R ⟨some d, .slice T x (some p) (some q) (some r), ty, pos, aft, none⟩ (.slice (if mx = lo then some a else some (a.add (lo * sz))) (hi - lo) (mx - lo)) :=
 ⟨rfl, fun ρ w h hs => by
  show (Instr.sliceAt T (ρ x) (some (ρ p)) (some (ρ q)) (some (ρ r)) >>= fun v => Pure.pure (Next.value v)).run P w = _
  rw [h x (by simp [Op.operands]) _ hx, h p (by simp [Op.operands]) _ h1, h q (by simp [Op.operands]) _ h2, h r (by simp [Op.operands]) _ h3, Sem.run_bind]
  have : (Instr.sliceAt T (.slice (some a) len cap) (some (vi (lo : Int))) (some (vi (hi : Int))) (some (vi (mx : Int)))).run P w = .ok (.slice (if mx = lo then some a else some (a.add (lo * sz))) (hi - lo) (mx - lo)) w := by
   have e1 : (0 : Int) ≤ (lo : Int) ∧ (lo : Int) ≤ (hi : Int) := by omega
   have e2 : (0 : Int) ≤ (hi : Int) ∧ (hi : Int) ≤ (mx : Int) := by omega
   have e3 : (0 : Int) ≤ (mx : Int) ∧ (mx : Int) ≤ (cap : Int) := by omega
   simp [Instr.sliceAt, Instr.slice, Instr.sliceBounds, Instr.sliceBound, Ci ht.1, ht.2, asIntOf, e1, e2, e3, l1, l2, l3]
  rw [this]; rfl⟩
theorem Ve {v0 : Value} {l : Frames} {i : Nat} (hs : St (row 53 v0 l :: L) R w) (hi : i < l.length) : Calls Tryz.prog 59 [v0, vi (i : Int), vi ((i + 1 : Nat) : Int)].toArray w (Bh (fun v : Value => v) (fun v => row 53 v (l.eraseIdx i) :: L) (fun v => R)) := by
 have hlen := Acz (L := row 53 v0 l :: L) .hd hs
 have hne : l ≠ [] := by intro h; rw [h] at hi; simp at hi
 obtain ⟨g, cap, cs, rfl, hcap, hml, hN, hcl, hs, h1⟩ := Adb hne hs
 have hz : Enc.sz (List UInt8) = 1 := rfl
 rw [hz, Nat.mul_one] at hcl hs h1
 have fin : ∀ (w : World), St (blk g 53 ((cs.take i ++ (cs.drop (i + 1)).take (l.length - (i + 1)) ++ cs.drop (i + (l.length - (i + 1)))).take (i + (l.length - (i + 1))) ++ [.slice none 0 0] ++ (cs.take i ++ (cs.drop (i + 1)).take (l.length - (i + 1)) ++ cs.drop (i + (l.length - (i + 1)))).drop (i + (l.length - (i + 1)) + 1)) :: L) (rdL l (cs.take l.length) :: R) w →
    ∃ u, Value.slice (some ⟨g, 0, none⟩) (i + (l.length - (i + 1))) cap = u ∧ St (row 53 u (l.eraseIdx i) :: L) R w := by
   intro w hs
   have he : (l.eraseIdx i).length = i + (l.length - (i + 1)) := by rw [List.length_eraseIdx, if_pos hi]; omega
   have hA : (cs.take i ++ (cs.drop (i + 1)).take (l.length - (i + 1))).length = i + (l.length - (i + 1)) := by simp; omega
   refine ⟨_, rfl, ?_⟩
   have := Agh (T := 53) (g := g) (cap := cap) (xs := l.eraseIdx i) (by omega) (by omega) hml (by rw [hz, Nat.mul_one]; simp only [List.length_append, List.length_take, List.length_drop, List.length_cons, List.length_nil]; omega) (fun j hj => ?_) hs
   ·rw [he] at this; exact Af this
   ·have hr : RdL l (cs.take l.length) j := hj _ (List.Mem.head _)
    have hr2 := hr.erase hz hi
    rw [he, hz, Nat.mul_one]
    have : ((cs.take i ++ (cs.drop (i + 1)).take (l.length - (i + 1)) ++ cs.drop (i + (l.length - (i + 1)))).take (i + (l.length - (i + 1))) ++ [Value.slice none 0 0] ++ (cs.take i ++ (cs.drop (i + 1)).take (l.length - (i + 1)) ++ cs.drop (i + (l.length - (i + 1)))).drop (i + (l.length - (i + 1)) + 1)).take (i + (l.length - (i + 1))) = (cs.take l.length).take i ++ (cs.take l.length).drop (i + 1) := by
     rw [List.append_assoc, List.take_append_of_le_length (by simp; omega), List.take_take, Nat.min_self, List.take_append_of_le_length (by rw [hA]; exact Nat.le_refl _), List.take_of_length_le (by rw [hA]; exact Nat.le_refl _), List.take_take, Nat.min_eq_left (by omega), List.drop_take]
    rw [this]; exact hr2
 refine Ag Tryz.func59 rfl Tryz.ntmps59 rfl hs ?_
 clear hs
 refine ZJ ?_
 refine rn4 ?_
 refine ob (Mq (hl := P3) Tryz.underlying37) ?_
 refine ob (X6 (a := ⟨g, 0, none⟩) Nx (lo := i) (hi := i + 1) (mx := l.length) rfl rfl rfl rfl (by omega) (by omega) hcap) ?_
 refine ZP ?_
 refine Ay ?_
 refine Zaw ?_
 refine ob (Mq (hl := P3) Tryz.underlying37) ?_
 refine Ga1 ?_
 refine Zak ?_
 refine djc (fun _ _ => q_sl0 (hi := i) Nx rfl rfl (by omega)) ?_
 refine dn2 ?_
 refine djc (fun _ _ => q_slN (lo := i + 1) (hi := l.length) Nx rfl rfl rfl (by omega) (by omega)) ?_
 refine dtl ?_; intro ρ
 refine ap_in (j := i + 1) (cs := cs) Ti rfl rfl (fun hm => by rw [if_neg (by omega)]; unfold Addr.add; simp) .hd hcl (by omega) (by omega) (fun u hu => h1 u (by rw [← List.drop_take] at hu; exact List.mem_of_mem_drop hu)) ?_
 refine Gb1 ?_
 refine rn2 ?_
 refine ob (Mq (hl := P3) Tryz.underlying37) ?_
 refine rn1 ?_
 refine ob (q_slN (lo := i + (l.length - (i + 1))) (hi := l.length) Nx rfl rfl rfl (by omega) (by omega)) ?_
 refine clr (o := i + (l.length - (i + 1))) (c2 := cap - (i + (l.length - (i + 1)))) (z := .slice none 0 0) Ti Tryz.zeroValue53 rfl rfl ?_ .hd ?_ ?_
 ·refine congrArg some ?_; rw [if_neg (by omega), show l.length - (i + (l.length - (i + 1))) = 1 by omega]; rw [Gi]; simp
 ·simp only [List.length_append, List.length_take, List.length_drop]; omega
 intro cs_ hcs_; subst hcs_
 refine ZE ?_
 refine Ax (.inr rfl) (fun B w hs => Uw rfl rfl B w) (fun w hs => fin w hs)
theorem X8 {P : Program} {n : Nat} {Q : Exit → Act → World → Prop} {L : List Chunk} {R : List Fact} {al : List (Nat × Value)} {c : Code} {v : Value} {l : List Entry} (i : Nat) (hm : sl v l ∈ R) (hi : i < l.length) (k : (l.getD i A3).wf → ∀ u, JC P n c Q L (cF v 10 i (Entry.cells u (l.getD i A3)) :: sl u (l.getD i A3).last :: R) al) : JC P n c Q L R al := JC.open1 i hm hi k
def Of (c : Config) : Entry := { A3 with last := List.replicate c.cores.toNat 0 }
theorem Q1 {α : Type} (k : Nat) (a : α) : List.replicate (k + 1) a = List.replicate k a ++ [a] := List.replicate_succ' ..
theorem Vc (c : Config) : (Of c).wf := by unfold Of A3 Entry.wf An; simp only; omega
theorem Cw {v : Value} {ls : List Line} {i : Nat} (e : Line) (he : e.wf) (hs : St (foc 120 v ls i e.cells :: L) R w) : St (row 120 v (ls.set i e) :: L) R w := hs.unfocus (fun j _ => ⟨rfl, he⟩)
theorem Vh {v : Value} {ls : List Line} {i : Nat} (he : (ls.getD i zLine).wf) (hs : St (foc 120 v ls i (ls.getD i zLine).cells :: L) R w) : St (row 120 v ls :: L) R w := by
 have h := Cw _ he hs
 rwa [Iw] at h
theorem Dk {v : Value} {ls : List Line} {i : Nat} {l : Line} (hl : ls.getD i zLine = l) (he : l.wf) (hs : St (foc 120 v ls i [vi l.state, vi l.value, vi l.want, vi l.serial, vi l.seen, vi l.gave, vi l.given] :: L) R w) : St (row 120 v ls :: L) R w := by
 subst hl
 exact Vh he hs
theorem Gt {P : Program} {n : Nat} {Q : Exit → Act → World → Prop} {L L' : List Chunk} {R : List Fact} {al : List (Nat × Value)} {cd : Code} {vL : Value} {ls : List Line} {l : Line} {i : Int} (hp : Pick L (row 120 vL ls) L') (hl : ls.getD i.toNat zLine = l) (h0 : 0 ≤ i) (hi : i < (ls.length : Int)) (k : l.wf → EpAll vL 7 i.toNat → JC P n cd Q (foc 120 vL ls i.toNat [vi l.state, vi l.value, vi l.want, vi l.serial, vi l.seen, vi l.gave, vi l.given] :: L') R al) : JC P n cd Q L R al := by
 subst hl
 refine JC.focus0 (xs := ls) i.toNat hp (by omega) (fun hw => ?_)
 refine JC.know (p := EpAll vL 7 i.toNat) (fun w hs => Xj (α := Line) (xs := ls) .hd w hs) (fun hA => ?_)
 exact k hw hA
theorem O7 {LX : List Chunk} {R : List Fact} {w : World} {vL vo vd : Value} {bk : Nat} {q : Op} {id home : Int} {ls : List Line} {l : Line} {ms : List Msg} {line : Int} (hs : St (blk bk 123 [vL, vi q.kind, vi q.line, vi q.value, vi id, vi home, vo, vd] :: row 120 vL ls :: row 128 vo ms :: LX) R w) (hl : ls.getD line.toNat zLine = l) (hi : 0 ≤ line ∧ line < (ls.length : Int)) (hll : ls.length ≤ 100) (hn : ms.length ≤ 1000) (hid : An id) (hhome : An home) : Calls Tryz.prog 82 [bp bk 0, vi line].toArray w (Bh (fun v : Value => .tuple #[]) (fun v => blk bk 123 [vL, vi q.kind, vi q.line, vi q.value, vi id, vi home, v, vd] :: row 120 vL ls :: row 128 v (ms ++ [(Co l id home line)]) :: LX) (fun v => R)) := by
 refine ZaB ?_;intro hid0 hhome0
 refine Ag Tryz.func82 rfl Tryz.ntmps82 rfl hs ?_
 clear hs
 refine Gl ?_
 refine Gt (ls := ls) (l := l) (i := line) pkk hl (by omega) (by omega) (fun hlw hA => ?_)
 have hlw0 := hlw
 unfold Line.wf An at hlw0
 have honeL : (ep vL 7 line.toNat 0).oneCell' = true := hA.one
 refine Aa ?_
 refine rn6 ?_
 refine ob (Ip (v := vL) (i := line) Lr (hl := Cs (α := Line) (xs := ls) pkk)) ?_
 refine Gb1 ?_
 refine Gb1 ?_
 refine Ga5 ?_
 refine cdy ?_ ?_
 ·intro ht17
  refine Aa ?_
  refine Ga5 ?_
  refine Bl ?_
  refine dn11 ?_
  refine dtl ?_; intro ρ
  have er : (Co l id home line) = ⟨l.want, id, home, line, l.serial, 0, l.value, false⟩ := by unfold Co; rw [if_pos ht17]
  refine Aj Tryz.call90 rfl (fun w hs => Ep (vL := vL) (vd := vd) (q := q) (id := id) (home := home) (ms := ms) (kind := l.want) (line := line) (serial := l.serial) (turn := 0) (value := l.value) (LX := foc 120 vL ls line.toNat [vi l.state, vi l.value, vi l.want, vi l.serial, vi l.seen, vi l.gave, vi l.given] :: LX) (Af hs) hn (by unfold Msg.wf An; simp only; omega)) ?_; intro v33
  refine Gl ?_
  rw [er]
  refine Ax (.inl rfl) (fun B w hs => Gx rfl _ w) (fun w hs => ⟨v33, rfl, Af (Dk hl hlw (hs.pick pkk))⟩)
 ·intro ht17
  refine Gl ?_
  refine Bl ?_
  refine dn11 ?_
  refine dtl ?_; intro ρ
  have er : (Co l id home line) = ⟨l.want, id, home, line, l.serial, 0, 0, false⟩ := by unfold Co; rw [if_neg ht17]
  refine Aj Tryz.call90 rfl (fun w hs => Ep (vL := vL) (vd := vd) (q := q) (id := id) (home := home) (ms := ms) (kind := l.want) (line := line) (serial := l.serial) (turn := 0) (value := 0) (LX := foc 120 vL ls line.toNat [vi l.state, vi l.value, vi l.want, vi l.serial, vi l.seen, vi l.gave, vi l.given] :: LX) (Af hs) hn (by unfold Msg.wf An; simp only; omega)) ?_; intro v33
  refine Gl ?_
  rw [er]
  refine Ax (.inl rfl) (fun B w hs => Gx rfl _ w) (fun w hs => ⟨v33, rfl, Af (Dk hl hlw (hs.pick pkk))⟩)
theorem Qf {LX : List Chunk} {R : List Fact} {w : World} {vL vo vd : Value} {bk : Nat} {q : Op} {id home : Int} {ls : List Line} {l : Line} {q0 : Op} {ms : List Msg} {want : Int} (hs : St (blk bk 123 [vL, vi q0.kind, vi q0.line, vi q0.value, vi id, vi home, vo, vd] :: row 120 vL ls :: row 128 vo ms :: LX) R w) (hl : ls.getD q.line.toNat zLine = l) (hi : 0 ≤ q.line ∧ q.line < (ls.length : Int)) (hll : ls.length ≤ 100) (hid : An id) (hhome : An home) (hn : ms.length ≤ 1000) (hser : l.serial < 65535) (hw : An want) : Calls Tryz.prog 55 [bp bk 0, .agg q.cells.toArray, vi want].toArray w (Bh (fun v : Value => .tuple #[]) (fun v => blk bk 123 [vL, vi q.kind, vi q.line, vi q.value, vi id, vi home, v, vd] :: row 120 vL (ls.set q.line.toNat ({ l with want := want, serial := l.serial + 1 })) :: row 128 v (ms ++ [Co ({ l with want := want, serial := l.serial + 1 }) id home q.line]) :: LX) (fun v => R)) := by
 refine ZaB ?_;intro hid0 hhome0
 have hw0 := hw
 unfold An at hw0
 refine Ag Tryz.func55 rfl Tryz.ntmps55 rfl hs ?_
 clear hs
 refine Gm ?_
 refine bx ?_; intro b4
 refine Gl ?_
 refine Zb9 ?_;intro hlw hA hlw0 honeL
 refine ZbG ?_;intro ρ
 refine Gm ?_
 refine rn4 ?_
 refine ZH ?_
 refine rn7 ?_
 refine ZH ?_
 refine rn5 ?_
 refine s_N [vL, vi q.kind, vi q.line, vi q.value, vi id, vi home, vo, vd] Tryz.sizeOf27 ?_
 refine Gl ?_
 refine JC.conseq (L' := row 120 vL (ls.set q.line.toNat ({ l with want := want, serial := l.serial + 1 })) :: blk bk 123 [vL, vi q.kind, vi q.line, vi q.value, vi id, vi home, vo, vd] :: row 128 vo ms :: blk b4 27 q.cells :: LX) (fun w hs => Af (Cw ({ l with want := want, serial := l.serial + 1 }) (by unfold Line.wf An; simp only; omega) (hs.pick pkk))) ?_
 refine ZI ?_
 refine Aj Tryz.call82 rfl (fun w hs => O7 (vL := vL) (vd := vd) (q := q) (id := id) (home := home) (ms := ms) (line := q.line) (ls := (ls.set q.line.toNat ({ l with want := want, serial := l.serial + 1 }))) (l := { l with want := want, serial := l.serial + 1 }) (LX := LX) (Af hs) (by rw [List.getD_eq_getElem?_getD, List.getElem?_set_self (by omega)]; rfl) (by rw [List.length_set]; exact hi) (by rw [List.length_set]; exact hll) hn hid hhome) ?_; intro v34
 refine Gl ?_
 refine Ax (.inl rfl) (fun B w hs => Gx rfl _ w) (fun w hs => ⟨v34, rfl, Af hs⟩)
theorem Js {LX : List Chunk} {R : List Fact} {w : World} {vL vo vd : Value} {bk : Nat} {q : Op} {id home : Int} {ls : List Line} {l : Line} {q0 : Op} {ds : List Done} (hs : St (blk bk 123 [vL, vi q0.kind, vi q0.line, vi q0.value, vi id, vi home, vo, vd] :: row 120 vL ls :: row 47 vd ds :: LX) R w) (hl : ls.getD q.line.toNat zLine = l) (hi : 0 ≤ q.line ∧ q.line < (ls.length : Int)) (hll : ls.length ≤ 100) (hid : An id) (hhome : An home) (hn : ds.length ≤ 1000) (hq : q.wf) (hk : 1 ≤ q.kind ∧ q.kind ≤ 4) (hval : 0 ≤ q.value ∧ q.value ≤ 255) : Calls Tryz.prog 56 [bp bk 0, .agg q.cells.toArray].toArray w (Bh (fun v : Value => .tuple #[]) (fun v => blk bk 123 [vL, vi 0, vi 0, vi 0, vi id, vi home, vo, v] :: row 120 vL (ls.set q.line.toNat ({ l with value := (Bb l.value q).1 })) :: row 47 v (ds ++ [(⟨id, q, (Bb l.value q).2⟩ : Done)]) :: LX) (fun v => R)) := by
 refine ZaB ?_;intro hid0 hhome0
 refine Ag Tryz.func56 rfl Tryz.ntmps56 rfl hs ?_
 clear hs
 refine Gm ?_
 refine bx ?_; intro b3
 refine Gl ?_
 refine Zb9 ?_;intro hlw hA hlw0 honeL
 refine ZbG ?_;intro ρ
 refine Gm ?_
 refine rn3 ?_
 refine Aj Tryz.call83 rfl (fun w hs => Afh (a := q.line + 1) hs (by omega) (by omega)) ?_; intro v19
 refine Ga1 ?_
 refine Bl ?_
 refine dn7 ?_
 refine djc (fun _ _ => Ip Un (h1 := by rw [List.length_replicate]; omega)) ?_
 refine dtl ?_; intro ρ
 refine F9 (xs := List.replicate (q.line + 1).toNat 0) Tryz.sizeOf3 rfl rfl pkk (getD_some 0 (by rw [List.length_replicate]; omega)) (by unfold An; omega) ?_
 refine Gl ?_
 refine JC.shut (xs := (Km l.value q)) (v := v19) pkk ?_
 have hml := Nw (v := l.value) hi.1
 refine ZA ?_
 refine Aj Tryz.call84 rfl (fun w hs => by have h := Afi (o := q) hs (List.Mem.head _); rw [tellDo hk hi.1 hval] at h; exact h) ?_; intro v31
 refine Ga7 ?_
 refine JC.open0 (xs := (dX (Km l.value q) q)) (v := v31) q.line.toNat mm (by unfold dX; rw [List.length_set, hml]; omega) (fun hw => ?_)
 have e9 : (dX (Km l.value q) q).getD q.line.toNat 0 = (Bb l.value q).1 := by rw [dX_at (by rw [hml]; omega), Mn hi.1]
 refine kp [0, 3, 4, 5, 6, 35, 36, 37, 38, 39, 40, 41, 42] ?_
 refine ZG ?_
 refine ob (Ip Un (len := (dX (Km l.value q) q).length) (hl := D8 (.tail _ (.head _))) (h1 := by unfold dX; rw [List.length_set, hml]; omega)) ?_
 refine rn3 ?_
 refine sc ?_
 refine Gl ?_
 have hvb := Ya (o := q) hlw.2.1 hval.1 hval.2
 have hvb2 := U7 (o := q) hlw.2.1
 unfold An at hvb hvb2
 have e9 : (dX (Km l.value q) q).getD q.line.toNat El0.df = (Bb l.value q).1 := e9
 rw [e9]
 refine cq_ (blk bk 123 [vL, vi q0.kind, vi q0.line, vi q0.value, vi id, vi home, vo, vd] :: row 47 vd ds :: foc 120 vL ls q.line.toNat [vi l.state, vi (Bb l.value q).1, vi l.want, vi l.serial, vi l.seen, vi l.gave, vi l.given] :: blk b3 27 q.cells :: LX) ?_
 refine jd_ (fun ρ S => blk bk 123 (bif S 16 then [vL, vi q0.kind, vi q0.line, vi q0.value, vi id, vi home, vo, (Gh.dec (γ := Value) (ρ 13))] else [vL, vi q0.kind, vi q0.line, vi q0.value, vi id, vi home, vo, vd]) :: (bif S 13 then row 47 (Gh.dec (γ := Value) (ρ 13)) (ds ++ [(⟨id, q, (Bb l.value q).2⟩ : Done)]) else row 47 vd ds) :: foc 120 vL ls q.line.toNat [vi l.state, vi (Bb l.value q).1, vi l.want, vi l.serial, vi l.seen, vi l.gave, vi l.given] :: blk b3 27 q.cells :: (LX)) ?_
 refine dn4 ?_
 refine H6 (v := vd) (fun ρ S hS hB hA => by have h16 : S 16 = false := hA 16 ⟨0, rfl⟩; simp only [h16, cond_false]; exact Cp (hc := Bg pkk (by repeat (first | exact rfl | refine Cr rfl ?_))) Tryz.isAgg41) (fun _ _ _ _ _ => rfl) ?_
 refine dn3 ?_
 refine H6 (v := vi id) (fun ρ S hS hB hA => by have h16 : S 16 = false := hA 16 ⟨0, rfl⟩; simp only [h16, cond_false]; exact Cp (hc := Bg pkk (by repeat (first | exact rfl | refine Cr rfl ?_))) Tryz.isAgg3) (fun _ _ _ _ _ => rfl) ?_
 refine dn2 ?_
 first | refine epc (fun _ _ => Du G0) ?_ | refine epc (fun _ _ => E6 G0) ?_ | refine epp (fun _ _ => Du G0) ?_ | refine epp (fun _ _ => E6 G0) ?_
 refine Jq ([(⟨id, q, (Bb l.value q).2⟩ : Done)] : List Done) I6 rfl (fun _ => rfl) rfl (fun _ => rfl) rfl rfl (fun ρ R hd => N7 ⟨hid, hq.1, hq.2.1, hq.2.2, by unfold An; simp only; omega⟩) (fun _ _ _ _ _ => rfl) ?_
 refine Dx (e := 47) (xs := ds) (ys := [(⟨id, q, (Bb l.value q).2⟩ : Done)]) (v := vd) I6 (fun _ => rfl) (fun _ => rfl) rfl (by decide) (fun ρ R hd => (hd.dep (it := ⟨12, _, _, _, _⟩) (by repeat (first | exact List.Mem.head _ | refine List.Mem.tail _ ?_)) ⟨9, rfl⟩ (List.Mem.head _))) (by have : maxN = 16777216 := rfl; simp only [List.length_cons, List.length_nil]; omega) (fun ρ g S hS hB hA => ?_) ?_
 ·exact Zdf
 refine dn2 ?_
 refine Cy (T0 := 123) (f := 7) (vs := fun ρ => [vL, vi q0.kind, vi q0.line, vi q0.value, vi id, vi home, vo, vd]) (v := fun ρ => (Gh.dec (γ := Value) (ρ 13))) (fun ρ => bk) Tryz.sizeOf41 (fun _ => rfl) (fun _ => rfl) (fun ρ S R w L9 hB hd hs => by have h13 : S 13 = true := hB 13 ⟨9, rfl⟩; simp only [h13, cond_true] at hs; exact A8 pkk hs) (fun _ => rfl) (fun ρ g S hS hB hA => ?_) ?_
 ·exact Zdl
 refine dnl ?_; intro ρ
 refine xq_ (blk bk 123 [vL, vi q0.kind, vi q0.line, vi q0.value, vi id, vi home, vo, (Gh.dec (γ := Value) (ρ 13))] :: row 47 (Gh.dec (γ := Value) (ρ 13)) (ds ++ [(⟨id, q, (Bb l.value q).2⟩ : Done)]) :: foc 120 vL ls q.line.toNat [vi l.state, vi (Bb l.value q).1, vi l.want, vi l.serial, vi l.seen, vi l.gave, vi l.given] :: blk b3 27 q.cells :: (LX)) ?_
 generalize (Gh.dec (γ := Value) (ρ 12)) = v55
 generalize (Gh.dec (γ := Value) (ρ 13)) = v56
 refine ZW ?_
 refine ob (Du (cs := zOp.cells) Uk) ?_
 refine rn3 ?_
 refine s_N [vL, vi 0, vi 0, vi 0, vi id, vi home, vo, v56] Tryz.sizeOf27 ?_
 refine Gl ?_
 refine Ax (.inl rfl) (fun B w hs => Gx rfl _ w) (fun w hs => ⟨v56, rfl, Af (Cw ({ l with value := (Bb l.value q).1 }) (by unfold Line.wf An; simp only; omega) (hs.pick pkk))⟩)
section
variable {ls : List Line} {q : Op} {id home : Int} {m : Msg} {l : Line}
theorem Ho (hl : ls.getD m.line.toNat zLine = l) (hi : 0 ≤ m.line ∧ m.line < (ls.length : Int)) (hk : m.kind = 5 ∨ m.kind = 6) : Ac ⟨ls, q⟩ id home m = (if Ez l m.turn then (⟨ls.set m.line.toNat (C2 l m.kind m.turn), if l.want = 3 then zOp else q⟩, [Bm 9 id home m.line m.turn l.value], if l.want = 3 then [⟨id, q, 0⟩] else []) else if m.turn = l.gave ∧ 0 < m.turn then (⟨ls, q⟩, [Bm 9 id home m.line l.gave l.given], []) else (⟨ls, q⟩, [], [])) := by
 subst hl
 unfold Ac
 rw [if_neg (by simp only; omega), if_neg (by omega), if_pos hk]; rfl
theorem I3 (hl : ls.getD m.line.toNat zLine = l) (hi : 0 ≤ m.line ∧ m.line < (ls.length : Int)) (hk : m.kind = 7) : Ac ⟨ls, q⟩ id home m = (if l.serial < m.serial then (⟨ls, q⟩, [], []) else if Kc l m then (⟨ls.set m.line.toNat (Jn l m q), zOp⟩, [Bm 10 id home m.line m.turn 0], [⟨id, q, (Bb m.value q).2⟩]) else (⟨ls, q⟩, [Bm 10 id home m.line m.turn 0], [])) := by
 subst hl
 unfold Ac
 rw [if_neg (by simp only; omega), if_neg (by omega), if_neg (by omega), if_pos hk]; rfl
end
theorem O6 {LX : List Chunk} {R : List Fact} {w : World} {vL vo vd : Value} {bk : Nat} {q : Op} {id home : Int} {ls : List Line} {l : Line} {bm : Nat} {ms : List Msg} {ds : List Done} {m : Msg} (hs : St (blk bk 123 [vL, vi q.kind, vi q.line, vi q.value, vi id, vi home, vo, vd] :: row 120 vL ls :: row 128 vo ms :: row 47 vd ds :: blk bm 128 m.cells :: LX) R w) (hl : ls.getD m.line.toNat zLine = l) (hi : 0 ≤ m.line ∧ m.line < (ls.length : Int)) (hll : ls.length ≤ 100) (hm : m.wf) (hid : An id) (hhome : An home) (hn : ms.length ≤ 1000) (hnd : ds.length ≤ 1000) (hq : q.wf) (hk : m.kind = 5 ∨ m.kind = 6) : Calls Tryz.prog 91 [bp bk 0, bp bm 0].toArray w (Bh (fun g : Value × Value => .tuple #[]) (fun g => blk bk 123 [vL, vi (Ac ⟨ls, q⟩ id home m).1.wait.kind, vi (Ac ⟨ls, q⟩ id home m).1.wait.line, vi (Ac ⟨ls, q⟩ id home m).1.wait.value, vi id, vi home, g.1, g.2] :: row 120 vL (Ac ⟨ls, q⟩ id home m).1.lines :: row 128 g.1 (ms ++ (Ac ⟨ls, q⟩ id home m).2.1) :: row 47 g.2 (ds ++ (Ac ⟨ls, q⟩ id home m).2.2) :: blk bm 128 m.cells :: LX) (fun g => R)) := by
 have hm0 := hm
 unfold Msg.wf An at hm0
 refine ZaB ?_;intro hid0 hhome0
 refine Ag Tryz.func91 rfl Tryz.ntmps91 rfl hs ?_
 clear hs
 refine Gl ?_
 refine Zbe ?_;intro hlw hA hlw0 honeL
 refine dn9 ?_
 refine Zbg ?_;intro ρ
 refine kp [0, 1, 4, 15, 16, 17, 18, 19, 20, 21, 22, 23, 24, 25, 26, 27, 28, 29, 30, 31] ?_
 refine Ff 15 (.bool (decide ((m.turn = l.gave) ∧ (0 < m.turn)))) ?_ ?_
 ·rcases (show (¬ (m.turn = l.gave)) ∨ ((m.turn = l.gave) ∧ ¬ (0 < m.turn)) ∨ ((m.turn = l.gave) ∧ (0 < m.turn)) from by omega) with hm | hm | hm
  ·refine ZO ?_
   refine Za6 ?_
   refine djm ?_
   refine dn5 ?_
   refine djf ?_
   refine ZZ ?_;intro ρ
   exact Zda
  ·refine ZO ?_
   refine Zal ?_
   refine djm ?_
   refine dn4 ?_
   refine dj (dgy ?_)
   refine dc (fun _ _ => Ai rfl rfl (F5 (by omega))) ?_
   refine Zaj ?_;intro ρ
   exact Zda
  ·refine kp [0, 1, 4, 15, 16, 17, 18, 19, 20, 21, 22, 23, 24, 25, 26, 27, 28, 29, 30, 31] ?_
   refine ZO ?_
   refine Zal ?_
   refine djm ?_
   refine dn4 ?_
   refine dj (dgy ?_)
   refine dc (fun _ _ => Ai rfl rfl (Es (by omega))) ?_
   refine Zaj ?_;intro ρ
   exact ZcT
 ·refine A7 ?_
  first | (refine cdx (p := ?p1) (hd := ?d1) ?e1 ?_ ?_; case e1 => exact rfl) | (refine Cb (b := ?b1) ?e1 ?_ ?_; case e1 => exact rfl)
  ·intro ht15
   refine Gl ?_
   refine Bl ?_
   refine dn13 ?_
   refine dtl ?_; intro ρ
   refine Aj Tryz.call90 rfl (fun w hs => Ep (vL := vL) (vd := vd) (q := q) (id := id) (home := home) (ms := ms) (kind := 9) (line := m.line) (serial := 0) (turn := l.gave) (value := l.given) (LX := foc 120 vL ls m.line.toNat [vi l.state, vi l.value, vi l.want, vi l.serial, vi l.seen, vi l.gave, vi l.given] :: row 47 vd ds :: blk bm 128 m.cells :: LX) (Af hs) hn (by unfold Msg.wf An; simp only; omega)) ?_; intro v142
   refine Gl ?_
   have er : (Ac ⟨ls, q⟩ id home m) = (⟨ls, q⟩, [Bm 9 id home m.line l.gave l.given], []) := by rw [Ho hl hi hk, if_neg (by unfold Ez; omega), if_pos ht15]
   rw [er, List.append_nil]
   refine Ax (.inl rfl) (fun B w hs => Gx rfl _ w) (fun w hs => ⟨(v142, vd), rfl, Af (Dk hl hlw (hs.pick pkk))⟩)
  ·intro ht15
   refine Gl ?_
   refine kp [0, 1, 4, 32, 33, 34, 35, 36, 37, 38, 39, 40, 41, 42, 43, 44, 45, 46, 47, 48, 49, 50, 51, 52, 53, 54, 55] ?_
   refine Ff 32 (.bool (decide (l.seen < m.turn ∧ (l.state = 2 ∨ l.state = 3)))) ?_ ?_
   ·rcases (show (m.turn ≤ l.seen) ∨ (l.seen < m.turn ∧ l.state = 2) ∨ (l.seen < m.turn ∧ l.state ≠ 2 ∧ l.state = 3) ∨ (l.seen < m.turn ∧ l.state ≠ 2 ∧ l.state ≠ 3) from by omega) with hm | hm | hm | hm
    ·refine ZO ?_
     refine djc (fun _ _ => Ai rfl rfl (F5 (by omega))) ?_
     refine djm ?_
     refine dn12 ?_
     refine djf ?_
     refine ZZ ?_;intro ρ
     exact Zda
    ·refine ZbK ?_
     refine dj (dgy ?_)
     refine ZaI ?_
     refine dj (dgy ?_)
     refine dc (fun _ _ => Ss) ?_
     refine dn5 ?_
     refine dj (dgy ?_)
     refine dc (fun _ _ => Fd) ?_
     refine Zaj ?_;intro ρ
     exact ZcT
    ·refine kp [0, 1, 4, 32, 33, 34, 35, 36, 37, 38, 39, 40, 41, 42, 43, 44, 45, 46, 47, 48, 49, 50, 51, 52, 53, 54, 55] ?_
     refine ZbK ?_
     refine dj (dgy ?_)
     refine Zar ?_
     refine dj (dgy ?_)
     refine dc (fun _ _ => Ss) ?_
     refine dn4 ?_
     refine dj (dgy ?_)
     refine ZaI ?_
     refine dj (dgy ?_)
     refine dc (fun _ _ => Adk) ?_
     refine Zaj ?_;intro ρ
     exact ZcT
    ·refine ZbK ?_
     refine dj (dgy ?_)
     refine Zar ?_
     refine dj (dgy ?_)
     refine dc (fun _ _ => Ss) ?_
     refine dn4 ?_
     refine dj (dgy ?_)
     refine Zar ?_
     refine dj (dgy ?_)
     refine dc (fun _ _ => Adk) ?_
     refine Zaj ?_;intro ρ
     exact Zda
   ·refine A7 ?_
    first | (refine cdx (p := ?p2) (hd := ?d2) ?e2 ?_ ?_; case e2 => exact rfl) | (refine Cb (b := ?b2) ?e2 ?_ ?_; case e2 => exact rfl)
    ·intro ht32
     refine Gl ?_
     refine kp [0, 1, 4, 56, 57, 58, 59, 60, 61, 62, 63, 64, 65, 66, 67, 68, 69, 70, 71, 72, 73, 74, 75, 76] ?_
     refine Zck ?_
     refine jd_ (fun ρ S => foc 120 vL ls m.line.toNat (bif S 23 then [vi l.state, vi l.value, vi l.want, vi l.serial, vi m.turn, vi m.turn, vi l.value] else (bif S 20 then [vi l.state, vi l.value, vi l.want, vi l.serial, vi l.seen, vi m.turn, vi l.value] else (bif S 17 then [vi l.state, vi l.value, vi l.want, vi l.serial, vi l.seen, vi m.turn, vi l.given] else [vi l.state, vi l.value, vi l.want, vi l.serial, vi l.seen, vi l.gave, vi l.given]))) :: blk bk 123 [vL, vi q.kind, vi q.line, vi q.value, vi id, vi home, vo, vd] :: row 128 vo ms :: row 47 vd ds :: blk bm 128 m.cells :: (LX)) ?_
     refine Afr ?_
     refine Kb (v := vi l.value) (fun ρ S => Cp Tryz.isAgg3 (hc := at_f1 (α := Line) (xs := ls) pkk rfl (by repeat (first | exact rfl | refine Cr rfl ?_)))) (fun _ _ _ _ _ => rfl) ?_
     refine dn6 ?_
     refine Dl (T0 := 120) (f := 5) (k := m.line.toNat) (sz := 7) (hv := vL) (xs := ls) (vs := fun ρ => [vi l.state, vi l.value, vi l.want, vi l.serial, vi l.seen, vi l.gave, vi l.given]) (v := fun ρ => (vi m.turn)) rfl Tryz.sizeOf3 (fun _ => rfl) (fun _ => rfl) (fun _ _ _ _ _ _ _ _ => rfl) (fun _ => rfl) (fun ρ g S hS hB hA => ?_) ?_
     ·have ui : upS S 17 17 = true := rfl; have u20 : upS S 17 20 = S 20 := rfl; have u23 : upS S 17 23 = S 23 := rfl; have h20 : S 20 = false := hA 20 ⟨0, rfl⟩; have h23 : S 23 = false := hA 23 ⟨0, rfl⟩
      simp only [ui, hS, u20, u23, h20, h23, cond_true, cond_false]
      exact pex
     refine dn2 ?_
     refine Dl (T0 := 120) (f := 6) (k := m.line.toNat) (sz := 7) (hv := vL) (xs := ls) (vs := fun ρ => [vi l.state, vi l.value, vi l.want, vi l.serial, vi l.seen, vi m.turn, vi l.given]) (v := fun ρ => (vi l.value)) rfl Tryz.sizeOf3 (fun _ => rfl) (fun _ => rfl) (fun _ _ _ _ _ _ _ _ => rfl) (fun _ => rfl) (fun ρ g S hS hB hA => ?_) ?_
     ·have ui : upS S 20 20 = true := rfl; have u17 : upS S 20 17 = S 17 := rfl; have u23 : upS S 20 23 = S 23 := rfl; have h17 : S 17 = true := hB 17 ⟨0, rfl⟩; have h23 : S 23 = false := hA 23 ⟨0, rfl⟩
      simp only [ui, hS, u17, u23, h17, h23, cond_true, cond_false]
      exact pex
     refine dn2 ?_
     refine Dl (T0 := 120) (f := 4) (k := m.line.toNat) (sz := 7) (hv := vL) (xs := ls) (vs := fun ρ => [vi l.state, vi l.value, vi l.want, vi l.serial, vi l.seen, vi m.turn, vi l.value]) (v := fun ρ => (vi m.turn)) rfl Tryz.sizeOf3 (fun _ => rfl) (fun _ => rfl) (fun _ _ _ _ _ _ _ _ => rfl) (fun _ => rfl) (fun ρ g S hS hB hA => ?_) ?_
     ·have ui : upS S 23 23 = true := rfl; have u17 : upS S 23 17 = S 17 := rfl; have u20 : upS S 23 20 = S 20 := rfl; have h17 : S 17 = true := hB 17 ⟨0, rfl⟩; have h20 : S 20 = true := hB 20 ⟨0, rfl⟩
      simp only [ui, hS, u17, u20, h17, h20, cond_true, cond_false]
      exact pex
     refine dnl ?_; intro ρ
     refine xq_ (foc 120 vL ls m.line.toNat [vi l.state, vi l.value, vi l.want, vi l.serial, vi m.turn, vi m.turn, vi l.value] :: blk bk 123 [vL, vi q.kind, vi q.line, vi q.value, vi id, vi home, vo, vd] :: row 128 vo ms :: row 47 vd ds :: blk bm 128 m.cells :: (LX)) ?_
     refine Gm ?_
     refine rn3 ?_
     refine ZH ?_
     refine Ga5 ?_
     refine cdy ?_ ?_
     ·intro ht84
      refine kp [0, 1, 4, 85, 86, 87, 88, 89, 90] ?_
      refine ZG ?_
      refine sc ?_
      refine rn2 ?_
      refine ZH ?_
      refine Ga5 ?_
      refine cdy ?_ ?_
      ·exact Zc8
      ·intro ht95
       refine Gl ?_
       refine Bl ?_
       refine dn13 ?_
       refine dtl ?_; intro ρ
       refine Aj Tryz.call90 rfl (fun w hs => Ep (vL := vL) (vd := vd) (q := q) (id := id) (home := home) (ms := ms) (kind := 9) (line := m.line) (serial := 0) (turn := m.turn) (value := l.value) (LX := foc 120 vL ls m.line.toNat [vi 0, vi 0, vi l.want, vi l.serial, vi m.turn, vi m.turn, vi l.value] :: row 47 vd ds :: blk bm 128 m.cells :: LX) (Af hs) hn (by unfold Msg.wf An; simp only; omega)) ?_; intro v142
       refine Gl ?_
       have ef : C2 l m.kind m.turn = { l with seen := m.turn, gave := m.turn, given := l.value, state := 0, value := 0 } := by unfold C2; rw [if_neg ht95, if_pos ht84]
       have er : (Ac ⟨ls, q⟩ id home m) = (⟨ls.set m.line.toNat ({ l with seen := m.turn, gave := m.turn, given := l.value, state := 0, value := 0 }), q⟩, [Bm 9 id home m.line m.turn l.value], []) := by rw [Ho hl hi hk, if_pos (by unfold Ez; omega), ef, if_neg ht95, if_neg ht95]
       rw [er, List.append_nil]
       refine Ax (.inl rfl) (fun B w hs => Gx rfl _ w) (fun w hs => ⟨(v142, vd), rfl, Af (Cw ({ l with seen := m.turn, gave := m.turn, given := l.value, state := 0, value := 0 }) (by unfold Line.wf An; simp only; omega) (hs.pick pkk))⟩)
     ·intro ht84
      refine Gl ?_
      refine kp [0, 1, 4, 91, 92, 93, 94, 95] ?_
      refine Aa ?_
      refine Ga5 ?_
      refine cdy ?_ ?_
      ·exact Zc8
      ·intro ht95
       refine Gl ?_
       refine Bl ?_
       refine dn13 ?_
       refine dtl ?_; intro ρ
       refine Aj Tryz.call90 rfl (fun w hs => Ep (vL := vL) (vd := vd) (q := q) (id := id) (home := home) (ms := ms) (kind := 9) (line := m.line) (serial := 0) (turn := m.turn) (value := l.value) (LX := foc 120 vL ls m.line.toNat [vi 1, vi l.value, vi l.want, vi l.serial, vi m.turn, vi m.turn, vi l.value] :: row 47 vd ds :: blk bm 128 m.cells :: LX) (Af hs) hn (by unfold Msg.wf An; simp only; omega)) ?_; intro v142
       refine Gl ?_
       have ef : C2 l m.kind m.turn = { l with seen := m.turn, gave := m.turn, given := l.value, state := 1 } := by unfold C2; rw [if_neg ht95, if_neg ht84]
       have er : (Ac ⟨ls, q⟩ id home m) = (⟨ls.set m.line.toNat ({ l with seen := m.turn, gave := m.turn, given := l.value, state := 1 }), q⟩, [Bm 9 id home m.line m.turn l.value], []) := by rw [Ho hl hi hk, if_pos (by unfold Ez; omega), ef, if_neg ht95, if_neg ht95]
       rw [er, List.append_nil]
       refine Ax (.inl rfl) (fun B w hs => Gx rfl _ w) (fun w hs => ⟨(v142, vd), rfl, Af (Cw ({ l with seen := m.turn, gave := m.turn, given := l.value, state := 1 }) (by unfold Line.wf An; simp only; omega) (hs.pick pkk))⟩)
    ·intro ht32
     refine Gl ?_
     have er : (Ac ⟨ls, q⟩ id home m) = (⟨ls, q⟩, [], []) := by rw [Ho hl hi hk, if_neg (by unfold Ez; omega), if_neg ht15]
     exact Zdp
theorem Wq {LX : List Chunk} {R : List Fact} {w : World} {vL vo vd : Value} {bk : Nat} {q : Op} {id home : Int} {ls : List Line} {l : Line} {bm : Nat} {ms : List Msg} {ds : List Done} {m : Msg} (hs : St (blk bk 123 [vL, vi q.kind, vi q.line, vi q.value, vi id, vi home, vo, vd] :: row 120 vL ls :: row 128 vo ms :: row 47 vd ds :: blk bm 128 m.cells :: LX) R w) (hl : ls.getD m.line.toNat zLine = l) (hi : 0 ≤ m.line ∧ m.line < (ls.length : Int)) (hll : ls.length ≤ 100) (hm : m.wf) (hid : An id) (hhome : An home) (hn : ms.length ≤ 1000) (hnd : ds.length ≤ 1000) (hq : q.wf) (hk : m.kind = 7) (hqa : Kc l m → q.line = m.line ∧ (1 ≤ q.kind ∧ q.kind ≤ 4) ∧ 0 ≤ q.value ∧ q.value ≤ 255) : Calls Tryz.prog 92 [bp bk 0, bp bm 0].toArray w (Bh (fun g : Value × Value => .tuple #[]) (fun g => blk bk 123 [vL, vi (Ac ⟨ls, q⟩ id home m).1.wait.kind, vi (Ac ⟨ls, q⟩ id home m).1.wait.line, vi (Ac ⟨ls, q⟩ id home m).1.wait.value, vi id, vi home, g.1, g.2] :: row 120 vL (Ac ⟨ls, q⟩ id home m).1.lines :: row 128 g.1 (ms ++ (Ac ⟨ls, q⟩ id home m).2.1) :: row 47 g.2 (ds ++ (Ac ⟨ls, q⟩ id home m).2.2) :: blk bm 128 m.cells :: LX) (fun g => R)) := by
 have hm0 := hm
 unfold Msg.wf An at hm0
 refine ZaB ?_;intro hid0 hhome0
 refine Ag Tryz.func92 rfl Tryz.ntmps92 rfl hs ?_
 clear hs
 refine Gl ?_
 refine Zbe ?_;intro hlw hA hlw0 honeL
 refine dn9 ?_
 refine Zbg ?_;intro ρ
 refine Bl ?_
 refine dn9 ?_
 refine dnl ?_; intro ρ
 refine Gl ?_
 refine cdy ?_ ?_
 ·intro ht24
  refine Gl ?_
  have er : (Ac ⟨ls, q⟩ id home m) = (⟨ls, q⟩, [], []) := by rw [I3 hl hi hk, if_pos (by omega)]
  exact Zdp
 ·intro ht24
  refine Gl ?_
  refine ZbC ?_
  refine Ff 5 (.bool (decide ((l.want = 1 ∧ m.alone = false) ∨ (l.want = 2 ∧ m.alone = true)))) ?_ ?_
  ·rcases (show (l.want = 1 ∧ m.alone = false) ∨ (l.want = 1 ∧ m.alone = true) ∨ (l.want = 2 ∧ m.alone = true) ∨ (l.want = 2 ∧ m.alone = false) ∨ (l.want ≠ 1 ∧ l.want ≠ 2) from by rcases Bool.eq_false_or_eq_true m.alone with h1 | h1 <;> simp only [h1, and_true, and_false, or_false, false_or, reduceCtorEq] <;> omega) with hm | hm | hm | hm | hm
   ·obtain ⟨hc1, hal⟩ := hm
    refine ZG ?_
    refine Zc1 ?_
    refine Ga16 ?_
    exact ZcS
   ·obtain ⟨hc1, hal⟩ := hm
    refine ZG ?_
    refine Zc2 ?_
    refine rn7 ?_
    refine gy ?_
    refine Ay ?_
    refine Ga8 ?_
    exact ZcF
   ·obtain ⟨hc1, hal⟩ := hm
    refine ZbC ?_
    refine ZG ?_
    refine Ay ?_
    refine rn12 ?_
    refine gy ?_
    refine Zc2 ?_
    refine Ga3 ?_
    exact ZcS
   ·obtain ⟨hc1, hal⟩ := hm
    refine ZG ?_
    refine Ay ?_
    refine rn12 ?_
    refine gy ?_
    refine Zc1 ?_
    refine Ga3 ?_
    exact ZcF
   ·refine ZbC ?_
    refine ZG ?_
    refine Ay ?_
    refine rn12 ?_
    refine gy ?_
    refine Ay ?_
    refine Ga8 ?_
    exact ZcF
  ·refine A7 ?_
   refine Gl ?_
   rcases (show (m.serial = l.serial) ∨ (m.serial ≠ l.serial) from by omega) with hc | hc
   ·refine ZO ?_
    refine ZaA ?_
    refine Zab ?_
    refine dnl ?_; intro ρ
    refine Gl ?_
    first | (refine cdx (p := ?p2) (hd := ?d2) ?e2 ?_ ?_; case e2 => exact rfl) | (refine Cb (b := ?b2) ?e2 ?_ ?_; case e2 => exact rfl)
    ·intro ht61
     have haq : Kc l m := ⟨hc, ht61⟩
     obtain ⟨hq1, hq2, hq3⟩ := hqa haq
     refine Gl ?_
     refine kp [0, 1, 4, 62, 63, 64, 65, 66, 67, 68, 69, 70, 71, 72, 73, 74, 75, 76, 77, 78, 79, 80, 81] ?_
     refine Zck ?_
     refine jd_ (fun ρ S => foc 120 vL ls m.line.toNat (bif S 23 then [vi 1, vi m.value, vi 0, vi l.serial, vi m.turn, vi l.gave, vi l.given] else (bif S 20 then [vi 1, vi m.value, vi 0, vi l.serial, vi l.seen, vi l.gave, vi l.given] else (bif S 17 then [vi 1, vi m.value, vi l.want, vi l.serial, vi l.seen, vi l.gave, vi l.given] else (bif S 14 then [vi 1, vi l.value, vi l.want, vi l.serial, vi l.seen, vi l.gave, vi l.given] else [vi l.state, vi l.value, vi l.want, vi l.serial, vi l.seen, vi l.gave, vi l.given])))) :: blk bk 123 [vL, vi q.kind, vi q.line, vi q.value, vi id, vi home, vo, vd] :: row 128 vo ms :: row 47 vd ds :: blk bm 128 m.cells :: (LX)) ?_
     refine dn14 ?_
     refine Dl (T0 := 120) (f := 0) (k := m.line.toNat) (sz := 7) (hv := vL) (xs := ls) (vs := fun ρ => [vi l.state, vi l.value, vi l.want, vi l.serial, vi l.seen, vi l.gave, vi l.given]) (v := fun ρ => (vi 1)) rfl Tryz.sizeOf3 (fun _ => rfl) (fun _ => rfl) (fun _ _ _ _ _ _ _ _ => rfl) (fun _ => rfl) (fun ρ g S hS hB hA => ?_) ?_
     ·have ui : upS S 14 14 = true := rfl; have u17 : upS S 14 17 = S 17 := rfl; have u20 : upS S 14 20 = S 20 := rfl; have u23 : upS S 14 23 = S 23 := rfl; have h17 : S 17 = false := hA 17 ⟨0, rfl⟩; have h20 : S 20 = false := hA 20 ⟨0, rfl⟩; have h23 : S 23 = false := hA 23 ⟨0, rfl⟩
      simp only [ui, hS, u17, u20, u23, h17, h20, h23, cond_true, cond_false]
      exact pex
     refine dn2 ?_
     refine Dl (T0 := 120) (f := 1) (k := m.line.toNat) (sz := 7) (hv := vL) (xs := ls) (vs := fun ρ => [vi 1, vi l.value, vi l.want, vi l.serial, vi l.seen, vi l.gave, vi l.given]) (v := fun ρ => (vi m.value)) rfl Tryz.sizeOf3 (fun _ => rfl) (fun _ => rfl) (fun _ _ _ _ _ _ _ _ => rfl) (fun _ => rfl) (fun ρ g S hS hB hA => ?_) ?_
     ·have ui : upS S 17 17 = true := rfl; have u14 : upS S 17 14 = S 14 := rfl; have u20 : upS S 17 20 = S 20 := rfl; have u23 : upS S 17 23 = S 23 := rfl; have h14 : S 14 = true := hB 14 ⟨0, rfl⟩; have h20 : S 20 = false := hA 20 ⟨0, rfl⟩; have h23 : S 23 = false := hA 23 ⟨0, rfl⟩
      simp only [ui, hS, u14, u20, u23, h14, h20, h23, cond_true, cond_false]
      exact pex
     refine dn2 ?_
     refine Dl (T0 := 120) (f := 2) (k := m.line.toNat) (sz := 7) (hv := vL) (xs := ls) (vs := fun ρ => [vi 1, vi m.value, vi l.want, vi l.serial, vi l.seen, vi l.gave, vi l.given]) (v := fun ρ => (vi 0)) rfl Tryz.sizeOf3 (fun _ => rfl) (fun _ => rfl) (fun _ _ _ _ _ _ _ _ => rfl) (fun _ => rfl) (fun ρ g S hS hB hA => ?_) ?_
     ·have ui : upS S 20 20 = true := rfl; have u14 : upS S 20 14 = S 14 := rfl; have u17 : upS S 20 17 = S 17 := rfl; have u23 : upS S 20 23 = S 23 := rfl; have h14 : S 14 = true := hB 14 ⟨0, rfl⟩; have h17 : S 17 = true := hB 17 ⟨0, rfl⟩; have h23 : S 23 = false := hA 23 ⟨0, rfl⟩
      simp only [ui, hS, u14, u17, u23, h14, h17, h23, cond_true, cond_false]
      exact pex
     refine dn2 ?_
     refine Dl (T0 := 120) (f := 4) (k := m.line.toNat) (sz := 7) (hv := vL) (xs := ls) (vs := fun ρ => [vi 1, vi m.value, vi 0, vi l.serial, vi l.seen, vi l.gave, vi l.given]) (v := fun ρ => (vi m.turn)) rfl Tryz.sizeOf3 (fun _ => rfl) (fun _ => rfl) (fun _ _ _ _ _ _ _ _ => rfl) (fun _ => rfl) (fun ρ g S hS hB hA => ?_) ?_
     ·have ui : upS S 23 23 = true := rfl; have u14 : upS S 23 14 = S 14 := rfl; have u17 : upS S 23 17 = S 17 := rfl; have u20 : upS S 23 20 = S 20 := rfl; have h14 : S 14 = true := hB 14 ⟨0, rfl⟩; have h17 : S 17 = true := hB 17 ⟨0, rfl⟩; have h20 : S 20 = true := hB 20 ⟨0, rfl⟩
      simp only [ui, hS, u14, u17, u20, h14, h17, h20, cond_true, cond_false]
      exact pex
     refine dnl ?_; intro ρ
     refine xq_ (foc 120 vL ls m.line.toNat [vi 1, vi m.value, vi 0, vi l.serial, vi m.turn, vi l.gave, vi l.given] :: blk bk 123 [vL, vi q.kind, vi q.line, vi q.value, vi id, vi home, vo, vd] :: row 128 vo ms :: row 47 vd ds :: blk bm 128 m.cells :: (LX)) ?_
     refine Gm ?_
     refine Ga4 ?_
     refine Cb (b := ?b3) ?e3 ?_ ?_; case e3 => exact rfl
     ·intro ht85
      refine ZI ?_
      refine sc ?_
      refine Gl ?_
      refine JC.conseq (L' := row 120 vL (ls.set m.line.toNat ({ l with state := 2, value := m.value, want := 0, seen := m.turn })) :: blk bk 123 [vL, vi q.kind, vi q.line, vi q.value, vi id, vi home, vo, vd] :: row 128 vo ms :: row 47 vd ds :: blk bm 128 m.cells :: LX) (fun w hs => Af (Cw ({ l with state := 2, value := m.value, want := 0, seen := m.turn }) (by unfold Line.wf An; simp only; omega) (hs.pick pkk))) ?_
      refine kp [0, 1, 89, 90, 91, 92, 93, 94] ?_
      refine ZX ?_
      refine ob (E9 3 Tryz.isAgg27 Tryz.sizeOf27) ?_
      refine Aj Tryz.call56 rfl (fun w hs => Js (vL := vL) (vd := vd) (q := q) (q0 := q) (id := id) (home := home) (ds := ds) (ls := ls.set m.line.toNat ({ l with state := 2, value := m.value, want := 0, seen := m.turn })) (l := { l with state := 2, value := m.value, want := 0, seen := m.turn }) (LX := row 128 vo ms :: blk bm 128 m.cells :: LX) (Af hs) (by rw [hq1, List.getD_eq_getElem?_getD, List.getElem?_set_self (by omega)]; rfl) (by rw [hq1, List.length_set]; exact hi) (by rw [List.length_set]; exact hll) hid hhome hnd hq hq2 hq3) ?_; intro v95
      refine J.conseq (L' := blk bk 123 [vL, vi 0, vi 0, vi 0, vi id, vi home, vo, v95] :: row 120 vL (ls.set m.line.toNat ({ l with state := 2, value := (Bb m.value q).1, want := 0, seen := m.turn })) :: row 47 v95 (ds ++ [(⟨id, q, (Bb m.value q).2⟩ : Done)]) :: row 128 vo ms :: blk bm 128 m.cells :: LX) (fun w hs => by rw [hq1, List.set_set] at hs; exact Af hs) ?_
      refine Gl ?_
      refine Bl ?_
      refine dn9 ?_
      refine dtl ?_; intro ρ
      refine Aj Tryz.call90 rfl (fun w hs => Ep (vL := vL) (vd := v95) (q := zOp) (id := id) (home := home) (ms := ms) (kind := 10) (line := m.line) (serial := 0) (turn := m.turn) (value := 0) (LX := row 120 vL (ls.set m.line.toNat ({ l with state := 2, value := (Bb m.value q).1, want := 0, seen := m.turn })) :: row 47 v95 (ds ++ [(⟨id, q, (Bb m.value q).2⟩ : Done)]) :: blk bm 128 m.cells :: LX) (Af hs) hn (by unfold Msg.wf An; simp only; omega)) ?_; intro v105
      refine Gl ?_
      have eg : Jn l m q = { l with state := 2, value := (Bb m.value q).1, want := 0, seen := m.turn } := by unfold Jn; rw [ht85, if_pos rfl]
      have er : (Ac ⟨ls, q⟩ id home m) = (⟨ls.set m.line.toNat ({ l with state := 2, value := (Bb m.value q).1, want := 0, seen := m.turn }), zOp⟩, [Bm 10 id home m.line m.turn 0], [⟨id, q, (Bb m.value q).2⟩]) := by rw [I3 hl hi hk, if_neg (by omega), if_pos haq, eg]
      rw [er]
      refine Ax (.inl rfl) (fun B w hs => Gx rfl _ w) (fun w hs => ⟨(v105, v95), rfl, Af hs⟩)
     ·intro ht85
      refine Gl ?_
      refine JC.conseq (L' := row 120 vL (ls.set m.line.toNat ({ l with state := 1, value := m.value, want := 0, seen := m.turn })) :: blk bk 123 [vL, vi q.kind, vi q.line, vi q.value, vi id, vi home, vo, vd] :: row 128 vo ms :: row 47 vd ds :: blk bm 128 m.cells :: LX) (fun w hs => Af (Cw ({ l with state := 1, value := m.value, want := 0, seen := m.turn }) (by unfold Line.wf An; simp only; omega) (hs.pick pkk))) ?_
      refine ZX ?_
      refine ob (E9 3 Tryz.isAgg27 Tryz.sizeOf27) ?_
      refine Aj Tryz.call56 rfl (fun w hs => Js (vL := vL) (vd := vd) (q := q) (q0 := q) (id := id) (home := home) (ds := ds) (ls := ls.set m.line.toNat ({ l with state := 1, value := m.value, want := 0, seen := m.turn })) (l := { l with state := 1, value := m.value, want := 0, seen := m.turn }) (LX := row 128 vo ms :: blk bm 128 m.cells :: LX) (Af hs) (by rw [hq1, List.getD_eq_getElem?_getD, List.getElem?_set_self (by omega)]; rfl) (by rw [hq1, List.length_set]; exact hi) (by rw [List.length_set]; exact hll) hid hhome hnd hq hq2 hq3) ?_; intro v95
      refine J.conseq (L' := blk bk 123 [vL, vi 0, vi 0, vi 0, vi id, vi home, vo, v95] :: row 120 vL (ls.set m.line.toNat ({ l with state := 1, value := (Bb m.value q).1, want := 0, seen := m.turn })) :: row 47 v95 (ds ++ [(⟨id, q, (Bb m.value q).2⟩ : Done)]) :: row 128 vo ms :: blk bm 128 m.cells :: LX) (fun w hs => by rw [hq1, List.set_set] at hs; exact Af hs) ?_
      refine Gl ?_
      refine kp [0, 1, 96, 97, 98, 99, 100, 101, 102, 103, 104] ?_
      refine Bl ?_
      refine dn9 ?_
      refine dtl ?_; intro ρ
      refine Aj Tryz.call90 rfl (fun w hs => Ep (vL := vL) (vd := v95) (q := zOp) (id := id) (home := home) (ms := ms) (kind := 10) (line := m.line) (serial := 0) (turn := m.turn) (value := 0) (LX := row 120 vL (ls.set m.line.toNat ({ l with state := 1, value := (Bb m.value q).1, want := 0, seen := m.turn })) :: row 47 v95 (ds ++ [(⟨id, q, (Bb m.value q).2⟩ : Done)]) :: blk bm 128 m.cells :: LX) (Af hs) hn (by unfold Msg.wf An; simp only; omega)) ?_; intro v105
      refine Gl ?_
      have eg : Jn l m q = { l with state := 1, value := (Bb m.value q).1, want := 0, seen := m.turn } := by unfold Jn; rw [ht85, if_neg (by decide)]
      have er : (Ac ⟨ls, q⟩ id home m) = (⟨ls.set m.line.toNat ({ l with state := 1, value := (Bb m.value q).1, want := 0, seen := m.turn }), zOp⟩, [Bm 10 id home m.line m.turn 0], [⟨id, q, (Bb m.value q).2⟩]) := by rw [I3 hl hi hk, if_neg (by omega), if_pos haq, eg]
      rw [er]
      refine Ax (.inl rfl) (fun B w hs => Gx rfl _ w) (fun w hs => ⟨(v105, v95), rfl, Af hs⟩)
    ·intro ht61
     refine Gl ?_
     refine Zca ?_;intro ρ v105
     have er : (Ac ⟨ls, q⟩ id home m) = (⟨ls, q⟩, [Bm 10 id home m.line m.turn 0], []) := by rw [I3 hl hi hk, if_neg (by omega), if_neg (fun h => ht61 h.2)]
     rw [er, List.append_nil]
     refine Ax (.inl rfl) (fun B w hs => Gx rfl _ w) (fun w hs => ⟨(v105, vd), rfl, Af (Dk hl hlw (hs.pick pkk))⟩)
   ·refine ZO ?_
    refine Za6 ?_
    refine djm ?_
    refine dn1 ?_
    refine djf ?_
    refine dnl ?_; intro ρ
    refine Glc ?_
    refine Zca ?_;intro ρ v105
    have er : (Ac ⟨ls, q⟩ id home m) = (⟨ls, q⟩, [Bm 10 id home m.line m.turn 0], []) := by rw [I3 hl hi hk, if_neg (by omega), if_neg (fun h => hc h.1)]
    rw [er, List.append_nil]
    refine Ax (.inl rfl) (fun B w hs => Gx rfl _ w) (fun w hs => ⟨(v105, vd), rfl, Af (Dk hl hlw (hs.pick pkk))⟩)
section
variable {ls : List Line} {q : Op} {id home : Int} {m : Msg} {l : Line}
theorem Mz (hl : ls.getD m.line.toNat zLine = l) (hi : 0 ≤ m.line ∧ m.line < (ls.length : Int)) (hk : m.kind = 4) : Ac ⟨ls, q⟩ id home m = (⟨ls.set m.line.toNat (Dr l m.turn), q⟩, [Bm 8 id home m.line m.turn 0], []) := by
 subst hl
 unfold Ac
 rw [if_neg (by simp only; omega), if_pos hk]; rfl
theorem Ot (hl : ls.getD m.line.toNat zLine = l) (hi : 0 ≤ m.line ∧ m.line < (ls.length : Int)) (hk : m.kind = 11) : Ac ⟨ls, q⟩ id home m = (if l.want = 3 ∧ m.serial = l.serial then (⟨ls.set m.line.toNat { l with state := 0, value := 0, want := 0 }, zOp⟩, [], [⟨id, q, 0⟩]) else (⟨ls, q⟩, [], [])) := by
 subst hl
 unfold Ac
 rw [if_neg (by simp only; omega), if_neg (by omega), if_neg (by omega), if_neg (by omega)]
 by_cases h : (ls.getD m.line.toNat zLine).want = 3 ∧ m.serial = (ls.getD m.line.toNat zLine).serial
 ·rw [if_pos h, if_pos ⟨hk, h⟩]; rfl
 ·rw [if_neg h, if_neg (fun g => h g.2)]
theorem Yy (hi : 0 ≤ m.line ∧ m.line < (ls.length : Int)) (hk : m.kind ≠ 4 ∧ m.kind ≠ 5 ∧ m.kind ≠ 6 ∧ m.kind ≠ 7 ∧ m.kind ≠ 11) : Ac ⟨ls, q⟩ id home m = (⟨ls, q⟩, [], []) := by
 unfold Ac
 rw [if_neg (by simp only; omega), if_neg (by omega), if_neg (by omega), if_neg (by omega), if_neg (by omega)]
end
structure KH (c : Core) : Prop where
 n : c.lines.length ≤ 4
 w : CW c c.lines.length
theorem KB.kh {c : Core} (h : KB c) : KH c := ⟨h.n, h.w⟩
theorem KH.wline {c : Core} (h : KH c) (i : Int) (h0 : 0 ≤ i) (hi : i.toNat < c.lines.length) (hw : (Bq c i).want ≠ 0) : c.wait.line = i ∧ (1 ≤ c.wait.kind ∧ c.wait.kind ≤ 4) ∧ 0 ≤ c.wait.value ∧ c.wait.value ≤ 255 := by
 have hb := h.w.busy (fun h0 => hw ((h.w.free h0).2 i.toNat hi))
 have h1 := hb.2.2.2 i.toNat hi
 by_cases e : (i.toNat : Int) = c.wait.line
 ·exact ⟨by omega, hb.1, hb.2.2.1⟩
 ·rw [if_neg e] at h1; exact absurd h1 hw
theorem KH.wwf {c : Core} (h : KH c) : c.wait.wf := by
 by_cases h0 : c.wait.kind = 0
 ·rw [(h.w.free h0).1]; unfold Op.wf An; decide
 ·have hb := h.w.busy h0
  have := h.n
  unfold Op.wf An; omega
theorem Yx (c : Core) (id home : Int) (m : Msg) : (Ac c id home m).1.lines.length = c.lines.length := by
 unfold Ac
 repeat' split
 all_goals first | rfl | exact List.length_set
theorem KH.hear {c : Core} (h : KH c) (id home : Int) (m : Msg) : KH (Ac c id home m).1 := by
 have n' := Yx c id home m
 refine ⟨by rw [n']; exact h.n, ?_⟩
 rw [n']; clear n'
 by_cases o : m.line < 0 ∨ (c.lines.length : Int) ≤ m.line
 ·unfold Ac; rw [if_pos o]; exact h.w
 obtain ⟨i, hi⟩ := Int.eq_ofNat_of_zero_le (show 0 ≤ m.line by omega)
 have hil : i < c.lines.length := by omega
 have hz : (Bq c m.line).want ≠ 0 → c.wait.line = (i : Int) := fun hw => by rw [(h.wline m.line (by omega) (by omega) hw).1, hi]
 have hla : Bq c m.line = c.lines.getD i zLine := by unfold Bq; rw [hi]; rfl
 unfold Ac; rw [if_neg o]
 generalize Bq c m.line = l at hz hla
 rw [hi]
 split
 ·refine Nb rfl h.w hil ?_
  rw [← hla]; unfold Dr; split <;> (try split) <;> rfl
 split
 ·split
  ·by_cases e : l.want = 3
   ·rw [if_pos e]
    refine Gu rfl h.w hil (.inr (hz (by omega))) ?_
    unfold C2; rw [if_pos e]
   ·rw [if_neg e]
    refine Nb rfl h.w hil ?_
    rw [← hla]; unfold C2; rw [if_neg e]; split <;> rfl
  split <;> exact h.w
 split
 ·split
  ·exact h.w
  split
  ·rename_i a
   exact Gu rfl h.w hil (.inr (hz (by unfold Kc at a; omega))) rfl
  ·exact h.w
 split
 ·rename_i a
  exact Gu rfl h.w hil (.inr (hz (by omega))) rfl
 ·exact h.w
theorem open_l {P : Program} {n : Nat} {Q : Exit → Act → World → Prop} {L : List Chunk} {R : List Fact} {al : List (Nat × Value)} {cd : Code} {v : Value} {ls : List Line} {l : Line} {i : Int} (hl : ls.getD i.toNat zLine = l) (hm : sl v ls ∈ R) (h0 : 0 ≤ i) (hi : i < (ls.length : Int)) (k : l.wf → JC P n cd Q L (cF v 7 i.toNat l.cells :: R) al) : JC P n cd Q L R al := by
 subst hl
 exact JC.open0 (xs := ls) i.toNat hm (by omega) k
theorem Wp {u : Value} {ls : List Line} {q : Op} {l : Line} {id home : Int} {m : Msg} (hs : St (L) R w) (hu : sl u ls ∈ R) (hk : KH ⟨ls, q⟩) (hid : An id) (hhome : An home) (hm : m.wf) (hl : ls.getD m.line.toNat zLine = l) (hg : m.line < 0 ∨ (ls.length : Int) ≤ m.line) : Calls Tryz.prog 63 [.agg (Core.cells u ⟨ls, q⟩).toArray, vi id, vi home, .agg m.cells.toArray].toArray w (Bh (fun v : Value × Value × Value => .tuple #[.agg (Core.cells v.1 (Ac ⟨ls, q⟩ id home m).1).toArray, v.2.1, v.2.2]) (fun v => L) (fun v => sl v.1 (Ac ⟨ls, q⟩ id home m).1.lines :: sl v.2.1 (Ac ⟨ls, q⟩ id home m).2.1 :: sl v.2.2 (Ac ⟨ls, q⟩ id home m).2.2 :: R)) := by
 refine ZaC ?_;intro hlen hone0 hn4 hm0 hid0 hhome0
 clear hs
 refine ZaY ?_;intro b4 b7 b8 vL honeV b18
 rcases (show (m.line < 0) ∨ (¬ m.line < 0 ∧ (ls.length : Int) ≤ m.line) from by omega) with hc | hc
 ·refine Zay ?_
  refine Gc8 ?_
  refine Zch ?_;intro er
  exact Zdj
 ·refine ZA ?_
  refine Bj ?_
  refine ZL ?_
  refine J8 ?_
  refine Gc1 ?_
  refine Zch ?_;intro er
  exact Zdj
theorem Wo {u : Value} {ls : List Line} {q : Op} {l : Line} {id home : Int} {m : Msg} (hs : St (L) R w) (hu : sl u ls ∈ R) (hk : KH ⟨ls, q⟩) (hid : An id) (hhome : An home) (hm : m.wf) (hl : ls.getD m.line.toNat zLine = l) (hg : 0 ≤ m.line ∧ m.line < (ls.length : Int) ∧ m.kind = 4) : Calls Tryz.prog 63 [.agg (Core.cells u ⟨ls, q⟩).toArray, vi id, vi home, .agg m.cells.toArray].toArray w (Bh (fun v : Value × Value × Value => .tuple #[.agg (Core.cells v.1 (Ac ⟨ls, q⟩ id home m).1).toArray, v.2.1, v.2.2]) (fun v => L) (fun v => sl v.1 (Ac ⟨ls, q⟩ id home m).1.lines :: sl v.2.1 (Ac ⟨ls, q⟩ id home m).2.1 :: sl v.2.2 (Ac ⟨ls, q⟩ id home m).2.2 :: R)) := by
 refine ZaC ?_;intro hlen hone0 hn4 hm0 hid0 hhome0
 clear hs
 refine ZaY ?_;intro b4 b7 b8 vL honeV b18
 refine ZA ?_
 refine Zag ?_
 refine Gc1 ?_
 refine Zbe ?_;intro hlw hA hlw0 honeL
 refine dn7 ?_
 refine Zbg ?_;intro ρ
 refine Zb1 ?_
 refine Df ?_
 refine Gc1 ?_
 refine Bl ?_
 refine dn7 ?_
 refine dnl ?_; intro ρ
 refine Gl ?_
 refine cdy ?_ ?_
 ·intro ht52
  refine Gm ?_
  refine rn5 ?_
  refine ZH ?_
  refine Ga5 ?_
  refine cdy ?_ ?_
  ·intro ht62
   refine ZG ?_
   refine sc ?_
   refine Zaa ?_
   refine ZQ ?_
   refine ZX ?_
   refine Aj Tryz.call90 rfl (fun w hs => Ep (vL := vL) (vd := .slice none 0 0) (q := q) (id := id) (home := home) (ms := []) (kind := 8) (line := m.line) (serial := 0) (turn := m.turn) (value := 0) (LX := foc 120 vL ls m.line.toNat [vi 0, vi 0, vi l.want, vi l.serial, vi m.turn, vi l.gave, vi l.given] :: blk b8 93 [.slice none 0 0, vi 0, vi 0, vi 0] :: L) (Af hs) (by simp) (by unfold Msg.wf An; simp only; omega)) ?_; intro v74
   refine Gl ?_
   refine JC.conseq (L' := row 120 vL (ls.set m.line.toNat ({ l with seen := m.turn, state := 0, value := 0 })) :: blk b18 123 [vL, vi q.kind, vi q.line, vi q.value, vi id, vi home, v74, .slice none 0 0] :: row 128 v74 [Bm 8 id home m.line m.turn 0] :: blk b8 93 [.slice none 0 0, vi 0, vi 0, vi 0] :: L) (fun w hs => Af (Cw ({ l with seen := m.turn, state := 0, value := 0 }) (by unfold Line.wf An; simp only; omega) (hs.pick pkk))) ?_
   refine JC.shut (v := vL) (xs := (ls.set m.line.toNat ({ l with seen := m.turn, state := 0, value := 0 }))) .hd ?_
   refine ZbQ ?_
   refine ZbM ?_
   refine Zbt ?_;intro ρ
   have eh : Dr l m.turn = { l with seen := m.turn, state := 0, value := 0 } := by unfold Dr; rw [if_pos (by omega), if_pos (by omega)]
   have er : (Ac ⟨ls, q⟩ id home m) = (⟨ls.set m.line.toNat ({ l with seen := m.turn, state := 0, value := 0 }), q⟩, [Bm 8 id home m.line m.turn 0], []) := by rw [Mz hl (by omega) (by omega), eh]
   exact Zdx
  ·intro ht62
   refine Gl ?_
   refine ZQ ?_
   refine ZX ?_
   refine Aj Tryz.call90 rfl (fun w hs => Ep (vL := vL) (vd := .slice none 0 0) (q := q) (id := id) (home := home) (ms := []) (kind := 8) (line := m.line) (serial := 0) (turn := m.turn) (value := 0) (LX := foc 120 vL ls m.line.toNat [vi l.state, vi l.value, vi l.want, vi l.serial, vi m.turn, vi l.gave, vi l.given] :: blk b8 93 [.slice none 0 0, vi 0, vi 0, vi 0] :: L) (Af hs) (by simp) (by unfold Msg.wf An; simp only; omega)) ?_; intro v74
   refine Gl ?_
   refine JC.conseq (L' := row 120 vL (ls.set m.line.toNat ({ l with seen := m.turn })) :: blk b18 123 [vL, vi q.kind, vi q.line, vi q.value, vi id, vi home, v74, .slice none 0 0] :: row 128 v74 [Bm 8 id home m.line m.turn 0] :: blk b8 93 [.slice none 0 0, vi 0, vi 0, vi 0] :: L) (fun w hs => Af (Cw ({ l with seen := m.turn }) (by unfold Line.wf An; simp only; omega) (hs.pick pkk))) ?_
   refine JC.shut (v := vL) (xs := (ls.set m.line.toNat ({ l with seen := m.turn }))) .hd ?_
   refine ZbQ ?_
   refine Zbt ?_;intro ρ
   have eh : Dr l m.turn = { l with seen := m.turn } := by unfold Dr; rw [if_pos (by omega), if_neg (by omega)]
   have er : (Ac ⟨ls, q⟩ id home m) = (⟨ls.set m.line.toNat ({ l with seen := m.turn }), q⟩, [Bm 8 id home m.line m.turn 0], []) := by rw [Mz hl (by omega) (by omega), eh]
   exact Zdx
 ·intro ht52
  refine Gl ?_
  refine ZQ ?_
  refine ZX ?_
  refine Aj Tryz.call90 rfl (fun w hs => Ep (vL := vL) (vd := .slice none 0 0) (q := q) (id := id) (home := home) (ms := []) (kind := 8) (line := m.line) (serial := 0) (turn := m.turn) (value := 0) (LX := foc 120 vL ls m.line.toNat [vi l.state, vi l.value, vi l.want, vi l.serial, vi l.seen, vi l.gave, vi l.given] :: blk b8 93 [.slice none 0 0, vi 0, vi 0, vi 0] :: L) (Af hs) (by simp) (by unfold Msg.wf An; simp only; omega)) ?_; intro v74
  refine Gl ?_
  refine JC.conseq (L' := row 120 vL ls :: blk b18 123 [vL, vi q.kind, vi q.line, vi q.value, vi id, vi home, v74, .slice none 0 0] :: row 128 v74 [Bm 8 id home m.line m.turn 0] :: blk b8 93 [.slice none 0 0, vi 0, vi 0, vi 0] :: L) (fun w hs => Af (Dk hl hlw (hs.pick pkk))) ?_
  refine JC.shut (v := vL) (xs := ls) .hd ?_
  refine ZbQ ?_
  refine Zbt ?_;intro ρ
  have eh : Dr l m.turn = l := by unfold Dr; rw [if_neg (by omega)]
  have er : (Ac ⟨ls, q⟩ id home m) = (⟨ls, q⟩, [Bm 8 id home m.line m.turn 0], []) := by rw [Mz hl (by omega) (by omega), eh, ← hl, Iw]
  exact Zdx
theorem Wn {u : Value} {ls : List Line} {q : Op} {l : Line} {id home : Int} {m : Msg} (hs : St (L) R w) (hu : sl u ls ∈ R) (hk : KH ⟨ls, q⟩) (hid : An id) (hhome : An home) (hm : m.wf) (hl : ls.getD m.line.toNat zLine = l) (hg : 0 ≤ m.line ∧ m.line < (ls.length : Int) ∧ m.kind = 5) : Calls Tryz.prog 63 [.agg (Core.cells u ⟨ls, q⟩).toArray, vi id, vi home, .agg m.cells.toArray].toArray w (Bh (fun v : Value × Value × Value => .tuple #[.agg (Core.cells v.1 (Ac ⟨ls, q⟩ id home m).1).toArray, v.2.1, v.2.2]) (fun v => L) (fun v => sl v.1 (Ac ⟨ls, q⟩ id home m).1.lines :: sl v.2.1 (Ac ⟨ls, q⟩ id home m).2.1 :: sl v.2.2 (Ac ⟨ls, q⟩ id home m).2.2 :: R)) := by
 refine ZaC ?_;intro hlen hone0 hn4 hm0 hid0 hhome0
 clear hs
 refine Zbj ?_;intro b4 b7 b8 vL honeV b18 ρ
 exact ZcC
theorem Wm {u : Value} {ls : List Line} {q : Op} {l : Line} {id home : Int} {m : Msg} (hs : St (L) R w) (hu : sl u ls ∈ R) (hk : KH ⟨ls, q⟩) (hid : An id) (hhome : An home) (hm : m.wf) (hl : ls.getD m.line.toNat zLine = l) (hg : 0 ≤ m.line ∧ m.line < (ls.length : Int) ∧ m.kind = 6) : Calls Tryz.prog 63 [.agg (Core.cells u ⟨ls, q⟩).toArray, vi id, vi home, .agg m.cells.toArray].toArray w (Bh (fun v : Value × Value × Value => .tuple #[.agg (Core.cells v.1 (Ac ⟨ls, q⟩ id home m).1).toArray, v.2.1, v.2.2]) (fun v => L) (fun v => sl v.1 (Ac ⟨ls, q⟩ id home m).1.lines :: sl v.2.1 (Ac ⟨ls, q⟩ id home m).2.1 :: sl v.2.2 (Ac ⟨ls, q⟩ id home m).2.2 :: R)) := by
 refine ZaC ?_;intro hlen hone0 hn4 hm0 hid0 hhome0
 clear hs
 refine Zbj ?_;intro b4 b7 b8 vL honeV b18 ρ
 refine ZD ?_
 exact ZcC
theorem Wl {u : Value} {ls : List Line} {q : Op} {l : Line} {id home : Int} {m : Msg} (hs : St (L) R w) (hu : sl u ls ∈ R) (hk : KH ⟨ls, q⟩) (hid : An id) (hhome : An home) (hm : m.wf) (hl : ls.getD m.line.toNat zLine = l) (hg : 0 ≤ m.line ∧ m.line < (ls.length : Int) ∧ m.kind = 7) : Calls Tryz.prog 63 [.agg (Core.cells u ⟨ls, q⟩).toArray, vi id, vi home, .agg m.cells.toArray].toArray w (Bh (fun v : Value × Value × Value => .tuple #[.agg (Core.cells v.1 (Ac ⟨ls, q⟩ id home m).1).toArray, v.2.1, v.2.2]) (fun v => L) (fun v => sl v.1 (Ac ⟨ls, q⟩ id home m).1.lines :: sl v.2.1 (Ac ⟨ls, q⟩ id home m).2.1 :: sl v.2.2 (Ac ⟨ls, q⟩ id home m).2.2 :: R)) := by
 refine ZaC ?_;intro hlen hone0 hn4 hm0 hid0 hhome0
 clear hs
 refine Zbj ?_;intro b4 b7 b8 vL honeV b18 ρ
 refine Zas ?_
 refine Gc1 ?_
 refine ZQ ?_
 refine Zax ?_
 have hkd : m.kind = 7 := by omega
 have hqa : Kc l m → q.line = m.line ∧ (1 ≤ q.kind ∧ q.kind ≤ 4) ∧ 0 ≤ q.value ∧ q.value ≤ 255 := fun ha => by
  have hw : (Bq ⟨ls, q⟩ m.line).want ≠ 0 := by
   show (ls.getD m.line.toNat zLine).want ≠ 0
   rw [hl]; unfold Kc at ha; omega
  exact hk.wline m.line (by omega) (show m.line.toNat < ls.length by omega) hw
 refine ZB ?_
 refine Aj Tryz.call92 rfl (fun w hs => Wq (vL := vL) (vo := .slice none 0 0) (vd := .slice none 0 0) (bk := b18) (bm := b7) (q := q) (id := id) (home := home) (ls := ls) (l := l) (ms := []) (ds := []) (m := m) (LX := blk b8 93 [.slice none 0 0, vi 0, vi 0, vi 0] :: L) (Af hs) hl (by omega) (by omega) hm hid hhome (by simp) (by simp) hk.wwf hkd hqa) ?_; intro ⟨g1, g2⟩
 refine J.conseq (L' := blk b18 123 [vL, vi (Ac ⟨ls, q⟩ id home m).1.wait.kind, vi (Ac ⟨ls, q⟩ id home m).1.wait.line, vi (Ac ⟨ls, q⟩ id home m).1.wait.value, vi id, vi home, g1, g2] :: row 120 vL (Ac ⟨ls, q⟩ id home m).1.lines :: row 128 g1 (Ac ⟨ls, q⟩ id home m).2.1 :: row 47 g2 (Ac ⟨ls, q⟩ id home m).2.2 :: blk b8 93 [.slice none 0 0, vi 0, vi 0, vi 0] :: L) (fun w hs => by rw [List.nil_append, List.nil_append] at hs; exact Af hs) ?_
 refine Zbr ?_;intro ρ
 exact Eu (vL, g1, g2) Tryz.isAgg93 Tryz.sizeOf93
theorem Tp {u : Value} {ls : List Line} {q : Op} {l : Line} {id home : Int} {m : Msg} (hs : St (L) R w) (hu : sl u ls ∈ R) (hk : KH ⟨ls, q⟩) (hid : An id) (hhome : An home) (hm : m.wf) (hl : ls.getD m.line.toNat zLine = l) (hg : 0 ≤ m.line ∧ m.line < (ls.length : Int) ∧ m.kind = 11) : Calls Tryz.prog 63 [.agg (Core.cells u ⟨ls, q⟩).toArray, vi id, vi home, .agg m.cells.toArray].toArray w (Bh (fun v : Value × Value × Value => .tuple #[.agg (Core.cells v.1 (Ac ⟨ls, q⟩ id home m).1).toArray, v.2.1, v.2.2]) (fun v => L) (fun v => sl v.1 (Ac ⟨ls, q⟩ id home m).1.lines :: sl v.2.1 (Ac ⟨ls, q⟩ id home m).2.1 :: sl v.2.2 (Ac ⟨ls, q⟩ id home m).2.2 :: R)) := by
 refine ZaC ?_;intro hlen hone0 hn4 hm0 hid0 hhome0
 clear hs
 refine ZaY ?_;intro b4 b7 b8 vL honeV b18
 refine ZA ?_
 refine Zag ?_
 refine Gc1 ?_
 refine Zbe ?_;intro hlw hA hlw0 honeL
 refine dn7 ?_
 refine Zbg ?_;intro ρ
 refine Zb1 ?_
 refine ZD ?_
 refine ZD ?_
 refine Zas ?_
 refine Gc1 ?_
 refine kp [1, 7, 8, 9, 10, 11, 12, 86, 87, 88, 89, 90, 91, 92, 93, 94, 95, 96, 97, 98, 99] ?_
 refine Ff 99 (.bool (decide ((l.want = 3) ∧ (m.serial = l.serial)))) ?_ ?_
 ·rcases (show (¬ (l.want = 3)) ∨ ((l.want = 3) ∧ ¬ (m.serial = l.serial)) ∨ ((l.want = 3) ∧ (m.serial = l.serial)) from by omega) with hm | hm | hm
  ·refine Bl ?_
   refine dn4 ?_
   refine Za6 ?_
   refine djm ?_
   refine dn7 ?_
   refine djf ?_
   refine dnl ?_; intro ρ
   refine A2 ?_ (fun w hs => hs)
   exact meF
  ·refine Bl ?_
   refine dn4 ?_
   refine Zal ?_
   refine djm ?_
   refine dn6 ?_
   refine dj (dgy ?_)
   refine Zar ?_
   refine Zab ?_
   refine dnl ?_; intro ρ
   refine A2 ?_ (fun w hs => hs)
   exact meF
  ·refine Bl ?_
   refine dn4 ?_
   refine Zal ?_
   refine djm ?_
   refine dn6 ?_
   refine dj (dgy ?_)
   refine ZaI ?_
   refine Zab ?_
   refine dnl ?_; intro ρ
   refine A2 ?_ (fun w hs => hs)
   exact meT
 ·refine A7 ?_
  first | (refine cdx (p := ?p1) (hd := ?d1) ?e1 ?_ ?_; case e1 => exact rfl) | (refine Cb (b := ?b1) ?e1 ?_ ?_; case e1 => exact rfl)
  ·intro ht99
   refine Gl ?_
   refine kp [1, 8, 9, 10, 11, 12, 100, 101, 102, 103, 104, 105, 106, 107, 108] ?_
   refine ZX ?_
   refine sc ?_
   refine rn2 ?_
   refine sc ?_
   refine Zaa ?_
   refine Zax ?_
   have hwq := hk.wwf
   refine cq_ (blk b18 123 [vL, vi q.kind, vi q.line, vi q.value, vi id, vi home, .slice none 0 0, .slice none 0 0] :: row 47 (.slice none 0 0) [] :: foc 120 vL ls m.line.toNat [vi 0, vi 0, vi 0, vi l.serial, vi l.seen, vi l.gave, vi l.given] :: blk b8 93 [.slice none 0 0, vi 0, vi 0, vi 0] :: L) ?_
   refine jd_ (fun ρ S => blk b18 123 (bif S 16 then [vL, vi q.kind, vi q.line, vi q.value, vi id, vi home, .slice none 0 0, (Gh.dec (γ := Value) (ρ 13))] else [vL, vi q.kind, vi q.line, vi q.value, vi id, vi home, .slice none 0 0, .slice none 0 0]) :: (bif S 13 then row 47 (Gh.dec (γ := Value) (ρ 13)) ([] ++ [(⟨id, q, 0⟩ : Done)]) else row 47 (.slice none 0 0) []) :: foc 120 vL ls m.line.toNat [vi 0, vi 0, vi 0, vi l.serial, vi l.seen, vi l.gave, vi l.given] :: blk b8 93 [.slice none 0 0, vi 0, vi 0, vi 0] :: L) ?_
   refine dn4 ?_
   refine H6 (v := .slice none 0 0) (fun ρ S hS hB hA => by have h16 : S 16 = false := hA 16 ⟨0, rfl⟩; simp only [h16, cond_false]; exact Cp (hc := Bg pkk (by repeat (first | exact rfl | refine Cr rfl ?_))) Tryz.isAgg41) (fun _ _ _ _ _ => rfl) ?_
   refine dn5 ?_
   refine H6 (v := .agg q.cells.toArray) (fun ρ S hS hB hA => by have h16 : S 16 = false := hA 16 ⟨9, rfl⟩; simp only [h16, cond_false]; exact E9 (b := b18) (f := 1) (vs := [vL, vi q.kind, vi q.line, vi q.value, vi id, vi home, .slice none 0 0, .slice none 0 0]) 3 Tryz.isAgg27 Tryz.sizeOf27) (fun _ _ _ _ _ => rfl) ?_
   first | refine epc (fun _ _ => Du G0) ?_ | refine epc (fun _ _ => E6 G0) ?_ | refine epp (fun _ _ => Du G0) ?_ | refine epp (fun _ _ => E6 G0) ?_
   refine Jq ([(⟨id, q, 0⟩ : Done)] : List Done) I6 rfl (fun _ => rfl) rfl (fun _ => rfl) rfl rfl (fun ρ R hd => N7 ⟨hid, hwq.1, hwq.2.1, hwq.2.2, by unfold An; simp only; omega⟩) (fun _ _ _ _ _ => rfl) ?_
   refine Dx (e := 47) (xs := []) (ys := [(⟨id, q, 0⟩ : Done)]) (v := (.slice none 0 0)) I6 (fun _ => rfl) (fun _ => rfl) rfl (by decide) (fun ρ R hd => (hd.dep (it := ⟨12, _, _, _, _⟩) (by repeat (first | exact List.Mem.head _ | refine List.Mem.tail _ ?_)) ⟨9, rfl⟩ (List.Mem.head _))) (by have : maxN = 16777216 := rfl; simp only [List.length_cons, List.length_nil]; omega) (fun ρ g S hS hB hA => ?_) ?_
   ·exact Zdf
   refine dn2 ?_
   refine Cy (T0 := 123) (f := 7) (vs := fun ρ => [vL, vi q.kind, vi q.line, vi q.value, vi id, vi home, .slice none 0 0, .slice none 0 0]) (v := fun ρ => (Gh.dec (γ := Value) (ρ 13))) (fun ρ => b18) Tryz.sizeOf41 (fun _ => rfl) (fun _ => rfl) (fun ρ S R w L9 hB hd hs => by have h13 : S 13 = true := hB 13 ⟨9, rfl⟩; simp only [h13, cond_true] at hs; exact A8 pkk hs) (fun _ => rfl) (fun ρ g S hS hB hA => ?_) ?_
   ·exact Zdl
   refine dnl ?_; intro ρ
   refine xq_ (blk b18 123 [vL, vi q.kind, vi q.line, vi q.value, vi id, vi home, .slice none 0 0, (Gh.dec (γ := Value) (ρ 13))] :: row 47 (Gh.dec (γ := Value) (ρ 13)) [(⟨id, q, 0⟩ : Done)] :: foc 120 vL ls m.line.toNat [vi 0, vi 0, vi 0, vi l.serial, vi l.seen, vi l.gave, vi l.given] :: blk b8 93 [.slice none 0 0, vi 0, vi 0, vi 0] :: L) ?_
   generalize (Gh.dec (γ := Value) (ρ 12)) = v121
   generalize (Gh.dec (γ := Value) (ρ 13)) = v122
   refine ZW ?_
   refine ob (Du (cs := zOp.cells) Uk) ?_
   refine rn3 ?_
   refine s_N [vL, vi 0, vi 0, vi 0, vi id, vi home, .slice none 0 0, v122] Tryz.sizeOf27 ?_
   refine Gl ?_
   refine JC.conseq (L' := row 120 vL (ls.set m.line.toNat ({ l with state := 0, value := 0, want := 0 })) :: blk b18 123 [vL, vi 0, vi 0, vi 0, vi id, vi home, .slice none 0 0, v122] :: row 47 v122 [(⟨id, q, 0⟩ : Done)] :: blk b8 93 [.slice none 0 0, vi 0, vi 0, vi 0] :: L) (fun w hs => Af (Cw ({ l with state := 0, value := 0, want := 0 }) (by unfold Line.wf An; simp only; omega) (hs.pick pkk))) ?_
   refine JC.shut (v := vL) (xs := (ls.set m.line.toNat ({ l with state := 0, value := 0, want := 0 }))) .hd ?_
   refine JC.slNil Msg ?_
   refine JC.shut (v := v122) (xs := [(⟨id, q, 0⟩ : Done)]) pkk ?_
   refine ZbM ?_
   refine cq_ (blk b8 93 [.slice none 0 0, vi 0, vi 0, vi 0] :: blk b18 123 [vL, vi 0, vi 0, vi 0, vi id, vi home, .slice none 0 0, v122] :: L) ?_
   refine jd_ (fun ρ S => blk b8 93 (bif S 12 then [vL, vi 0, vi 0, vi 0] else [.slice none 0 0, vi 0, vi 0, vi 0]) :: blk b18 123 [vL, vi 0, vi 0, vi 0, vi id, vi home, .slice none 0 0, v122] :: L) ?_
   refine dn3 ?_
   refine Kb (v := .agg ([vL, vi 0, vi 0, vi 0]).toArray) (fun _ _ => E9 (b := b18) (f := 0) (vs := [vL, vi 0, vi 0, vi 0, vi id, vi home, .slice none 0 0, v122]) 4 Tryz.isAgg93 Tryz.sizeOf93) (fun _ _ _ _ _ => rfl) ?_
   refine Zcy ?_
   refine dn2 ?_
   refine dnl ?_; intro ρ
   refine xq_ (blk b8 93 [vL, vi 0, vi 0, vi 0] :: blk b18 123 [vL, vi 0, vi 0, vi 0, vi id, vi home, .slice none 0 0, v122] :: L) ?_
   refine Gl ?_
   have er : (Ac ⟨ls, q⟩ id home m) = (⟨ls.set m.line.toNat ({ l with state := 0, value := 0, want := 0 }), zOp⟩, [], [⟨id, q, 0⟩]) := by rw [Ot hl (by omega) (by omega), if_pos ht99]
   rw [er]
   exact Eu (vL, .slice none 0 0, v122) Tryz.isAgg93 Tryz.sizeOf93
  ·intro ht99
   refine Gl ?_
   refine JC.conseq (L' := row 120 vL ls :: blk b18 123 [vL, vi q.kind, vi q.line, vi q.value, vi id, vi home, .slice none 0 0, .slice none 0 0] :: blk b8 93 [.slice none 0 0, vi 0, vi 0, vi 0] :: L) (fun w hs => Af (Dk hl hlw (hs.pick pkk))) ?_
   refine Zb7 ?_
   refine ZbM ?_
   refine ZbX ?_;intro ρ
   have er : (Ac ⟨ls, q⟩ id home m) = (⟨ls, q⟩, [], []) := by rw [Ot hl (by omega) (by omega), if_neg ht99]
   rw [er]
   exact Zdj
theorem Wk {u : Value} {ls : List Line} {q : Op} {l : Line} {id home : Int} {m : Msg} (hs : St (L) R w) (hu : sl u ls ∈ R) (hk : KH ⟨ls, q⟩) (hid : An id) (hhome : An home) (hm : m.wf) (hl : ls.getD m.line.toNat zLine = l) (hg : 0 ≤ m.line ∧ m.line < (ls.length : Int) ∧ m.kind ≠ 4 ∧ m.kind ≠ 5 ∧ m.kind ≠ 6 ∧ m.kind ≠ 7 ∧ m.kind ≠ 11) : Calls Tryz.prog 63 [.agg (Core.cells u ⟨ls, q⟩).toArray, vi id, vi home, .agg m.cells.toArray].toArray w (Bh (fun v : Value × Value × Value => .tuple #[.agg (Core.cells v.1 (Ac ⟨ls, q⟩ id home m).1).toArray, v.2.1, v.2.2]) (fun v => L) (fun v => sl v.1 (Ac ⟨ls, q⟩ id home m).1.lines :: sl v.2.1 (Ac ⟨ls, q⟩ id home m).2.1 :: sl v.2.2 (Ac ⟨ls, q⟩ id home m).2.2 :: R)) := by
 refine ZaC ?_;intro hlen hone0 hn4 hm0 hid0 hhome0
 clear hs
 refine Zbj ?_;intro b4 b7 b8 vL honeV b18 ρ
 refine ZD ?_
 refine ZD ?_
 refine ZD ?_
 refine Ay ?_
 refine Gc1 ?_
 refine cq_ (row 120 vL ls :: blk b18 123 [vL, vi q.kind, vi q.line, vi q.value, vi id, vi home, .slice none 0 0, .slice none 0 0] :: blk b8 93 [.slice none 0 0, vi 0, vi 0, vi 0] :: L) ?_
 refine Zb7 ?_
 refine ZbX ?_;intro ρ
 have er : (Ac ⟨ls, q⟩ id home m) = (⟨ls, q⟩, [], []) := Yy (by omega) (by omega)
 rw [er]
 exact Zdj
theorem Wj {u : Value} {c : Core} {id home : Int} {m : Msg} (hs : St (L) R w) (hu : sl u c.lines ∈ R) (hk : KH c) (hid : An id) (hhome : An home) (hm : m.wf) : Calls Tryz.prog 63 [.agg (c.cells u).toArray, vi id, vi home, .agg m.cells.toArray].toArray w (Bh (fun v : Value × Value × Value => .tuple #[.agg (Core.cells v.1 (Ac c id home m).1).toArray, v.2.1, v.2.2]) (fun v => L) (fun v => sl v.1 (Ac c id home m).1.lines :: sl v.2.1 (Ac c id home m).2.1 :: sl v.2.2 (Ac c id home m).2.2 :: R)) := by
 obtain ⟨ls, q⟩ := c
 by_cases h : 0 ≤ m.line ∧ m.line < (ls.length : Int)
 ·by_cases h4 : m.kind = 4
  ·exact Wo hs hu hk hid hhome hm rfl (by omega)
  by_cases h5 : m.kind = 5
  ·exact Wn hs hu hk hid hhome hm rfl (by omega)
  by_cases h6 : m.kind = 6
  ·exact Wm hs hu hk hid hhome hm rfl (by omega)
  by_cases h7 : m.kind = 7
  ·exact Wl hs hu hk hid hhome hm rfl (by omega)
  by_cases h11 : m.kind = 11
  ·exact Tp hs hu hk hid hhome hm rfl (by omega)
  exact Wk hs hu hk hid hhome hm rfl (by omega)
 ·exact Wp hs hu hk hid hhome hm rfl (by omega)
section
variable {ls : List Line} {q q0 : Op} {id home : Int} {l : Line}
theorem beg_1 (h : q.kind < 1 ∨ 4 < q.kind) : Ak ⟨ls, q0⟩ id home q = (Fw, [], [], 1) := by unfold Ak; rw [if_pos h]
theorem Aat (h1 : 1 ≤ q.kind ∧ q.kind ≤ 4) (h : q.line < 0 ∨ (ls.length : Int) ≤ q.line ∨ q.value < 0 ∨ 255 < q.value) : Ak ⟨ls, q0⟩ id home q = (Fw, [], [], 3) := by
 unfold Ak; rw [if_neg (by omega), if_pos h]
theorem beg_8 (hl : ls.getD q.line.toNat zLine = l) (h1 : 1 ≤ q.kind ∧ q.kind ≤ 4) (h2 : 0 ≤ q.line ∧ q.line < (ls.length : Int)) (h3 : 0 ≤ q.value ∧ q.value ≤ 255) (h : q0.kind ≠ 0 ∨ 65535 ≤ l.serial) : Ak ⟨ls, q0⟩ id home q = (Fw, [], [], 8) := by
 subst hl
 unfold Ak; rw [if_neg (by omega), if_neg (by simp only; omega), if_pos (show (⟨ls, q0⟩ : Core).wait.kind ≠ 0 ∨ 65535 ≤ (Bq ⟨ls, q0⟩ q.line).serial from h)]
theorem Pc (hl : ls.getD q.line.toNat zLine = l) (h1 : 1 ≤ q.kind ∧ q.kind ≤ 4) (h2 : 0 ≤ q.line ∧ q.line < (ls.length : Int)) (h3 : 0 ≤ q.value ∧ q.value ≤ 255) (h4 : q0.kind = 0) (h5 : l.serial < 65535) : Ak ⟨ls, q0⟩ id home q = (if By l q then (⟨ls.set q.line.toNat (A6 l q), zOp⟩, [], [⟨id, q, Ea l q⟩], 0) else (⟨ls.set q.line.toNat (A6 l q), q⟩, [Co (A6 l q) id home q.line], [], 0)) := by
 subst hl
 unfold Ak; rw [if_neg (by omega), if_neg (by simp only; omega), if_neg (fun h => by rcases h with h | h; exact h h4; exact absurd h (by show ¬ 65535 ≤ (ls.getD q.line.toNat zLine).serial; omega))]; rfl
end
theorem Tq {u : Value} {c : Core} {id home : Int} {q : Op} (hs : St (L) R w) (hu : sl u c.lines ∈ R) (hk : KB c) (hid : An id) (hhome : An home) (hq : q.wf) : Calls Tryz.prog 37 [.agg (c.cells u).toArray, vi id, vi home, .agg q.cells.toArray].toArray w (Bh (fun v : Value × Value × Value => .tuple #[.agg (Core.cells v.1 (Ak c id home q).1).toArray, v.2.1, v.2.2, vi (Ak c id home q).2.2.2]) (fun v => L) (fun v => sl v.1 (Ak c id home q).1.lines :: sl v.2.1 (Ak c id home q).2.1 :: sl v.2.2 (Ak c id home q).2.2.1 :: R)) := by
 obtain ⟨ls, q0⟩ := c
 have hu : sl u ls ∈ R := hu
 obtain ⟨l, hl⟩ : ∃ l, ls.getD q.line.toNat zLine = l := ⟨_, rfl⟩
 have hlen := Bv hu hs
 have hone0 : u.oneCell' = true := isSlice.one (hs.fact hu)
 have hn4 : ls.length ≤ 4 := hk.n
 refine ZaB ?_;intro hid0 hhome0
 refine Ag Tryz.func37 rfl Tryz.ntmps37 rfl hs ?_
 clear hs
 refine Gm ?_
 refine bx ?_; intro b4
 refine bx ?_; intro b7
 refine al_ (cs := [.slice none 0 0, vi 0, vi 0, vi 0]) Tryz.zeroValue93 ?_; intro b8
 refine Ga3 ?_
 refine cq_ (blk b4 93 [u, vi q0.kind, vi q0.line, vi q0.value] :: blk b7 27 q.cells :: blk b8 93 [.slice none 0 0, vi 0, vi 0, vi 0] :: L) ?_
 rcases (show (q.kind < 1) ∨ (¬ q.kind < 1 ∧ 4 < q.kind) ∨ (1 ≤ q.kind ∧ q.kind ≤ 4) from by omega) with hc | hc | hc
 ·refine Zay ?_
  refine Gc6 ?_
  exact Zd5
 ·refine ZaV ?_
  refine Gc2 ?_
  exact Zd5
 ·refine Zah ?_
  refine Gc2 ?_
  rcases (show (q.line < 0) ∨ (0 ≤ q.line ∧ (ls.length : Int) ≤ q.line) ∨ (0 ≤ q.line ∧ q.line < (ls.length : Int) ∧ q.value < 0) ∨ (0 ≤ q.line ∧ q.line < (ls.length : Int) ∧ 255 < q.value) ∨ (0 ≤ q.line ∧ q.line < (ls.length : Int) ∧ 0 ≤ q.value ∧ q.value ≤ 255) from by omega) with hc | hc | hc | hc | hc
  ·refine Zay ?_
   refine Gc19 ?_
   exact ZdF
  ·refine ZA ?_
   refine Bj ?_
   refine ZL ?_
   refine J8 ?_
   refine Gc12 ?_
   exact ZdF
  ·refine ZA ?_
   refine Zag ?_
   refine ZF ?_
   refine Fm ?_
   refine Gc7 ?_
   exact ZdF
  ·refine ZA ?_
   refine Zag ?_
   refine Za4 ?_
   refine J7 ?_
   refine Gc2 ?_
   exact ZdF
  ·refine ZA ?_
   refine Zag ?_
   refine Zat ?_
   refine Gc2 ?_
   refine open_l (v := u) hl mm (by omega) (by omega) (fun hlw1 => ?_)
   rcases (show (q0.kind ≠ 0) ∨ (q0.kind = 0 ∧ 65535 ≤ l.serial) ∨ (q0.kind = 0 ∧ l.serial < 65535) from by omega) with hc | hc | hc
   ·refine ZbF ?_
    refine oneqT ?_
    refine Gc11 ?_
    exact Zdt
   ·refine ZbF ?_
    refine oneqF ?_
    refine rn8 ?_
    refine gy ?_
    refine J8 ?_
    refine Gc2 ?_
    exact Zdt
   ·have hc5 := hc
    refine ZbF ?_
    refine oneqF ?_
    refine rn8 ?_
    refine gy ?_
    refine Eo ?_
    refine Gd2 ?_
    refine rn1 ?_
    refine Aj Tryz.call54 rfl (fun w hs => F4 (u := u) (c := ⟨ls, q0⟩) hs mm) ?_; intro vL
    refine J.know (p := vL.oneCell' = true) (fun w hs => A8 .hd hs) (fun honeV => ?_)
    refine rn3 ?_
    refine bx ?_; intro b68
    refine Ga1 ?_
    refine cq_ (row 120 vL ls :: blk b68 123 [vL, vi q0.kind, vi q0.line, vi q0.value, vi id, vi home, .slice none 0 0, .slice none 0 0] :: blk b8 93 [.slice none 0 0, vi 0, vi 0, vi 0] :: blk b7 27 q.cells :: L) ?_
    refine Zb9 ?_;intro hlw hA hlw0 honeL
    have hz : q0 = zOp := (hk.w.free hc5.1).1
    refine ZbG ?_;intro ρ
    refine Gl ?_
    refine kp [1, 7, 8, 9, 10, 11, 12, 13, 80, 81, 82, 83, 84, 85, 86, 87, 88, 89, 90] ?_
    refine Ff 80 (.bool (decide ((q.kind = 4) ∧ (l.state = 2)))) ?_ ?_
    ·rcases (show (¬ (q.kind = 4)) ∨ ((q.kind = 4) ∧ ¬ (l.state = 2)) ∨ ((q.kind = 4) ∧ (l.state = 2)) from by omega) with hm | hm | hm
     ·refine ZA ?_
      refine Ay ?_
      refine Ga8 ?_
      exact Zda
     ·refine ZA ?_
      refine Df ?_
      refine Zac ?_
      refine Ay ?_
      refine Ga2 ?_
      exact Zda
     ·refine ZA ?_
      refine Df ?_
      refine Zac ?_
      refine Df ?_
      refine Ga2 ?_
      exact ZcT
    ·refine A7 ?_
     first | (refine cdx (p := ?p1) (hd := ?d1) ?e1 ?_ ?_; case e1 => exact rfl) | (refine Cb (b := ?b1) ?e1 ?_ ?_; case e1 => exact rfl)
     ·intro ht80
      refine Gl ?_
      refine kp [1, 7, 8, 9, 10, 11, 12, 13, 91, 92, 93] ?_
      refine ZI ?_
      refine sc ?_
      refine Gl ?_
      refine JC.conseq (L' := row 120 vL (ls.set q.line.toNat ({ l with state := 3 })) :: blk b68 123 [vL, vi q0.kind, vi q0.line, vi q0.value, vi id, vi home, .slice none 0 0, .slice none 0 0] :: blk b8 93 [.slice none 0 0, vi 0, vi 0, vi 0] :: blk b7 27 q.cells :: L) (fun w hs => Af (Cw ({ l with state := 3 }) (by unfold Line.wf An; simp only; omega) (hs.pick pkk))) ?_
      refine ZQ ?_
      refine ZA ?_
      refine Aj Tryz.call55 rfl (fun w hs => Qf (vL := vL) (vo := .slice none 0 0) (vd := .slice none 0 0) (q := q) (q0 := q0) (id := id) (home := home) (ls := (ls.set q.line.toNat ({ l with state := 3 }))) (l := { l with state := 3 }) (ms := []) (want := 3) (bk := b68) (LX := blk b8 93 [.slice none 0 0, vi 0, vi 0, vi 0] :: blk b7 27 q.cells :: L) (Af hs) (by rw [List.getD_eq_getElem?_getD, List.getElem?_set_self (by omega)]; rfl) (by rw [List.length_set]; omega) (by rw [List.length_set]; omega) hid hhome (by simp) (by first | omega | (simp only; omega)) (by unfold An; omega)) ?_; intro v96
      refine J.conseq (L' := row 120 vL (ls.set q.line.toNat ({ l with state := 3, want := 3, serial := l.serial + 1 })) :: blk b68 123 [vL, vi q.kind, vi q.line, vi q.value, vi id, vi home, v96, .slice none 0 0] :: row 128 v96 [Co ({ l with state := 3, want := 3, serial := l.serial + 1 }) id home q.line] :: blk b8 93 [.slice none 0 0, vi 0, vi 0, vi 0] :: L) (fun w hs => by rw [List.nil_append, List.set_set] at hs; exact Af hs) ?_
      refine Gl ?_
      refine cq_ (row 120 vL (ls.set q.line.toNat ({ l with state := 3, want := 3, serial := l.serial + 1 })) :: blk b68 123 [vL, vi q.kind, vi q.line, vi q.value, vi id, vi home, v96, .slice none 0 0] :: row 128 v96 [Co ({ l with state := 3, want := 3, serial := l.serial + 1 }) id home q.line] :: blk b8 93 [.slice none 0 0, vi 0, vi 0, vi 0] :: L) ?_
      refine JC.shut (v := vL) (xs := (ls.set q.line.toNat ({ l with state := 3, want := 3, serial := l.serial + 1 }))) .hd ?_
      refine JC.shut (v := v96) (xs := [Co ({ l with state := 3, want := 3, serial := l.serial + 1 }) id home q.line]) pkk ?_
      refine ZS ?_
      refine cq_ (blk b8 93 [.slice none 0 0, vi 0, vi 0, vi 0] :: blk b68 123 [vL, vi q.kind, vi q.line, vi q.value, vi id, vi home, v96, .slice none 0 0] :: L) ?_
      refine jd_ (fun ρ S => blk b8 93 (bif S 12 then [vL, vi q.kind, vi q.line, vi q.value] else [.slice none 0 0, vi 0, vi 0, vi 0]) :: blk b68 123 [vL, vi q.kind, vi q.line, vi q.value, vi id, vi home, v96, .slice none 0 0] :: L) ?_
      refine dn3 ?_
      refine Kb (v := .agg ([vL, vi q.kind, vi q.line, vi q.value]).toArray) (fun _ _ => E9 (b := b68) (f := 0) (vs := [vL, vi q.kind, vi q.line, vi q.value, vi id, vi home, v96, .slice none 0 0]) 4 Tryz.isAgg93 Tryz.sizeOf93) (fun _ _ _ _ _ => rfl) ?_
      refine ZaP ?_
      refine dn3 ?_
      refine dnl ?_; intro ρ
      refine xq_ (blk b8 93 [vL, vi q.kind, vi q.line, vi q.value] :: blk b68 123 [vL, vi q.kind, vi q.line, vi q.value, vi id, vi home, v96, .slice none 0 0] :: L) ?_
      refine Gl ?_
      have eb : A6 l q = { l with state := 3, want := 3, serial := l.serial + 1 } := by unfold A6; rw [if_pos (by omega), if_pos (by omega)]
      have ed : By l q = false := by unfold By; split <;> simp <;> omega
      have er : (Ak ⟨ls, q0⟩ id home q) = (⟨ls.set q.line.toNat ({ l with state := 3, want := 3, serial := l.serial + 1 }), q⟩, [Co ({ l with state := 3, want := 3, serial := l.serial + 1 }) id home q.line], [], 0) := by rw [Pc hl (by omega) (by omega) (by omega) (by omega) (by omega), ed, if_neg (by decide), eb]
      rw [er]
      exact Hw (vL, v96, .slice none 0 0) Tryz.isAgg93 Tryz.sizeOf93
     ·intro ht80
      refine Gl ?_
      refine kp [1, 7, 8, 9, 10, 11, 12, 13, 97, 98, 99, 100] ?_
      refine Aa ?_
      refine Ga4 ?_
      refine cdy ?_ ?_
      ·intro ht97
       refine Gm ?_
       refine rn4 ?_
       refine sc ?_
       refine Zaa ?_
       refine Zax ?_
       refine cq_ (blk b68 123 [vL, vi q0.kind, vi q0.line, vi q0.value, vi id, vi home, .slice none 0 0, .slice none 0 0] :: row 47 (.slice none 0 0) [] :: foc 120 vL ls q.line.toNat [vi 0, vi 0, vi l.want, vi l.serial, vi l.seen, vi l.gave, vi l.given] :: blk b8 93 [.slice none 0 0, vi 0, vi 0, vi 0] :: blk b7 27 q.cells :: L) ?_
       refine jd_ (fun ρ S => blk b68 123 (bif S 12 then [vL, vi q0.kind, vi q0.line, vi q0.value, vi id, vi home, .slice none 0 0, (Gh.dec (γ := Value) (ρ 9))] else [vL, vi q0.kind, vi q0.line, vi q0.value, vi id, vi home, .slice none 0 0, .slice none 0 0]) :: (bif S 9 then row 47 (Gh.dec (γ := Value) (ρ 9)) ([] ++ [(⟨id, q, 0⟩ : Done)]) else row 47 (.slice none 0 0) []) :: foc 120 vL ls q.line.toNat [vi 0, vi 0, vi l.want, vi l.serial, vi l.seen, vi l.gave, vi l.given] :: blk b8 93 [.slice none 0 0, vi 0, vi 0, vi 0] :: blk b7 27 q.cells :: L) ?_
       refine dn4 ?_
       refine H6 (v := .slice none 0 0) (fun ρ S hS hB hA => by have h12 : S 12 = false := hA 12 ⟨0, rfl⟩; simp only [h12, cond_false]; exact Cp (hc := Bg pkk (by repeat (first | exact rfl | refine Cr rfl ?_))) Tryz.isAgg41) (fun _ _ _ _ _ => rfl) ?_
       refine dn3 ?_
       refine Zb0 ?_
       refine Dx (e := 47) (xs := []) (ys := [(⟨id, q, 0⟩ : Done)]) (v := (.slice none 0 0)) I6 (fun _ => rfl) (fun _ => rfl) rfl (by decide) (fun ρ R hd => (hd.dep (it := ⟨8, _, _, _, _⟩) (by repeat (first | exact List.Mem.head _ | refine List.Mem.tail _ ?_)) ⟨9, rfl⟩ (List.Mem.head _))) (by have : maxN = 16777216 := rfl; simp only [List.length_cons, List.length_nil]; omega) (fun ρ g S hS hB hA => ?_) ?_
       ·have ui : upS S 9 9 = true := rfl; have u12 : upS S 9 12 = S 12 := rfl; have h12 : S 12 = false := hA 12 ⟨0, rfl⟩; have rs : (Gh.dec (γ := Value) (Rho.set ρ 9 (Gh.enc g) 9)) = g := rfl
        simp only [ui, hS, u12, h12, rs, cond_true, cond_false]
        exact pex
       refine dn2 ?_
       refine Cy (T0 := 123) (f := 7) (vs := fun ρ => [vL, vi q0.kind, vi q0.line, vi q0.value, vi id, vi home, .slice none 0 0, .slice none 0 0]) (v := fun ρ => (Gh.dec (γ := Value) (ρ 9))) (fun ρ => b68) Tryz.sizeOf41 (fun _ => rfl) (fun _ => rfl) (fun ρ S R w L9 hB hd hs => by have h9 : S 9 = true := hB 9 ⟨9, rfl⟩; simp only [h9, cond_true] at hs; exact A8 pkk hs) (fun _ => rfl) (fun ρ g S hS hB hA => ?_) ?_
       ·have ui : upS S 12 12 = true := rfl; have u9 : upS S 12 9 = S 9 := rfl; have r9 : Rho.set ρ 12 g 9 = ρ 9 := rfl
        simp only [ui, hS, u9, r9, cond_true, cond_false]
        exact pex
       refine dnl ?_; intro ρ
       refine xq_ (blk b68 123 [vL, vi q0.kind, vi q0.line, vi q0.value, vi id, vi home, .slice none 0 0, (Gh.dec (γ := Value) (ρ 9))] :: row 47 (Gh.dec (γ := Value) (ρ 9)) [(⟨id, q, 0⟩ : Done)] :: foc 120 vL ls q.line.toNat [vi 0, vi 0, vi l.want, vi l.serial, vi l.seen, vi l.gave, vi l.given] :: blk b8 93 [.slice none 0 0, vi 0, vi 0, vi 0] :: blk b7 27 q.cells :: L) ?_
       generalize (Gh.dec (γ := Value) (ρ 8)) = v115
       generalize (Gh.dec (γ := Value) (ρ 9)) = v116
       refine Gl ?_
       refine JC.conseq (L' := row 120 vL (ls.set q.line.toNat ({ l with state := 0, value := 0 })) :: blk b68 123 [vL, vi q0.kind, vi q0.line, vi q0.value, vi id, vi home, .slice none 0 0, v116] :: row 47 v116 [(⟨id, q, 0⟩ : Done)] :: blk b8 93 [.slice none 0 0, vi 0, vi 0, vi 0] :: L) (fun w hs => Af (Cw ({ l with state := 0, value := 0 }) (by unfold Line.wf An; simp only; omega) (hs.pick pkk))) ?_
       refine JC.shut (v := vL) (xs := (ls.set q.line.toNat ({ l with state := 0, value := 0 }))) .hd ?_
       refine JC.slNil Msg ?_
       refine JC.shut (v := v116) (xs := [(⟨id, q, 0⟩ : Done)]) pkk ?_
       refine cq_ (blk b8 93 [.slice none 0 0, vi 0, vi 0, vi 0] :: blk b68 123 [vL, vi q0.kind, vi q0.line, vi q0.value, vi id, vi home, .slice none 0 0, v116] :: L) ?_
       refine jd_ (fun ρ S => blk b8 93 (bif S 12 then [vL, vi q0.kind, vi q0.line, vi q0.value] else [.slice none 0 0, vi 0, vi 0, vi 0]) :: blk b68 123 [vL, vi q0.kind, vi q0.line, vi q0.value, vi id, vi home, .slice none 0 0, v116] :: L) ?_
       refine dn3 ?_
       refine Kb (v := .agg ([vL, vi q0.kind, vi q0.line, vi q0.value]).toArray) (fun _ _ => E9 (b := b68) (f := 0) (vs := [vL, vi q0.kind, vi q0.line, vi q0.value, vi id, vi home, .slice none 0 0, v116]) 4 Tryz.isAgg93 Tryz.sizeOf93) (fun _ _ _ _ _ => rfl) ?_
       refine dn8 ?_
       refine es_ 93 0 [] [] (fun ρ => b8) (fun ρ => [.slice none 0 0, vi 0, vi 0, vi 0]) (fun ρ => [vL, vi q0.kind, vi q0.line, vi q0.value]) Tryz.sizeOf93 ?_
       refine dn3 ?_
       refine dnl ?_; intro ρ
       refine xq_ (blk b8 93 [vL, vi q0.kind, vi q0.line, vi q0.value] :: blk b68 123 [vL, vi q0.kind, vi q0.line, vi q0.value, vi id, vi home, .slice none 0 0, v116] :: L) ?_
       refine Gl ?_
       have eb : A6 l q = { l with state := 0, value := 0 } := by unfold A6; rw [if_pos (by omega), if_neg (by omega)]
       have ed : By l q = true := by unfold By; split <;> simp <;> omega
       have et : Ea l q = 0 := by unfold Ea; rw [if_pos (by omega)]
       have er : (Ak ⟨ls, q0⟩ id home q) = (⟨ls.set q.line.toNat ({ l with state := 0, value := 0 }), q0⟩, [], [(⟨id, q, 0⟩ : Done)], 0) := by rw [Pc hl (by omega) (by omega) (by omega) (by omega) (by omega), ed, if_pos rfl, eb, et, hz]
       rw [er]
       exact Hw (vL, .slice none 0 0, v116) Tryz.isAgg93 Tryz.sizeOf93
      ·intro ht97
       refine Gl ?_
       refine Zc7 ?_
       refine Ff 119 (.bool (decide (l.state = 2 ∨ (l.state = 1 ∧ q.kind = 1)))) ?_ ?_
       ·rcases (show (l.state = 2) ∨ (l.state = 1 ∧ q.kind = 1) ∨ (l.state = 1 ∧ q.kind ≠ 1) ∨ (l.state ≠ 1 ∧ l.state ≠ 2) from by omega) with hm | hm | hm | hm
        ·refine ZG ?_
         refine Df ?_
         refine Ga13 ?_
         exact ZcT
        ·refine ZG ?_
         refine Ay ?_
         refine Zac ?_
         refine Df ?_
         refine Zad ?_
         refine Df ?_
         refine Ga3 ?_
         exact ZcT
        ·refine Zc7 ?_
         refine ZG ?_
         refine Ay ?_
         refine Zac ?_
         refine Df ?_
         refine Zad ?_
         refine Ay ?_
         refine Ga3 ?_
         exact Zda
        ·refine ZG ?_
         refine Ay ?_
         refine Zac ?_
         refine Ay ?_
         refine Ga7 ?_
         exact Zda
       ·refine A7 ?_
        first | (refine cdx (p := ?p3) (hd := ?d3) ?e3 ?_ ?_; case e3 => exact rfl) | (refine Cb (b := ?b3) ?e3 ?_ ?_; case e3 => exact rfl)
        ·intro ht119
         refine Zbz ?_
         refine Zax ?_
         refine kp [7, 8, 9, 10, 11, 12, 137, 138] ?_
         refine ZA ?_
         refine Aj Tryz.call56 rfl (fun w hs => Js (vL := vL) (vo := .slice none 0 0) (vd := .slice none 0 0) (q := q) (q0 := q0) (id := id) (home := home) (ls := ls) (l := l) (ds := []) (bk := b68) (LX := blk b8 93 [.slice none 0 0, vi 0, vi 0, vi 0] :: blk b7 27 q.cells :: L) (Af hs) hl (by omega) (by omega) hid hhome (by simp) hq (by omega) (by omega)) ?_; intro v139
         refine J.conseq (L' := row 120 vL (ls.set q.line.toNat ({ l with value := (Bb l.value q).1 })) :: blk b68 123 [vL, vi 0, vi 0, vi 0, vi id, vi home, .slice none 0 0, v139] :: row 47 v139 [(⟨id, q, (Bb l.value q).2⟩ : Done)] :: blk b8 93 [.slice none 0 0, vi 0, vi 0, vi 0] :: L) (fun w hs => by rw [List.nil_append] at hs; exact Af hs) ?_
         refine Gl ?_
         refine cq_ (row 120 vL (ls.set q.line.toNat ({ l with value := (Bb l.value q).1 })) :: blk b68 123 [vL, vi 0, vi 0, vi 0, vi id, vi home, .slice none 0 0, v139] :: row 47 v139 [(⟨id, q, (Bb l.value q).2⟩ : Done)] :: blk b8 93 [.slice none 0 0, vi 0, vi 0, vi 0] :: L) ?_
         refine JC.shut (v := vL) (xs := (ls.set q.line.toNat ({ l with value := (Bb l.value q).1 }))) .hd ?_
         refine JC.slNil Msg ?_
         refine JC.shut (v := v139) (xs := [(⟨id, q, (Bb l.value q).2⟩ : Done)]) pkk ?_
         refine cq_ (blk b8 93 [.slice none 0 0, vi 0, vi 0, vi 0] :: blk b68 123 [vL, vi 0, vi 0, vi 0, vi id, vi home, .slice none 0 0, v139] :: L) ?_
         refine jd_ (fun ρ S => blk b8 93 (bif S 12 then [vL, vi 0, vi 0, vi 0] else [.slice none 0 0, vi 0, vi 0, vi 0]) :: blk b68 123 [vL, vi 0, vi 0, vi 0, vi id, vi home, .slice none 0 0, v139] :: L) ?_
         refine dn3 ?_
         refine Kb (v := .agg ([vL, vi 0, vi 0, vi 0]).toArray) (fun _ _ => E9 (b := b68) (f := 0) (vs := [vL, vi 0, vi 0, vi 0, vi id, vi home, .slice none 0 0, v139]) 4 Tryz.isAgg93 Tryz.sizeOf93) (fun _ _ _ _ _ => rfl) ?_
         refine Zcy ?_
         refine dn3 ?_
         refine dnl ?_; intro ρ
         refine xq_ (blk b8 93 [vL, vi 0, vi 0, vi 0] :: blk b68 123 [vL, vi 0, vi 0, vi 0, vi id, vi home, .slice none 0 0, v139] :: L) ?_
         refine Gl ?_
         have eb : A6 l q = { l with value := (Bb l.value q).1 } := by unfold A6; rw [if_neg (by omega), if_pos (by omega)]
         have ed : By l q = true := by unfold By; split <;> simp <;> omega
         have et : Ea l q = (Bb l.value q).2 := by unfold Ea; rw [if_neg (by omega)]
         have er : (Ak ⟨ls, q0⟩ id home q) = (⟨ls.set q.line.toNat ({ l with value := (Bb l.value q).1 }), zOp⟩, [], [(⟨id, q, (Bb l.value q).2⟩ : Done)], 0) := by rw [Pc hl (by omega) (by omega) (by omega) (by omega) (by omega), ed, if_pos rfl, eb, et]
         rw [er]
         exact Hw (vL, .slice none 0 0, v139) Tryz.isAgg93 Tryz.sizeOf93
        ·intro ht119
         refine Gl ?_
         refine kp [7, 8, 9, 10, 11, 12, 140, 141, 142, 143] ?_
         refine Aa ?_
         refine Ga4 ?_
         refine cdy ?_ ?_
         ·intro ht140
          refine Zbz ?_
          refine ZQ ?_
          refine ZA ?_
          refine Aj Tryz.call55 rfl (fun w hs => Qf (vL := vL) (vo := .slice none 0 0) (vd := .slice none 0 0) (q := q) (q0 := q0) (id := id) (home := home) (ls := ls) (l := l) (ms := []) (want := 1) (bk := b68) (LX := blk b8 93 [.slice none 0 0, vi 0, vi 0, vi 0] :: blk b7 27 q.cells :: L) (Af hs) hl (by omega) (by omega) hid hhome (by simp) (by first | omega | (simp only; omega)) (by unfold An; omega)) ?_; intro v146
          refine J.conseq (L' := row 120 vL (ls.set q.line.toNat ({ l with want := 1, serial := l.serial + 1 })) :: blk b68 123 [vL, vi q.kind, vi q.line, vi q.value, vi id, vi home, v146, .slice none 0 0] :: row 128 v146 [Co ({ l with want := 1, serial := l.serial + 1 }) id home q.line] :: blk b8 93 [.slice none 0 0, vi 0, vi 0, vi 0] :: L) (fun w hs => by rw [List.nil_append] at hs; exact Af hs) ?_
          refine Gl ?_
          refine cq_ (row 120 vL (ls.set q.line.toNat ({ l with want := 1, serial := l.serial + 1 })) :: blk b68 123 [vL, vi q.kind, vi q.line, vi q.value, vi id, vi home, v146, .slice none 0 0] :: row 128 v146 [Co ({ l with want := 1, serial := l.serial + 1 }) id home q.line] :: blk b8 93 [.slice none 0 0, vi 0, vi 0, vi 0] :: L) ?_
          refine JC.shut (v := vL) (xs := (ls.set q.line.toNat ({ l with want := 1, serial := l.serial + 1 }))) .hd ?_
          refine JC.shut (v := v146) (xs := [Co ({ l with want := 1, serial := l.serial + 1 }) id home q.line]) pkk ?_
          refine ZS ?_
          refine cq_ (blk b8 93 [.slice none 0 0, vi 0, vi 0, vi 0] :: blk b68 123 [vL, vi q.kind, vi q.line, vi q.value, vi id, vi home, v146, .slice none 0 0] :: L) ?_
          refine jd_ (fun ρ S => blk b8 93 (bif S 12 then [vL, vi q.kind, vi q.line, vi q.value] else [.slice none 0 0, vi 0, vi 0, vi 0]) :: blk b68 123 [vL, vi q.kind, vi q.line, vi q.value, vi id, vi home, v146, .slice none 0 0] :: L) ?_
          refine dn3 ?_
          refine Kb (v := .agg ([vL, vi q.kind, vi q.line, vi q.value]).toArray) (fun _ _ => E9 (b := b68) (f := 0) (vs := [vL, vi q.kind, vi q.line, vi q.value, vi id, vi home, v146, .slice none 0 0]) 4 Tryz.isAgg93 Tryz.sizeOf93) (fun _ _ _ _ _ => rfl) ?_
          refine ZaP ?_
          refine dn3 ?_
          refine dnl ?_; intro ρ
          refine xq_ (blk b8 93 [vL, vi q.kind, vi q.line, vi q.value] :: blk b68 123 [vL, vi q.kind, vi q.line, vi q.value, vi id, vi home, v146, .slice none 0 0] :: L) ?_
          refine Gl ?_
          have eb : A6 l q = { l with want := 1, serial := l.serial + 1 } := by unfold A6; rw [if_neg (by omega), if_neg (by omega), if_pos (by omega)]
          have ed : By l q = false := by unfold By; split <;> simp <;> omega
          have er : (Ak ⟨ls, q0⟩ id home q) = (⟨ls.set q.line.toNat ({ l with want := 1, serial := l.serial + 1 }), q⟩, [Co ({ l with want := 1, serial := l.serial + 1 }) id home q.line], [], 0) := by rw [Pc hl (by omega) (by omega) (by omega) (by omega) (by omega), ed, if_neg (by decide), eb]
          rw [er]
          exact Hw (vL, v146, .slice none 0 0) Tryz.isAgg93 Tryz.sizeOf93
         ·intro ht140
          refine Zbz ?_
          refine ZQ ?_
          refine ZA ?_
          refine Aj Tryz.call55 rfl (fun w hs => Qf (vL := vL) (vo := .slice none 0 0) (vd := .slice none 0 0) (q := q) (q0 := q0) (id := id) (home := home) (ls := ls) (l := l) (ms := []) (want := 2) (bk := b68) (LX := blk b8 93 [.slice none 0 0, vi 0, vi 0, vi 0] :: blk b7 27 q.cells :: L) (Af hs) hl (by omega) (by omega) hid hhome (by simp) (by first | omega | (simp only; omega)) (by unfold An; omega)) ?_; intro v79
          refine J.conseq (L' := row 120 vL (ls.set q.line.toNat ({ l with want := 2, serial := l.serial + 1 })) :: blk b68 123 [vL, vi q.kind, vi q.line, vi q.value, vi id, vi home, v79, .slice none 0 0] :: row 128 v79 [Co ({ l with want := 2, serial := l.serial + 1 }) id home q.line] :: blk b8 93 [.slice none 0 0, vi 0, vi 0, vi 0] :: L) (fun w hs => by rw [List.nil_append] at hs; exact Af hs) ?_
          refine Gl ?_
          refine cq_ (row 120 vL (ls.set q.line.toNat ({ l with want := 2, serial := l.serial + 1 })) :: blk b68 123 [vL, vi q.kind, vi q.line, vi q.value, vi id, vi home, v79, .slice none 0 0] :: row 128 v79 [Co ({ l with want := 2, serial := l.serial + 1 }) id home q.line] :: blk b8 93 [.slice none 0 0, vi 0, vi 0, vi 0] :: L) ?_
          refine JC.shut (v := vL) (xs := (ls.set q.line.toNat ({ l with want := 2, serial := l.serial + 1 }))) .hd ?_
          refine JC.shut (v := v79) (xs := [Co ({ l with want := 2, serial := l.serial + 1 }) id home q.line]) pkk ?_
          refine ZS ?_
          refine cq_ (blk b8 93 [.slice none 0 0, vi 0, vi 0, vi 0] :: blk b68 123 [vL, vi q.kind, vi q.line, vi q.value, vi id, vi home, v79, .slice none 0 0] :: L) ?_
          refine jd_ (fun ρ S => blk b8 93 (bif S 12 then [vL, vi q.kind, vi q.line, vi q.value] else [.slice none 0 0, vi 0, vi 0, vi 0]) :: blk b68 123 [vL, vi q.kind, vi q.line, vi q.value, vi id, vi home, v79, .slice none 0 0] :: L) ?_
          refine dn3 ?_
          refine Kb (v := .agg ([vL, vi q.kind, vi q.line, vi q.value]).toArray) (fun _ _ => E9 (b := b68) (f := 0) (vs := [vL, vi q.kind, vi q.line, vi q.value, vi id, vi home, v79, .slice none 0 0]) 4 Tryz.isAgg93 Tryz.sizeOf93) (fun _ _ _ _ _ => rfl) ?_
          refine ZaP ?_
          refine dn3 ?_
          refine dnl ?_; intro ρ
          refine xq_ (blk b8 93 [vL, vi q.kind, vi q.line, vi q.value] :: blk b68 123 [vL, vi q.kind, vi q.line, vi q.value, vi id, vi home, v79, .slice none 0 0] :: L) ?_
          refine Gl ?_
          have eb : A6 l q = { l with want := 2, serial := l.serial + 1 } := by unfold A6; rw [if_neg (by omega), if_neg (by omega), if_neg (by omega)]
          have ed : By l q = false := by unfold By; split <;> simp <;> omega
          have er : (Ak ⟨ls, q0⟩ id home q) = (⟨ls.set q.line.toNat ({ l with want := 2, serial := l.serial + 1 }), q⟩, [Co ({ l with want := 2, serial := l.serial + 1 }) id home q.line], [], 0) := by rw [Pc hl (by omega) (by omega) (by omega) (by omega) (by omega), ed, if_neg (by decide), eb]
          rw [er]
          exact Hw (vL, v79, .slice none 0 0) Tryz.isAgg93 Tryz.sizeOf93
theorem Tn {u : Value} {c : Core} {id home : Int} (hs : St (L) R w) (hu : sl u c.lines ∈ R) (hn4 : c.lines.length ≤ 100) (hid : An id) (hhome : An home) : Calls Tryz.prog 66 [.agg (c.cells u).toArray, vi id, vi home].toArray w (Bh (fun v : Value => v) (fun v => L) (fun v => sl v (E8 c id home) :: R)) := by
 obtain ⟨ls, q⟩ := c
 have hu : sl u ls ∈ R := hu
 have hn4 : ls.length ≤ 100 := hn4
 have hone0 : u.oneCell' = true := isSlice.one (hs.fact hu)
 refine Ag Tryz.func66 rfl Tryz.ntmps66 rfl hs ?_
 clear hs
 refine Gm ?_
 refine bx ?_; intro b3
 refine Gb1 ?_
 refine ZbT ?_;intro vL honeV
 refine bx ?_; intro b14
 refine Ga1 ?_
 refine cq_ (row 120 vL ls :: blk b14 123 [vL, vi q.kind, vi q.line, vi q.value, vi id, vi home, .slice none 0 0, .slice none 0 0] :: L) ?_
 refine Aa ?_
 refine Ga7 ?_
 refine ZQ ?_
 refine Cn (γ := Nat × Value) (fun g => g.1 ≤ ls.length) (fun g => blk b14 123 [vL, vi q.kind, vi q.line, vi q.value, vi id, vi home, g.2, .slice none 0 0] :: row 120 vL ls :: row 128 g.2 (Bx id home 0 (ls.take g.1)) :: L) (fun _ => R) (fun g => [(7, bp b14 0), (20, vi (ls.length : Int)), (21, vi (g.1 : Int))]) (fun g => ls.length - g.1) (0, .slice none 0 0) (Nat.zero_le _) alT (fun w hs => Af hs) ?_
 rintro ⟨k, vs⟩ hk9
 try simp only at hk9 ⊢
 have htl := Ns id home (ls.take k) 0
 rw [List.length_take] at htl
 refine ZC ?_
 refine cdy ?_ ?_
 ·intro ht22
  refine ZE ?_
  obtain ⟨l, hl⟩ : ∃ l, ls.getD ((k : Int)).toNat zLine = l := ⟨_, rfl⟩
  refine Gt (ls := ls) (l := l) (i := (k : Int)) pkk hl (by omega) (by omega) (fun hlw hA => ?_)
  have hlw0 := hlw
  unfold Line.wf An at hlw0
  have honeL : (ep vL 7 (k : Int).toNat 0).oneCell' = true := hA.one
  refine Aa ?_
  refine rn6 ?_
  refine ob (Ip (v := vL) (i := (k : Int)) Lr (hl := Cs (α := Line) (xs := ls) pkk)) ?_
  refine Ga3 ?_
  refine cdy ?_ ?_
  ·intro ht33
   refine JC.conseq (L' := row 120 vL ls :: blk b14 123 [vL, vi q.kind, vi q.line, vi q.value, vi id, vi home, vs, .slice none 0 0] :: row 128 vs (Bx id home 0 (ls.take k)) :: L) (fun w hs => Af (Dk hl hlw (hs.pick pkk))) ?_
   refine ZA ?_
   refine Aj Tryz.call82 rfl (fun w hs => O7 (vL := vL) (vd := .slice none 0 0) (q := q) (id := id) (home := home) (ms := Bx id home 0 (ls.take k)) (line := (k : Int)) (ls := ls) (l := l) (LX := L) (Af hs) hl (by omega) (by omega) (by omega) hid hhome) ?_; intro v36
   refine Gl ?_
   refine kp [6, 7, 8, 20, 21, 22, 23, 24, 25, 26, 27, 28, 29, 30, 31, 32, 33, 34, 35, 37] ?_
   refine Aa ?_
   refine Ga2 ?_
   refine Br (k + 1, v36) (by show k + 1 ≤ ls.length; omega) (by show ls.length - (k + 1) < ls.length - k; omega) alT (fun w hs => ?_)
   try simp only
   rw [J4 zLine (by omega), Jd, show ls.getD k zLine = l from hl, if_pos ht33, List.length_take, Nat.min_eq_left (by omega), Int.zero_add]
   exact Af hs
  ·intro ht33
   refine ZE ?_
   refine Br (k + 1, vs) (by show k + 1 ≤ ls.length; omega) (by show ls.length - (k + 1) < ls.length - k; omega) alT (fun w hs => ?_)
   try simp only
   rw [J4 zLine (by omega), Jd, show ls.getD k zLine = l from hl, if_neg ht33, List.append_nil]
   exact Af (Dk hl hlw (hs.pick pkk))
 ·intro ht22
  refine Gl ?_
  refine JC.shut (v := vs) (xs := Bx id home 0 (ls.take k)) pkk ?_
  refine Aa ?_
  refine Ga5 ?_
  have hkl : k = ls.length := by omega
  rw [show E8 ⟨ls, q⟩ id home = Bx id home 0 (ls.take k) from by rw [hkl, List.take_length]; rfl]
  exact Bz vs
theorem Z8 {lines : Int} (hs : St (L) R w) (hl : 0 ≤ lines ∧ lines ≤ 4) : Calls Tryz.prog 35 [vi lines].toArray w (Bh (fun v : Value => .agg (Core.cells v (Dg lines)).toArray) (fun v => L) (fun v => sl v (Dg lines).lines :: R)) := by
 refine Ag Tryz.func35 rfl Tryz.ntmps35 rfl hs ?_
 clear hs
 refine Gm ?_
 refine al_ (cs := [.slice none 0 0, vi 0, vi 0, vi 0]) Tryz.zeroValue93 ?_; intro b2
 refine ZW ?_
 refine ob (q_mx (a := lines) rfl (by omega)) ?_
 refine U0 (α := Line) (x0 := zLine) (zc := zLine.cells) Afm rfl (by decide) rfl rfl rfl (fun j => ⟨rfl, by unfold Line.wf An; decide⟩) (by omega) (by omega) ?_; intro v5
 refine J.shut .hd ?_
 refine J.know (p := v5.oneCell' = true) (fun w hs => isSlice.one (hs.fact (.head _))) (fun honev5 => ?_)
 refine rn1 ?_
 refine s_B (cs := [v5, vi 0, vi 0, vi 0]) Tryz.sizeOf93 ?_
 refine Gl ?_
 exact Sp v5 Tryz.isAgg93 Tryz.sizeOf93
section
variable {P : Program} {T : TypeId} {s k : Int}
theorem Pd (h2 : 0 ≤ k) (h3 : k < 4) (w : World) : (binOp .shl T (vi 1) (vi k)).run P w = .ok (vi ((2 ^ k.toNat : Nat) : Int)) w := by
 rcases (show k = 0 ∨ k = 1 ∨ k = 2 ∨ k = 3 by omega) with g | g | g | g <;> subst g <;> rfl
theorem Lk (h0 : 0 ≤ s) (h1 : s < 16) (h2 : 0 ≤ k) (h3 : k < 4) (w : World) : (binOp .andNot T (vi s) (vi ((2 ^ k.toNat : Nat) : Int))).run P w = .ok (vi (Gy s k)) w := by
 exact ZcB
theorem b_orB (h0 : 0 ≤ s) (h1 : s < 16) (h2 : 0 ≤ k) (h3 : k < 4) (w : World) : (binOp .or T (vi s) (vi ((2 ^ k.toNat : Nat) : Int))).run P w = .ok (vi (G3 s k)) w := by
 exact ZcB
theorem W2 (h0 : 0 ≤ s) (h1 : s < 16) (h2 : 0 ≤ k) (h3 : k < 4) (w : World) : (binOp .shr T (vi s) (vi k)).run P w = .ok (vi ((s.toNat / 2 ^ k.toNat : Nat) : Int)) w := by
 exact ZcB
theorem Qq (h0 : 0 ≤ s) (h1 : s < 16) (h2 : 0 ≤ k) (h3 : k < 4) (w : World) : (binOp .and T (vi ((s.toNat / 2 ^ k.toNat : Nat) : Int)) (vi 1)).run P w = .ok (vi (if M0 s k then 1 else 0)) w := by
 exact ZcB
theorem Vu (h0 : 0 ≤ s) (h1 : s < 16) (hk : Iq s ≤ k) (h2 : 0 ≤ k) (h3 : k < 4) : M0 s k = false := by
 revert hk
 rcases (show s = 0 ∨ s = 1 ∨ s = 2 ∨ s = 3 ∨ s = 4 ∨ s = 5 ∨ s = 6 ∨ s = 7 ∨ s = 8 ∨ s = 9 ∨ s = 10 ∨ s = 11 ∨ s = 12 ∨ s = 13 ∨ s = 14 ∨ s = 15 by omega) with h | h | h | h | h | h | h | h | h | h | h | h | h | h | h | h <;> rcases (show k = 0 ∨ k = 1 ∨ k = 2 ∨ k = 3 by omega) with g | g | g | g <;> subst h <;> subst g <;> intro hk <;> first | rfl | (exfalso; revert hk; decide)
end
theorem Ia {e : Entry} {line id : Int} {k : Nat} : Ei e line id (k + 1) = Ei e line id k ++ (if M0 e.need (k : Int) then [⟨4, id, (k : Int), line, 0, e.turn, 0, false⟩] else []) := by
 unfold M0
 rw [Int.toNat_natCast]
 cases h : e.need.toNat.testBit k with
 | true => rw [Se h, if_pos rfl]
 | false => rw [Uu h]; simp
theorem L3 {e : Entry} {line id : Int} (he : EB e) : ∀ j : Nat, (Iq e.need).toNat + j ≤ 4 → Ei e line id ((Iq e.need).toNat + j) = Ei e line id (Iq e.need).toNat
 | 0, _ => rfl
 | j + 1, h => by
  have ih := L3 (line := line) (id := id) he j (by omega)
  have hl : 0 ≤ Iq e.need := by unfold Iq; split <;> (try split) <;> (try split) <;> (try split) <;> omega
  rw [← Nat.add_assoc, Ia, Vu he.2.2.1.1 he.2.2.1.2 (by omega) (by omega) (by omega), ih]; simp
theorem Vi {s : Int} : 0 ≤ Iq s ∧ Iq s ≤ 4 := by unfold Iq; split <;> (try split) <;> (try split) <;> (try split) <;> omega
theorem Pl {e : Entry} {line id : Int} (he : EB e) : Ei e line id (Iq e.need).toNat = Ei e line id 4 := by
 have h := Vi (s := e.need)
 have := L3 (line := line) (id := id) he (4 - (Iq e.need).toNat) (by omega)
 rw [← this]; congr 1; omega
theorem Mx {LX : List Chunk} {R : List Fact} {w : World} {vh vo u : Value} {i bk : Nat} {e : Entry} {ms : List Msg} {line id : Int} {kind to serial value : Int} {al : Bool} (hs : St (blk bk 159 [(ep vh 10 i 0), vi line, vi id, vo] :: row 128 vo ms :: LX) R w) (hE : Cj LX R (ep vh 10 i 0) (Entry.cells u e)) (hA : EpAll vh 10 i) (hn : ms.length ≤ 1000) (hwf : (⟨kind, id, to, line, serial, e.turn, value, al⟩ : Msg).wf) : Calls Tryz.prog 111 [bp bk 0, vi kind, vi to, vi serial, vi value, .bool al].toArray w (Bh (fun v : Value => .tuple #[]) (fun v => blk bk 159 [(ep vh 10 i 0), vi line, vi id, v] :: row 128 v (ms ++ [(⟨kind, id, to, line, serial, e.turn, value, al⟩ : Msg)]) :: LX) (fun v => R)) := by
 refine Ag Tryz.func111 rfl Tryz.ntmps111 rfl hs ?_
 clear hs
 refine cq_ (blk bk 159 [(ep vh 10 i 0), vi line, vi id, vo] :: row 128 vo ms :: LX) ?_
 refine jd_ (fun ρ S => blk bk 159 (bif S 30 then [(ep vh 10 i 0), vi line, vi id, (Gh.dec (γ := Value) (ρ 27))] else [(ep vh 10 i 0), vi line, vi id, vo]) :: (bif S 27 then row 128 (Gh.dec (γ := Value) (ρ 27)) (ms ++ [(⟨kind, id, to, line, serial, e.turn, value, al⟩ : Msg)]) else row 128 vo ms) :: (LX)) ?_
 refine dn4 ?_
 refine H6 (v := vo) (fun ρ S hS hB hA => by have h30 : S 30 = false := hA 30 ⟨0, rfl⟩; simp only [h30, cond_false]; exact Cp (hc := Bg pkk (by repeat (first | exact rfl | refine Cr rfl ?_))) Tryz.isAgg96) (fun _ _ _ _ _ => rfl) ?_
 refine dn4 ?_
 refine H6 (v := vi id) (fun ρ S hS hB hA => by have h30 : S 30 = false := hA 30 ⟨0, rfl⟩; simp only [h30, cond_false]; exact Cp (hc := Bg pkk (by repeat (first | exact rfl | refine Cr rfl ?_))) Tryz.isAgg3) (fun _ _ _ _ _ => rfl) ?_
 refine dn4 ?_
 refine H6 (v := vi line) (fun ρ S hS hB hA => by have h30 : S 30 = false := hA 30 ⟨0, rfl⟩; simp only [h30, cond_false]; exact Cp (hc := Bg pkk (by repeat (first | exact rfl | refine Cr rfl ?_))) Tryz.isAgg3) (fun _ _ _ _ _ => rfl) ?_
 refine dn4 ?_
 refine H6 (v := (ep vh 10 i 0)) (fun ρ S hS hB hA => by have h30 : S 30 = false := hA 30 ⟨0, rfl⟩; simp only [h30, cond_false]; exact Cp (hc := Bg pkk (by repeat (first | exact rfl | refine Cr rfl ?_))) Tryz.isAgg156) (fun _ _ _ _ _ => rfl) ?_
 first | refine epc (fun _ _ => q_nb) ?_ | refine epc (fun _ _ => q_ne) ?_ | refine epp (fun _ _ => q_nb) ?_ | refine epp (fun _ _ => q_ne) ?_
 first | refine epc (fun _ _ => q_fa I4) ?_ | refine epc (fun _ _ => q_fe I4) ?_ | refine epp (fun _ _ => q_fa I4) ?_ | refine epp (fun _ _ => q_fe I4) ?_
 first | refine epc (fun _ _ => Cp Tryz.isAgg3) ?_ | refine epp (fun _ _ => Cp Tryz.isAgg3) ?_
 refine dn2 ?_
 first | refine epc (fun _ _ => Du Cv) ?_ | refine epc (fun _ _ => E6 Cv) ?_ | refine epp (fun _ _ => Du Cv) ?_ | refine epp (fun _ _ => E6 Cv) ?_
 refine Jq ([(⟨kind, id, to, line, serial, e.turn, value, al⟩ : Msg)] : List Msg) Lc rfl (fun _ => rfl) rfl (fun _ => rfl) rfl rfl (fun ρ R hd => Uz hwf) (fun _ _ _ _ _ => rfl) ?_
 refine Dx (e := 128) (xs := ms) (ys := [(⟨kind, id, to, line, serial, e.turn, value, al⟩ : Msg)]) (v := vo) Lc (fun _ => rfl) (fun _ => rfl) rfl (by decide) (fun ρ R hd => (hd.dep (it := ⟨26, _, _, _, _⟩) (by repeat (first | exact List.Mem.head _ | refine List.Mem.tail _ ?_)) ⟨9, rfl⟩ (List.Mem.head _))) (by have : maxN = 16777216 := rfl; simp only [List.length_cons, List.length_nil]; omega) (fun ρ g S hS hB hA => ?_) ?_
 ·have ui : upS S 27 27 = true := rfl; have u30 : upS S 27 30 = S 30 := rfl; have h30 : S 30 = false := hA 30 ⟨0, rfl⟩; have rs : (Gh.dec (γ := Value) (Rho.set ρ 27 (Gh.enc g) 27)) = g := rfl
  simp only [ui, hS, u30, h30, rs, cond_true, cond_false]
  exact pex
 refine dn2 ?_
 refine Cy (T0 := 159) (f := 3) (vs := fun ρ => [(ep vh 10 i 0), vi line, vi id, vo]) (v := fun ρ => (Gh.dec (γ := Value) (ρ 27))) (fun ρ => bk) Tryz.sizeOf96 (fun _ => rfl) (fun _ => rfl) (fun ρ S R w L9 hB hd hs => by have h27 : S 27 = true := hB 27 ⟨9, rfl⟩; simp only [h27, cond_true] at hs; exact A8 pkk hs) (fun _ => rfl) (fun ρ g S hS hB hA => ?_) ?_
 ·have ui : upS S 30 30 = true := rfl; have u27 : upS S 30 27 = S 27 := rfl; have r27 : Rho.set ρ 30 g 27 = ρ 27 := rfl
  simp only [ui, hS, u27, r27, cond_true, cond_false]
  exact pex
 refine dnl ?_; intro ρ
 refine xq_ (blk bk 159 [(ep vh 10 i 0), vi line, vi id, (Gh.dec (γ := Value) (ρ 27))] :: row 128 (Gh.dec (γ := Value) (ρ 27)) (ms ++ [(⟨kind, id, to, line, serial, e.turn, value, al⟩ : Msg)]) :: (LX)) ?_
 generalize (Gh.dec (γ := Value) (ρ 26)) = v38
 generalize (Gh.dec (γ := Value) (ρ 27)) = v39
 refine Ax (.inl rfl) (fun B w hs => Gx rfl _ w) (fun w hs => ⟨v39, rfl, Af hs⟩)
theorem Ua {s : Int} (h0 : 0 ≤ s) (h1 : s < 16) : IntKind.u64.wrap s = s := by
 rcases (show s = 0 ∨ s = 1 ∨ s = 2 ∨ s = 3 ∨ s = 4 ∨ s = 5 ∨ s = 6 ∨ s = 7 ∨ s = 8 ∨ s = 9 ∨ s = 10 ∨ s = 11 ∨ s = 12 ∨ s = 13 ∨ s = 14 ∨ s = 15 by omega) with h | h | h | h | h | h | h | h | h | h | h | h | h | h | h | h <;> subst h <;> rfl
theorem Hd {LX : List Chunk} {R : List Fact} {w : World} {vh vo u : Value} {i bk : Nat} {e : Entry} {ms : List Msg} {line id : Int} (hs : St (blk bk 159 [(ep vh 10 i 0), vi line, vi id, vo] :: row 128 vo ms :: LX) R w) (hE : Cj LX R (ep vh 10 i 0) (Entry.cells u e)) (hA : EpAll vh 10 i) (hn : ms.length ≤ 500) (hb : EB e) (hl : An line) (hid : An id) : Calls Tryz.prog 94 [bp bk 0].toArray w (Bh (fun v : Value => .tuple #[]) (fun v => blk bk 159 [(ep vh 10 i 0), vi line, vi id, v] :: row 128 v (ms ++ Ib e line id) :: LX) (fun v => R)) := by
 have hb0 := hb
 unfold EB Entry.wf An at hb0
 unfold An at hl hid
 refine Ag Tryz.func94 rfl Tryz.ntmps94 rfl hs ?_
 clear hs
 refine Gm ?_
 refine Gb7 ?_
 refine Ga2 ?_
 refine cdy ?_ ?_
 ·intro ht11
  refine ZJ ?_
  refine Ga7 ?_
  refine Cb (b := ?b2) ?e2 ?_ ?_; case e2 => exact rfl
  ·intro ht19
   refine Aa ?_
   refine Gb1 ?_
   refine rn9 ?_
   refine Aj Tryz.call111 rfl (fun w hs => Mx (e := e) (ms := ms) (kind := 6) (to := e.owner) (serial := 0) (value := 0) (al := false) hs hE hA (by omega) (by unfold Msg.wf An; simp only; omega)) ?_; intro v29
   refine Gl ?_
   have er : Ib e line id = [⟨6, id, e.owner, line, 0, e.turn, 0, false⟩] := by unfold Ib; rw [if_pos ht11, ht19]; rfl
   exact ZdC
  ·intro ht19
   refine Gm ?_
   refine rn9 ?_
   refine Aj Tryz.call111 rfl (fun w hs => Mx (e := e) (ms := ms) (kind := 5) (to := e.owner) (serial := 0) (value := 0) (al := false) hs hE hA (by omega) (by unfold Msg.wf An; simp only; omega)) ?_; intro v29
   refine Gl ?_
   have er : Ib e line id = [⟨5, id, e.owner, line, 0, e.turn, 0, false⟩] := by unfold Ib; rw [if_pos ht11, ht19]; rfl
   exact ZdC
 ·intro ht11
  refine ZE ?_
  refine cdy ?_ ?_
  ·intro ht30
   refine Gm ?_
   refine rn7 ?_
   refine ob (Au (v := .int .u64 e.need) Tryz.underlying3 Tryz.underlying145 rfl (by rw [show IntKind.u64.wrap e.need = e.need from Ua hb0.2.2.1.1 hb0.2.2.1.2])) ?_
   refine Aj Tryz.call112 rfl (fun w hs => Agj hs hb0.2.2.1.1 hb0.2.2.1.2) ?_; intro _
   refine Ga1 ?_
   have hlb := Vi (s := e.need)
   refine Cn (γ := Nat × Value) (fun g => (g.1 : Int) ≤ Iq e.need) (fun g => blk bk 159 [(ep vh 10 i 0), vi line, vi id, g.2] :: row 128 g.2 (ms ++ Ei e line id g.1) :: LX) (fun _ => R) (fun g => [(0, bp bk 0), (40, vi (Iq e.need)), (41, vi (g.1 : Int))]) (fun g => (Iq e.need).toNat - g.1) (0, vo) (by show (0 : Int) ≤ Iq e.need; omega) alT (fun w hs => by have e0 : Ei e line id 0 = [] := rfl; rw [e0, List.append_nil]; exact hs) ?_
   rintro ⟨k, vs⟩ hk
   try simp only at hk ⊢
   have hsl := Sf e line id k
   refine ZC ?_
   refine cdy ?_ ?_
   ·intro ht42
    refine Gm ?_
    refine Gb2 ?_
    refine rn8 ?_
    refine ob (Fl (a := e.need) (b := (k : Int)) (W2 hb0.2.2.1.1 hb0.2.2.1.2 (by omega) (by omega))) ?_
    refine ob (Fl (a := ((e.need.toNat / 2 ^ (k : Int).toNat : Nat) : Int)) (b := 1) (Qq hb0.2.2.1.1 hb0.2.2.1.2 (by omega) (by omega))) ?_
    refine Ga1 ?_
    refine cdy ?_ ?_
    ·intro ht54
     refine kp [0, 3, 10, 40, 41, 42, 43, 44, 45, 46, 47, 48, 49, 50, 51, 52, 53, 54, 55, 56] ?_
     refine ZA ?_
     refine Aj Tryz.call111 rfl (fun w hs => Mx (e := e) (ms := (ms ++ Ei e line id k)) (kind := 4) (to := (k : Int)) (serial := 0) (value := 0) (al := false) hs hE hA (by simp only [List.length_append]; omega) (by unfold Msg.wf An; simp only; omega)) ?_; intro v57
     refine ZE ?_
     refine Br (k + 1, v57) (by show ((k + 1 : Nat) : Int) ≤ Iq e.need; omega) (by show (Iq e.need).toNat - (k + 1) < (Iq e.need).toNat - k; omega) alT (fun w hs => ?_)
     try simp only
     have hb9 : M0 e.need (k : Int) = true := by revert ht54; cases M0 e.need (k : Int) <;> simp
     rw [Ia, hb9, if_pos rfl, ← List.append_assoc]; exact Af hs
    ·intro ht54
     refine Gl ?_
     refine kp [0, 3, 10, 40, 41, 42, 43, 44, 45, 46, 47, 48, 49, 50, 51, 52, 53, 54, 55, 56, 58] ?_
     refine Aa ?_
     refine Ga2 ?_
     refine Br (k + 1, vs) (by show ((k + 1 : Nat) : Int) ≤ Iq e.need; omega) (by show (Iq e.need).toNat - (k + 1) < (Iq e.need).toNat - k; omega) alT (fun w hs => ?_)
     try simp only
     have hb9 : M0 e.need (k : Int) = false := by revert ht54; cases M0 e.need (k : Int) <;> simp
     rw [Ia, hb9, if_neg (by decide), List.append_nil]; exact Af hs
   ·intro ht42
    refine Gl ?_
    have hk4 : k = (Iq e.need).toNat := by omega
    subst hk4
    have er : Ib e line id = Ei e line id (Iq e.need).toNat := by rw [Pl hb, Sg ht30]
    rw [er]
    refine Ax (.inl rfl) (fun B w hs => Gx rfl _ w) (fun w hs => ⟨vs, rfl, Af hs⟩)
  ·intro ht30
   refine ZE ?_
   refine cdy ?_ ?_
   ·intro ht59
    refine Bl ?_
    refine dn29 ?_
    refine dtl ?_; intro ρ
    refine Aj Tryz.call111 rfl (fun w hs => Mx (e := e) (ms := ms) (kind := 7) (to := e.who) (serial := e.serial) (value := e.value) (al := e.alone) hs hE hA (by omega) (by unfold Msg.wf An; simp only; omega)) ?_; intro v90
    refine Gl ?_
    have er : Ib e line id = [⟨7, id, e.who, line, e.serial, e.turn, e.value, e.alone⟩] := by unfold Ib; rw [if_neg ht11, if_neg ht30, if_pos ht59]
    rw [er]
    refine Ax (.inl rfl) (fun B w hs => Gx rfl _ w) (fun w hs => ⟨v90, rfl, Af hs⟩)
   ·intro ht59
    refine Gl ?_
    have er : Ib e line id = [] := by unfold Ib; rw [if_neg ht11, if_neg ht30, if_neg ht59]
    rw [er, List.append_nil]
    refine Ax (.inl rfl) (fun B w hs => Gx rfl _ w) (fun w hs => ⟨vo, rfl, Af hs⟩)
theorem Kg {LX : List Chunk} {R : List Fact} {w : World} {vh vo u : Value} {i bk : Nat} {e : Entry} {ms : List Msg} {line id : Int} {xs : List Entry} (hs : St (blk bk 159 [(ep vh 10 i 0), vi line, vi id, vo] :: row 128 vo ms :: foc 109 vh xs i (Entry.cells u e) :: LX) R w) (hA : EpAll vh 10 i) (hone : u.oneCell' = true) (hn : ms.length ≤ 500) (hb : EB e) (hl : An line) (hid : An id) : Calls Tryz.prog 89 [bp bk 0].toArray w (Bh (fun v : Value => .tuple #[]) (fun v => blk bk 159 [(ep vh 10 i 0), vi line, vi id, v] :: row 128 v (ms ++ Ib (C7 e) line id) :: foc 109 vh xs i (Entry.cells u (C7 e)) :: LX) (fun v => R)) := by
 have hb0 := hb
 unfold EB Entry.wf An at hb0
 have hl0 := hl
 have hid0 := hid
 unfold An at hl0 hid0
 refine Ag Tryz.func89 rfl Tryz.ntmps89 rfl hs ?_
 clear hs
 refine Gm ?_
 refine rn6 ?_
 refine sc ?_
 refine Gl ?_
 refine Bl ?_
 refine dn14 ?_
 refine djc (fun _ _ => Fl (a := 1) (b := e.who) (Pd (by omega) (by omega))) ?_
 refine djc (fun _ _ => Fl (a := e.sharers) (b := ((2 ^ e.who.toNat : Nat) : Int)) (Lk (by omega) (by omega) (by omega) (by omega))) ?_
 refine ZZ ?_;intro ρ
 refine Gm ?_
 refine Ga9 ?_
 refine cdy ?_ ?_
 ·intro ht31
  refine kp [0, 2, 40, 41, 42, 43, 44, 45] ?_
  refine Aa ?_
  refine rn6 ?_
  refine ZH ?_
  refine rn1 ?_
  have en : C7 e = { e with need := 0, phase := 1 } := by unfold C7; rw [if_pos ht31]
  have hbn : EB ({ e with need := 0, phase := 1 }) := en ▸ F7 hb
  refine Aj Tryz.call94 rfl (fun w hs => Hd (e := { e with need := 0, phase := 1 }) (u := u) (ms := ms) (line := line) (id := id) (LX := foc 109 vh xs i [vi e.value, vi e.owner, vi e.sharers, vi 1, vi e.who, vi e.serial, .bool e.alone, vi e.turn, vi 0, u] :: LX) (Af hs) (Ll .hd rfl) hA hn hbn hl hid) ?_; intro v72
  refine Gl ?_
  rw [en]
  refine Ax (.inl rfl) (fun B w hs => Gx rfl _ w) (fun w hs => ⟨v72, rfl, Af hs⟩)
 ·intro ht31
  refine Gl ?_
  refine kp [0, 2, 46, 47, 48, 49, 50, 51, 52, 53, 54, 55, 56, 57] ?_
  refine Aa ?_
  refine rn8 ?_
  refine P6 (t := 54) (b := ?b2) ?e2 ?_ ?_; case e2 => exact rfl
  ·intro ht54
   refine Ga4 ?_
   refine cdy ?_ ?_
   ·intro ht46
    refine cq_ (foc 109 vh xs i [vi e.value, vi e.owner, vi e.sharers, vi e.phase, vi e.who, vi e.serial, .bool e.alone, vi e.turn, vi 0, u] :: blk bk 159 [(ep vh 10 i 0), vi line, vi id, vo] :: row 128 vo ms :: LX) ?_
    refine jd_ (fun ρ S => foc 109 vh xs i (bif S 14 then [vi e.value, vi e.owner, vi e.sharers, vi 2, vi e.who, vi e.serial, .bool e.alone, vi e.turn, vi (Gy e.sharers e.who), u] else (bif S 11 then [vi e.value, vi e.owner, vi e.sharers, vi 2, vi e.who, vi e.serial, .bool e.alone, vi e.turn, vi 0, u] else [vi e.value, vi e.owner, vi e.sharers, vi e.phase, vi e.who, vi e.serial, .bool e.alone, vi e.turn, vi 0, u])) :: blk bk 159 [(ep vh 10 i 0), vi line, vi id, vo] :: row 128 vo ms :: (LX)) ?_
    refine dn11 ?_
    refine Dl (T0 := 109) (f := 3) (k := i) (sz := 10) (hv := vh) (xs := xs) (vs := fun ρ => [vi e.value, vi e.owner, vi e.sharers, vi e.phase, vi e.who, vi e.serial, .bool e.alone, vi e.turn, vi 0, u]) (v := fun ρ => (vi 2)) rfl Tryz.sizeOf3 (fun _ => rfl) (fun _ => rfl) (fun _ _ _ _ _ _ _ _ => rfl) (fun _ => rfl) (fun ρ g S hS hB hA => ?_) ?_
    ·have ui : upS S 11 11 = true := rfl; have u14 : upS S 11 14 = S 14 := rfl; have h14 : S 14 = false := hA 14 ⟨0, rfl⟩
     simp only [ui, hS, u14, h14, cond_true, cond_false]
     exact pex
    refine dn2 ?_
    refine Dl (T0 := 109) (f := 8) (k := i) (sz := 10) (hv := vh) (xs := xs) (vs := fun ρ => [vi e.value, vi e.owner, vi e.sharers, vi 2, vi e.who, vi e.serial, .bool e.alone, vi e.turn, vi 0, u]) (v := fun ρ => (vi (Gy e.sharers e.who))) rfl Tryz.sizeOf3 (fun _ => rfl) (fun _ => rfl) (fun _ _ _ _ _ _ _ _ => rfl) (fun _ => rfl) (fun ρ g S hS hB hA => ?_) ?_
    ·have ui : upS S 14 14 = true := rfl; have u11 : upS S 14 11 = S 11 := rfl; have h11 : S 11 = true := hB 11 ⟨0, rfl⟩
     simp only [ui, hS, u11, h11, cond_true, cond_false]
     exact pex
    refine dnl ?_; intro ρ
    refine xq_ (foc 109 vh xs i [vi e.value, vi e.owner, vi e.sharers, vi 2, vi e.who, vi e.serial, .bool e.alone, vi e.turn, vi (Gy e.sharers e.who), u] :: blk bk 159 [(ep vh 10 i 0), vi line, vi id, vo] :: row 128 vo ms :: (LX)) ?_
    refine ZW ?_
    have en : C7 e = { e with need := (Gy e.sharers e.who), phase := 2 } := by unfold C7; rw [if_neg ht31, if_pos ⟨ht54, ht46⟩]
    have hbn : EB ({ e with need := (Gy e.sharers e.who), phase := 2 }) := en ▸ F7 hb
    refine Aj Tryz.call94 rfl (fun w hs => Hd (e := { e with need := (Gy e.sharers e.who), phase := 2 }) (u := u) (ms := ms) (line := line) (id := id) (LX := foc 109 vh xs i [vi e.value, vi e.owner, vi e.sharers, vi 2, vi e.who, vi e.serial, .bool e.alone, vi e.turn, vi (Gy e.sharers e.who), u] :: LX) (Af hs) (Ll .hd rfl) hA hn hbn hl hid) ?_; intro v72
    refine Gl ?_
    rw [en]
    refine Ax (.inl rfl) (fun B w hs => Gx rfl _ w) (fun w hs => ⟨v72, rfl, Af hs⟩)
   ·intro ht46
    refine Aa ?_
    refine rn6 ?_
    refine ZH ?_
    refine rn1 ?_
    have en : C7 e = { e with need := 0, phase := 3 } := by unfold C7; rw [if_neg ht31, if_neg (fun h => h.2 (by omega))]
    exact Zd6
  ·intro ht54
   refine Gd4 ?_
   refine rn6 ?_
   refine ZH ?_
   refine rn1 ?_
   have en : C7 e = { e with need := 0, phase := 3 } := by unfold C7; rw [if_neg ht31, if_neg (fun h => by rw [h.1] at ht54; cases ht54)]
   exact Zd6
theorem Vr {LX : List Chunk} {R : List Fact} {w : World} {vh vo u : Value} {i bk : Nat} {e : Entry} {ms : List Msg} {line id : Int} {xs : List Entry} {bm : Nat} {m : Msg} (hs : St (blk bk 159 [(ep vh 10 i 0), vi line, vi id, vo] :: row 128 vo ms :: foc 109 vh xs i (Entry.cells u e) :: row 3 u e.last :: blk bm 128 m.cells :: LX) R w) (hA : EpAll vh 10 i) (hone : u.oneCell' = true) (hn : ms.length ≤ 500) (hb : EB e) (hl : An line) (hid : An id) (hm : m.wf) (hline : m.line = line) (hsrc : 0 ≤ m.src ∧ m.src < (e.last.length : Int)) (hla : e.last.length ≤ 4) (hk : m.kind = 1 ∨ m.kind = 2) : Calls Tryz.prog 87 [bp bk 0, bp bm 0].toArray w (Bh (fun v : Value => .tuple #[]) (fun v => blk bk 159 [(ep vh 10 i 0), vi line, vi id, v] :: row 128 v (ms ++ (Ad e id m).2) :: foc 109 vh xs i (Entry.cells u (Ad e id m).1) :: row 3 u (Ad e id m).1.last :: blk bm 128 m.cells :: LX) (fun v => R)) := by
 have hb0 := hb
 unfold EB Entry.wf An at hb0
 have hl0 := hl
 have hid0 := hid
 unfold An at hl0 hid0
 have hm0 := hm
 unfold Msg.wf An at hm0
 refine Ag Tryz.func87 rfl Tryz.ntmps87 rfl hs ?_
 clear hs
 refine Gl ?_
 rcases (show (e.phase ≠ 0) ∨ (e.phase = 0 ∧ m.serial ≤ e.last.getD m.src.toNat 0) ∨ (e.phase = 0 ∧ e.last.getD m.src.toNat 0 < m.serial ∧ 65535 ≤ e.turn) ∨ (e.phase = 0 ∧ e.last.getD m.src.toNat 0 < m.serial ∧ e.turn < 65535) from by omega) with hc | hc | hc | hc
 ·refine Bl ?_
  refine dn7 ?_
  refine djc (fun _ _ => Ai rfl rfl (Fs (by omega))) ?_
  refine djm ?_
  refine dn18 ?_
  refine ZV ?_
  refine dn8 ?_
  refine Zab ?_
  refine ZbB ?_;intro ρ er
  exact Zdh
 ·refine ZbE ?_
  refine dj (dgy ?_)
  refine ZbO ?_
  refine dj (dgy ?_)
  refine dc (fun _ _ => Ai rfl rfl (W5 (by omega))) ?_
  refine ZR ?_
  refine dn8 ?_
  refine Zab ?_
  refine ZbB ?_;intro ρ er
  exact Zdh
 ·refine ZbE ?_
  refine dj (dgy ?_)
  refine ZbO ?_
  refine dj (dgy ?_)
  refine dc (fun _ _ => Ai rfl rfl (Qn (by omega))) ?_
  refine ZR ?_
  refine dn7 ?_
  refine dj (dgy ?_)
  refine dc (fun _ _ => Ai rfl rfl (Nn (by omega))) ?_
  refine djf ?_
  refine ZbB ?_;intro ρ er
  exact Zdh
 ·refine ZbE ?_
  refine dj (dgy ?_)
  refine ZbO ?_
  refine dj (dgy ?_)
  refine dc (fun _ _ => Ai rfl rfl (Qn (by omega))) ?_
  refine ZR ?_
  refine dn7 ?_
  refine dj (dgy ?_)
  refine dc (fun _ _ => Ai rfl rfl (Dh (by omega))) ?_
  refine djf ?_
  refine dnl ?_; intro ρ
  refine Glc ?_
  refine kp [0, 1, 42, 43, 44, 45, 46, 47, 48, 49, 50, 51, 52, 53, 54, 55, 56, 57] ?_
  refine Bl ?_
  refine dn16 ?_
  refine dtl ?_; intro ρ
  refine F9 (xs := e.last) Tryz.sizeOf3 rfl rfl pkk (getD_some 0 (by omega)) hm.2.2.2.2.1 ?_
  refine Gl ?_
  refine Zci ?_
  refine jd_ (fun ρ S => foc 109 vh xs i (bif S 33 then [vi e.value, vi e.owner, vi e.sharers, vi e.phase, vi m.src, vi m.serial, .bool (decide (m.kind = 2)), vi e.turn, vi e.need, u] else (bif S 30 then [vi e.value, vi e.owner, vi e.sharers, vi e.phase, vi m.src, vi m.serial, .bool e.alone, vi e.turn, vi e.need, u] else (bif S 27 then [vi e.value, vi e.owner, vi e.sharers, vi e.phase, vi m.src, vi e.serial, .bool e.alone, vi e.turn, vi e.need, u] else [vi e.value, vi e.owner, vi e.sharers, vi e.phase, vi e.who, vi e.serial, .bool e.alone, vi e.turn, vi e.need, u]))) :: blk bk 159 [(ep vh 10 i 0), vi line, vi id, vo] :: row 128 vo ms :: row 3 u (e.last.set m.src.toNat m.serial) :: blk bm 128 m.cells :: (LX)) ?_
  refine dn27 ?_
  refine Dl (T0 := 109) (f := 4) (k := i) (sz := 10) (hv := vh) (xs := xs) (vs := fun ρ => [vi e.value, vi e.owner, vi e.sharers, vi e.phase, vi e.who, vi e.serial, .bool e.alone, vi e.turn, vi e.need, u]) (v := fun ρ => (vi m.src)) rfl Tryz.sizeOf3 (fun _ => rfl) (fun _ => rfl) (fun _ _ _ _ _ _ _ _ => rfl) (fun _ => rfl) (fun ρ g S hS hB hA => ?_) ?_
  ·have ui : upS S 27 27 = true := rfl; have u30 : upS S 27 30 = S 30 := rfl; have u33 : upS S 27 33 = S 33 := rfl; have h30 : S 30 = false := hA 30 ⟨0, rfl⟩; have h33 : S 33 = false := hA 33 ⟨0, rfl⟩
   simp only [ui, hS, u30, u33, h30, h33, cond_true, cond_false]
   exact pex
  refine dn2 ?_
  refine Dl (T0 := 109) (f := 5) (k := i) (sz := 10) (hv := vh) (xs := xs) (vs := fun ρ => [vi e.value, vi e.owner, vi e.sharers, vi e.phase, vi m.src, vi e.serial, .bool e.alone, vi e.turn, vi e.need, u]) (v := fun ρ => (vi m.serial)) rfl Tryz.sizeOf3 (fun _ => rfl) (fun _ => rfl) (fun _ _ _ _ _ _ _ _ => rfl) (fun _ => rfl) (fun ρ g S hS hB hA => ?_) ?_
  ·have ui : upS S 30 30 = true := rfl; have u27 : upS S 30 27 = S 27 := rfl; have u33 : upS S 30 33 = S 33 := rfl; have h27 : S 27 = true := hB 27 ⟨0, rfl⟩; have h33 : S 33 = false := hA 33 ⟨0, rfl⟩
   simp only [ui, hS, u27, u33, h27, h33, cond_true, cond_false]
   exact pex
  refine dn2 ?_
  refine Dl (T0 := 109) (f := 6) (k := i) (sz := 10) (hv := vh) (xs := xs) (vs := fun ρ => [vi e.value, vi e.owner, vi e.sharers, vi e.phase, vi m.src, vi m.serial, .bool e.alone, vi e.turn, vi e.need, u]) (v := fun ρ => (.bool (decide (m.kind = 2)))) rfl Tryz.sizeOf4 (fun _ => rfl) (fun _ => rfl) (fun _ _ _ _ _ _ _ _ => rfl) (fun _ => rfl) (fun ρ g S hS hB hA => ?_) ?_
  ·have ui : upS S 33 33 = true := rfl; have u27 : upS S 33 27 = S 27 := rfl; have u30 : upS S 33 30 = S 30 := rfl; have h27 : S 27 = true := hB 27 ⟨0, rfl⟩; have h30 : S 30 = true := hB 30 ⟨0, rfl⟩
   simp only [ui, hS, u27, u30, h27, h30, cond_true, cond_false]
   exact pex
  refine dnl ?_; intro ρ
  refine xq_ (foc 109 vh xs i [vi e.value, vi e.owner, vi e.sharers, vi e.phase, vi m.src, vi m.serial, .bool (decide (m.kind = 2)), vi e.turn, vi e.need, u] :: blk bk 159 [(ep vh 10 i 0), vi line, vi id, vo] :: row 128 vo ms :: row 3 u (e.last.set m.src.toNat m.serial) :: blk bm 128 m.cells :: (LX)) ?_
  refine Gl ?_
  refine kp [0, 89, 90, 91, 92, 93, 94, 95, 96, 97, 98] ?_
  refine Aa ?_
  refine rn10 ?_
  refine ZH ?_
  refine rn1 ?_
  have hX : EB ({ e with last := (e.last.set m.src.toNat m.serial), who := m.src, serial := m.serial, alone := m.kind == 2, turn := e.turn + 1 }) := by unfold EB Entry.wf An; simp only; omega
  refine Aj Tryz.call89 rfl (fun w hs => Kg (e := { e with last := (e.last.set m.src.toNat m.serial), who := m.src, serial := m.serial, alone := m.kind == 2, turn := e.turn + 1 }) (u := u) (ms := ms) (line := line) (id := id) (xs := xs) (LX := row 3 u (e.last.set m.src.toNat m.serial) :: blk bm 128 m.cells :: LX) (Af hs) hA hone hn hX hl hid) ?_; intro v100
  refine Gl ?_
  have er : Ad e id m = (C7 ({ e with last := (e.last.set m.src.toNat m.serial), who := m.src, serial := m.serial, alone := m.kind == 2, turn := e.turn + 1 }), Ib (C7 ({ e with last := (e.last.set m.src.toNat m.serial), who := m.src, serial := m.serial, alone := m.kind == 2, turn := e.turn + 1 })) m.line id) := by unfold Ad; rw [if_pos (by omega), if_neg (by unfold Fb; omega)]; rfl
  rw [er, hline, Hl]
  refine Ax (.inl rfl) (fun B w hs => Gx rfl _ w) (fun w hs => ⟨v100, rfl, Af hs⟩)
theorem Aeg {LX : List Chunk} {R : List Fact} {w : World} {vh vo u : Value} {i bk : Nat} {e : Entry} {ms : List Msg} {line id : Int} {xs : List Entry} {bm : Nat} {m : Msg} (hs : St (blk bk 159 [(ep vh 10 i 0), vi line, vi id, vo] :: row 128 vo ms :: foc 109 vh xs i (Entry.cells u e) :: row 3 u e.last :: blk bm 128 m.cells :: LX) R w) (hA : EpAll vh 10 i) (hone : u.oneCell' = true) (hn : ms.length ≤ 500) (hb : EB e) (hl : An line) (hid : An id) (hm : m.wf) (hline : m.line = line) (hsrc : 0 ≤ m.src ∧ m.src < (e.last.length : Int)) (hla : e.last.length ≤ 4) (hk : m.kind = 3) : Calls Tryz.prog 88 [bp bk 0, bp bm 0].toArray w (Bh (fun v : Value => .tuple #[]) (fun v => blk bk 159 [(ep vh 10 i 0), vi line, vi id, v] :: row 128 v (ms ++ (Ad e id m).2) :: foc 109 vh xs i (Entry.cells u (Ad e id m).1) :: row 3 u (Ad e id m).1.last :: blk bm 128 m.cells :: LX) (fun v => R)) := by
 have hb0 := hb
 unfold EB Entry.wf An at hb0
 have hl0 := hl
 have hid0 := hid
 unfold An at hl0 hid0
 have hm0 := hm
 unfold Msg.wf An at hm0
 refine Ag Tryz.func88 rfl Tryz.ntmps88 rfl hs ?_
 clear hs
 refine Gm ?_
 refine Ga8 ?_
 refine cdy ?_ ?_
 ·intro ht11
  refine Gl ?_
  have er : Ad e id m = (e, []) := by unfold Ad; rw [if_neg (by omega), if_pos (by omega), if_pos ht11]
  rw [er, List.append_nil]
  exact Zdh
 ·intro ht11
  refine Gl ?_
  refine Bl ?_
  refine dn16 ?_
  refine djc (fun _ _ => Cp (hc := Hv (xs := e.last) pkk (by omega)) Tryz.isAgg3) ?_
  refine djc (fun _ _ => Fl Qo) ?_
  refine dnl ?_; intro ρ
  refine Gl ?_
  refine cdy ?_ ?_
  ·intro ht29
   refine Gl ?_
   refine Bl ?_
   refine dn16 ?_
   refine dtl ?_; intro ρ
   refine F9 (xs := e.last) Tryz.sizeOf3 rfl rfl pkk (getD_some 0 (by omega)) hm.2.2.2.2.1 ?_
   refine Gl ?_
   refine kp [0, 1, 46, 47, 48, 49, 50, 51, 52, 53, 54, 55, 56, 57] ?_
   refine Bl ?_
   refine dn12 ?_
   refine dnl ?_; intro ρ
   refine Gl ?_
   refine cdy ?_ ?_
   ·intro ht57
    refine Zci ?_
    refine jd_ (fun ρ S => foc 109 vh xs i (bif S 17 then [vi m.value, vi (-1), vi e.sharers, vi e.phase, vi e.who, vi e.serial, .bool e.alone, vi e.turn, vi e.need, u] else (bif S 14 then [vi m.value, vi e.owner, vi e.sharers, vi e.phase, vi e.who, vi e.serial, .bool e.alone, vi e.turn, vi e.need, u] else [vi e.value, vi e.owner, vi e.sharers, vi e.phase, vi e.who, vi e.serial, .bool e.alone, vi e.turn, vi e.need, u])) :: blk bk 159 [(ep vh 10 i 0), vi line, vi id, vo] :: row 128 vo ms :: row 3 u (e.last.set m.src.toNat m.serial) :: blk bm 128 m.cells :: (LX)) ?_
    refine dn14 ?_
    refine Dl (T0 := 109) (f := 0) (k := i) (sz := 10) (hv := vh) (xs := xs) (vs := fun ρ => [vi e.value, vi e.owner, vi e.sharers, vi e.phase, vi e.who, vi e.serial, .bool e.alone, vi e.turn, vi e.need, u]) (v := fun ρ => (vi m.value)) rfl Tryz.sizeOf3 (fun _ => rfl) (fun _ => rfl) (fun _ _ _ _ _ _ _ _ => rfl) (fun _ => rfl) (fun ρ g S hS hB hA => ?_) ?_
    ·have ui : upS S 14 14 = true := rfl; have u17 : upS S 14 17 = S 17 := rfl; have h17 : S 17 = false := hA 17 ⟨0, rfl⟩
     simp only [ui, hS, u17, h17, cond_true, cond_false]
     exact pex
    refine dn2 ?_
    refine Dl (T0 := 109) (f := 1) (k := i) (sz := 10) (hv := vh) (xs := xs) (vs := fun ρ => [vi m.value, vi e.owner, vi e.sharers, vi e.phase, vi e.who, vi e.serial, .bool e.alone, vi e.turn, vi e.need, u]) (v := fun ρ => (vi (-1))) rfl Tryz.sizeOf3 (fun _ => rfl) (fun _ => rfl) (fun _ _ _ _ _ _ _ _ => rfl) (fun _ => rfl) (fun ρ g S hS hB hA => ?_) ?_
    ·have ui : upS S 17 17 = true := rfl; have u14 : upS S 17 14 = S 14 := rfl; have h14 : S 14 = true := hB 14 ⟨0, rfl⟩
     simp only [ui, hS, u14, h14, cond_true, cond_false]
     exact pex
    refine dnl ?_; intro ρ
    refine xq_ (foc 109 vh xs i [vi m.value, vi (-1), vi e.sharers, vi e.phase, vi e.who, vi e.serial, .bool e.alone, vi e.turn, vi e.need, u] :: blk bk 159 [(ep vh 10 i 0), vi line, vi id, vo] :: row 128 vo ms :: row 3 u (e.last.set m.src.toNat m.serial) :: blk bm 128 m.cells :: (LX)) ?_
    refine ZbI ?_;intro hwf
    refine cq_ (blk bk 159 [(ep vh 10 i 0), vi line, vi id, vo] :: row 128 vo ms :: foc 109 vh xs i [vi m.value, vi (-1), vi e.sharers, vi e.phase, vi e.who, vi e.serial, .bool e.alone, vi e.turn, vi e.need, u] :: row 3 u (e.last.set m.src.toNat m.serial) :: blk bm 128 m.cells :: LX) ?_
    refine jd_ (fun ρ S => blk bk 159 (bif S 26 then [(ep vh 10 i 0), vi line, vi id, (Gh.dec (γ := Value) (ρ 23))] else [(ep vh 10 i 0), vi line, vi id, vo]) :: (bif S 23 then row 128 (Gh.dec (γ := Value) (ρ 23)) (ms ++ [(⟨11, id, m.src, line, m.serial, 0, 0, false⟩ : Msg)]) else row 128 vo ms) :: foc 109 vh xs i [vi m.value, vi (-1), vi e.sharers, vi e.phase, vi e.who, vi e.serial, .bool e.alone, vi e.turn, vi e.need, u] :: row 3 u (e.last.set m.src.toNat m.serial) :: blk bm 128 m.cells :: (LX)) ?_
    refine dn4 ?_
    refine H6 (v := vo) (fun ρ S hS hB hA => by have h26 : S 26 = false := hA 26 ⟨0, rfl⟩; simp only [h26, cond_false]; exact Cp (hc := Bg pkk (by repeat (first | exact rfl | refine Cr rfl ?_))) Tryz.isAgg96) (fun _ _ _ _ _ => rfl) ?_
    refine dn3 ?_
    refine H6 (v := vi id) (fun ρ S hS hB hA => by have h26 : S 26 = false := hA 26 ⟨0, rfl⟩; simp only [h26, cond_false]; exact Cp (hc := Bg pkk (by repeat (first | exact rfl | refine Cr rfl ?_))) Tryz.isAgg3) (fun _ _ _ _ _ => rfl) ?_
    refine dn7 ?_
    refine H6 (v := vi line) (fun ρ S hS hB hA => by have h26 : S 26 = false := hA 26 ⟨0, rfl⟩; simp only [h26, cond_false]; exact Cp (hc := Bg pkk (by repeat (first | exact rfl | refine Cr rfl ?_))) Tryz.isAgg3) (fun _ _ _ _ _ => rfl) ?_
    refine dn4 ?_
    first | refine epc (fun _ _ => Du Cv) ?_ | refine epc (fun _ _ => E6 Cv) ?_ | refine epp (fun _ _ => Du Cv) ?_ | refine epp (fun _ _ => E6 Cv) ?_
    refine Zb4 ?_
    refine Dx (e := 128) (xs := ms) (ys := [(⟨11, id, m.src, line, m.serial, 0, 0, false⟩ : Msg)]) (v := vo) Lc (fun _ => rfl) (fun _ => rfl) rfl (by decide) (fun ρ R hd => (hd.dep (it := ⟨22, _, _, _, _⟩) (by repeat (first | exact List.Mem.head _ | refine List.Mem.tail _ ?_)) ⟨9, rfl⟩ (List.Mem.head _))) (by have : maxN = 16777216 := rfl; simp only [List.length_cons, List.length_nil]; omega) (fun ρ g S hS hB hA => ?_) ?_
    ·exact ZcN
    refine dn2 ?_
    refine Cy (T0 := 159) (f := 3) (vs := fun ρ => [(ep vh 10 i 0), vi line, vi id, vo]) (v := fun ρ => (Gh.dec (γ := Value) (ρ 23))) (fun ρ => bk) Tryz.sizeOf96 (fun _ => rfl) (fun _ => rfl) (fun ρ S R w L9 hB hd hs => by have h23 : S 23 = true := hB 23 ⟨9, rfl⟩; simp only [h23, cond_true] at hs; exact A8 pkk hs) (fun _ => rfl) (fun ρ g S hS hB hA => ?_) ?_
    ·exact ZcV
    refine dnl ?_; intro ρ
    refine xq_ (blk bk 159 [(ep vh 10 i 0), vi line, vi id, (Gh.dec (γ := Value) (ρ 23))] :: row 128 (Gh.dec (γ := Value) (ρ 23)) (ms ++ [(⟨11, id, m.src, line, m.serial, 0, 0, false⟩ : Msg)]) :: foc 109 vh xs i [vi m.value, vi (-1), vi e.sharers, vi e.phase, vi e.who, vi e.serial, .bool e.alone, vi e.turn, vi e.need, u] :: row 3 u (e.last.set m.src.toNat m.serial) :: blk bm 128 m.cells :: (LX)) ?_
    generalize (Gh.dec (γ := Value) (ρ 22)) = v96
    generalize (Gh.dec (γ := Value) (ρ 23)) = v97
    have er : Ad e id m = ({ e with last := (e.last.set m.src.toNat m.serial), value := m.value, owner := -1 }, [(⟨11, id, m.src, line, m.serial, 0, 0, false⟩ : Msg)]) := by unfold Ad; rw [if_neg (by omega), if_pos (by omega), if_neg ht11]; rw [hline]; unfold H5; rw [if_pos (by unfold Fb; omega), if_pos ht57]
    rw [er]
    refine Ax (.inl rfl) (fun B w hs => Gx rfl _ w) (fun w hs => ⟨v97, rfl, Af hs⟩)
   ·intro ht57
    refine ZbI ?_;intro hwf
    refine cq_ (blk bk 159 [(ep vh 10 i 0), vi line, vi id, vo] :: row 128 vo ms :: foc 109 vh xs i [vi e.value, vi e.owner, vi e.sharers, vi e.phase, vi e.who, vi e.serial, .bool e.alone, vi e.turn, vi e.need, u] :: row 3 u (e.last.set m.src.toNat m.serial) :: blk bm 128 m.cells :: LX) ?_
    refine jd_ (fun ρ S => blk bk 159 (bif S 26 then [(ep vh 10 i 0), vi line, vi id, (Gh.dec (γ := Value) (ρ 23))] else [(ep vh 10 i 0), vi line, vi id, vo]) :: (bif S 23 then row 128 (Gh.dec (γ := Value) (ρ 23)) (ms ++ [(⟨11, id, m.src, line, m.serial, 0, 0, false⟩ : Msg)]) else row 128 vo ms) :: foc 109 vh xs i [vi e.value, vi e.owner, vi e.sharers, vi e.phase, vi e.who, vi e.serial, .bool e.alone, vi e.turn, vi e.need, u] :: row 3 u (e.last.set m.src.toNat m.serial) :: blk bm 128 m.cells :: (LX)) ?_
    refine dn4 ?_
    refine H6 (v := vo) (fun ρ S hS hB hA => by have h26 : S 26 = false := hA 26 ⟨0, rfl⟩; simp only [h26, cond_false]; exact Cp (hc := Bg pkk (by repeat (first | exact rfl | refine Cr rfl ?_))) Tryz.isAgg96) (fun _ _ _ _ _ => rfl) ?_
    refine dn3 ?_
    refine H6 (v := vi id) (fun ρ S hS hB hA => by have h26 : S 26 = false := hA 26 ⟨0, rfl⟩; simp only [h26, cond_false]; exact Cp (hc := Bg pkk (by repeat (first | exact rfl | refine Cr rfl ?_))) Tryz.isAgg3) (fun _ _ _ _ _ => rfl) ?_
    refine dn7 ?_
    refine H6 (v := vi line) (fun ρ S hS hB hA => by have h26 : S 26 = false := hA 26 ⟨0, rfl⟩; simp only [h26, cond_false]; exact Cp (hc := Bg pkk (by repeat (first | exact rfl | refine Cr rfl ?_))) Tryz.isAgg3) (fun _ _ _ _ _ => rfl) ?_
    refine dn4 ?_
    first | refine epc (fun _ _ => Du Cv) ?_ | refine epc (fun _ _ => E6 Cv) ?_ | refine epp (fun _ _ => Du Cv) ?_ | refine epp (fun _ _ => E6 Cv) ?_
    refine Zb4 ?_
    refine Dx (e := 128) (xs := ms) (ys := [(⟨11, id, m.src, line, m.serial, 0, 0, false⟩ : Msg)]) (v := vo) Lc (fun _ => rfl) (fun _ => rfl) rfl (by decide) (fun ρ R hd => (hd.dep (it := ⟨22, _, _, _, _⟩) (by repeat (first | exact List.Mem.head _ | refine List.Mem.tail _ ?_)) ⟨9, rfl⟩ (List.Mem.head _))) (by have : maxN = 16777216 := rfl; simp only [List.length_cons, List.length_nil]; omega) (fun ρ g S hS hB hA => ?_) ?_
    ·exact ZcN
    refine dn2 ?_
    refine Cy (T0 := 159) (f := 3) (vs := fun ρ => [(ep vh 10 i 0), vi line, vi id, vo]) (v := fun ρ => (Gh.dec (γ := Value) (ρ 23))) (fun ρ => bk) Tryz.sizeOf96 (fun _ => rfl) (fun _ => rfl) (fun ρ S R w L9 hB hd hs => by have h23 : S 23 = true := hB 23 ⟨9, rfl⟩; simp only [h23, cond_true] at hs; exact A8 pkk hs) (fun _ => rfl) (fun ρ g S hS hB hA => ?_) ?_
    ·exact ZcV
    refine dnl ?_; intro ρ
    refine xq_ (blk bk 159 [(ep vh 10 i 0), vi line, vi id, (Gh.dec (γ := Value) (ρ 23))] :: row 128 (Gh.dec (γ := Value) (ρ 23)) (ms ++ [(⟨11, id, m.src, line, m.serial, 0, 0, false⟩ : Msg)]) :: foc 109 vh xs i [vi e.value, vi e.owner, vi e.sharers, vi e.phase, vi e.who, vi e.serial, .bool e.alone, vi e.turn, vi e.need, u] :: row 3 u (e.last.set m.src.toNat m.serial) :: blk bm 128 m.cells :: (LX)) ?_
    generalize (Gh.dec (γ := Value) (ρ 22)) = v96
    generalize (Gh.dec (γ := Value) (ρ 23)) = v97
    have er : Ad e id m = ({ e with last := (e.last.set m.src.toNat m.serial) }, [(⟨11, id, m.src, line, m.serial, 0, 0, false⟩ : Msg)]) := by unfold Ad; rw [if_neg (by omega), if_pos (by omega), if_neg ht11]; rw [hline]; unfold H5; rw [if_pos (by unfold Fb; omega), if_neg ht57]
    rw [er]
    refine Ax (.inl rfl) (fun B w hs => Gx rfl _ w) (fun w hs => ⟨v97, rfl, Af hs⟩)
  ·intro ht29
   refine ZbI ?_;intro hwf
   refine cq_ (blk bk 159 [(ep vh 10 i 0), vi line, vi id, vo] :: row 128 vo ms :: foc 109 vh xs i [vi e.value, vi e.owner, vi e.sharers, vi e.phase, vi e.who, vi e.serial, .bool e.alone, vi e.turn, vi e.need, u] :: row 3 u e.last :: blk bm 128 m.cells :: LX) ?_
   refine jd_ (fun ρ S => blk bk 159 (bif S 26 then [(ep vh 10 i 0), vi line, vi id, (Gh.dec (γ := Value) (ρ 23))] else [(ep vh 10 i 0), vi line, vi id, vo]) :: (bif S 23 then row 128 (Gh.dec (γ := Value) (ρ 23)) (ms ++ [(⟨11, id, m.src, line, m.serial, 0, 0, false⟩ : Msg)]) else row 128 vo ms) :: foc 109 vh xs i [vi e.value, vi e.owner, vi e.sharers, vi e.phase, vi e.who, vi e.serial, .bool e.alone, vi e.turn, vi e.need, u] :: row 3 u e.last :: blk bm 128 m.cells :: (LX)) ?_
   refine dn4 ?_
   refine H6 (v := vo) (fun ρ S hS hB hA => by have h26 : S 26 = false := hA 26 ⟨0, rfl⟩; simp only [h26, cond_false]; exact Cp (hc := Bg pkk (by repeat (first | exact rfl | refine Cr rfl ?_))) Tryz.isAgg96) (fun _ _ _ _ _ => rfl) ?_
   refine dn3 ?_
   refine H6 (v := vi id) (fun ρ S hS hB hA => by have h26 : S 26 = false := hA 26 ⟨0, rfl⟩; simp only [h26, cond_false]; exact Cp (hc := Bg pkk (by repeat (first | exact rfl | refine Cr rfl ?_))) Tryz.isAgg3) (fun _ _ _ _ _ => rfl) ?_
   refine dn7 ?_
   refine H6 (v := vi line) (fun ρ S hS hB hA => by have h26 : S 26 = false := hA 26 ⟨0, rfl⟩; simp only [h26, cond_false]; exact Cp (hc := Bg pkk (by repeat (first | exact rfl | refine Cr rfl ?_))) Tryz.isAgg3) (fun _ _ _ _ _ => rfl) ?_
   refine dn4 ?_
   first | refine epc (fun _ _ => Du Cv) ?_ | refine epc (fun _ _ => E6 Cv) ?_ | refine epp (fun _ _ => Du Cv) ?_ | refine epp (fun _ _ => E6 Cv) ?_
   refine Zb4 ?_
   refine Dx (e := 128) (xs := ms) (ys := [(⟨11, id, m.src, line, m.serial, 0, 0, false⟩ : Msg)]) (v := vo) Lc (fun _ => rfl) (fun _ => rfl) rfl (by decide) (fun ρ R hd => (hd.dep (it := ⟨22, _, _, _, _⟩) (by repeat (first | exact List.Mem.head _ | refine List.Mem.tail _ ?_)) ⟨9, rfl⟩ (List.Mem.head _))) (by have : maxN = 16777216 := rfl; simp only [List.length_cons, List.length_nil]; omega) (fun ρ g S hS hB hA => ?_) ?_
   ·exact ZcN
   refine dn2 ?_
   refine Cy (T0 := 159) (f := 3) (vs := fun ρ => [(ep vh 10 i 0), vi line, vi id, vo]) (v := fun ρ => (Gh.dec (γ := Value) (ρ 23))) (fun ρ => bk) Tryz.sizeOf96 (fun _ => rfl) (fun _ => rfl) (fun ρ S R w L9 hB hd hs => by have h23 : S 23 = true := hB 23 ⟨9, rfl⟩; simp only [h23, cond_true] at hs; exact A8 pkk hs) (fun _ => rfl) (fun ρ g S hS hB hA => ?_) ?_
   ·exact ZcV
   refine dnl ?_; intro ρ
   refine xq_ (blk bk 159 [(ep vh 10 i 0), vi line, vi id, (Gh.dec (γ := Value) (ρ 23))] :: row 128 (Gh.dec (γ := Value) (ρ 23)) (ms ++ [(⟨11, id, m.src, line, m.serial, 0, 0, false⟩ : Msg)]) :: foc 109 vh xs i [vi e.value, vi e.owner, vi e.sharers, vi e.phase, vi e.who, vi e.serial, .bool e.alone, vi e.turn, vi e.need, u] :: row 3 u e.last :: blk bm 128 m.cells :: (LX)) ?_
   generalize (Gh.dec (γ := Value) (ρ 22)) = v96
   generalize (Gh.dec (γ := Value) (ρ 23)) = v97
   have er : Ad e id m = (e, [(⟨11, id, m.src, line, m.serial, 0, 0, false⟩ : Msg)]) := by unfold Ad; rw [if_neg (by omega), if_pos (by omega), if_neg ht11]; rw [hline]; unfold H5; rw [if_neg (by unfold Fb; omega)]
   rw [er]
   refine Ax (.inl rfl) (fun B w hs => Gx rfl _ w) (fun w hs => ⟨v97, rfl, Af hs⟩)
theorem De {e : Entry} {id : Int} {m : Msg} (he : EB e) (hm : m.wf) (hs : 0 ≤ m.src ∧ m.src < 4) : EB (Ad e id m).1 := by
 have h0 := he
 unfold EB Entry.wf An at h0
 have hm0 := hm
 unfold Msg.wf An at hm0
 have b1 := Er h0.2.1.1 h0.2.1.2 hs.1 hs.2
 have b2 := Er h0.2.2.1.1 h0.2.2.1.2 hs.1 hs.2
 unfold Ad
 split
 ·split
  ·exact he
  ·refine F7 ?_
   exact Zdo
 split
 ·split
  ·exact he
  ·show EB (H5 e m)
   unfold H5
   split
   ·split
    ·exact Zdo
    ·exact he
   ·exact he
 split
 ·rename_i k3
  have hs4 : 0 ≤ (if e.alone = true then e.sharers else G3 e.sharers e.owner) ∧ (if e.alone = true then e.sharers else G3 e.sharers e.owner) < 16 := by
   split
   ·omega
   ·obtain ⟨_, _, r, _⟩ := Er h0.2.1.1 h0.2.1.2 (show 0 ≤ e.owner by omega) h0.2.2.2.2.1.2; exact r
  refine F7 ?_
  exact Zd9
 have hg : EB (Ct e m) := by
  have c1 := b1.2.2.2; have c2 := b2.2.2.2
  unfold Ct EB Entry.wf An; simp only; omega
 split
 ·split
  ·exact F7 hg
  ·exact hg
 split
 ·show EB (Fq e)
  unfold Fq
  split
  ·exact Zdo
  ·obtain ⟨_, _, r, _⟩ := Er h0.2.1.1 h0.2.1.2 h0.2.2.2.1.1 h0.2.2.2.1.2
   exact Zdo
 ·exact he
theorem Q0 (e : Entry) (i id : Int) : (Ib e i id).length ≤ 4 := by
 unfold Ib; split
 ·simp
 split
 ·rw [List.length_map]; exact Nat.le_trans (List.length_filter_le ..) (by simp)
 split <;> simp
theorem Jw (id : Int) : ∀ (l : List Entry) (i : Int), (C4 id i l).length ≤ 4 * l.length
 | [], _ => by simp [C4]
 | e :: l, i => by
  have := Jw id l (i + 1)
  have := Q0 e i id
  simp only [C4, List.length_append, List.length_cons]; omega
theorem q_max {P : Program} {n : Nat} {L : List Chunk} {R : List Fact} {al : List (Nat × Value)} {d : Nat} {x : Operand} {T ty : TypeId} {pos : String} {aft : Array Edge} {a : Int} (hx : ev n al x = some (vi a)) (h0 : 0 ≤ a) : Ao P n al L R ⟨some d, .call { callee := .builtin .max, args := #[x, .const (.int .i64 0)], argTypes := #[T, T] }, ty, pos, aft, none⟩ (vi a) :=
 ⟨rfl, fun ρ w h _ => by
  have hx' := h x (by simp [Op.operands, Call.operands]) _ hx
  have hc' := h (.const (.int .i64 0)) (by simp [Op.operands, Call.operands]) _ rfl
  simp [execOp, resolve, invoke, builtin, hx', hc', Builtin.max_, Builtin.max2, show ¬ (a < 0) from by omega]⟩
theorem Tb {v0 : Value} {l : List Entry} {id : Int} {m : Msg} (hs : St (L) R w) (h0 : sl v0 l ∈ R) (hb : ∀ i, i < l.length → EB (l.getD i A3)) (hla : ∀ i, i < l.length → (l.getD i A3).last.length ≤ 4) (hm : m.wf) (hid : An id) (hk : ¬ (0 ≤ m.line ∧ m.line < (l.length : Int) ∧ 0 ≤ m.src ∧ m.src < ((Ah l m.line).last.length : Int))) : Calls Tryz.prog 62 [v0, vi id, .agg m.cells.toArray].toArray w (Bh (fun v : Value × Value => .tuple #[v.1, v.2]) (fun v => L) (fun v => sl v.1 (Am l id m).1 :: sl v.2 (Am l id m).2 :: R)) := by
 refine Za2 ?_;intro hlen hm0 hid0
 clear hs
 refine Za1 ?_;intro b5 g13
 rcases (show (m.line < 0) ∨ (¬ m.line < 0 ∧ (l.length : Int) ≤ m.line) ∨ (¬ m.line < 0 ∧ m.line < (l.length : Int) ∧ m.src < 0) ∨ (¬ m.line < 0 ∧ m.line < (l.length : Int) ∧ 0 ≤ m.src ∧ ((Ah l m.line).last.length : Int) ≤ m.src) from by omega) with hc | hc | hc | hc
 ·refine JC.conseq (L' := blk b5 128 m.cells :: L) (R' := sl g13.1 l :: R) (fun w hs => by
   have h1 : g13.2.map EV.e = l := Ga (.head _) hs
   have h2 := Lb hs
   rw [h1] at h2
   exact h2.sub .refl (fun f hf => by
    rcases List.mem_cons.1 hf with e | e
    ·
     exact List.mem_cons.2 (.inl e)
    ·
     exact List.mem_cons.2 (.inr (.tail _ e)))) ?_
  refine Zak ?_
  refine djc (fun _ _ => Ai rfl rfl (Nl (by omega))) ?_
  refine djm ?_
  refine dn5 ?_
  refine ZV ?_
  refine dn3 ?_
  refine ZV ?_
  refine Afr ?_
  refine Zab ?_
  refine Zbh ?_;intro ρ er
  exact Cl (g13.1, .slice none 0 0) (hs := fun w hs => Af (St.shut (hs.rowNil 128 Msg)))
 ·refine JC.conseq (L' := blk b5 128 m.cells :: L) (R' := sl g13.1 l :: R) (fun w hs => by
   have h1 : g13.2.map EV.e = l := Ga (.head _) hs
   have h2 := Lb hs
   rw [h1] at h2
   exact h2.sub .refl (fun f hf => by
    rcases List.mem_cons.1 hf with e | e
    ·
     exact List.mem_cons.2 (.inl e)
    ·
     exact List.mem_cons.2 (.inr (.tail _ e)))) ?_
  refine Zbs ?_
  refine dj (dgy ?_)
  refine dc (fun _ _ => Ai rfl rfl (Nn (by omega))) ?_
  refine ZR ?_
  refine dn3 ?_
  refine ZV ?_
  refine Afr ?_
  refine Zab ?_
  refine Zbh ?_;intro ρ er
  exact Cl (g13.1, .slice none 0 0) (hs := fun w hs => Af (St.shut (hs.rowNil 128 Msg)))
 ·refine JC.conseq (L' := blk b5 128 m.cells :: L) (R' := sl g13.1 l :: R) (fun w hs => by
   have h1 : g13.2.map EV.e = l := Ga (.head _) hs
   have h2 := Lb hs
   rw [h1] at h2
   exact h2.sub .refl (fun f hf => by
    rcases List.mem_cons.1 hf with e | e
    ·
     exact List.mem_cons.2 (.inl e)
    ·
     exact List.mem_cons.2 (.inr (.tail _ e)))) ?_
  refine Zbs ?_
  refine dj (dgy ?_)
  refine Zap ?_
  refine dj (dgy ?_)
  refine dc (fun _ _ => Ai rfl rfl (Nl (by omega))) ?_
  refine ZR ?_
  refine Afr ?_
  refine Zab ?_
  refine Zbh ?_;intro ρ er
  exact Cl (g13.1, .slice none 0 0) (hs := fun w hs => Af (St.shut (hs.rowNil 128 Msg)))
 ·refine JC.conseq (L' := blk b5 128 m.cells :: L) (R' := sl g13.1 l :: R) (fun w hs => by
   have h1 : g13.2.map EV.e = l := Ga (.head _) hs
   have h2 := Lb hs
   rw [h1] at h2
   exact h2.sub .refl (fun f hf => by
    rcases List.mem_cons.1 hf with e | e
    ·
     exact List.mem_cons.2 (.inl e)
    ·
     exact List.mem_cons.2 (.inr (.tail _ e)))) ?_
  refine ZbS ?_;intro hEw u hE hE0 hL hone hlin
  refine dj (dgy ?_)
  refine Zap ?_
  refine dj (dgy ?_)
  refine Za3 ?_
  refine dj (dgy ?_)
  refine dc (fun _ _ => Ai rfl rfl (Nn (show ((Ah l m.line).last.length : Int) ≤ m.src by omega))) ?_
  refine djf ?_
  refine Zbh ?_;intro ρ er
  exact Cl (g13.1, .slice none 0 0) (hs := fun w hs => Af (St.shut (hs.rowNil 128 Msg)))
theorem Ta {v0 : Value} {l : List Entry} {id : Int} {m : Msg} (hs : St (L) R w) (h0 : sl v0 l ∈ R) (hb : ∀ i, i < l.length → EB (l.getD i A3)) (hla : ∀ i, i < l.length → (l.getD i A3).last.length ≤ 4) (hm : m.wf) (hid : An id) (hk : 0 ≤ m.line ∧ m.line < (l.length : Int) ∧ 0 ≤ m.src ∧ m.src < ((Ah l m.line).last.length : Int) ∧ m.kind = 1) : Calls Tryz.prog 62 [v0, vi id, .agg m.cells.toArray].toArray w (Bh (fun v : Value × Value => .tuple #[v.1, v.2]) (fun v => L) (fun v => sl v.1 (Am l id m).1 :: sl v.2 (Am l id m).2 :: R)) := by
 refine Za2 ?_;intro hlen hm0 hid0
 clear hs
 refine Za1 ?_;intro b5 g13
 refine JC.conseqEx (γ := Value) (L' := fun u => foc 109 g13.1 l m.line.toNat (Entry.cells u (Ah l m.line)) :: row 3 u (Ah l m.line).last :: blk b5 128 m.cells :: L) (R' := fun u => pr (u.oneCell' = true) :: R) (fun w hs => by
  have h1 : g13.2.map EV.e = l := Ga (.head _) hs
  obtain ⟨u, h2, h3, h4⟩ := Ih m.line.toNat h1 (by omega) hs
  exact ⟨u, St.pr h3 (h4.sub .refl (fun f hf => .tail _ hf))⟩) (fun uo => ?_)
 refine ZaH ?_;intro honeo hEw u hE hE0 hL hone hlin
 refine dj (dgy ?_)
 refine Zap ?_
 refine dj (dgy ?_)
 refine Za3 ?_
 refine dj (dgy ?_)
 refine Za8 ?_;intro ρ hA honeE b51
 refine ZO ?_
 refine dnl ?_; intro ρ
 refine ZP ?_
 refine Df ?_
 refine Gd6 ?_
 refine Zcj ?_;intro v69
 refine J.conseq (L' := foc 109 g13.1 l m.line.toNat (Entry.cells uo (Ad (Ah l m.line) id m).1) :: row 3 uo (Ad (Ah l m.line) id m).1.last :: blk b51 159 [ep g13.1 10 m.line.toNat 0, vi m.line, vi id, v69] :: row 128 v69 (Ad (Ah l m.line) id m).2 :: L) (fun w hs => by rw [List.nil_append] at hs; exact Af hs) ?_
 refine Gl ?_
 refine Zbw ?_;intro hEB ρ er
 exact Cl (g13.1, v69) (hs := fun w hs => Af (St.shut (hs.pick pkk)))
theorem S9 {v0 : Value} {l : List Entry} {id : Int} {m : Msg} (hs : St (L) R w) (h0 : sl v0 l ∈ R) (hb : ∀ i, i < l.length → EB (l.getD i A3)) (hla : ∀ i, i < l.length → (l.getD i A3).last.length ≤ 4) (hm : m.wf) (hid : An id) (hk : 0 ≤ m.line ∧ m.line < (l.length : Int) ∧ 0 ≤ m.src ∧ m.src < ((Ah l m.line).last.length : Int) ∧ m.kind = 2) : Calls Tryz.prog 62 [v0, vi id, .agg m.cells.toArray].toArray w (Bh (fun v : Value × Value => .tuple #[v.1, v.2]) (fun v => L) (fun v => sl v.1 (Am l id m).1 :: sl v.2 (Am l id m).2 :: R)) := by
 refine Za2 ?_;intro hlen hm0 hid0
 clear hs
 refine Za1 ?_;intro b5 g13
 refine JC.conseqEx (γ := Value) (L' := fun u => foc 109 g13.1 l m.line.toNat (Entry.cells u (Ah l m.line)) :: row 3 u (Ah l m.line).last :: blk b5 128 m.cells :: L) (R' := fun u => pr (u.oneCell' = true) :: R) (fun w hs => by
  have h1 : g13.2.map EV.e = l := Ga (.head _) hs
  obtain ⟨u, h2, h3, h4⟩ := Ih m.line.toNat h1 (by omega) hs
  exact ⟨u, St.pr h3 (h4.sub .refl (fun f hf => .tail _ hf))⟩) (fun uo => ?_)
 refine ZaH ?_;intro honeo hEw u hE hE0 hL hone hlin
 refine dj (dgy ?_)
 refine Zap ?_
 refine dj (dgy ?_)
 refine Za3 ?_
 refine dj (dgy ?_)
 refine Za8 ?_;intro ρ hA honeE b51
 refine ZO ?_
 refine dnl ?_; intro ρ
 refine ZP ?_
 refine Ay ?_
 refine Zad ?_
 refine Df ?_
 refine Gd2 ?_
 refine Zcj ?_;intro v69
 refine J.conseq (L' := foc 109 g13.1 l m.line.toNat (Entry.cells uo (Ad (Ah l m.line) id m).1) :: row 3 uo (Ad (Ah l m.line) id m).1.last :: blk b51 159 [ep g13.1 10 m.line.toNat 0, vi m.line, vi id, v69] :: row 128 v69 (Ad (Ah l m.line) id m).2 :: L) (fun w hs => by rw [List.nil_append] at hs; exact Af hs) ?_
 refine Gl ?_
 refine Zbw ?_;intro hEB ρ er
 exact Cl (g13.1, v69) (hs := fun w hs => Af (St.shut (hs.pick pkk)))
theorem S8 {v0 : Value} {l : List Entry} {id : Int} {m : Msg} (hs : St (L) R w) (h0 : sl v0 l ∈ R) (hb : ∀ i, i < l.length → EB (l.getD i A3)) (hla : ∀ i, i < l.length → (l.getD i A3).last.length ≤ 4) (hm : m.wf) (hid : An id) (hk : 0 ≤ m.line ∧ m.line < (l.length : Int) ∧ 0 ≤ m.src ∧ m.src < ((Ah l m.line).last.length : Int) ∧ m.kind = 3) : Calls Tryz.prog 62 [v0, vi id, .agg m.cells.toArray].toArray w (Bh (fun v : Value × Value => .tuple #[v.1, v.2]) (fun v => L) (fun v => sl v.1 (Am l id m).1 :: sl v.2 (Am l id m).2 :: R)) := by
 refine Za2 ?_;intro hlen hm0 hid0
 clear hs
 refine Za1 ?_;intro b5 g13
 refine JC.conseqEx (γ := Value) (L' := fun u => foc 109 g13.1 l m.line.toNat (Entry.cells u (Ah l m.line)) :: row 3 u (Ah l m.line).last :: blk b5 128 m.cells :: L) (R' := fun u => pr (u.oneCell' = true) :: R) (fun w hs => by
  have h1 : g13.2.map EV.e = l := Ga (.head _) hs
  obtain ⟨u, h2, h3, h4⟩ := Ih m.line.toNat h1 (by omega) hs
  exact ⟨u, St.pr h3 (h4.sub .refl (fun f hf => .tail _ hf))⟩) (fun uo => ?_)
 refine ZaH ?_;intro honeo hEw u hE hE0 hL hone hlin
 refine dj (dgy ?_)
 refine Zap ?_
 refine dj (dgy ?_)
 refine Za3 ?_
 refine dj (dgy ?_)
 refine Za8 ?_;intro ρ hA honeE b51
 refine ZO ?_
 refine dnl ?_; intro ρ
 refine ZP ?_
 refine Ay ?_
 refine Zad ?_
 refine Ay ?_
 refine Gd2 ?_
 refine rn2 ?_
 refine Df ?_
 refine Gc1 ?_
 refine kp [5, 6, 7, 8, 9, 10, 11, 74] ?_
 refine ZB ?_
 refine Aj Tryz.call88 rfl (fun w hs => Aeg (vh := g13.1) (vo := .slice none 0 0) (u := uo) (i := m.line.toNat) (e := (Ah l m.line)) (ms := []) (line := m.line) (id := id) (xs := l) (m := m) (bm := b5) (LX := L) (Af hs) hA honeo (by simp) hE hm.2.2.2.1 hid hm rfl (by omega) hL (by omega)) ?_; intro v75
 refine J.conseq (L' := foc 109 g13.1 l m.line.toNat (Entry.cells uo (Ad (Ah l m.line) id m).1) :: row 3 uo (Ad (Ah l m.line) id m).1.last :: blk b51 159 [ep g13.1 10 m.line.toNat 0, vi m.line, vi id, v75] :: row 128 v75 (Ad (Ah l m.line) id m).2 :: L) (fun w hs => by rw [List.nil_append] at hs; exact Af hs) ?_
 refine Gl ?_
 refine Zan ?_;intro hEB
 refine Zao ?_;intro ρ er
 exact Cl (g13.1, v75) (hs := fun w hs => Af (St.shut (hs.pick pkk)))
theorem S5 {v0 : Value} {l : List Entry} {id : Int} {m : Msg} (hs : St (L) R w) (h0 : sl v0 l ∈ R) (hb : ∀ i, i < l.length → EB (l.getD i A3)) (hla : ∀ i, i < l.length → (l.getD i A3).last.length ≤ 4) (hm : m.wf) (hid : An id) (hk : 0 ≤ m.line ∧ m.line < (l.length : Int) ∧ 0 ≤ m.src ∧ m.src < ((Ah l m.line).last.length : Int) ∧ m.kind ≠ 1 ∧ m.kind ≠ 2 ∧ m.kind ≠ 3 ∧ m.kind ≠ 9 ∧ m.kind ≠ 8 ∧ m.kind ≠ 10) : Calls Tryz.prog 62 [v0, vi id, .agg m.cells.toArray].toArray w (Bh (fun v : Value × Value => .tuple #[v.1, v.2]) (fun v => L) (fun v => sl v.1 (Am l id m).1 :: sl v.2 (Am l id m).2 :: R)) := by
 refine Za2 ?_;intro hlen hm0 hid0
 clear hs
 refine Za1 ?_;intro b5 g13
 refine JC.conseqEx (γ := Value) (L' := fun u => foc 109 g13.1 l m.line.toNat (Entry.cells u (Ah l m.line)) :: row 3 u (Ah l m.line).last :: blk b5 128 m.cells :: L) (R' := fun u => pr (u.oneCell' = true) :: R) (fun w hs => by
  have h1 : g13.2.map EV.e = l := Ga (.head _) hs
  obtain ⟨u, h2, h3, h4⟩ := Ih m.line.toNat h1 (by omega) hs
  exact ⟨u, St.pr h3 (h4.sub .refl (fun f hf => .tail _ hf))⟩) (fun uo => ?_)
 refine ZaH ?_;intro honeo hEw u hE hE0 hL hone hlin
 refine dj (dgy ?_)
 refine Zap ?_
 refine dj (dgy ?_)
 refine Za3 ?_
 refine dj (dgy ?_)
 refine Za8 ?_;intro ρ hA honeE b51
 refine ZO ?_
 refine ZaX ?_;intro ρ
 refine Za0 ?_
 refine ZaK ?_;intro eh hEB ρ er
 exact Cl (g13.1, .slice none 0 0) (hs := fun w hs => Af (St.shut (hs.pick pkk)))
theorem S6 {v0 : Value} {l : List Entry} {id : Int} {m : Msg} (hs : St (L) R w) (h0 : sl v0 l ∈ R) (hb : ∀ i, i < l.length → EB (l.getD i A3)) (hla : ∀ i, i < l.length → (l.getD i A3).last.length ≤ 4) (hm : m.wf) (hid : An id) (hk : 0 ≤ m.line ∧ m.line < (l.length : Int) ∧ 0 ≤ m.src ∧ m.src < ((Ah l m.line).last.length : Int) ∧ m.kind = 9) : Calls Tryz.prog 62 [v0, vi id, .agg m.cells.toArray].toArray w (Bh (fun v : Value × Value => .tuple #[v.1, v.2]) (fun v => L) (fun v => sl v.1 (Am l id m).1 :: sl v.2 (Am l id m).2 :: R)) := by
 refine Za2 ?_;intro hlen hm0 hid0
 clear hs
 refine Za1 ?_;intro b5 g13
 refine JC.conseqEx (γ := Value) (L' := fun u => foc 109 g13.1 l m.line.toNat (Entry.cells u (Ah l m.line)) :: row 3 u (Ah l m.line).last :: blk b5 128 m.cells :: L) (R' := fun u => pr (u.oneCell' = true) :: R) (fun w hs => by
  have h1 : g13.2.map EV.e = l := Ga (.head _) hs
  obtain ⟨u, h2, h3, h4⟩ := Ih m.line.toNat h1 (by omega) hs
  exact ⟨u, St.pr h3 (h4.sub .refl (fun f hf => .tail _ hf))⟩) (fun uo => ?_)
 refine ZaH ?_;intro honeo hEw u hE hE0 hL hone hlin
 refine dj (dgy ?_)
 refine Zap ?_
 refine dj (dgy ?_)
 refine Za3 ?_
 refine dj (dgy ?_)
 refine Za8 ?_;intro ρ hA honeE b51
 rcases (show (m.turn ≠ (Ah l m.line).turn) ∨ (m.turn = (Ah l m.line).turn ∧ (Ah l m.line).phase ≠ 1) ∨ (m.turn = (Ah l m.line).turn ∧ (Ah l m.line).phase = 1 ∧ m.src ≠ (Ah l m.line).owner) ∨ (m.turn = (Ah l m.line).turn ∧ (Ah l m.line).phase = 1 ∧ m.src = (Ah l m.line).owner) from by omega) with hc | hc | hc | hc
 ·refine Zai ?_
  refine Za6 ?_
  refine Zba ?_;intro ρ
  refine dn5 ?_
  refine ZR ?_
  refine Za7 ?_;intro ρ
  exact ZdT
 ·refine Zai ?_
  refine Zal ?_
  refine Zba ?_;intro ρ
  refine dn4 ?_
  refine dj (dgy ?_)
  refine Zar ?_
  refine ZV ?_
  refine Za7 ?_;intro ρ
  exact ZdT
 ·refine Zai ?_
  refine Zal ?_
  refine Zba ?_;intro ρ
  refine dn4 ?_
  refine dj (dgy ?_)
  refine ZaM ?_
  refine dj (dgy ?_)
  refine Zar ?_
  refine Zaj ?_;intro ρ
  refine Glc ?_
  exact ZdT
 ·refine Zai ?_
  refine Zal ?_
  refine Zba ?_;intro ρ
  refine dn4 ?_
  refine dj (dgy ?_)
  refine ZaM ?_
  refine dj (dgy ?_)
  refine ZaI ?_
  refine Zaj ?_;intro ρ
  refine Gmc ?_
  refine rn5 ?_
  refine ZH ?_
  refine Ga5 ?_
  refine Cb (b := ?b1) ?e1 ?_ ?_; case e1 => exact rfl
  ·intro ht108
   refine kp [5, 6, 7, 8, 9, 10, 11, 109, 110, 111, 112, 113, 114, 115, 116, 117, 118, 119, 120] ?_
   refine ZO ?_
   refine djc (fun _ _ => Fl (a := 1) (b := (Ah l m.line).owner) (Pd (by omega) (by omega))) ?_
   refine djc (fun _ _ => Fl (a := (Ah l m.line).sharers) (b := ((2 ^ (Ah l m.line).owner.toNat : Nat) : Int)) (b_orB (by omega) (by omega) (by omega) (by omega))) ?_
   refine dn2 ?_
   refine dtl ?_; intro ρ
   refine ZH ?_
   refine rn3 ?_
   refine ZH ?_
   refine rn1 ?_
   have hX : EB ({ (Ah l m.line) with value := m.value, sharers := (G3 (Ah l m.line).sharers (Ah l m.line).owner), owner := -1 }) := by obtain ⟨_, _, r9, _⟩ := Er hE0.2.1.1 hE0.2.1.2 (show 0 ≤ (Ah l m.line).owner by omega) hE0.2.2.2.2.1.2; unfold EB Entry.wf An; simp only; omega
   have eh : (Ad (Ah l m.line) id m) = (C7 ({ (Ah l m.line) with value := m.value, sharers := (G3 (Ah l m.line).sharers (Ah l m.line).owner), owner := -1 }), Ib (C7 ({ (Ah l m.line) with value := m.value, sharers := (G3 (Ah l m.line).sharers (Ah l m.line).owner), owner := -1 })) m.line id) := by
    have hal : (Ah l m.line).alone = false := by simpa using ht108
    unfold Ad
    rw [if_neg (by omega), if_neg (by omega), if_pos (by omega)]
    unfold Ii
    rw [if_neg (by rw [hal]; decide)]
   refine Aj Tryz.call89 rfl (fun w hs => Kg (vh := g13.1) (vo := .slice none 0 0) (u := uo) (i := m.line.toNat) (e := { (Ah l m.line) with value := m.value, sharers := (G3 (Ah l m.line).sharers (Ah l m.line).owner), owner := -1 }) (ms := []) (line := m.line) (id := id) (xs := l) (LX := row 3 uo (Ah l m.line).last :: blk b5 128 m.cells :: L) (Af hs) hA honeo (by simp) hX hm.2.2.2.1 hid) ?_; intro v125
   refine J.conseq (L' := foc 109 g13.1 l m.line.toNat (Entry.cells uo (Ad (Ah l m.line) id m).1) :: row 3 uo (Ad (Ah l m.line) id m).1.last :: blk b51 159 [ep g13.1 10 m.line.toNat 0, vi m.line, vi id, v125] :: row 128 v125 (Ad (Ah l m.line) id m).2 :: L) (fun w hs => by rw [List.nil_append] at hs; rw [eh, Hl]; exact Af hs) ?_
   refine Gl ?_
   refine Zan ?_;intro hEB
   refine Zao ?_;intro ρ er
   exact Cl (g13.1, v125) (hs := fun w hs => Af (St.shut (hs.pick pkk)))
  ·intro ht108
   refine Gl ?_
   refine kp [5, 6, 7, 8, 9, 10, 11, 121, 122, 123] ?_
   refine ZI ?_
   refine ZH ?_
   refine rn1 ?_
   have hX : EB ({ (Ah l m.line) with value := m.value, sharers := (Ah l m.line).sharers, owner := -1 }) := by unfold EB Entry.wf An; simp only; omega
   have eh : (Ad (Ah l m.line) id m) = (C7 ({ (Ah l m.line) with value := m.value, sharers := (Ah l m.line).sharers, owner := -1 }), Ib (C7 ({ (Ah l m.line) with value := m.value, sharers := (Ah l m.line).sharers, owner := -1 })) m.line id) := by
    have hal : (Ah l m.line).alone = true := by simpa using ht108
    unfold Ad
    rw [if_neg (by omega), if_neg (by omega), if_pos (by omega)]
    unfold Ii
    rw [if_pos hal]
   refine Aj Tryz.call89 rfl (fun w hs => Kg (vh := g13.1) (vo := .slice none 0 0) (u := uo) (i := m.line.toNat) (e := { (Ah l m.line) with value := m.value, sharers := (Ah l m.line).sharers, owner := -1 }) (ms := []) (line := m.line) (id := id) (xs := l) (LX := row 3 uo (Ah l m.line).last :: blk b5 128 m.cells :: L) (Af hs) hA honeo (by simp) hX hm.2.2.2.1 hid) ?_; intro v125
   refine J.conseq (L' := foc 109 g13.1 l m.line.toNat (Entry.cells uo (Ad (Ah l m.line) id m).1) :: row 3 uo (Ad (Ah l m.line) id m).1.last :: blk b51 159 [ep g13.1 10 m.line.toNat 0, vi m.line, vi id, v125] :: row 128 v125 (Ad (Ah l m.line) id m).2 :: L) (fun w hs => by rw [List.nil_append] at hs; rw [eh, Hl]; exact Af hs) ?_
   refine Gl ?_
   refine Zan ?_;intro hEB
   refine Zao ?_;intro ρ er
   exact Cl (g13.1, v125) (hs := fun w hs => Af (St.shut (hs.pick pkk)))
theorem S7 {v0 : Value} {l : List Entry} {id : Int} {m : Msg} (hs : St (L) R w) (h0 : sl v0 l ∈ R) (hb : ∀ i, i < l.length → EB (l.getD i A3)) (hla : ∀ i, i < l.length → (l.getD i A3).last.length ≤ 4) (hm : m.wf) (hid : An id) (hk : 0 ≤ m.line ∧ m.line < (l.length : Int) ∧ 0 ≤ m.src ∧ m.src < ((Ah l m.line).last.length : Int) ∧ m.kind = 8) : Calls Tryz.prog 62 [v0, vi id, .agg m.cells.toArray].toArray w (Bh (fun v : Value × Value => .tuple #[v.1, v.2]) (fun v => L) (fun v => sl v.1 (Am l id m).1 :: sl v.2 (Am l id m).2 :: R)) := by
 refine Za2 ?_;intro hlen hm0 hid0
 clear hs
 refine Za1 ?_;intro b5 g13
 refine JC.conseqEx (γ := Value) (L' := fun u => foc 109 g13.1 l m.line.toNat (Entry.cells u (Ah l m.line)) :: row 3 u (Ah l m.line).last :: blk b5 128 m.cells :: L) (R' := fun u => pr (u.oneCell' = true) :: R) (fun w hs => by
  have h1 : g13.2.map EV.e = l := Ga (.head _) hs
  obtain ⟨u, h2, h3, h4⟩ := Ih m.line.toNat h1 (by omega) hs
  exact ⟨u, St.pr h3 (h4.sub .refl (fun f hf => .tail _ hf))⟩) (fun uo => ?_)
 refine ZaH ?_;intro honeo hEw u hE hE0 hL hone hlin
 refine dj (dgy ?_)
 refine Zap ?_
 refine dj (dgy ?_)
 refine Za3 ?_
 refine dj (dgy ?_)
 refine Za8 ?_;intro ρ hA honeE b51
 rcases (show (m.turn ≠ (Ah l m.line).turn) ∨ (m.turn = (Ah l m.line).turn ∧ (Ah l m.line).phase ≠ 2) ∨ (m.turn = (Ah l m.line).turn ∧ (Ah l m.line).phase = 2 ∧ M0 (Ah l m.line).need m.src = false) ∨ (m.turn = (Ah l m.line).turn ∧ (Ah l m.line).phase = 2 ∧ M0 (Ah l m.line).need m.src = true) from by rcases Bool.eq_false_or_eq_true (M0 (Ah l m.line).need m.src) with h1 | h1 <;> simp only [h1, and_true, and_false, or_false, false_or, reduceCtorEq] <;> omega) with hc | hc | hc | hc
 ·refine Zai ?_
  refine Za6 ?_
  refine djc (fun _ _ => C6) ?_
  refine ZaX ?_;intro ρ
  refine ZaA ?_
  refine ZV ?_
  refine dn5 ?_
  refine ZR ?_
  exact Zdq
 ·refine ZaJ ?_;intro ρ
  refine ZaA ?_
  refine ZV ?_
  refine dn4 ?_
  refine dj (dgy ?_)
  refine Zar ?_
  refine ZV ?_
  exact Zdq
 ·refine ZaJ ?_;intro ρ
  refine ZaA ?_
  refine ZV ?_
  refine dn4 ?_
  refine dj (dgy ?_)
  refine ZaM ?_
  refine dj (dgy ?_)
  refine dc (fun _ _ => Fl (a := (Ah l m.line).need) (b := m.src) (W2 (by omega) (by omega) (by omega) (by omega))) ?_
  refine dj (dgy ?_)
  refine Zcx ?_
  refine dj (dgy ?_)
  refine dc (fun _ _ => Ai rfl rfl (A1 (by rw [if_neg (by rw [hc.2.2]; decide)]; decide))) ?_
  refine Zab ?_
  refine ZZ ?_;intro ρ
  refine Zbu ?_
  refine Za0 ?_
  refine Za7 ?_;intro ρ
  have eh : (Ad (Ah l m.line) id m) = ((Ah l m.line), []) := by unfold Ad; rw [if_neg (by omega), if_neg (by omega), if_neg (by omega), if_neg (fun h => by have h4 := h.2.2.2; rw [hc.2.2] at h4; cases h4), if_neg (by omega)]
  exact Zds
 ·have hhas := hc.2.2
  refine ZaJ ?_;intro ρ
  refine ZaA ?_
  refine ZV ?_
  refine dn4 ?_
  refine dj (dgy ?_)
  refine ZaM ?_
  refine dj (dgy ?_)
  refine dc (fun _ _ => Fl (a := (Ah l m.line).need) (b := m.src) (W2 (by omega) (by omega) (by omega) (by omega))) ?_
  refine dj (dgy ?_)
  refine Zcx ?_
  refine dj (dgy ?_)
  refine dc (fun _ _ => Ai rfl rfl (Aw (by rw [if_pos hc.2.2]))) ?_
  refine Zaj ?_;intro ρ
  refine Glc ?_
  refine kp [5, 6, 7, 8, 9, 10, 11, 151, 152, 153, 154, 155, 156, 157, 158, 159, 160] ?_
  refine Zai ?_
  refine djc (fun _ _ => Fl (a := 1) (b := m.src) (Pd (by omega) (by omega))) ?_
  refine djc (fun _ _ => Fl (a := (Ah l m.line).need) (b := ((2 ^ m.src.toNat : Nat) : Int)) (Lk (by omega) (by omega) (by omega) (by omega))) ?_
  refine dn2 ?_
  refine dtl ?_; intro ρ
  refine sc ?_
  refine Gl ?_
  refine Zai ?_
  refine djc (fun _ _ => Fl (a := 1) (b := m.src) (Pd (by omega) (by omega))) ?_
  refine djc (fun _ _ => Fl (a := (Ah l m.line).sharers) (b := ((2 ^ m.src.toNat : Nat) : Int)) (Lk (by omega) (by omega) (by omega) (by omega))) ?_
  refine dn2 ?_
  refine dtl ?_; intro ρ
  refine ZH ?_
  refine Ga5 ?_
  refine cdy ?_ ?_
  ·intro ht175
   refine ZB ?_
   have hX : EB ((Ct (Ah l m.line) m)) := by have c1 := (Er hE0.2.1.1 hE0.2.1.2 (show 0 ≤ m.src by omega) (show m.src < 4 by omega)).2.2.2; have c2 := (Er hE0.2.2.1.1 hE0.2.2.1.2 (show 0 ≤ m.src by omega) (show m.src < 4 by omega)).2.2.2; unfold Ct EB Entry.wf An; simp only; omega
   have eh : (Ad (Ah l m.line) id m) = (C7 ((Ct (Ah l m.line) m)), Ib (C7 ((Ct (Ah l m.line) m))) m.line id) := by
    unfold Ad
    rw [if_neg (by omega), if_neg (by omega), if_neg (by omega), if_pos ⟨by omega, by omega, by omega, hhas⟩, if_pos (by unfold Ct; simp only; omega)]
   refine Aj Tryz.call89 rfl (fun w hs => Kg (vh := g13.1) (vo := .slice none 0 0) (u := uo) (i := m.line.toNat) (e := (Ct (Ah l m.line) m)) (ms := []) (line := m.line) (id := id) (xs := l) (LX := row 3 uo (Ah l m.line).last :: blk b5 128 m.cells :: L) (Af hs) hA honeo (by simp) hX hm.2.2.2.1 hid) ?_; intro v177
   refine J.conseq (L' := foc 109 g13.1 l m.line.toNat (Entry.cells uo (Ad (Ah l m.line) id m).1) :: row 3 uo (Ad (Ah l m.line) id m).1.last :: blk b51 159 [ep g13.1 10 m.line.toNat 0, vi m.line, vi id, v177] :: row 128 v177 (Ad (Ah l m.line) id m).2 :: L) (fun w hs => by rw [List.nil_append] at hs; rw [eh, Hl]; exact Af hs) ?_
   refine Gl ?_
   refine Zan ?_;intro hEB
   refine Zao ?_;intro ρ er
   exact Cl (g13.1, v177) (hs := fun w hs => Af (St.shut (hs.pick pkk)))
  ·intro ht175
   refine Gl ?_
   have eh : (Ad (Ah l m.line) id m) = ((Ct (Ah l m.line) m), []) := by
    unfold Ad
    rw [if_neg (by omega), if_neg (by omega), if_neg (by omega), if_pos ⟨by omega, by omega, by omega, hhas⟩, if_neg (by unfold Ct; simp only; omega)]
   exact Zds
theorem P8 {v0 : Value} {l : List Entry} {id : Int} {m : Msg} (hs : St (L) R w) (h0 : sl v0 l ∈ R) (hb : ∀ i, i < l.length → EB (l.getD i A3)) (hla : ∀ i, i < l.length → (l.getD i A3).last.length ≤ 4) (hm : m.wf) (hid : An id) (hk : 0 ≤ m.line ∧ m.line < (l.length : Int) ∧ 0 ≤ m.src ∧ m.src < ((Ah l m.line).last.length : Int) ∧ m.kind = 10) : Calls Tryz.prog 62 [v0, vi id, .agg m.cells.toArray].toArray w (Bh (fun v : Value × Value => .tuple #[v.1, v.2]) (fun v => L) (fun v => sl v.1 (Am l id m).1 :: sl v.2 (Am l id m).2 :: R)) := by
 refine Za2 ?_;intro hlen hm0 hid0
 clear hs
 refine Za1 ?_;intro b5 g13
 refine JC.conseqEx (γ := Value) (L' := fun u => foc 109 g13.1 l m.line.toNat (Entry.cells u (Ah l m.line)) :: row 3 u (Ah l m.line).last :: blk b5 128 m.cells :: L) (R' := fun u => pr (u.oneCell' = true) :: R) (fun w hs => by
  have h1 : g13.2.map EV.e = l := Ga (.head _) hs
  obtain ⟨u, h2, h3, h4⟩ := Ih m.line.toNat h1 (by omega) hs
  exact ⟨u, St.pr h3 (h4.sub .refl (fun f hf => .tail _ hf))⟩) (fun uo => ?_)
 refine ZaH ?_;intro honeo hEw u hE hE0 hL hone hlin
 refine dj (dgy ?_)
 refine Zap ?_
 refine dj (dgy ?_)
 refine Za3 ?_
 refine dj (dgy ?_)
 refine Za8 ?_;intro ρ hA honeE b51
 rcases (show (m.turn ≠ (Ah l m.line).turn) ∨ (m.turn = (Ah l m.line).turn ∧ (Ah l m.line).phase ≠ 3) ∨ (m.turn = (Ah l m.line).turn ∧ (Ah l m.line).phase = 3 ∧ m.src ≠ (Ah l m.line).who) ∨ (m.turn = (Ah l m.line).turn ∧ (Ah l m.line).phase = 3 ∧ m.src = (Ah l m.line).who) from by omega) with hc | hc | hc | hc
 ·refine Zai ?_
  refine Za6 ?_
  refine djc (fun _ _ => C6) ?_
  refine ZaX ?_;intro ρ
  refine ZaZ ?_;intro ρ
  refine dn5 ?_
  refine ZR ?_
  refine Za7 ?_;intro ρ
  exact ZdM
 ·refine ZaJ ?_;intro ρ
  refine ZaZ ?_;intro ρ
  refine dn4 ?_
  refine dj (dgy ?_)
  refine Zar ?_
  refine ZV ?_
  refine Za7 ?_;intro ρ
  exact ZdM
 ·refine ZaJ ?_;intro ρ
  refine ZaZ ?_;intro ρ
  refine dn4 ?_
  refine dj (dgy ?_)
  refine ZaM ?_
  refine dj (dgy ?_)
  refine Zar ?_
  refine Zaj ?_;intro ρ
  refine Glc ?_
  exact ZdM
 ·refine ZaJ ?_;intro ρ
  refine ZaZ ?_;intro ρ
  refine dn4 ?_
  refine dj (dgy ?_)
  refine ZaM ?_
  refine dj (dgy ?_)
  refine ZaI ?_
  refine Zaj ?_;intro ρ
  refine Glc ?_
  refine ZO ?_
  refine djc (fun _ _ => Fl (a := 1) (b := (Ah l m.line).who) (Pd (by omega) (by omega))) ?_
  refine djc (fun _ _ => Fl (a := (Ah l m.line).sharers) (b := ((2 ^ (Ah l m.line).who.toNat : Nat) : Int)) (b_orB (by omega) (by omega) (by omega) (by omega))) ?_
  refine dn2 ?_
  refine dtl ?_; intro ρ
  refine sc ?_
  refine Gl ?_
  refine kp [6, 7, 8, 9, 10, 213, 214, 215, 216] ?_
  refine Aa ?_
  refine Ga4 ?_
  refine Cb (b := ?b1) ?e1 ?_ ?_; case e1 => exact rfl
  ·intro ht216
   refine Aa ?_
   refine rn8 ?_
   refine sc ?_
   refine rn2 ?_
   refine ZH ?_
   refine rn6 ?_
   refine sc ?_
   refine rn2 ?_
   refine sc ?_
   refine rn2 ?_
   refine sc ?_
   refine Zaa ?_
   have eh : (Ad (Ah l m.line) id m) = ({ (Ah l m.line) with owner := (Ah l m.line).who, sharers := 0, phase := 0, who := 0, serial := 0, alone := false }, []) := by
    unfold Ad
    rw [if_neg (by omega), if_neg (by omega), if_neg (by omega), if_neg (by omega), if_pos (by omega)]
    unfold Fq
    rw [if_pos ht216]
   refine ZaR ?_
   refine Zbw ?_;intro hEB ρ er
   exact ZcE
  ·intro ht216
   refine Gm ?_
   refine rn6 ?_
   refine sc ?_
   refine rn2 ?_
   refine sc ?_
   refine rn2 ?_
   refine sc ?_
   refine Zaa ?_
   have eh : (Ad (Ah l m.line) id m) = ({ (Ah l m.line) with sharers := G3 (Ah l m.line).sharers (Ah l m.line).who, phase := 0, who := 0, serial := 0, alone := false }, []) := by
    unfold Ad
    rw [if_neg (by omega), if_neg (by omega), if_neg (by omega), if_neg (by omega), if_pos (by omega)]
    unfold Fq
    rw [if_neg (by rw [ht216]; decide)]
   exact Zds
theorem Oq {v0 : Value} {l : List Entry} {id : Int} {m : Msg} (hs : St (L) R w) (h0 : sl v0 l ∈ R) (hb : ∀ i, i < l.length → EB (l.getD i A3)) (hla : ∀ i, i < l.length → (l.getD i A3).last.length ≤ 4) (hm : m.wf) (hid : An id) : Calls Tryz.prog 62 [v0, vi id, .agg m.cells.toArray].toArray w (Bh (fun v : Value × Value => .tuple #[v.1, v.2]) (fun v => L) (fun v => sl v.1 (Am l id m).1 :: sl v.2 (Am l id m).2 :: R)) := by
 by_cases h : 0 ≤ m.line ∧ m.line < (l.length : Int) ∧ 0 ≤ m.src ∧ m.src < ((Ah l m.line).last.length : Int)
 ·by_cases h1 : m.kind = 1
  ·exact Ta hs h0 hb hla hm hid (by omega)
  by_cases h2 : m.kind = 2
  ·exact S9 hs h0 hb hla hm hid (by omega)
  by_cases h3 : m.kind = 3
  ·exact S8 hs h0 hb hla hm hid (by omega)
  by_cases h9 : m.kind = 9
  ·exact S6 hs h0 hb hla hm hid (by omega)
  by_cases h8 : m.kind = 8
  ·exact S7 hs h0 hb hla hm hid (by omega)
  by_cases h10 : m.kind = 10
  ·exact P8 hs h0 hb hla hm hid (by omega)
  exact S5 hs h0 hb hla hm hid (by omega)
 ·exact Tb hs h0 hb hla hm hid h
theorem S4 {v0 : Value} {l : List Entry} {id : Int} (hs : St (L) R w) (h0 : sl v0 l ∈ R) (hb : ∀ i, i < l.length → EB (l.getD i A3)) (hln : l.length ≤ 100) (hid : An id) : Calls Tryz.prog 65 [v0, vi id].toArray w (Bh (fun v : Value => v) (fun v => L) (fun v => sl v (Fp l id) :: R)) := by
 have hlen := Bv h0 hs
 refine Ag Tryz.func65 rfl Tryz.ntmps65 rfl hs ?_
 clear hs
 refine ZJ ?_
 refine Gb1 ?_
 refine rn1 ?_
 refine Aj Tryz.call52 rfl (fun w hs => Rj (l := l) hs mm) ?_; intro v10
 refine Gb1 ?_
 refine Ga3 ?_
 refine ZQ ?_
 refine Cn (γ := Nat × Value) (fun g => g.1 ≤ l.length) (fun g => row 128 g.2 (C4 id 0 (l.take g.1)) :: L) (fun _ => sl v10 l :: R) (fun g => [(1, vi id), (5, g.2), (6, v10), (12, vi (l.length : Int)), (13, vi (g.1 : Int))]) (fun g => l.length - g.1) (0, .slice none 0 0) (Nat.zero_le _) alT (fun w hs => hs) ?_
 rintro ⟨k, vs⟩ hk
 try simp only at hk ⊢
 have hsl := Jw id (l.take k) 0
 rw [List.length_take] at hsl
 refine ZC ?_
 refine cdy ?_ ?_
 ·intro ht14
  refine ZE ?_
  refine X8 (l := l) (v := v10) k mm (by omega) (fun _ u => ?_)
  refine JC.know (p := EpAll v10 10 k) (fun w hs => ok_c (v := v10) (i := k) (.head _) w hs) (fun hA => ?_)
  have honeE : (ep v10 10 k 0).oneCell' = true := hA.one
  refine Aa ?_
  refine rn6 ?_
  refine bx ?_; intro b22
  refine Ga1 ?_
  refine ZQ ?_
  refine ZB ?_
  refine Aj Tryz.call94 rfl (fun w hs => Hd (vh := v10) (vo := .slice none 0 0) (u := u) (i := k) (e := (l.getD k A3)) (ms := []) (line := (k : Int)) (id := id) (LX := row 128 vs (C4 id 0 (l.take k)) :: L) (Af hs) (Xf (cs := Entry.cells u (l.getD k A3)) mm) hA (by simp) (hb k (by omega)) (by unfold An; omega) hid) ?_; intro vq
  refine Gl ?_
  refine JC.shut (v := vq) pkk ?_
  have hs4 := Q0 (l.getD k A3) (k : Int) id
  refine ZX ?_
  refine ap Lc (hb := fun w hs => by have : maxN = 16777216 := rfl; simp only [List.length_append, List.length_nil]; omega) (k := ?_); intro v30
  refine ZK ?_
  refine Br (k + 1, v30) (by show k + 1 ≤ l.length; omega) (by show l.length - (k + 1) < l.length - k; omega) alT (fun w hs => ?_)
  try simp only
  rw [J4 A3 (by omega), Ix, List.length_take, Nat.min_eq_left (by omega), Int.zero_add]; exact Af hs
 ·intro ht14
  refine ZE ?_
  have hkl : k = l.length := by omega
  rw [show C4 id 0 (l.take k) = Fp l id from by rw [hkl, List.take_length]; rfl]
  exact Bz vs (hs := fun w hs => Af (St.shut (hs.pick pkk)))
theorem Yv {cores lines : Int} (hs : St (L) R w) (hc : 0 ≤ cores ∧ cores ≤ 4) (hl : 0 ≤ lines ∧ lines ≤ 4) : Calls Tryz.prog 34 [vi cores, vi lines].toArray w (Bh (fun v : Value => v) (fun v => L) (fun v => sl v (K4 cores lines) :: R)) := by
 refine Ag Tryz.func34 rfl Tryz.ntmps34 rfl hs ?_
 clear hs
 refine ZJ ?_
 refine ZK ?_
 refine JC.rowNil 109 Entry ?_
 refine Cn (γ := Nat × Value) (fun g => (g.1 : Int) ≤ lines) (fun g => row 109 g.2 (List.replicate g.1 (Of ⟨cores, lines⟩)) :: L) (fun _ => R) (fun g => [(0, vi cores), (5, g.2), (6, vi lines), (7, vi (g.1 : Int))]) (fun g => lines.toNat - g.1) (0, .slice none 0 0) (by show (0 : Int) ≤ lines; omega) alT (fun w hs => hs) ?_
 rintro ⟨k, vs⟩ hk
 try simp only at hk ⊢
 refine ZC ?_
 refine cdy ?_ ?_
 ·intro ht8
  refine ZP ?_
  refine ob (q_max (a := cores) rfl (by omega)) ?_
  refine U0 (α := Int) (x0 := 0) (zc := [vi 0]) Oz rfl (by decide) rfl rfl rfl (fun j => ⟨rfl, by unfold An; omega⟩) (by omega) (by omega) ?_; intro v12
  refine J.shut .hd ?_
  refine J.know (p := v12.oneCell' = true) (fun w hs => isSlice.one (hs.fact (.head _))) (fun honev12 => ?_)
  refine rn1 ?_
  refine li (α := Entry) [Of ⟨cores, lines⟩] Z2 rfl (fun j hj => ⟨⟨_, rfl, ⟨_, rfl, hj _ (.head _), Vc ⟨cores, lines⟩⟩⟩, trivial⟩) ?_; intro v14
  refine ap Z2 (hb := fun w hs => by have : maxN = 16777216 := rfl; simp only [List.length_replicate, List.length_cons, List.length_nil]; omega) (k := ?_); intro v15
  refine ZK ?_
  refine Br (k + 1, v15) (by show ((k + 1 : Nat) : Int) ≤ lines; omega) (by show lines.toNat - (k + 1) < lines.toNat - k; omega) alT (fun w hs => ?_)
  try simp only
  rw [Q1]; exact Af hs
 ·intro ht8
  refine ZE ?_
  have hkl : k = lines.toNat := by omega
  rw [show List.replicate k (Of ⟨cores, lines⟩) = K4 cores lines from by rw [hkl]; rfl]
  exact Bz vs (hs := fun w hs => Af (St.shut (hs.pick pkk)))
end Go.Proofs.YtiofgjolhbgkiaaGreatDoor
set_option maxHeartbeats 1000000
set_option maxRecDepth 8000
namespace Go.Proofs.YtiofgjolhbgkiaaGreatDoor
open Go
end Go.Proofs.YtiofgjolhbgkiaaGreatDoor
set_option maxHeartbeats 1000000
set_option maxRecDepth 8000
namespace Go.Proofs.YtiofgjolhbgkiaaGreatDoor
open Go
end Go.Proofs.YtiofgjolhbgkiaaGreatDoor
set_option maxHeartbeats 1000000
set_option maxRecDepth 8000
namespace Go.Proofs.YtiofgjolhbgkiaaGreatDoor
open Go
end Go.Proofs.YtiofgjolhbgkiaaGreatDoor
set_option maxHeartbeats 1000000
set_option maxRecDepth 8000
namespace Go.Proofs.YtiofgjolhbgkiaaGreatDoor
open Go
end Go.Proofs.YtiofgjolhbgkiaaGreatDoor
set_option maxHeartbeats 1000000
set_option maxRecDepth 8000
namespace Go.Proofs.YtiofgjolhbgkiaaGreatDoor
open Go
end Go.Proofs.YtiofgjolhbgkiaaGreatDoor
set_option maxHeartbeats 1000000
set_option maxRecDepth 8000
namespace Go.Proofs.YtiofgjolhbgkiaaGreatDoor
open Go
variable {L : List Chunk} {R : List Fact} {w : World}
theorem Hm {v0 : Value} {l : Frames} {n : Int} (hs : St (L) R w) (h0 : sl v0 l ∈ R) (hn : An n) : Calls Tryz.prog 39 [v0, vi n].toArray w (Bh (fun v : Value × Value => .tuple #[v.1, v.2, vi (C0 l n).2.2]) (fun v => row 53 v.1 (C0 l n).1 :: L) (fun v => sl v.2 (C0 l n).2.1 :: R)) := by
 have hlen := Bv h0 hs
 unfold An at hn
 refine Ag Tryz.func39 rfl Tryz.ntmps39 rfl hs ?_
 clear hs
 refine Zau ?_
 rcases (show (n < 0) ∨ (¬ n < 0 ∧ (l.length : Int) ≤ n) ∨ (0 ≤ n ∧ n < (l.length : Int)) from by omega) with hc | hc | hc
 ·refine ZB ?_
  refine Fm ?_
  refine Gd6 ?_
  exact Zdi
 ·refine ZaN ?_
  refine J8 ?_
  refine Gd1 ?_
  exact Zdi
 ·refine ZaN ?_
  refine Eo ?_
  refine Zav ?_
  refine Aj Tryz.call53 rfl (fun w hs => Q8 hs mm) ?_; intro v18
  refine Gb1 ?_
  refine rn2 ?_
  refine ob (Ip Nx) ?_
  refine l_Sr Tryz.isAgg53 rfl .hd (by omega) ?_; intro v22
  refine Gb1 ?_
  refine rn3 ?_
  refine ob Su ?_
  rw [show n + 1 = ((n.toNat + 1 : Nat) : Int) by omega]
  refine Aj Tryz.call59 rfl (fun w hs => by have h := Ve (i := n.toNat) (Acn hs) (by omega); rw [Int.toNat_of_nonneg (by omega)] at h; exact h) ?_; intro v27
  refine Ga4 ?_
  have er : C0 l n = (l.eraseIdx n.toNat, Cq l n, 0) := by unfold C0; rw [if_neg (by omega)]
  rw [er]
  exact Jg (v27, v22)
theorem Og {v0 : Value} {l : Frames} {n : Int} (hs : St (L) R w) (h0 : sl v0 l ∈ R) (hn : An n) : Calls Tryz.prog 41 [v0, vi n].toArray w (Bh (fun v : Value => .tuple #[v, vi (Ed l n).2]) (fun v => row 53 v (Ed l n).1 :: L) (fun v => R)) := by
 have hlen := Bv h0 hs
 unfold An at hn
 refine Ag Tryz.func41 rfl Tryz.ntmps41 rfl hs ?_
 clear hs
 refine ZE ?_
 rcases (show (n < 0) ∨ (¬ n < 0 ∧ (l.length : Int) ≤ n) ∨ (0 ≤ n ∧ n < (l.length : Int)) from by omega) with hc | hc | hc
 ·refine ZB ?_
  refine Fm ?_
  refine Gd6 ?_
  exact ZdB
 ·refine ZaN ?_
  refine J8 ?_
  refine Gd1 ?_
  exact ZdB
 ·refine ZaN ?_
  refine Eo ?_
  refine Gc1 ?_
  refine JC.open1 (xs := l) n.toNat mm (by omega) (fun _ u => ?_)
  refine ZX ?_
  refine Aj Tryz.call57 rfl (fun w hs => Q7 hs mm mm) ?_; intro v19
  refine Ga2 ?_
  have er : Ed l n = (C5 l (Cq l n), 0) := by unfold Ed; rw [if_neg (by omega)]
  rw [er]
  exact Cl v19
theorem Vd {v0 : Value} {l : Frames} {n bit : Int} (hs : St (L) R w) (h0 : sl v0 l ∈ R) (hn : An n) (hbit : An bit) : Calls Tryz.prog 64 [v0, vi n, vi bit].toArray w (Bh (fun v : Value => .tuple #[v, vi (Bn l n bit).2]) (fun v => row 53 v (Bn l n bit).1 :: L) (fun v => R)) := by
 have hlen := Bv h0 hs
 unfold An at hn
 refine Ag Tryz.func64 rfl Tryz.ntmps64 rfl hs ?_
 clear hs
 refine ZE ?_
 rcases (show (n < 0) ∨ (¬ n < 0 ∧ (l.length : Int) ≤ n) ∨ (0 ≤ n ∧ n < (l.length : Int)) from by omega) with hc | hc | hc
 ·refine ZB ?_
  refine Fm ?_
  refine Gd6 ?_
  exact ZdA
 ·refine ZaN ?_
  refine J8 ?_
  refine Gd1 ?_
  exact ZdA
 ·refine ZaN ?_
  refine Eo ?_
  refine Gc1 ?_
  refine JC.open1 (xs := l) n.toNat mm (by omega) (fun _ u => ?_)
  refine JC.know (p := (l.getD n.toNat []).length ≤ 16777216) (fun w hs => Bv (α := UInt8) (v := u) (.tail _ (.head _)) hs) (fun hlb => ?_)
  rcases (show (bit < 0) ∨ (¬ bit < 0 ∧ 8 * ((l.getD n.toNat []).length : Int) ≤ bit) ∨ (0 ≤ bit ∧ bit < 8 * ((l.getD n.toNat []).length : Int)) from by omega) with hc | hc | hc
  ·refine ZB ?_
   refine Fm ?_
   refine Gd10 ?_
   exact Zd3
  ·refine Zcp ?_
   refine J8 ?_
   refine Gd1 ?_
   exact Zd3
  ·refine Zcp ?_
   refine Eo ?_
   refine Zav ?_
   refine Aj Tryz.call53 rfl (fun w hs => Q8 hs mm) ?_; intro v30
   refine Gb1 ?_
   refine rn4 ?_
   refine ob (Ip Nx) ?_
   refine l_Sr Tryz.isAgg53 rfl .hd (by omega) ?_; intro v36
   refine rn1 ?_
   refine Aj Tryz.call93 rfl (fun w hs => K6 (bit := bit) hs mm hbit) ?_; intro v38
   refine ob (Ip Nx) ?_
   refine s_Sr Tryz.sizeOf53 rfl rfl mm .hd (by omega) ?_
   refine Gl ?_
   refine kp [6, 7, 8, 40] ?_
   refine Aa ?_
   refine Ga3 ?_
   have er : Bn l n bit = (l.set n.toNat (Eh (Cq l n) bit), 0) := by unfold Bn Cq; rw [if_neg (by omega), if_neg (by omega)]
   rw [er]
   exact Cl v30
theorem X9 {P : Program} {n : Nat} {Q : Exit → Act → World → Prop} {L : List Chunk} {R : List Fact} {al : List (Nat × Value)} {c : Code} {v : Value} {x : Chip} (i : Int) (hm : sl v x.cores ∈ R) (h0 : 0 ≤ i) (hi : i < x.cores.length) (k : (Aq x i).wait.wf → ∀ u, JC P n c Q L (cF v 4 i.toNat (Core.cells u (Aq x i)) :: sl u (Aq x i).lines :: R) al) : JC P n c Q L R al := JC.open1 i.toNat hm (by omega) k
theorem T2 {c : Core} {id home : Int} {o : Op} (ho : o.wf) : (Ak c id home o).1.wait.wf := by
 have hz : zOp.wf := by unfold zOp Op.wf An; simp only; omega
 unfold Ak
 split
 ·exact hz
 split
 ·exact hz
 split
 ·exact hz
 split
 ·exact hz
 ·exact ho
theorem Vs {c : Core} {id home : Int} {m : Msg} (ho : c.wait.wf) : (Ac c id home m).1.wait.wf := by
 have hz : zOp.wf := by unfold zOp Op.wf An; simp only; omega
 unfold Ac
 split
 ·exact ho
 split
 ·exact ho
 split
 ·split
  ·show (if _ then zOp else c.wait).wf
   split
   ·exact hz
   ·exact ho
  split
  ·exact ho
  ·exact ho
 split
 ·split
  ·exact ho
  split
  ·exact hz
  ·exact ho
 split
 ·exact hz
 ·exact ho
section
variable {n nl : Nat} {x : Chip} {M : List Int}
theorem Inv.lbs (h : Inv n nl x M) {p : Int} (hp : 0 ≤ p ∧ p < x.cores.length) : ∀ i, i < (Aq x p).lines.length → LB ((Aq x p).lines.getD i zLine) := fun i hi => by
 have hnc := h.nc
 have h1 : (Aq x p).lines.length = nl := h.ncl p.toNat (by omega)
 exact h.lb (i := i) (p := p.toNat) (by omega) (by omega)
theorem Inv.ebs (h : Inv n nl x M) : ∀ i, i < x.home.length → EB (x.home.getD i A3) ∧ (x.home.getD i A3).turn ≤ 65535 ∧ (0 ≤ (x.home.getD i A3).serial ∧ (x.home.getD i A3).serial ≤ 65535) ∧ (0 ≤ (x.home.getD i A3).value ∧ (x.home.getD i A3).value ≤ 255) ∧ (x.home.getD i A3).last.length ≤ 4 := fun i hi => by
 have hnh := h.nh
 have hn := h.n1
 have := h.nla i (by omega)
 exact ⟨h.eb (i := i) (by omega), (h.ebd (i := i) (by omega)).1, (h.ebd (i := i) (by omega)).2.1, (h.ebd (i := i) (by omega)).2.2, by show (ent x i).last.length ≤ 4; omega⟩
theorem Inv.says_in (h : Inv n nl x M) (i : Nat) (hi : i < x.home.length) : ∀ a ∈ Ib (x.home.getD i A3) i n, MsgIn a := fun a ha => by
 have hnh := h.nh; have hn := h.n1; have hl := h.l1
 exact Yf (Pk h (i := i) (by omega) a ha).1 (by simp only [Fv]; omega) (by simp only [Fv]; omega)
end
end Go.Proofs.YtiofgjolhbgkiaaGreatDoor
set_option maxHeartbeats 1000000
set_option maxRecDepth 8000
namespace Go.Proofs.YtiofgjolhbgkiaaGreatDoor
open Go
end Go.Proofs.YtiofgjolhbgkiaaGreatDoor
set_option maxHeartbeats 1000000
set_option maxRecDepth 8000
namespace Go.Proofs.YtiofgjolhbgkiaaGreatDoor
open Go
variable {L : List Chunk} {R : List Fact} {w : World}
def bAt (c : Config) (l : List Step) (k : Nat) : Chip × List Done := Cd (Bu c).1 (l.take k)
theorem Fg {x : Chip} {a : Step} {l : List Step} (h : (Al x a).2.2 = 0) : Cd x (a :: l) = ((Cd (Al x a).1 l).1, (Al x a).2.1 ++ (Cd (Al x a).1 l).2) := by simp only [Cd]; rw [if_pos h]
theorem Fh {x : Chip} {a : Step} {l : List Step} (h : ¬ (Al x a).2.2 = 0) : Cd x (a :: l) = Cd x l := by simp only [Cd]; rw [if_neg h]
theorem Gg (s : Step) : ∀ (l : List Step) (x : Chip), (Al (Cd x l).1 s).2.2 = 0 → Cd x (l ++ [s]) = ((Al (Cd x l).1 s).1, (Cd x l).2 ++ (Al (Cd x l).1 s).2.1)
 | [], x, h => by
  have h' : (Al x s).2.2 = 0 := h
  rw [List.nil_append, Fg h']; simp [Cd]
 | a :: l, x, h => by
  by_cases h1 : (Al x a).2.2 = 0
  ·rw [Fg h1] at h ⊢
   rw [List.cons_append, Fg h1, Gg s l _ h]; simp
  ·rw [Fh h1] at h ⊢
   rw [List.cons_append, Fh h1]; exact Gg s l x h
theorem Na (s : Step) : ∀ (l : List Step) (x : Chip), ¬ (Al (Cd x l).1 s).2.2 = 0 → Cd x (l ++ [s]) = Cd x l
 | [], x, h => by
  have h' : ¬ (Al x s).2.2 = 0 := h
  rw [List.nil_append, Fh h']
 | a :: l, x, h => by
  by_cases h1 : (Al x a).2.2 = 0
  ·rw [Fg h1] at h ⊢
   rw [List.cons_append, Fg h1, Na s l _ h]
  ·rw [Fh h1] at h ⊢
   rw [List.cons_append, Fh h1]; exact Na s l x h
theorem W9 {c : Config} {l : List Step} {k : Nat} (h : k < l.length) (h0 : (Al (bAt c l k).1 (l.getD k zStep)).2.2 = 0) : bAt c l (k + 1) = ((Al (bAt c l k).1 (l.getD k zStep)).1, (bAt c l k).2 ++ (Al (bAt c l k).1 (l.getD k zStep)).2.1) := by
 unfold bAt at h0 ⊢; rw [J4 zStep h]; exact Gg _ _ _ h0
theorem Acj {c : Config} {l : List Step} {k : Nat} (h : k < l.length) (h0 : ¬ (Al (bAt c l k).1 (l.getD k zStep)).2.2 = 0) : bAt c l (k + 1) = bAt c l k := by
 unfold bAt at h0 ⊢; rw [J4 zStep h]; exact Na _ _ _ h0
theorem Wy (c : Core) (id home : Int) (o : Op) : (Ak c id home o).2.2.1.length ≤ 1 := by
 unfold Ak
 split
 ·simp
 split
 ·simp
 split
 ·simp
 split <;> simp
theorem Yw (c : Core) (id home : Int) (m : Msg) : (Ac c id home m).2.2.length ≤ 1 := by
 unfold Ac
 split
 ·simp
 split
 ·simp
 split
 ·split
  ·simp only; split <;> simp
  split <;> simp
 split
 ·split
  ·simp
  split <;> simp
 split <;> simp
theorem Mc (x : Chip) (s : Step) : (Al x s).2.1.length ≤ 1 := by
 unfold Al
 split
 ·split
  ·simp
  split
  ·simp
  ·exact Wy ..
 split
 ·split
  ·simp
  ·simp only
   unfold Be
   split
   ·simp
   split
   ·simp
   ·exact Yw ..
 split
 ·split <;> simp
 split
 ·split <;> simp
 split
 ·split
  ·simp
  split
  ·simp
  split <;> simp
 split
 ·split
  ·simp
  split <;> simp
 ·simp
theorem Xa (c : Config) (l : List Step) : ∀ k, (bAt c l k).2.length ≤ k
 | 0 => by unfold bAt; simp [Cd]
 | k + 1 => by
  have ih := Xa c l k
  by_cases h : k < l.length
  ·by_cases h0 : (Al (bAt c l k).1 (l.getD k zStep)).2.2 = 0
   ·have := Mc (bAt c l k).1 (l.getD k zStep)
    rw [W9 h h0]
    simp only [List.length_append]; omega
   ·rw [Acj h h0]; omega
  ·unfold bAt at ih ⊢
   rw [List.take_of_length_le (by omega)]
   rw [List.take_of_length_le (by omega)] at ih
   omega
theorem Ago {c : Config} (l : List Step) (h : (Bu c).2 = 0) (k : Nat) : ∃ n nl M, Inv n nl (bAt c l k).1 M := by
 obtain ⟨n, nl, h1, h2, _, h4⟩ := Ty h
 obtain ⟨M, h5, _⟩ := Gf (l.take k) (Vm h1 h2)
 exact ⟨n, nl, M, by unfold bAt; rw [h4]; exact h5⟩
def hE0 : List Entry := [⟨0, -1, 0, 0, 0, 0, false, 0, 0, [0, 0]⟩]
theorem Y2 {m : Msg} (hs : St (L) R w) (hin : MsgIn m) : Calls Tryz.prog 58 [.agg m.cells.toArray].toArray w (Bh (fun v : Value => v) (fun v => L) (fun v => sl v (Bd m) :: R)) := by
 obtain ⟨k0, k1, k2, k3, k4, k5, k6⟩ := hin
 refine Ag Tryz.func58 rfl Tryz.ntmps58 rfl hs ?_
 clear hs
 refine Gm ?_
 refine bx ?_; intro b1
 refine Gb1 ?_
 refine ZK ?_
 refine Cb (b := ?b1) ?e1 ?_ ?_; case e1 => exact rfl
 ·intro ht7
  refine Aa ?_
  refine Gb1 ?_
  refine Zce ?_
  refine liO (α := UInt8) ([u8 m.kind, u8 (16 * m.src + m.dst % 16), u8 m.line, u8 (m.serial / 256), u8 m.serial, u8 (m.turn / 256), u8 m.turn, u8 m.value, 1, 0] : List UInt8) Ka rfl (fun j hj => ⟨⟨_, rfl, rfl⟩, ⟨_, rfl, rfl⟩, ⟨_, rfl, rfl⟩, ⟨_, rfl, rfl⟩, ⟨_, rfl, rfl⟩, ⟨_, rfl, rfl⟩, ⟨_, rfl, rfl⟩, ⟨_, rfl, rfl⟩, ⟨_, rfl, rfl⟩, ⟨_, rfl, rfl⟩, trivial⟩) ?_; intro v40
  have hxs : ([u8 m.kind, u8 (16 * m.src + m.dst % 16), u8 m.line, u8 (m.serial / 256), u8 m.serial, u8 (m.turn / 256), u8 m.turn, u8 m.value, 1, 0] : List UInt8) = Da m := by unfold Da; rw [ht7, show 16 * m.src + m.dst % 16 = 16 * m.src + m.dst by omega]; rfl
  rw [hxs]
  have hsm := Qw (Da m)
  refine Ga1 ?_
  refine kp [2, 4, 5, 41, 42] ?_
  refine ZB ?_
  refine Aj (γ := Unit) (val := fun _ => vi (Ko (Da m))) Tryz.call85 rfl (fun w hs => lend .hd (fun L R w hs hf _ => F2 hs hf) hs) ?_; intro _
  refine Zcn ?_;intro v49
  refine ap Ka (hb := fun w hs => by have : maxN = 16777216 := rfl; rw [Rd]; simp only [List.length_cons, List.length_nil]; omega) (k := ?_); intro v50
  refine Ga1 ?_
  exact Bz v50 (hs := fun w hs => Af (St.shut (hs.pick pkk)))
 ·intro ht7
  refine Gm ?_
  refine Zce ?_
  refine liO (α := UInt8) ([u8 m.kind, u8 (16 * m.src + m.dst % 16), u8 m.line, u8 (m.serial / 256), u8 m.serial, u8 (m.turn / 256), u8 m.turn, u8 m.value, 0, 0] : List UInt8) Ka rfl (fun j hj => ⟨⟨_, rfl, rfl⟩, ⟨_, rfl, rfl⟩, ⟨_, rfl, rfl⟩, ⟨_, rfl, rfl⟩, ⟨_, rfl, rfl⟩, ⟨_, rfl, rfl⟩, ⟨_, rfl, rfl⟩, ⟨_, rfl, rfl⟩, ⟨_, rfl, rfl⟩, ⟨_, rfl, rfl⟩, trivial⟩) ?_; intro v40
  have hxs : ([u8 m.kind, u8 (16 * m.src + m.dst % 16), u8 m.line, u8 (m.serial / 256), u8 m.serial, u8 (m.turn / 256), u8 m.turn, u8 m.value, 0, 0] : List UInt8) = Da m := by unfold Da; rw [ht7, show 16 * m.src + m.dst % 16 = 16 * m.src + m.dst by omega]; rfl
  rw [hxs]
  have hsm := Qw (Da m)
  refine Ga1 ?_
  refine kp [2, 4, 5, 41, 42] ?_
  refine ZB ?_
  refine Aj (γ := Unit) (val := fun _ => vi (Ko (Da m))) Tryz.call85 rfl (fun w hs => lend .hd (fun L R w hs hf _ => F2 hs hf) hs) ?_; intro _
  refine Zcn ?_;intro v49
  refine ap Ka (hb := fun w hs => by have : maxN = 16777216 := rfl; rw [Rd]; simp only [List.length_cons, List.length_nil]; omega) (k := ?_); intro v50
  refine Ga1 ?_
  exact Bz v50 (hs := fun w hs => Af (St.shut (hs.pick pkk)))
theorem Tv {c : Config} (hs : St (L) R w) : Calls Tryz.prog 33 [.agg c.cells.toArray].toArray w (Bh (fun _ : Unit => vi (Dy c)) (fun _ => L) (fun _ => R)) := by
 refine Ag Tryz.func33 rfl Tryz.ntmps33 rfl hs ?_
 clear hs
 refine Gm ?_
 refine bx ?_; intro b1
 refine Ga1 ?_
 refine ZbN ?_
 refine Ff 20 (.bool (decide ((c.cores < 1) ∨ (4 < c.cores) ∨ (c.lines < 1) ∨ (4 < c.lines)))) ?_ ?_
 ·rcases (show ((c.cores < 1)) ∨ (¬ (c.cores < 1) ∧ (4 < c.cores)) ∨ (¬ (c.cores < 1) ∧ ¬ (4 < c.cores) ∧ (c.lines < 1)) ∨ (¬ (c.cores < 1) ∧ ¬ (4 < c.cores) ∧ ¬ (c.lines < 1) ∧ (4 < c.lines)) ∨ (¬ (c.cores < 1) ∧ ¬ (4 < c.cores) ∧ ¬ (c.lines < 1) ∧ ¬ (4 < c.lines)) from by omega) with hm | hm | hm | hm | hm
  ·refine Zay ?_
   refine Ga15 ?_
   exact ZcT
  ·refine ZaV ?_
   refine Ga11 ?_
   exact ZcT
  ·refine ZbN ?_
   refine Zah ?_
   refine ZF ?_
   refine Fm ?_
   refine Ga6 ?_
   exact ZcT
  ·refine Zah ?_
   refine Za4 ?_
   refine J7 ?_
   refine Ga1 ?_
   exact ZcT
  ·refine ZbN ?_
   refine Zah ?_
   refine Zat ?_
   refine Ga1 ?_
   exact Zda
 ·refine A7 ?_
  refine Gl ?_
  first | (refine cdx (p := ?p1) (hd := ?d1) ?e1 ?_ ?_; case e1 => exact rfl) | (refine Cb (b := ?b1) ?e1 ?_ ?_; case e1 => exact rfl)
  ·intro ht20
   refine ZC ?_
   have er : Dy c = 3 := by unfold Dy; rw [if_pos ht20]
   exact Zdz
  ·intro ht20
   refine ZC ?_
   have er : Dy c = 0 := by unfold Dy; rw [if_neg ht20]
   exact Zdz
theorem Aad {c : Config} (hs : St (L) R w) (hcw : c.wf) : Calls Tryz.prog 16 [.agg c.cells.toArray].toArray w (Bh (fun v : Value × Value => .tuple #[.agg #[v.1, v.2, .slice none 0 0], vi (Bu c).2]) (fun v => L) (fun v => sl v.1 (Bu c).1.cores :: sl v.2 (Bu c).1.home :: sl (.slice none 0 0) (Bu c).1.frames :: R)) := by
 refine Ag Tryz.func16 rfl Tryz.ntmps16 rfl hs ?_
 clear hs
 refine Zbk ?_;intro b1 b2
 refine Gb1 ?_
 refine rn1 ?_
 refine Aj Tryz.call33 rfl (fun w hs => Tv hs) ?_; intro _
 refine ZK ?_
 refine cdy ?_ ?_
 ·intro ht9
  have h3 : Dy c = 3 := by revert ht9; unfold Dy; split <;> simp
  refine JC.slNil Core ?_
  refine JC.slNil Entry ?_
  refine JC.slNil (List UInt8) ?_
  refine Gm ?_
  refine Zbv ?_
  refine rn1 ?_
  refine s_B Tryz.sizeOf39 ?_
  refine Ga1 ?_
  have h3 : Dy c = 3 := by revert ht9; unfold Dy; split <;> simp
  have er : Bu c = (Ev, 3) := by unfold Bu; rw [if_pos ht9]
  rw [er, h3]
  exact D6 (.slice none 0 0, .slice none 0 0) Tryz.isAgg39 Tryz.sizeOf39
 ·intro ht9
  have hcg : ¬ (c.cores < 1 ∨ 4 < c.cores ∨ c.lines < 1 ∨ 4 < c.lines) := by revert ht9; unfold Dy; split <;> simp_all
  refine Gm ?_
  refine rn4 ?_
  refine Aj Tryz.call34 rfl (fun w hs => Yv (cores := c.cores) (lines := c.lines) hs (by omega) (by omega)) ?_; intro v16
  refine J.know (p := v16.oneCell' = true) (fun w hs => isSlice.one (hs.fact (.head _))) (fun hone16 => ?_)
  refine rn1 ?_
  refine ZbP ?_;intro b5
  refine s_B (cs := [.slice none 0 0, v16, .slice none 0 0]) Tryz.sizeOf39 ?_
  refine Zau ?_
  refine JC.rowNil 93 Core ?_
  refine Cn (γ := Nat × Value) (fun g => (g.1 : Int) ≤ c.cores) (fun g => row 93 g.2 (List.replicate g.1 (Dg c.lines)) :: blk b5 39 [g.2, v16, .slice none 0 0] :: blk b2 39 [.slice none 0 0, .slice none 0 0, .slice none 0 0] :: blk b1 23 c.cells :: L) (fun _ => sl v16 (K4 c.cores c.lines) :: R) (fun g => [(1, bp b1 0), (2, bp b2 0), (5, bp b5 0), (19, vi c.cores), (20, vi (g.1 : Int))]) (fun g => c.cores.toNat - g.1) (0, .slice none 0 0) (by show (0 : Int) ≤ c.cores; omega) alT (fun w hs => Af hs) ?_
  rintro ⟨k, vs⟩ hk
  try simp only at hk ⊢
  refine ZC ?_
  refine cdy ?_ ?_
  ·intro ht21
   refine Gl ?_
   refine cq_ (blk b5 39 [vs, v16, .slice none 0 0] :: row 93 vs (List.replicate k (Dg c.lines)) :: blk b2 39 [.slice none 0 0, .slice none 0 0, .slice none 0 0] :: blk b1 23 c.cells :: L) ?_
   refine jd_ (fun ρ S => blk b5 39 (bif S 8 then [(Gh.dec (γ := Value) (ρ 6)), v16, .slice none 0 0] else [vs, v16, .slice none 0 0]) :: (bif S 6 then row 93 (Gh.dec (γ := Value) (ρ 6)) ((List.replicate k (Dg c.lines)) ++ [(Dg c.lines)]) else row 93 vs (List.replicate k (Dg c.lines))) :: blk b2 39 [.slice none 0 0, .slice none 0 0, .slice none 0 0] :: blk b1 23 c.cells :: L) ?_
   refine dn1 ?_
   refine H6 (v := vs) (fun ρ S hS hB hA => by have h8 : S 8 = false := hA 8 ⟨0, rfl⟩; simp only [h8, cond_false]; exact Cp (hc := Bg pkk (by repeat (first | exact rfl | refine Cr rfl ?_))) Tryz.isAgg35) (fun _ _ _ _ _ => rfl) ?_
   refine dn2 ?_
   refine Fr (γ := Value) (val := fun v => .agg (Core.cells v (Dg c.lines)).toArray) (F := fun v => [sl v (Dg c.lines).lines]) Tryz.call35 (fun _ => rfl) (fun ρ L R w hd hs => Z8 (lines := c.lines) hs (by omega)) (fun _ _ _ _ _ => rfl) ?_
   refine Jq ([(Dg c.lines)] : List Core) Z3 rfl (fun _ => rfl) rfl (fun _ => rfl) rfl rfl (fun ρ R hd j hj => ⟨⟨_, rfl, ⟨_, rfl, hj (sl (Gh.dec (γ := Value) (ρ 4)) (Dg c.lines).lines) (hd.dep (it := ⟨4, _, _, _, _⟩) (by repeat (first | exact List.Mem.head _ | refine List.Mem.tail _ ?_)) ⟨9, rfl⟩ (List.Mem.head _)), by unfold Dg zOp Op.wf An; simp only; omega⟩⟩, trivial⟩) (fun _ _ _ _ _ => rfl) ?_
   refine Dx (e := 93) (xs := (List.replicate k (Dg c.lines))) (ys := [(Dg c.lines)]) (v := vs) Z3 (fun _ => rfl) (fun _ => rfl) rfl (by decide) (fun ρ R hd => (hd.dep (it := ⟨5, _, _, _, _⟩) (by repeat (first | exact List.Mem.head _ | refine List.Mem.tail _ ?_)) ⟨9, rfl⟩ (List.Mem.head _))) (by have : maxN = 16777216 := rfl; simp only [List.length_cons, List.length_nil, List.length_replicate]; omega) (fun ρ g S hS hB hA => ?_) ?_
   ·have ui : upS S 6 6 = true := rfl; have u8 : upS S 6 8 = S 8 := rfl; have h8 : S 8 = false := hA 8 ⟨0, rfl⟩; have rs : (Gh.dec (γ := Value) (Rho.set ρ 6 (Gh.enc g) 6)) = g := rfl
    simp only [ui, hS, u8, h8, rs, cond_true, cond_false]
    exact pex
   refine dn1 ?_
   refine Cy (T0 := 39) (f := 0) (vs := fun ρ => [vs, v16, .slice none 0 0]) (v := fun ρ => (Gh.dec (γ := Value) (ρ 6))) (fun ρ => b5) Tryz.sizeOf35 (fun _ => rfl) (fun _ => rfl) (fun ρ S R w L9 hB hd hs => by have h6 : S 6 = true := hB 6 ⟨9, rfl⟩; simp only [h6, cond_true] at hs; exact A8 pkk hs) (fun _ => rfl) (fun ρ g S hS hB hA => ?_) ?_
   ·have ui : upS S 8 8 = true := rfl; have u6 : upS S 8 6 = S 6 := rfl; have r6 : Rho.set ρ 8 g 6 = ρ 6 := rfl
    simp only [ui, hS, u6, r6, cond_true, cond_false]
    exact pex
   refine dnl ?_; intro ρ
   refine xq_ (blk b5 39 [(Gh.dec (γ := Value) (ρ 6)), v16, .slice none 0 0] :: row 93 (Gh.dec (γ := Value) (ρ 6)) ((List.replicate k (Dg c.lines)) ++ [(Dg c.lines)]) :: blk b2 39 [.slice none 0 0, .slice none 0 0, .slice none 0 0] :: blk b1 23 c.cells :: L) ?_
   generalize (Gh.dec (γ := Value) (ρ 4)) = v26
   generalize (Gh.dec (γ := Value) (ρ 5)) = v27
   generalize (Gh.dec (γ := Value) (ρ 6)) = v28
   refine ZE ?_
   refine Br (k + 1, v28) (by show ((k + 1 : Nat) : Int) ≤ c.cores; omega) (by show c.cores.toNat - (k + 1) < c.cores.toNat - k; omega) alT (fun w hs => ?_)
   try simp only
   rw [Q1]; exact Af hs
  ·intro ht21
   refine Gl ?_
   refine JC.know (p := vs.oneCell' = true) (fun w hs => A8 .hd hs) (fun hones => ?_)
   refine JC.shut (v := vs) .hd ?_
   refine JC.slNil (List UInt8) ?_
   refine ZB ?_
   refine s_B (cs := [vs, v16, .slice none 0 0]) Tryz.sizeOf39 ?_
   refine Ga1 ?_
   have er : Bu c = (⟨List.replicate k (Dg c.lines), K4 c.cores c.lines, []⟩, 0) := by unfold Bu; rw [if_neg ht9, show c.cores.toNat = k by omega]
   rw [er]
   exact D6 (vs, v16) Tryz.isAgg39 Tryz.sizeOf39
theorem Aga {b : Nat} {cv hv fv : Value} {x : Chip} (hs : St (row 93 cv x.cores :: blk b 39 [cv, hv, fv] :: L) R w) (hhv : sl hv x.home ∈ R) : Calls Tryz.prog 61 [bp b 0].toArray w (Bh (fun _ : Unit => .agg (Ar x).cells.toArray) (fun _ => row 93 cv x.cores :: blk b 39 [cv, hv, fv] :: L) (fun _ => R)) := by
 refine Ag Tryz.func61 rfl Tryz.ntmps61 rfl hs ?_
 clear hs
 refine Gm ?_
 refine al_ (cs := zConfig.cells) Tryz.zeroValue23 ?_; intro b2
 refine Gl ?_
 refine cq_ (blk b2 23 zConfig.cells :: row 93 cv x.cores :: blk b 39 [cv, hv, fv] :: L) ?_
 refine jd_ (fun ρ S => blk b2 23 (bif S 11 then [vi (x.cores.length : Int), vi (x.home.length : Int)] else zConfig.cells) :: row 93 cv x.cores :: blk b 39 [cv, hv, fv] :: L) ?_
 refine Zcv ?_;intro ρ
 refine xq_ (blk b2 23 [vi (x.cores.length : Int), vi (x.home.length : Int)] :: row 93 cv x.cores :: blk b 39 [cv, hv, fv] :: L) ?_
 refine Gl ?_
 exact Sp () Tryz.isAgg23 Tryz.sizeOf23
theorem Aal {b : Nat} {cv hv fv : Value} {x : Chip} (hs : St (blk b 39 [cv, hv, fv] :: L) R w) (hcv : sl cv x.cores ∈ R) (hhv : sl hv x.home ∈ R) : Calls Tryz.prog 61 [bp b 0].toArray w (Bh (fun _ : Unit => .agg (Ar x).cells.toArray) (fun _ => blk b 39 [cv, hv, fv] :: L) (fun _ => R)) := by
 refine Ag Tryz.func61 rfl Tryz.ntmps61 rfl hs ?_
 clear hs
 refine Gm ?_
 refine al_ (cs := zConfig.cells) Tryz.zeroValue23 ?_; intro b2
 refine Gl ?_
 refine cq_ (blk b2 23 zConfig.cells :: blk b 39 [cv, hv, fv] :: L) ?_
 refine jd_ (fun ρ S => blk b2 23 (bif S 11 then [vi (x.cores.length : Int), vi (x.home.length : Int)] else zConfig.cells) :: blk b 39 [cv, hv, fv] :: L) ?_
 refine Zcv ?_;intro ρ
 refine xq_ (blk b2 23 [vi (x.cores.length : Int), vi (x.home.length : Int)] :: blk b 39 [cv, hv, fv] :: L) ?_
 refine Gl ?_
 exact Sp () Tryz.isAgg23 Tryz.sizeOf23
theorem Jb {b : Nat} {cv hv fv vm : Value} {fs : Frames} {ms : List Msg} (hs : St (blk b 39 [cv, hv, fv] :: L) R w) (hfv : sl fv fs ∈ R) (hvm : sl vm ms ∈ R) (hmi : ∀ a ∈ ms, MsgIn a) : Calls Tryz.prog 38 [bp b 0, vm].toArray w (Bh (fun v : Value => .tuple #[]) (fun v => blk b 39 [cv, hv, v] :: L) (fun v => sl v (way fs ms) :: R)) := by
 have hlen := Bv hvm hs
 refine Ag Tryz.func38 rfl Tryz.ntmps38 rfl hs ?_
 clear hs
 refine Zau ?_
 refine Cn (γ := Nat × Value) (fun g => g.1 ≤ ms.length) (fun g => blk b 39 [cv, hv, g.2] :: L) (fun g => sl g.2 (way fs (ms.take g.1)) :: R) (fun g => [(0, bp b 0), (6, vm), (7, vi (ms.length : Int)), (8, vi (g.1 : Int))]) (fun g => ms.length - g.1) (0, fv) (Nat.zero_le _) alT (fun w hs => hs.sub .refl (fun f hf => by rcases List.mem_cons.1 hf with e | e; rw [e]; exact hfv; exact e)) ?_
 rintro ⟨k, gv⟩ hk
 try simp only at hk ⊢
 refine ZC ?_
 refine cdy ?_ ?_
 ·intro ht9
  refine Gl ?_
  refine JC.open0 (xs := ms) (v := vm) k mm (by omega) (fun hmw => ?_)
  have hkm : (ms.getD k zMsg) ∈ ms := by rw [List.getD_eq_getElem?_getD, List.getElem?_eq_getElem (by omega)]; exact List.getElem_mem _
  refine ZA ?_
  refine al_ (cs := zMsg.cells) Tryz.zeroValue128 ?_; intro b5
  refine s_B (cs := (ms.getD k zMsg).cells) Tryz.sizeOf128 ?_
  refine Gl ?_
  refine cq_ (blk b 39 [cv, hv, gv] :: blk b5 128 (ms.getD k zMsg).cells :: L) ?_
  refine jd_ (fun ρ S => blk b 39 (bif S 10 then [cv, hv, (Gh.dec (γ := Value) (ρ 7))] else [cv, hv, gv]) :: blk b5 128 (ms.getD k zMsg).cells :: L) ?_
  refine dn4 ?_
  refine H6 (v := gv) (fun ρ S hS hB hA => by have h10 : S 10 = false := hA 10 ⟨0, rfl⟩; simp only [h10, cond_false]; exact Cp (hc := Bg pkk (by repeat (first | exact rfl | refine Cr rfl ?_))) Tryz.isAgg37) (fun _ _ _ _ _ => rfl) ?_
  refine dn1 ?_
  refine Fr (γ := Value) (val := fun v => v) (F := fun v => [sl v (Bd (ms.getD k zMsg))]) Tryz.call58 (fun _ => rfl) (fun ρ L R w hd hs => Y2 hs (hmi _ hkm)) (fun _ _ _ _ _ => rfl) ?_
  refine Fr (γ := Value) (val := fun v => v) (F := fun v => [sl v (C5 (way fs (ms.take k)) (Bd (ms.getD k zMsg)))]) Tryz.call57 (fun _ => rfl) (fun ρ L R w hd hs => frz (Q7 hs (hd.base mm) (hd.dep (it := ⟨6, _, _, _, _⟩) (by repeat (first | exact List.Mem.head _ | refine List.Mem.tail _ ?_)) ⟨9, rfl⟩ (List.Mem.head _)))) (fun ρ g S hS hA => by have u10 : upS S 7 10 = S 10 := rfl; have h10 : S 10 = false := hA 10 ⟨0, rfl⟩; simp only [u10, h10, cond_false]) ?_
  refine dn2 ?_
  refine Cy (T0 := 39) (f := 2) (vs := fun ρ => [cv, hv, gv]) (v := fun ρ => (Gh.dec (γ := Value) (ρ 7))) (fun ρ => b) Tryz.sizeOf37 (fun _ => rfl) (fun _ => rfl) (fun ρ S R w L9 hB hd hs => isSlice.one (hs.fact (hd.dep (it := ⟨7, _, _, _, _⟩) (by repeat (first | exact List.Mem.head _ | refine List.Mem.tail _ ?_)) ⟨9, rfl⟩ (List.Mem.head _)))) (fun _ => rfl) (fun ρ g S hS hB hA => ?_) ?_
  ·have ui : upS S 10 10 = true := rfl; have r7 : Rho.set ρ 10 g 7 = ρ 7 := rfl
   simp only [ui, hS, r7, cond_true, cond_false]
   exact pex
  refine dnl ?_; intro ρ
  refine xq_ (blk b 39 [cv, hv, (Gh.dec (γ := Value) (ρ 7))] :: blk b5 128 (ms.getD k zMsg).cells :: L) ?_
  generalize (Gh.dec (γ := Value) (ρ 6)) = v18
  generalize (Gh.dec (γ := Value) (ρ 7)) = v19
  refine ZE ?_
  refine Br (k + 1, v19) (by show k + 1 ≤ ms.length; omega) (by show ms.length - (k + 1) < ms.length - k; omega) alT (fun w hs => ?_)
  try simp only
  rw [J4 zMsg (by omega), Lw]; exact Af hs
 ·intro ht9
  refine Gl ?_
  have hkl : k = ms.length := by omega
  refine Ax (.inl rfl) (fun B w hs => Gx rfl _ w) (fun w hs => ⟨gv, rfl, by rw [hkl, List.take_length] at hs; exact Af hs⟩)
def SB (x : Chip) (N : Nat) : Prop := ∀ c ∈ x.cores, ∀ l ∈ c.lines, l.serial ≤ (N : Int)
theorem SB.mono {x : Chip} {N K : Nat} (h : SB x N) (hk : N ≤ K) : SB x K := fun c hc l hl => Int.le_trans (h c hc l hl) (by omega)
theorem SB.set {x : Chip} {N : Nat} {p : Nat} {c : Core} (h : SB x N) (hc : ∀ l ∈ c.lines, l.serial ≤ (N : Int)) {hm : List Entry} {fr : Frames} : SB ⟨x.cores.set p c, hm, fr⟩ N := by
 intro d hd l hl
 rcases List.mem_or_eq_of_mem_set hd with h1 | h1
 ·exact h d h1 l hl
 ·subst h1; exact hc l hl
theorem SB.line {c : Core} {N : Int} (h : ∀ l ∈ c.lines, l.serial ≤ N) (h0 : 0 ≤ N) (i : Int) : (Bq c i).serial ≤ N := by
 unfold Bq
 rw [List.getD_eq_getElem?_getD]
 cases e : c.lines[i.toNat]? with
 | none => exact h0
 | some l => exact h l (List.mem_of_getElem? e)
theorem SB.at {x : Chip} {N : Nat} (h : SB x N) (p : Int) : ∀ l ∈ (Aq x p).lines, l.serial ≤ (N : Int) := by
 unfold Aq
 rw [List.getD_eq_getElem?_getD]
 cases e : x.cores[p.toNat]? with
 | none => intro l hl; cases hl
 | some c => exact h c (List.mem_of_getElem? e)
theorem SB.wl {c : Core} {N K : Int} (h : ∀ l ∈ c.lines, l.serial ≤ N) (hk : N ≤ K) {i : Int} {l : Line} {w : Op} (hl : l.serial ≤ K) : ∀ l' ∈ (Cg c i l w).lines, l'.serial ≤ K := by
 intro l' h'
 rcases List.mem_or_eq_of_mem_set h' with h1 | h1
 ·exact Int.le_trans (h l' h1) hk
 ·subst h1; exact hl
theorem SB.hear {c : Core} {N : Nat} (h : ∀ l ∈ c.lines, l.serial ≤ (N : Int)) {id home : Int} {m : Msg} : ∀ l ∈ (Ac c id home m).1.lines, l.serial ≤ (N : Int) := by
 have h0 := SB.line h (by omega) m.line
 unfold Ac
 split
 ·exact h
 split
 ·refine SB.wl h (Int.le_refl _) ?_
  unfold Dr; split <;> (try split) <;> exact h0
 split
 ·split
  ·refine SB.wl h (Int.le_refl _) ?_
   unfold C2; split <;> (try split) <;> exact h0
  split <;> exact h
 split
 ·split
  ·exact h
  split
  ·exact SB.wl h (Int.le_refl _) h0
  ·exact h
 split
 ·exact SB.wl h (Int.le_refl _) h0
 ·exact h
theorem SB.begin {c : Core} {N : Nat} (h : ∀ l ∈ c.lines, l.serial ≤ (N : Int)) {id home : Int} {o : Op} : ∀ l ∈ (Ak c id home o).1.lines, l.serial ≤ ((N + 1 : Nat) : Int) := by
 have h0 := SB.line h (by omega) o.line
 have h1 : (A6 (Bq c o.line) o).serial ≤ ((N + 1 : Nat) : Int) := by
  unfold A6
  split <;> (try split) <;> (simp only; omega)
 unfold Ak
 split
 ·intro l hl; cases hl
 split
 ·intro l hl; cases hl
 split
 ·intro l hl; cases hl
 split
 ·exact SB.wl h (by omega) h1
 ·exact SB.wl h (by omega) h1
theorem SB.zero {N : Nat} : SB Ev N := fun c hc => by cases hc
theorem SB.step {x : Chip} {N : Nat} (h : SB x N) (s : Step) : SB (Al x s).1 (N + 1) := by
 have hc : ∀ fr b, SB (Be ⟨x.cores, x.home, fr⟩ b).1 N := by
  intro fr b
  unfold Be
  split
  ·exact h
  split
  ·exact h
  ·exact SB.set h (SB.hear (SB.at h _))
 unfold Al
 split
 ·split
  ·exact SB.zero
  split
  ·exact SB.zero
  ·exact SB.set (h.mono (by omega)) (SB.begin (SB.at h _))
 split
 ·split
  ·exact SB.zero
  ·exact (hc _ _).mono (by omega)
 split
 ·split
  ·exact SB.zero
  ·exact Zdu
 split
 ·split
  ·exact SB.zero
  ·exact Zdu
 split
 ·split
  ·exact SB.zero
  split
  ·exact SB.zero
  split
  ·exact SB.zero
  ·exact Zdu
 split
 ·split
  ·exact SB.zero
  split
  ·exact Zdu
  ·exact Zdu
 ·exact SB.zero
theorem SB.all : ∀ (l : List Step) {x : Chip} {N : Nat}, SB x N → SB (Cd x l).1 (N + l.length)
 | [], _, _, h => h
 | s :: r, x, N, h => by
  unfold Cd
  split
  ·refine (SB.all r (SB.step h s)).mono ?_
   rw [List.length_cons]; omega
  ·exact (SB.all r h).mono (by rw [List.length_cons]; omega)
theorem SB.build (c : Config) (l : List Step) : SB (build c l).1 300 := by
 unfold Go.Proofs.YtiofgjolhbgkiaaGreatDoor.build
 split
 ·exact SB.zero
 ·rename_i hg
  have h0 : SB (Bu c).1 0 := by
   intro k hk l hl
   unfold Bu at hk
   split at hk
   ·cases hk
   ·have e := List.eq_of_mem_replicate hk
    subst e
    have e2 := List.eq_of_mem_replicate hl
    subst e2
    exact Int.le_refl _
  refine (SB.all (l.take 300) h0).mono ?_
  rw [List.length_take]; omega
def Lv (f : Nat → Bool) : Nat → Bool
 | 0 => true
 | k + 1 => Lv f k && f k
theorem allN_iff {f : Nat → Bool} : ∀ {k : Nat}, Lv f k = true ↔ ∀ i, i < k → f i = true
 | 0 => ⟨fun _ i hi => absurd hi (by omega), fun _ => rfl⟩
 | k + 1 => by
  simp only [Lv, Bool.and_eq_true, allN_iff (k := k)]
  refine ⟨fun h i hi => ?_, fun h => ⟨fun i hi => h i (by omega), h k (by omega)⟩⟩
  by_cases e : i = k
  ·rw [e]; exact h.2
  ·exact h.1 i (by omega)
theorem Agr {f : Nat → Bool} {k i : Nat} (hi : i < k) (h : f i = false) : Lv f k = false := by
 cases e : Lv f k with
 | false => rfl
 | true => rw [allN_iff.1 e i hi] at h; cases h
theorem Xi {f : Nat → Bool} {k : Nat} (h : Lv f k = true) (h2 : f k = true) : Lv f (k + 1) = true := by simp only [Lv, h, h2, Bool.and_self]
structure CX (x : Chip) : Prop where
 n4 : x.cores.length ≤ 4
 h4 : x.home.length ≤ 4
 ln : ∀ p, p < x.cores.length → (cor x p).lines.length = x.home.length
 la : ∀ i, i < x.home.length → (ent x i).last.length = x.cores.length
 ow : ∀ i, i < x.home.length → (ent x i).phase = 1 → 0 ≤ (ent x i).owner ∧ (ent x i).owner < (x.cores.length : Int)
 sh : ∀ i, i < x.home.length → 0 ≤ (ent x i).sharers ∧ (ent x i).sharers < 16
def stN (x : Chip) (i p : Nat) : Int := (lin x i p).state
def ownB (x : Chip) (i p : Nat) : Bool := stN x i p == 2 || (stN x i p == 3 && decide ((ent x i).last.getD p 0 < (lin x i p).serial))
def valN (x : Chip) (i : Nat) : Nat → Option Int
 | 0 => none
 | k + 1 => match valN x i k with
  | some v => some v
  | none => if ownB x i k then some (lin x i k).value else none
def valE (x : Chip) (i : Nat) : Int := if (ent x i).phase = 1 ∧ (lin x i (ent x i).owner.toNat).gave = (ent x i).turn then (lin x i (ent x i).owner.toNat).given else (ent x i).value
def Aab (x : Chip) (i : Nat) : Int := (valN x i x.cores.length).getD (valE x i)
def stale (x : Chip) (i p : Nat) : Bool := stN x i p == 1 && (lin x i p).value != Aab x i
def sameAt (x : Chip) (i : Nat) : Bool := Lv (fun p => !stale x i p) x.cores.length
def K3 (x : Chip) (i : Nat) : Bool := (ent x i).phase == 0
def J1 (x : Chip) (p : Nat) : Bool := (cor x p).wait.kind == 0
def Il (x : Chip) : Bool := Lv (K3 x) x.home.length && Lv (J1 x) x.cores.length
def Fa (x : Chip) : Bool := Lv (K3 x) x.home.length && (decide (x.frames.length = 0) && Lv (J1 x) x.cores.length)
theorem Qi (x : Chip) : Fa x = (decide (x.frames.length = 0) && Il x) := by
 unfold Fa Il
 cases Lv (K3 x) x.home.length <;> cases decide (x.frames.length = 0) <;> simp
section
open Abs
variable {n nl : Nat} {x : Chip} {M : List Int}
theorem Inv.cx (h : Inv n nl x M) : CX x := by
 have h1 := h.nc
 have h2 := h.nh
 have h3 := h.n1
 have h4 := h.l1
 refine ⟨by omega, by omega, fun p hp => ?_, fun i hi => ?_, fun i hi h0 => ?_, fun i hi => ?_⟩
 ·rw [h.ncl p (by omega), h2]
 ·rw [h.nla i (by omega), h1]
 ·have hg := h.gi i (by omega)
  have := hg.f1 h0
  have := hg.own
  simp only [ab] at *
  omega
 ·have hb := h.bit i (by omega)
  have := J9 h3.2 hb.1
  exact this
end
section
variable {n nl : Nat} {x : Chip} {M : List Int}
end
theorem Aam (x : Chip) (b : List UInt8) : (Be x b).1.frames = x.frames ∨ ∃ ms, (Be x b).1.frames = way x.frames ms := by
 unfold Be Ch
 repeat' split
 ·exact .inl rfl
 ·exact .inr ⟨_, rfl⟩
 ·exact .inr ⟨_, rfl⟩
section
variable {n nl : Nat} {x : Chip} {M : List Int}
def once (x : Chip) (k : Int) : Chip × List Done × Int := Al x ⟨2, 0, k, 0, zOp⟩
end
end Go.Proofs.YtiofgjolhbgkiaaGreatDoor
