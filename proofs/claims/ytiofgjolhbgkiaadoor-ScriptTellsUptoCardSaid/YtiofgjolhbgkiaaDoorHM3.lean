/- This file proves parts of what its law needs: each part is told ahead of it. No conditions. -/
import Derived.Test.YtiofgjolhbgkiaaDoorHM2
import Derived.Lib.ItoaLen
import Derived.Lib.Split
import Derived.Lib.SplitLaws
import Derived.Lib.IndexMore
import Derived.Lib.Join
import Derived.Test.YtiofgjolhbgkiaaDoorHM1
import Derived.Lib.LaidTab
import Derived.LaidLaws
import Derived.Stop.LaidErr
import Derived.Shelf.Vars
import Derived.Laws.StructEq
set_option linter.unusedVariables false
set_option linter.unusedSimpArgs false
set_option linter.unusedSectionVars false
section
/- This file proves the rule of a statement whose order is open that writes a whole element of an owned row. No conditions. -/
namespace Go.Proofs.YtiofgjolhbgkiaaDoor
open Go
section
variable {P : Program} {n : Nat} {Q : Exit → Act → World → Prop} {Sh : Rho → (Nat → Bool) → List Chunk} {R0 : List Fact} {al0 : List (Nat × Value)}
variable {ops : Array Oper} {i : Nat} {rest : List Oper} {its : List Item} {x y : Operand} {T ty : TypeId} {pos : String} {aft : Array Edge}
/-- One cell is written with a value that is known to be one cell only. -/
theorem e_store1 {f : Nat} {vs : Rho → List Value} {v : Rho → Value} {T0 : TypeId} (bb : Rho → Nat) (hsz : ∀ w, (sizeOf T).run P w = .ok 1 w) (hx : ∀ ρ, ev n (alOf its al0 ρ) x = some (bp (bb ρ) f)) (hy : ∀ ρ, ev n (alOf its al0 ρ) y = some (v ρ))
    (h1 : ∀ ρ S R' w L', (∀ j, Bef ops j i → S j = true) → Deps ops R0 its i ρ R' → St (Sh ρ S ++ L') R' w → (v ρ).oneCell' = true) (hf : ∀ ρ, Nat.ble (f + 1) (vs ρ).length = true)
    (hSh : ∀ ρ g S, S i = false → (∀ j, Bef ops j i → S j = true) → (∀ j, Bef ops i j → S j = false) → ∃ L1, (Sh ρ S).Perm (blk (bb ρ) T0 (vs ρ) :: L1) ∧ (Sh (Rho.set ρ i g) (upS S i)).Perm (blk (bb ρ) T0 ((vs ρ).take f ++ [v ρ] ++ (vs ρ).drop (f + 1)) :: L1))
    (k : DJ P n ops Q Sh R0 al0 (i + 1) rest (⟨i, none, fun _ => undef, fun _ => [], fun _ => []⟩ :: its)) : DJ P n ops Q Sh R0 al0 i (⟨none, .store T x y, ty, pos, aft, none⟩ :: rest) its := by
  refine dj ⟨⟨i, none, fun _ => undef, fun _ => [], fun _ => []⟩, rfl, rfl, Ind.const _, Ind.const _, Ind.const _, ?_, k⟩
  intro ρ S a L' R' w K hS hbef haft hag hdep hbase hst hK
  rw [if_pos (by simp [Region.wanted])]
  left
  unfold Oper.wp
  obtain ⟨L1, p1, p2⟩ := hSh ρ (ρ i) S hS hbef haft
  have hs' : St (blk (bb ρ) T0 (vs ρ) :: (L1 ++ L')) R' w := hst.perm (p1.append_right L')
  have hone := h1 ρ S R' w _ hbef ⟨hbase, hdep⟩ hst
  have hone' : ∀ u ∈ [v ρ], u.oneCell' = true := by intro u hu; cases List.mem_singleton.1 hu; exact hone
  have hfit : f + [v ρ].length ≤ (vs ρ).length := Nat.le_of_ble_eq_true (hf ρ)
  have hc := cells_arr hone
  have e : (execOp a.eval ⟨none, .store T x y, ty, pos, aft, none⟩).run P w = .ok .skip (w.setRow (bb ρ) ((vs ρ).take f ++ [v ρ] ++ (vs ρ).drop (f + 1)).toArray) := by
    refine exec_store ?_
    rw [agree_ev hag (by simp [Op.operands]) (hx ρ), agree_ev hag (by simp [Op.operands]) (hy ρ)]
    have := run_storeCells_at P (bb ρ) f T0 [v ρ] 0 (vs ρ).toArray w hs'.blk_get (by simpa using hfit) hone'
    simp only [Nat.add_zero, List.length_cons, List.length_nil, Nat.zero_add] at this
    simp [Instr.storeAt, Instr.sureAddr, storeVar, hsz, hc, bp, this]
  rw [e, Oper.upon_skip]
  refine hK (ρ i) _ ?_
  have hnew := hs'.blk_set (setRow_heap' (us := (vs ρ).take f ++ [v ρ] ++ (vs ρ).drop (f + 1)) hs'.blk_get).1 (setRow_heap' hs'.blk_get).2 rfl rfl
  exact hnew.perm (p2.symm.append_right L')
/-- A pure operation whose proof needs what is known of calls that went before. -/
theorem e_pd {op : Oper} {d : Nat} {v : Rho → Value} (hp : ∀ ρ S R' L' w, Deps ops R0 its i ρ R' → St (Sh ρ S ++ L') R' w → PureOp P n (alOf its al0 ρ) (Sh ρ S) R0 op (v ρ)) (hi : Ind ops i v) (hSh : Still ops Sh i)
    (k : DJ P n ops Q Sh R0 al0 (i + 1) rest (⟨i, some d, v, fun _ => [], fun _ => []⟩ :: its)) (hg : op.guard = none := by exact rfl) (hd : op.dst = some d := by exact rfl) : DJ P n ops Q Sh R0 al0 i (op :: rest) its := by
  refine dj ⟨⟨i, some d, v, fun _ => [], fun _ => []⟩, rfl, hd.symm, hi, Ind.const _, Ind.const _, ?_, k⟩
  intro ρ S a L' R' w K hS hbef haft hag hdep hbase hst hK
  have hp0 := hp ρ S R' L' w ⟨hbase, hdep⟩ hst
  rw [if_pos (by simp [Region.wanted, hg])]
  left
  unfold Oper.wp
  have h : Now ops n Sh R0 al0 i its op ρ S a L' R' w := ⟨hS, hag, hdep, hbase, hst⟩
  rw [hp0.2 _ w (fun x hx u hu => agree_ev h.agree hx hu) (h.st.fewer h.base), Oper.upon_value]
  have hsh := hSh ρ (ρ i) S hS haft
  rw [Rho.set_same] at hsh
  have := hK (ρ i) w
  rw [Rho.set_same] at this
  exact this (by rw [hsh]; exact hst)
theorem row_one {α : Type} [Enc α] {L L' : List Chunk} {R : List Fact} {w : World} {T : TypeId} {v : Value} {xs : List α} (hp : Pick L (row T v xs) L') (hs : St L R w) : v.oneCell' = true := isSlice.one (St.fact (List.Mem.head _) (hs.pick hp).shut)
/-- One cell of an element that lies open is written. -/
theorem e_storeF {α : Type} [Enc α] {f k sz : Nat} {hv : Value} {xs : List α} {vs : Rho → List Value} {v : Rho → Value} {T0 : TypeId} (hes : Enc.sz α = sz) (hsz : ∀ w, (sizeOf T).run P w = .ok 1 w) (hx : ∀ ρ, ev n (alOf its al0 ρ) x = some (ep hv sz k f)) (hy : ∀ ρ, ev n (alOf its al0 ρ) y = some (v ρ))
    (h1 : ∀ ρ S R' w L', (∀ j, Bef ops j i → S j = true) → Deps ops R0 its i ρ R' → St (Sh ρ S ++ L') R' w → (v ρ).oneCell' = true) (hf : ∀ ρ, Nat.ble (f + 1) (vs ρ).length = true)
    (hSh : ∀ ρ g S, S i = false → (∀ j, Bef ops j i → S j = true) → (∀ j, Bef ops i j → S j = false) → ∃ L1, (Sh ρ S).Perm (foc T0 hv xs k (vs ρ) :: L1) ∧ (Sh (Rho.set ρ i g) (upS S i)).Perm (foc T0 hv xs k ((vs ρ).take f ++ [v ρ] ++ (vs ρ).drop (f + 1)) :: L1))
    (kk : DJ P n ops Q Sh R0 al0 (i + 1) rest (⟨i, none, fun _ => undef, fun _ => [], fun _ => []⟩ :: its)) : DJ P n ops Q Sh R0 al0 i (⟨none, .store T x y, ty, pos, aft, none⟩ :: rest) its := by
  refine dj ⟨⟨i, none, fun _ => undef, fun _ => [], fun _ => []⟩, rfl, rfl, Ind.const _, Ind.const _, Ind.const _, ?_, kk⟩
  intro ρ S a L' R' w K hS hbef haft hag hdep hbase hst hK
  rw [if_pos (by simp [Region.wanted])]
  left
  unfold Oper.wp
  obtain ⟨L1, p1, p2⟩ := hSh ρ (ρ i) S hS hbef haft
  have hs' : St (foc T0 hv xs k (vs ρ) :: (L1 ++ L')) R' w := hst.perm (p1.append_right L')
  have hone := h1 ρ S R' w _ hbef ⟨hbase, hdep⟩ hst
  have hone' : ∀ u ∈ [v ρ], u.oneCell' = true := by intro u hu; cases List.mem_singleton.1 hu; exact hone
  have hfit : f + [v ρ].length ≤ (vs ρ).length := Nat.le_of_ble_eq_true (hf ρ)
  have hc := cells_arr hone
  subst hes
  obtain ⟨g, cap, cur, hv', hg, hfit', hst'⟩ := foc_write hs' hone' hfit
  have e : (execOp a.eval ⟨none, .store T x y, ty, pos, aft, none⟩).run P w = .ok .skip (w.setRow g (cur.toList.take (k * Enc.sz α + f) ++ [v ρ] ++ cur.toList.drop (k * Enc.sz α + f + [v ρ].length)).toArray) := by
    refine exec_store ?_
    rw [agree_ev hag (by simp [Op.operands]) (hx ρ), agree_ev hag (by simp [Op.operands]) (hy ρ), hv', ep_eq, add_mk]
    have := run_storeCells_at P g (k * Enc.sz α + f) T0 [v ρ] 0 cur w hg (by simpa using hfit') hone'
    simp only [Nat.add_zero, List.length_cons, List.length_nil, Nat.zero_add] at this ⊢
    simp [Instr.storeAt, Instr.sureAddr, storeVar, hsz, hc, this]
  rw [e, Oper.upon_skip]
  refine hK (ρ i) _ ?_
  exact hst'.perm (p2.symm.append_right L')
/-- Elements are put behind an owned row. -/
theorem e_append {α : Type} [Enc α] {t e : TypeId} {d sz bytes : Nat} {z : Value} {xs ys : List α} {v : Value} {u : Rho → Value} (he : ElemOf P t e sz z bytes) (hx : ∀ ρ, ev n (alOf its al0 ρ) x = some v) (hy : ∀ ρ, ev n (alOf its al0 ρ) y = some (u ρ)) (hsz : Enc.sz α = sz) (hpos : 0 < sz)
    (hm : ∀ ρ R', Deps ops R0 its i ρ R' → sl (u ρ) ys ∈ R') (hb : xs.length + ys.length ≤ maxN)
    (hSh : ∀ ρ (g : Value) S, S i = false → (∀ j, Bef ops j i → S j = true) → (∀ j, Bef ops i j → S j = false) → ∃ L1, (Sh ρ S).Perm (row e v xs :: L1) ∧ (Sh (Rho.set ρ i (Gh.enc g)) (upS S i)).Perm (row e g (xs ++ ys) :: L1))
    (k : DJ P n ops Q Sh R0 al0 (i + 1) rest (⟨i, some d, fun ρ => (Gh.dec (ρ i) : Value), fun _ => [], fun _ => []⟩ :: its)) :
    DJ P n ops Q Sh R0 al0 i (⟨some d, .call { callee := .builtin .append, args := #[x, y], argTypes := #[t, t] }, ty, pos, aft, none⟩ :: rest) its := by
  refine dj ⟨⟨i, some d, fun ρ => (Gh.dec (ρ i) : Value), fun _ => [], fun _ => []⟩, rfl, rfl, Ind.self (h := fun g => (Gh.dec g : Value)), Ind.const _, Ind.const _, ?_, k⟩
  intro ρ S a L' R' w K hS hbef haft hag hdep hbase hst hK
  rw [if_pos (by simp [Region.wanted])]
  left
  unfold Oper.wp
  obtain ⟨L1, p1, _⟩ := hSh ρ undef S hS hbef haft
  have hs' : St (row e v xs :: (L1 ++ L')) R' w := hst.perm (p1.append_right L')
  obtain ⟨v', w', h1, h2⟩ := append_run (ty := ty) he hsz hpos hs' (hm ρ R' ⟨hbase, hdep⟩) hb
  have hx' := agree_ev hag (by simp [Op.operands, Call.operands]) (hx ρ)
  have hy' := agree_ev hag (by simp [Op.operands, Call.operands]) (hy ρ)
  rw [exec_append (w' := w') (v := v') (by rw [hx', hy']; exact h1), Oper.upon_value]
  obtain ⟨L2, q1, q2⟩ := hSh ρ v' S hS hbef haft
  have e2 : (Rho.set ρ i (Gh.enc v')) i = Gh.enc v' := by simp [Rho.set]
  have h3 := h2
  have hL : L1.Perm L2 := (List.perm_cons _).1 (p1.symm.trans q1)
  have := hK (Gh.enc v') w' ((h3.perm ((hL.append_right L').cons _)).perm (by
    refine List.Perm.trans ?_ (q2.symm.append_right L')
    exact List.Perm.refl _))
  simp only [e2, Gh.ok] at this
  exact this
/-- The whole element k of a row is written anew. -/
theorem e_storeR {α : Type} [Enc α] {v : Value} {xs : List α} {k sz : Nat} {T0 : TypeId} {e' : α} {c : Rho → Value} {cs : Rho → List Value} (hsz : ∀ w, (sizeOf T).run P w = .ok sz w) (hes : Enc.sz α = sz) (hi : k < xs.length)
    (hx : ∀ ρ, ev n (alOf its al0 ρ) x = some (ep v sz k 0)) (hy : ∀ ρ, ev n (alOf its al0 ρ) y = some (c ρ)) (hc : ∀ ρ, (c ρ).oneCell' = true → (c ρ).cells = (cs ρ).toArray) (hone : ∀ ρ R' w L', Deps ops R0 its i ρ R' → St L' R' w → (c ρ).oneCell' = true)
    (hrd : ∀ ρ R', Deps ops R0 its i ρ R' → ∀ j, (∀ q ∈ R', q.p j) → Enc.rd e' (cs ρ) j)
    (hSh : ∀ ρ g S, S i = false → (∀ j, Bef ops j i → S j = true) → (∀ j, Bef ops i j → S j = false) → ∃ L1, (Sh ρ S).Perm (row T0 v xs :: L1) ∧ (Sh (Rho.set ρ i g) (upS S i)).Perm (row T0 v (xs.set k e') :: L1))
    (kk : DJ P n ops Q Sh R0 al0 (i + 1) rest (⟨i, none, fun _ => undef, fun _ => [], fun _ => []⟩ :: its)) : DJ P n ops Q Sh R0 al0 i (⟨none, .store T x y, ty, pos, aft, none⟩ :: rest) its := by
  refine dj ⟨⟨i, none, fun _ => undef, fun _ => [], fun _ => []⟩, rfl, rfl, Ind.const _, Ind.const _, Ind.const _, ?_, kk⟩
  intro ρ S a L' R' w K hS hbef haft hag hdep hbase hst hK
  rw [if_pos (by simp [Region.wanted])]
  left
  unfold Oper.wp
  obtain ⟨L1, p1, p2⟩ := hSh ρ (ρ i) S hS hbef haft
  have hs' : St (row T0 v xs :: (L1 ++ L')) R' w := hst.perm (p1.append_right L')
  have hdeps : Deps ops R0 its i ρ R' := ⟨hbase, hdep⟩
  have h1c := hone ρ R' w _ hdeps hst
  obtain ⟨j0, _, hr0⟩ := hst.ex
  have hrd0 := hrd ρ R' hdeps
  have hl := Enc.len _ _ _ (hrd0 j0 hr0)
  have h1 := Enc.one _ _ _ (hrd0 j0 hr0)
  obtain ⟨e, he⟩ : ∃ e, xs[k]? = some e := ⟨xs[k], List.getElem?_eq_getElem hi⟩
  subst hes
  have hf : ∀ ds m, Enc.rd e ds m → 0 + (cs ρ).length ≤ ds.length := fun ds m hr => by rw [Enc.len _ _ _ hr, hl]; omega
  have hw : ∀ j, (∀ q ∈ R', q.p j) → ∀ ds, Enc.rd e ds j → Enc.rd e' (ds.take 0 ++ cs ρ ++ ds.drop (0 + (cs ρ).length)) j := fun j hj ds hr => by
    have hd := Enc.len _ _ _ hr
    have : ds.take 0 ++ cs ρ ++ ds.drop (0 + (cs ρ).length) = cs ρ := by rw [List.drop_of_length_le (by omega)]; simp
    rw [this]; exact hrd0 j hj
  obtain ⟨g, cap, cur, hv, hg, hfit, hst'⟩ := row_write (w' := w) hs' he hf hw
  have hcx := hc ρ h1c
  have e9 : (execOp a.eval ⟨none, .store T x y, ty, pos, aft, none⟩).run P w = .ok .skip (w.setRow g (cur.toList.take (k * Enc.sz α + 0) ++ cs ρ ++ cur.toList.drop (k * Enc.sz α + 0 + (cs ρ).length)).toArray) := by
    refine exec_store ?_
    rw [agree_ev hag (by simp [Op.operands]) (hx ρ), agree_ev hag (by simp [Op.operands]) (hy ρ), hv, ep_eq, add_mk]
    have := run_storeCells_at P g (k * Enc.sz α + 0) T0 (cs ρ) 0 cur w hg (by simpa using hfit) h1
    simp only [Nat.add_zero, Nat.zero_add] at this ⊢
    rw [hl] at this ⊢
    simp [Instr.storeAt, Instr.sureAddr, storeVar, hsz, hcx, hl, this]
  rw [e9, Oper.upon_skip]
  refine hK (ρ i) _ ?_
  exact hst'.perm (p2.symm.append_right L')
end
end Go.Proofs.YtiofgjolhbgkiaaDoor
end
section
/- This file proves the rules that a reader of words needs: errors that are none, a row of words without its first, what a call in an open statement told. No conditions. -/
namespace Go.Proofs.YtiofgjolhbgkiaaDoor
open Go
open Go.Lib (itoa atoiAll)
abbrev toW (b : Bs) : Wd := b
def okA (w : Bs) : Bool := match atoiAll w with
  | .ok _ => true
  | _ => false
/-- No error, or one. -/
def erV (b : Bool) (g : TypeId × Value) : Value := bif b then .nilIface else .iface g.1 g.2
theorem bs_data (l : Bs) : (bstr l).data.toList = l := rfl
theorem bs_map (l : List Bs) : (l.map bstr).map (·.data.toList) = l := by
  rw [List.map_map]
  exact List.map_id l
theorem vOf_in (w : Bs) : In64 (vOf w) := by
  unfold vOf
  cases h : atoiAll w
  · exact atoi_in h
  · show In64 0; exact ⟨by decide, by decide⟩
  · unfold Go.Lib.atoiSat; simp only; split <;> exact ⟨by decide, by decide⟩
theorem ok_of (w : Bs) : okOf w = (okA w && decide (itoa (vOf w) = w)) := by
  unfold okOf numOf okA vOf
  cases h : atoiAll w
  · rename_i v; by_cases e : itoa v = w <;> simp [e]
  · rfl
  · rfl
theorem num3 (w : Bs) : (okA w = true ∧ itoa (vOf w) = w) ∨ (okA w = true ∧ itoa (vOf w) ≠ w) ∨ (okA w = false ∧ True) := by
  cases h1 : okA w
  · exact .inr (.inr ⟨rfl, trivial⟩)
  · by_cases h2 : itoa (vOf w) = w
    · exact .inl ⟨rfl, h2⟩
    · exact .inr (.inl ⟨rfl, h2⟩)
section
variable {P : Program} {n : Nat} {ops : Array Oper} {Q : Exit → Act → World → Prop} {rest : List Oper} {L L' : List Chunk} {R : List Fact} {al : List (Nat × Value)} {d : Nat} {x y : Operand} {T ty : TypeId} {pos : String} {aft : Array Edge}
theorem guard_er {op : BinOp} {c : Value} {b : Bool} {g : TypeId × Value} (w : World) : (eqGuard op T x (.const c) (erV b g) .nilIface).run P w = .ok () w := by
  unfold eqGuard erV; cases b <;> cases op <;> cases x <;> rfl
theorem b_erne {ms : Array (String × TypeId)} {b : Bool} {g : TypeId × Value} (hp : P.underlying T = some (.interface ms)) (w : World) : (binOp .neq T (erV b g) .nilIface).run P w = .ok (.bool (!b)) w := by
  have h1 : ∀ d : Nat, (Op.equalIn (d + 1) T .nilIface .nilIface).run P w = .ok true w := fun d => by simp [Op.equalIn, run_underlying hp]
  have h2 : ∀ d : Nat, (Op.equalIn (d + 1) T (.iface g.1 g.2) .nilIface).run P w = .ok false w := fun d => by simp [Op.equalIn, run_underlying hp]
  unfold erV
  cases b
  · simp only [binOp, cond_false]; simp [Op.equal, Op.maxDepth, h2 9999]
  · simp only [binOp, cond_true]; simp [Op.equal, Op.maxDepth, h1 9999]
theorem b_erne_T {ms : Array (String × TypeId)} {b : Bool} {g : TypeId × Value} (hp : P.underlying T = some (.interface ms)) (h : b = false) (w : World) : (binOp .neq T (erV b g) .nilIface).run P w = .ok (.bool true) w := by rw [b_erne hp, h]; rfl
theorem b_erne_F {ms : Array (String × TypeId)} {b : Bool} {g : TypeId × Value} (hp : P.underlying T = some (.interface ms)) (h : b = true) (w : World) : (binOp .neq T (erV b g) .nilIface).run P w = .ok (.bool false) w := by rw [b_erne hp, h]; rfl
theorem q_sadd {a b : List UInt8} {U : TypeId} (hx : ev n al x = some (.string (bstr a)) := by exact rfl) (hy : ev n al y = some (.string (bstr b)) := by exact rfl) (h : a.length + b.length ≤ 9223372036854775807 := by (try simp only [List.length_append, List.length_cons, List.length_nil]); omega) : PureOp P n al L R ⟨some d, .binOp .add T x y U, ty, pos, aft, none⟩ (.string (bstr (a ++ b))) := q_s (b_sadd h) hx hy
/-! ### A row of words without its first -/
theorem sl_cons {α : Type} [Enc α] {v : Value} {e : α} {r : List α} {w : World} (hm : sl v (e :: r) ∈ R) (hs : St L R w) : ∃ a cap, v = .slice (some a) (r.length + 1) cap ∧ r.length + 1 ≤ cap := by
  obtain ⟨m, hle, hr⟩ := hs.ex
  obtain ⟨base, cap, hv, ⟨hN, hcap⟩, hc⟩ := hr _ hm
  obtain ⟨a, cells, T, fz, cs, h1, h2, h3, h4, h5⟩ := hc (List.cons_ne_nil _ _)
  exact ⟨a, cap, by rw [hv, h1]; rfl, by simpa using hcap⟩
theorem sl_tail {α : Type} [Enc α] {a : Addr} {k cap : Nat} {e : α} {r : List α} {w : World} (hk : k = r.length + 1) (hm : sl (.slice (some a) k cap) (e :: r) ∈ R) (hs : St L R w) :
    St L (sl (.slice (if cap = 1 then some a else some (a.add (1 * Enc.sz α))) (r.length + 1 - 1) (cap - 1)) r :: R) w := by
  obtain ⟨m, j, hd, hmw, hj, hst, hr⟩ := hs
  refine ⟨m, j, hd, hmw, hj, hst, fun f hf => ?_⟩
  rcases List.mem_cons.1 hf with rfl | hf
  · obtain ⟨base, cap', hv, ⟨hN, hcap⟩, hc⟩ := hr _ hm
    obtain ⟨a', cells, T, fz, cs, h1, h2, h3, h4, h5⟩ := hc (List.cons_ne_nil _ _)
    injection hv with e1 e2 e3
    subst e3
    have ea : a = a' := by rw [h1] at e1; exact Option.some.inj e1
    subst ea
    have hl : (e :: r).length = r.length + 1 := rfl
    refine ⟨_, cap - 1, rfl, ⟨by omega, by omega⟩, fun hne => ?_⟩
    have hpos : 0 < r.length := List.length_pos_iff.2 hne
    obtain ⟨c1, c2, g1, g2, g3⟩ := h5
    have hl1 := Enc.len _ _ _ g2
    have hl2 := g3.len
    rw [if_neg (show ¬ cap = 1 by omega)]
    refine ⟨_, cells, T, fz, c2, rfl, by rw [add_none h2], by rw [add_none h2]; exact h3, ?_, g3⟩
    rw [add_none h2]
    show (cells.toList.drop (a.off + 1 * Enc.sz α)).take (r.length * Enc.sz α) = c2
    rw [Nat.one_mul, ← List.drop_drop]
    rw [hl, Nat.succ_mul] at h4
    have e4 : (List.drop a.off cells.toList).drop (Enc.sz α) = ((List.drop a.off cells.toList).drop (Enc.sz α)) := rfl
    have h6 : ((List.drop a.off cells.toList).take (r.length * Enc.sz α + Enc.sz α)).drop (Enc.sz α) = c2 := by rw [h4, g1, ← hl1]; simp
    rw [List.drop_take, Nat.add_sub_cancel] at h6
    exact h6
  · exact hr f hf
/-- The first cell of a package's variable. -/
def celF (g : Nat) (c : Value) : Fact := ⟨fun m => ∃ cells T fz, m (g + 1) = some (.ob (.cells cells T fz)) ∧ cells[0]? = some c, fun m m' h ⟨cs, T, fz, e, h2⟩ => ⟨cs, T, fz, h _ _ e, h2⟩⟩
theorem var_heap {P : Program} {w : World} {name : String} {g : Nat} {cs : Array Value} (hg : P.globalNamed name = some g) (h : w.var? P name = some cs) : (varF g cs.toList).p (memOf w) := by
  unfold World.var? at h
  rw [hg] at h
  simp only [Option.bind_eq_bind, Option.bind_some] at h
  split at h
  · rename_i c T fz hb
    simp only [Option.some.injEq] at h
    subst h
    exact ⟨T, fz, by simpa using ob_mem hb⟩
  · cases h
theorem cell_heap {w : World} {g : Nat} {c : Value} (h : w.cell? ⟨g, 0, none⟩ = some c) : (celF g c).p (memOf w) := by
  unfold World.cell? at h
  split at h
  · rename_i cs T fz hb
    exact ⟨cs, T, fz, ob_mem hb, by simpa using h⟩
  · cases h
/-- What is known of no memory. -/
def prF (p : Prop) : Fact := ⟨fun _ => p, fun _ _ _ h => h⟩
theorem St.prF {w : World} {p : Prop} (h : p) (hs : St L R w) : St L (prF p :: R) w := by
  obtain ⟨m, j, hd, hm, hj, hst, hr⟩ := hs
  exact ⟨m, j, hd, hm, hj, hst, fun q hq => by
    rcases List.mem_cons.1 hq with e | e
    · rw [e]; exact h
    · exact hr q e⟩
theorem calls_pst {γ δ : Type} {f : FuncId} {args : Array Value} {w : World} {val : γ → Value} {val2 : δ → Value} {L : γ → List Chunk} {R : γ → List Fact} {L2 : δ → List Chunk} {R2 : δ → List Fact} (h : Calls P f args w (Post val L R)) (hk : ∀ g w', St (L g) (R g) w' → ∃ d, val g = val2 d ∧ St (L2 d) (R2 d) w') : Calls P f args w (Post val2 L2 R2) := by
  refine h.mono ?_
  rintro e w' ⟨g, rfl, hs'⟩
  obtain ⟨d, h1, h2⟩ := hk g w' hs'
  exact ⟨d, by rw [h1], h2⟩
theorem sl_nilF {α : Type} [Enc α] {w : World} (hs : St L R w) : St L (sl (α := α) (.slice none 0 0) [] :: R) w := hs.addFact fun i _ => ⟨none, 0, rfl, ⟨Nat.zero_le _, Nat.le_refl _⟩, fun h => absurd rfl h⟩
end
section
variable {P : Program} {n : Nat} {Q : Exit → Act → World → Prop} {Sh : Rho → (Nat → Bool) → List Chunk} {R0 : List Fact} {al0 : List (Nat × Value)}
variable {ops : Array Oper} {i : Nat} {rest : List Oper} {its : List Item} {x y : Operand} {T ty : TypeId} {pos : String} {aft : Array Edge}
/-- A pure operation that looks at what calls that went before left. -/
theorem e_pw {op : Oper} {d : Nat} {v : Rho → Value} (hp : ∀ ρ S R', Deps ops R0 its i ρ R' → PureOp P n (alOf its al0 ρ) (Sh ρ S) R' op (v ρ)) (hi : Ind ops i v) (hSh : Still ops Sh i)
    (k : DJ P n ops Q Sh R0 al0 (i + 1) rest (⟨i, some d, v, fun _ => [], fun _ => []⟩ :: its)) (hg : op.guard = none := by exact rfl) (hd : op.dst = some d := by exact rfl) : DJ P n ops Q Sh R0 al0 i (op :: rest) its := by
  refine dj ⟨⟨i, some d, v, fun _ => [], fun _ => []⟩, rfl, hd.symm, hi, Ind.const _, Ind.const _, ?_, k⟩
  intro ρ S a L' R' w K hS hbef haft hag hdep hbase hst hK
  have hp0 := hp ρ S R' ⟨hbase, hdep⟩
  rw [if_pos (by simp [Region.wanted, hg])]
  left
  unfold Oper.wp
  have h : Now ops n Sh R0 al0 i its op ρ S a L' R' w := ⟨hS, hag, hdep, hbase, hst⟩
  rw [hp0.2 _ w (fun x hx u hu => agree_ev h.agree hx hu) (h.st.fewer fun _ h => h), Oper.upon_value]
  have hsh := hSh ρ (ρ i) S hS haft
  rw [Rho.set_same] at hsh
  have := hK (ρ i) w
  rw [Rho.set_same] at this
  exact this (by rw [hsh]; exact hst)
/-- A new slice of parts, that is owned. -/
theorem e_litC {α : Type} [Enc α] {t el : TypeId} {d sz bytes len : Nat} {z : Value} {parts : List (Nat × Operand)} {vs : Rho → List Value} (xs : List α) (he : ElemOf P t el sz z bytes) (hsz : Enc.sz α = sz)
    (ha : ∀ ρ, evL n (alOf its al0 ρ) (parts.map (·.2)) = some (vs ρ)) (hidx : parts.map (·.1) = List.range' 0 len) (hlv : ∀ ρ, (vs ρ).length = len) (hsmall : Nat.ble (len * sz) 1000 = true) (hsm2 : Nat.ble len 1000 = true)
    (hrd : ∀ ρ R', Deps ops R0 its i ρ R' → ∀ j, (∀ q ∈ R', q.p j) → RdV xs (vs ρ) j) (hSh : Still ops Sh i)
    (k : DJ P n ops Q Sh R0 al0 (i + 1) rest (⟨i, some d, fun ρ => (Gh.dec (ρ i) : Value), fun ρ => [prF ((Gh.dec (ρ i) : Value).oneCell' = true)], fun ρ => [row el (Gh.dec (ρ i) : Value) xs]⟩ :: its)) :
    DJ P n ops Q Sh R0 al0 i (⟨some d, .buildSlice t len parts.toArray, ty, pos, aft, none⟩ :: rest) its :=
  e_res (γ := Value) (val := fun v => v) (F := fun v => [prF (v.oneCell' = true)]) (C := fun v => [row el v xs]) rfl rfl hSh (fun ρ S ac L' R' w K h hK => by
    obtain ⟨j, hj, hrj⟩ := h.st.ex
    have hrd' := hrd ρ R' ⟨h.base, h.deps⟩
    obtain ⟨h1, h2, h3⟩ := (hrd' j hrj).list
    have hlen := hlv ρ
    have hb := Nat.le_of_ble_eq_true hsmall
    have hb2 := Nat.le_of_ble_eq_true hsm2
    have hrun := run_buildSlice (vs := vs ρ) he (fun v hv => by rw [h2 v hv, hsz]) (by rw [hlen]; exact hb) w
    have e : (execOp ac.eval ⟨some d, .buildSlice t len parts.toArray, ty, pos, aft, none⟩).run P w = .ok (.value (.slice (some ⟨w.heap.size, 0, none⟩) len len)) (w.alloc (.cells ((vs ρ).flatMap fun v => v.cells.toList).toArray el)) := by
      show (Instr.buildSlice t len (parts.toArray.map fun (i, x) => (i, ac.eval x)) >>= fun v => Pure.pure (Next.value v)).run P w = _
      have hp : (parts.toArray.map fun (i, x) => (i, ac.eval x)) = ((parts.map (·.1)).zip (vs ρ)).toArray := by
        rw [← agree_evL h.agree (fun x hx => by simpa [Op.operands] using hx) (ha ρ)]
        simp only [List.map_toArray, List.map_map, List.zip_map', Function.comp_def]
      rw [hp, hidx, Sem.run_bind, ← hlen, hrun]; rfl
    unfold Oper.wp
    rw [e, Oper.upon_value]
    refine hK _ _ ?_
    obtain ⟨m, j', hd, hmw, hjw, hst, hr⟩ := h.st
    have hnew : St (row el (.slice (some ⟨w.heap.size, 0, none⟩) len len) xs :: (Sh ρ S ++ L')) R' (w.alloc (.cells ((vs ρ).flatMap fun v => v.cells.toList).toArray el)) := by
      obtain ⟨g1, g2, g3⟩ := (hrd' j' hr).list
      have hcl : ((vs ρ).flatMap fun v => v.cells.toList).length = len * sz := by rw [g3.len, g1, hlen, hsz]
      exact St.newC hd hmw hjw hst hr rfl rfl rfl ⟨by rw [g1, hlen]; have : maxN = 16777216 := rfl; omega, .inr ⟨w.heap.size, len, _, _, by rw [g1, hlen], one_self _ _, by rw [g1, hlen]; exact Nat.le_refl _, by unfold maxLen; omega, by rw [hsz]; simpa using hcl, rfl, by
        rw [g1, hlen, hsz, ← hcl, List.toList_toArray, List.take_length]; exact g3⟩⟩
    exact St.prF rfl hnew) k
end
end Go.Proofs.YtiofgjolhbgkiaaDoor
end
section
/- This file proves that what steps have not is of no weight to a chip, and that a text's pieces are what strings.Split and Cut tell. No conditions. -/
namespace Go.Proofs.YtiofgjolhbgkiaaDoor
theorem norm_do {x : Chip} {s : Step} (hb : ¬ badStep s) (hv : s.kind = 1 → s.op.kind = 1 ∨ s.op.kind = 4 → s.op.value = 0) : chipDo x (normS s) = chipDo x s := by
  unfold badStep at hb
  by_cases h1 : s.kind = 1
  · have : (if s.op.kind = 2 ∨ s.op.kind = 3 then s.op.value else 0) = s.op.value := by
      split
      · rfl
      · exact (hv h1 (by omega)).symm
    have e : normS s = ⟨1, s.node, 0, 0, s.op⟩ := by unfold normS; rw [if_pos h1, this]
    rw [e]; unfold chipDo; simp only [if_true]; rw [if_pos h1]
  by_cases h6 : s.kind = 6
  · have e : normS s = ⟨6, s.node, 0, 0, zOp⟩ := by unfold normS; rw [if_neg h1, if_pos h6]
    rw [e]; unfold chipDo; simp only; rw [h6]; rfl
  by_cases h5 : s.kind = 5
  · have e : normS s = ⟨5, 0, s.n, s.bit, zOp⟩ := by unfold normS; rw [if_neg h1, if_neg h6, if_pos h5]
    rw [e]; unfold chipDo; simp only; rw [h5]; rfl
  · have e : normS s = ⟨s.kind, 0, s.n, 0, zOp⟩ := by unfold normS; rw [if_neg h1, if_neg h6, if_neg h5]
    rw [e]; unfold chipDo; simp only
    rw [if_neg h1, if_neg h1, if_neg h5, if_neg h5, if_neg h6, if_neg h6]
/-! ### strings.Split, strings.Cut at one byte -/
open Go.Lib in
theorem index_free {c : UInt8} : ∀ {s : Bs}, c ∉ s → index s [c] = -1
  | [], _ => rfl
  | b :: l, h => by
    have ih := index_free (c := c) (s := l) (fun hm => h (List.mem_cons_of_mem _ hm))
    have hb : ¬ c = b := fun e => h (by rw [e]; exact List.mem_cons_self ..)
    unfold index
    rw [if_neg (by simp [hb]), if_pos (by rw [ih]; rfl)]
open Go.Lib in
theorem index_hit {c : UInt8} {r : Bs} : ∀ {w : Bs}, c ∉ w → index (w ++ c :: r) [c] = (w.length : Int)
  | [], _ => by
    rw [List.nil_append]
    unfold index
    rw [if_pos (by simp)]; rfl
  | b :: l, h => by
    have ih := index_hit (r := r) (w := l) (fun hm => h (List.mem_cons_of_mem _ hm))
    have hb : ¬ c = b := fun e => h (by rw [e]; exact List.mem_cons_self ..)
    rw [List.cons_append]
    unfold index
    rw [if_neg (by simp [hb]), if_neg (by rw [ih]; simp), ih, List.length_cons]
    omega
open Go.Lib in
theorem splitK_cut (c : UInt8) : ∀ (k : Nat) (s : Bs), s.count c = k → splitK [c] 0 k s = cutAt c s
  | 0, s, h => by
    have : c ∉ s := fun hm => by have := List.count_pos_iff.2 hm; omega
    rw [cutAt_free this]; rfl
  | k + 1, s, h => by
    have hm : c ∈ s := List.count_pos_iff.1 (by omega)
    obtain ⟨w, r, rfl, hw⟩ := List.eq_append_cons_of_mem hm
    have hc : r.count c = k := by
      rw [List.count_append, List.count_cons_self, List.count_eq_zero.2 hw] at h; omega
    unfold splitK
    rw [index_hit hw, if_neg (by simp), cutAt_app hw]
    have e1 : (w ++ c :: r).take ((w.length : Int).toNat + 0) = w := by simp
    have e2 : (w ++ c :: r).drop ((w.length : Int).toNat + [c].length) = r := by
      rw [show (w.length : Int).toNat + [c].length = (w ++ [c]).length by simp, show w ++ c :: r = (w ++ [c]) ++ r by simp, List.drop_left]
    rw [e1, e2, splitK_cut c k r hc]
open Go.Lib in
theorem split_cut (c : UInt8) (s : Bs) : split s [c] = cutAt c s := by
  unfold split; rw [count_one]; exact splitK_cut c _ s rfl
open Go.Lib in
theorem cut_free {c : UInt8} {s : Bs} (h : c ∉ s) : cut s [c] = (s, [], false) := by
  unfold cut; rw [index_free h]; rfl
open Go.Lib in
theorem cut_hit {c : UInt8} {w r : Bs} (h : c ∉ w) : cut (w ++ c :: r) [c] = (w, r, true) := by
  unfold cut; rw [index_hit h, if_pos (by omega)]
  have e1 : (w ++ c :: r).take ((w.length : Int).toNat) = w := by simp
  have e2 : (w ++ c :: r).drop ((w.length : Int).toNat + [c].length) = r := by
    rw [show (w.length : Int).toNat + [c].length = (w ++ [c]).length by simp, show w ++ c :: r = (w ++ [c]) ++ r by simp, List.drop_left]
  rw [e1, e2]
open Go.Lib in
theorem join_is : ∀ (l : List Bs), join l [32] = joinW l
  | [] => rfl
  | [x] => by rw [join_one]; rfl
  | x :: y :: r => by
    have ih := join_is (y :: r)
    unfold join at ih ⊢
    rw [joinW, ← ih]
    simp [List.intercalate]
end Go.Proofs.YtiofgjolhbgkiaaDoor
end
section
/- This file proves how many plain operations are walked in one step; the facts of types are found by their numbers. No conditions. -/
set_option maxHeartbeats 1000000
set_option maxRecDepth 8000
namespace Go.Proofs.YtiofgjolhbgkiaaDoor
open Go
class CFo (T f : Nat) (off : outParam Nat) : Prop where
  h : FieldOff Tryd.prog T f off
class CAg (T : Nat) : Prop where
  h : ∀ w, (isAgg T).run Tryd.prog w = .ok true w
class CNa (T : Nat) : Prop where
  h : ∀ w, (isAgg T).run Tryd.prog w = .ok false w
class CSz (T : Nat) (sz : outParam Nat) : Prop where
  h : ∀ w, (sizeOf T).run Tryd.prog w = .ok sz w
class CSo (T : Nat) (e sz : outParam Nat) : Prop where
  h : SliceOf Tryd.prog T e sz
class CUs (T : Nat) (e : outParam Nat) : Prop where
  h : Tryd.prog.underlying T = some (.slice e)
class CSt (T : Nat) (zc : outParam (List Value)) (pl : outParam (List (Nat × Nat))) : Prop where
  h : StructOf Tryd.prog T zc pl
instance : CNa 1 := ⟨Tryd.isAgg1⟩
instance : CSz 1 1 := ⟨Tryd.sizeOf1⟩
instance : CNa 2 := ⟨Tryd.isAgg2⟩
instance : CSz 2 1 := ⟨Tryd.sizeOf2⟩
instance : CNa 3 := ⟨Tryd.isAgg3⟩
instance : CSz 3 1 := ⟨Tryd.sizeOf3⟩
instance : CNa 4 := ⟨Tryd.isAgg4⟩
instance : CSz 4 1 := ⟨Tryd.sizeOf4⟩
instance : CNa 5 := ⟨Tryd.isAgg5⟩
instance : CSz 5 1 := ⟨Tryd.sizeOf5⟩
instance : CNa 6 := ⟨Tryd.isAgg6⟩
instance : CSz 6 1 := ⟨Tryd.sizeOf6⟩
instance : CFo 7 0 0 := ⟨fo_7_0⟩
instance : CFo 7 1 1 := ⟨fo_7_1⟩
instance : CFo 7 2 2 := ⟨fo_7_2⟩
instance : CFo 7 3 3 := ⟨fo_7_3⟩
instance : CSt 7 (Tryd.t7.zero.getD undef).cells.toList [(0, 1), (1, 1), (2, 1), (3, 1)] := ⟨st_7⟩
instance : CAg 7 := ⟨Tryd.isAgg7⟩
instance : CSz 7 4 := ⟨Tryd.sizeOf7⟩
instance : CFo 8 0 0 := ⟨fo_8_0⟩
instance : CFo 8 1 1 := ⟨fo_8_1⟩
instance : CFo 8 2 2 := ⟨fo_8_2⟩
instance : CFo 8 3 3 := ⟨fo_8_3⟩
instance : CSt 8 (Tryd.t8.zero.getD undef).cells.toList [(0, 1), (1, 1), (2, 1), (3, 1)] := ⟨st_8⟩
instance : CAg 8 := ⟨Tryd.isAgg8⟩
instance : CSz 8 4 := ⟨Tryd.sizeOf8⟩
instance : CNa 9 := ⟨Tryd.isAgg9⟩
instance : CSz 9 1 := ⟨Tryd.sizeOf9⟩
instance : CNa 10 := ⟨Tryd.isAgg10⟩
instance : CSz 10 1 := ⟨Tryd.sizeOf10⟩
instance : CNa 11 := ⟨Tryd.isAgg11⟩
instance : CSz 11 1 := ⟨Tryd.sizeOf11⟩
instance : CNa 12 := ⟨Tryd.isAgg12⟩
instance : CSz 12 1 := ⟨Tryd.sizeOf12⟩
instance : CFo 13 0 0 := ⟨fo_13_0⟩
instance : CFo 13 1 1 := ⟨fo_13_1⟩
instance : CSt 13 (Tryd.t13.zero.getD undef).cells.toList [(0, 1), (1, 1)] := ⟨st_13⟩
instance : CAg 13 := ⟨Tryd.isAgg13⟩
instance : CSz 13 2 := ⟨Tryd.sizeOf13⟩
instance : CFo 14 0 0 := ⟨fo_14_0⟩
instance : CFo 14 1 1 := ⟨fo_14_1⟩
instance : CSt 14 (Tryd.t14.zero.getD undef).cells.toList [(0, 1), (1, 1)] := ⟨st_14⟩
instance : CAg 14 := ⟨Tryd.isAgg14⟩
instance : CSz 14 2 := ⟨Tryd.sizeOf14⟩
instance : CNa 15 := ⟨Tryd.isAgg15⟩
instance : CSz 15 1 := ⟨Tryd.sizeOf15⟩
instance : CNa 16 := ⟨Tryd.isAgg16⟩
instance : CSz 16 1 := ⟨Tryd.sizeOf16⟩
instance : CNa 17 := ⟨Tryd.isAgg17⟩
instance : CSz 17 1 := ⟨Tryd.sizeOf17⟩
instance : CFo 18 0 0 := ⟨fo_18_0⟩
instance : CSt 18 (Tryd.t18.zero.getD undef).cells.toList [(0, 1)] := ⟨st_18⟩
instance : CAg 18 := ⟨Tryd.isAgg18⟩
instance : CSz 18 1 := ⟨Tryd.sizeOf18⟩
instance : CFo 19 0 0 := ⟨fo_19_0⟩
instance : CSt 19 (Tryd.t19.zero.getD undef).cells.toList [(0, 1)] := ⟨st_19⟩
instance : CAg 19 := ⟨Tryd.isAgg19⟩
instance : CSz 19 1 := ⟨Tryd.sizeOf19⟩
instance : CNa 21 := ⟨Tryd.isAgg21⟩
instance : CSz 21 1 := ⟨Tryd.sizeOf21⟩
instance : CNa 22 := ⟨Tryd.isAgg22⟩
instance : CSz 22 1 := ⟨Tryd.sizeOf22⟩
instance : CSo 22 27 7 := ⟨so_22⟩
instance : CUs 22 27 := ⟨Tryd.underlying22⟩
instance : CNa 23 := ⟨Tryd.isAgg23⟩
instance : CSz 23 1 := ⟨Tryd.sizeOf23⟩
instance : CFo 24 0 0 := ⟨fo_24_0⟩
instance : CFo 24 1 1 := ⟨fo_24_1⟩
instance : CFo 24 2 2 := ⟨fo_24_2⟩
instance : CSt 24 (Tryd.t24.zero.getD undef).cells.toList [(0, 1), (1, 1), (2, 1)] := ⟨st_24⟩
instance : CAg 24 := ⟨Tryd.isAgg24⟩
instance : CSz 24 3 := ⟨Tryd.sizeOf24⟩
instance : CFo 25 0 0 := ⟨fo_25_0⟩
instance : CFo 25 1 1 := ⟨fo_25_1⟩
instance : CFo 25 2 2 := ⟨fo_25_2⟩
instance : CSt 25 (Tryd.t25.zero.getD undef).cells.toList [(0, 1), (1, 1), (2, 1)] := ⟨st_25⟩
instance : CAg 25 := ⟨Tryd.isAgg25⟩
instance : CSz 25 3 := ⟨Tryd.sizeOf25⟩
instance : CFo 26 0 0 := ⟨fo_26_0⟩
instance : CFo 26 1 1 := ⟨fo_26_1⟩
instance : CFo 26 2 2 := ⟨fo_26_2⟩
instance : CFo 26 3 3 := ⟨fo_26_3⟩
instance : CFo 26 4 4 := ⟨fo_26_4⟩
instance : CSt 26 (Tryd.t26.zero.getD undef).cells.toList [(0, 1), (1, 1), (2, 1), (3, 1), (4, 3)] := ⟨st_26⟩
instance : CAg 26 := ⟨Tryd.isAgg26⟩
instance : CSz 26 7 := ⟨Tryd.sizeOf26⟩
instance : CFo 27 0 0 := ⟨fo_27_0⟩
instance : CFo 27 1 1 := ⟨fo_27_1⟩
instance : CFo 27 2 2 := ⟨fo_27_2⟩
instance : CFo 27 3 3 := ⟨fo_27_3⟩
instance : CFo 27 4 4 := ⟨fo_27_4⟩
instance : CSt 27 (Tryd.t27.zero.getD undef).cells.toList [(0, 1), (1, 1), (2, 1), (3, 1), (4, 3)] := ⟨st_27⟩
instance : CAg 27 := ⟨Tryd.isAgg27⟩
instance : CSz 27 7 := ⟨Tryd.sizeOf27⟩
instance : CNa 29 := ⟨Tryd.isAgg29⟩
instance : CSz 29 1 := ⟨Tryd.sizeOf29⟩
instance : CNa 30 := ⟨Tryd.isAgg30⟩
instance : CSz 30 1 := ⟨Tryd.sizeOf30⟩
instance : CNa 32 := ⟨Tryd.isAgg32⟩
instance : CSz 32 1 := ⟨Tryd.sizeOf32⟩
instance : CNa 33 := ⟨Tryd.isAgg33⟩
instance : CSz 33 1 := ⟨Tryd.sizeOf33⟩
instance : CNa 34 := ⟨Tryd.isAgg34⟩
instance : CSz 34 1 := ⟨Tryd.sizeOf34⟩
instance : CNa 35 := ⟨Tryd.isAgg35⟩
instance : CSz 35 1 := ⟨Tryd.sizeOf35⟩
instance : CNa 36 := ⟨Tryd.isAgg36⟩
instance : CSz 36 1 := ⟨Tryd.sizeOf36⟩
instance : CNa 37 := ⟨Tryd.isAgg37⟩
instance : CSz 37 1 := ⟨Tryd.sizeOf37⟩
instance : CSo 37 9 1 := ⟨so_37⟩
instance : CUs 37 9 := ⟨Tryd.underlying37⟩
instance : CNa 38 := ⟨Tryd.isAgg38⟩
instance : CSz 38 1 := ⟨Tryd.sizeOf38⟩
instance : CNa 39 := ⟨Tryd.isAgg39⟩
instance : CSz 39 1 := ⟨Tryd.sizeOf39⟩
instance : CNa 40 := ⟨Tryd.isAgg40⟩
instance : CSz 40 1 := ⟨Tryd.sizeOf40⟩
instance : CNa 41 := ⟨Tryd.isAgg41⟩
instance : CSz 41 1 := ⟨Tryd.sizeOf41⟩
instance : CNa 42 := ⟨Tryd.isAgg42⟩
instance : CSz 42 1 := ⟨Tryd.sizeOf42⟩
instance : CNa 43 := ⟨Tryd.isAgg43⟩
instance : CSz 43 1 := ⟨Tryd.sizeOf43⟩
instance : CSo 43 5 1 := ⟨so_43⟩
instance : CUs 43 5 := ⟨Tryd.underlying43⟩
instance : CFo 44 0 0 := ⟨fo_44_0⟩
instance : CFo 44 1 1 := ⟨fo_44_1⟩
instance : CSt 44 (Tryd.t44.zero.getD undef).cells.toList [(0, 1), (1, 1)] := ⟨st_44⟩
instance : CAg 44 := ⟨Tryd.isAgg44⟩
instance : CSz 44 2 := ⟨Tryd.sizeOf44⟩
instance : CFo 45 0 0 := ⟨fo_45_0⟩
instance : CFo 45 1 1 := ⟨fo_45_1⟩
instance : CSt 45 (Tryd.t45.zero.getD undef).cells.toList [(0, 1), (1, 1)] := ⟨st_45⟩
instance : CAg 45 := ⟨Tryd.isAgg45⟩
instance : CSz 45 2 := ⟨Tryd.sizeOf45⟩
instance : CNa 49 := ⟨Tryd.isAgg49⟩
instance : CSz 49 1 := ⟨Tryd.sizeOf49⟩
instance : CNa 50 := ⟨Tryd.isAgg50⟩
instance : CSz 50 1 := ⟨Tryd.sizeOf50⟩
instance : CNa 51 := ⟨Tryd.isAgg51⟩
instance : CSz 51 1 := ⟨Tryd.sizeOf51⟩
instance : CNa 53 := ⟨Tryd.isAgg53⟩
instance : CSz 53 1 := ⟨Tryd.sizeOf53⟩
instance : CNa 55 := ⟨Tryd.isAgg55⟩
instance : CSz 55 1 := ⟨Tryd.sizeOf55⟩
instance : CNa 56 := ⟨Tryd.isAgg56⟩
instance : CSz 56 1 := ⟨Tryd.sizeOf56⟩
instance : CNa 57 := ⟨Tryd.isAgg57⟩
instance : CSz 57 1 := ⟨Tryd.sizeOf57⟩
instance : CNa 58 := ⟨Tryd.isAgg58⟩
instance : CSz 58 1 := ⟨Tryd.sizeOf58⟩
instance : CFo 59 0 0 := ⟨fo_59_0⟩
instance : CFo 59 1 1 := ⟨fo_59_1⟩
instance : CSt 59 (Tryd.t59.zero.getD undef).cells.toList [(0, 1), (1, 1)] := ⟨st_59⟩
instance : CAg 59 := ⟨Tryd.isAgg59⟩
instance : CSz 59 2 := ⟨Tryd.sizeOf59⟩
instance : CFo 60 0 0 := ⟨fo_60_0⟩
instance : CFo 60 1 1 := ⟨fo_60_1⟩
instance : CSt 60 (Tryd.t60.zero.getD undef).cells.toList [(0, 1), (1, 1)] := ⟨st_60⟩
instance : CAg 60 := ⟨Tryd.isAgg60⟩
instance : CSz 60 2 := ⟨Tryd.sizeOf60⟩
instance : CNa 61 := ⟨Tryd.isAgg61⟩
instance : CSz 61 1 := ⟨Tryd.sizeOf61⟩
instance : CNa 62 := ⟨Tryd.isAgg62⟩
instance : CSz 62 1 := ⟨Tryd.sizeOf62⟩
instance : CNa 63 := ⟨Tryd.isAgg63⟩
instance : CSz 63 1 := ⟨Tryd.sizeOf63⟩
instance : CNa 64 := ⟨Tryd.isAgg64⟩
instance : CSz 64 1 := ⟨Tryd.sizeOf64⟩
instance : CSo 64 3 1 := ⟨so_64⟩
instance : CUs 64 3 := ⟨Tryd.underlying64⟩
instance : CNa 65 := ⟨Tryd.isAgg65⟩
instance : CSz 65 1 := ⟨Tryd.sizeOf65⟩
instance : CNa 67 := ⟨Tryd.isAgg67⟩
instance : CSz 67 1 := ⟨Tryd.sizeOf67⟩
instance : CNa 68 := ⟨Tryd.isAgg68⟩
instance : CSz 68 1 := ⟨Tryd.sizeOf68⟩
instance : CNa 69 := ⟨Tryd.isAgg69⟩
instance : CSz 69 1 := ⟨Tryd.sizeOf69⟩
instance : CNa 70 := ⟨Tryd.isAgg70⟩
instance : CSz 70 1 := ⟨Tryd.sizeOf70⟩
instance : CNa 72 := ⟨Tryd.isAgg72⟩
instance : CSz 72 1 := ⟨Tryd.sizeOf72⟩
instance : CNa 73 := ⟨Tryd.isAgg73⟩
instance : CSz 73 1 := ⟨Tryd.sizeOf73⟩
instance : CNa 74 := ⟨Tryd.isAgg74⟩
instance : CSz 74 1 := ⟨Tryd.sizeOf74⟩
instance : CNa 76 := ⟨Tryd.isAgg76⟩
instance : CSz 76 1 := ⟨Tryd.sizeOf76⟩
instance : CNa 77 := ⟨Tryd.isAgg77⟩
instance : CSz 77 1 := ⟨Tryd.sizeOf77⟩
instance : CNa 78 := ⟨Tryd.isAgg78⟩
instance : CSz 78 1 := ⟨Tryd.sizeOf78⟩
instance : CNa 79 := ⟨Tryd.isAgg79⟩
instance : CSz 79 1 := ⟨Tryd.sizeOf79⟩
instance : CNa 80 := ⟨Tryd.isAgg80⟩
instance : CSz 80 1 := ⟨Tryd.sizeOf80⟩
instance : CNa 81 := ⟨Tryd.isAgg81⟩
instance : CSz 81 1 := ⟨Tryd.sizeOf81⟩
instance : CNa 82 := ⟨Tryd.isAgg82⟩
instance : CSz 82 1 := ⟨Tryd.sizeOf82⟩
instance : CNa 84 := ⟨Tryd.isAgg84⟩
instance : CSz 84 1 := ⟨Tryd.sizeOf84⟩
instance : CNa 85 := ⟨Tryd.isAgg85⟩
instance : CSz 85 1 := ⟨Tryd.sizeOf85⟩
instance : CNa 86 := ⟨Tryd.isAgg86⟩
instance : CSz 86 1 := ⟨Tryd.sizeOf86⟩
instance : CNa 87 := ⟨Tryd.isAgg87⟩
instance : CSz 87 1 := ⟨Tryd.sizeOf87⟩
instance : CNa 88 := ⟨Tryd.isAgg88⟩
instance : CSz 88 1 := ⟨Tryd.sizeOf88⟩
instance : CNa 90 := ⟨Tryd.isAgg90⟩
instance : CSz 90 1 := ⟨Tryd.sizeOf90⟩
instance : CNa 92 := ⟨Tryd.isAgg92⟩
instance : CSz 92 1 := ⟨Tryd.sizeOf92⟩
instance : CNa 93 := ⟨Tryd.isAgg93⟩
instance : CSz 93 1 := ⟨Tryd.sizeOf93⟩
instance : CNa 95 := ⟨Tryd.isAgg95⟩
instance : CSz 95 1 := ⟨Tryd.sizeOf95⟩
instance : CNa 96 := ⟨Tryd.isAgg96⟩
instance : CSz 96 1 := ⟨Tryd.sizeOf96⟩
instance : CNa 98 := ⟨Tryd.isAgg98⟩
instance : CSz 98 1 := ⟨Tryd.sizeOf98⟩
instance : CNa 100 := ⟨Tryd.isAgg100⟩
instance : CSz 100 1 := ⟨Tryd.sizeOf100⟩
instance : CNa 101 := ⟨Tryd.isAgg101⟩
instance : CSz 101 1 := ⟨Tryd.sizeOf101⟩
instance : CFo 102 0 0 := ⟨fo_102_0⟩
instance : CFo 102 1 1 := ⟨fo_102_1⟩
instance : CFo 102 2 2 := ⟨fo_102_2⟩
instance : CSt 102 (Tryd.t102.zero.getD undef).cells.toList [(0, 1), (1, 1), (2, 1)] := ⟨st_102⟩
instance : CAg 102 := ⟨Tryd.isAgg102⟩
instance : CSz 102 3 := ⟨Tryd.sizeOf102⟩
instance : CFo 103 0 0 := ⟨fo_103_0⟩
instance : CFo 103 1 1 := ⟨fo_103_1⟩
instance : CFo 103 2 2 := ⟨fo_103_2⟩
instance : CSt 103 (Tryd.t103.zero.getD undef).cells.toList [(0, 1), (1, 1), (2, 1)] := ⟨st_103⟩
instance : CAg 103 := ⟨Tryd.isAgg103⟩
instance : CSz 103 3 := ⟨Tryd.sizeOf103⟩
instance : CNa 104 := ⟨Tryd.isAgg104⟩
instance : CSz 104 1 := ⟨Tryd.sizeOf104⟩
instance : CNa 105 := ⟨Tryd.isAgg105⟩
instance : CSz 105 1 := ⟨Tryd.sizeOf105⟩
instance : CNa 106 := ⟨Tryd.isAgg106⟩
instance : CSz 106 1 := ⟨Tryd.sizeOf106⟩
instance : CNa 107 := ⟨Tryd.isAgg107⟩
instance : CSz 107 1 := ⟨Tryd.sizeOf107⟩
instance : CNa 108 := ⟨Tryd.isAgg108⟩
instance : CSz 108 1 := ⟨Tryd.sizeOf108⟩
instance : CFo 109 0 0 := ⟨fo_109_0⟩
instance : CSt 109 (Tryd.t109.zero.getD undef).cells.toList [(0, 1)] := ⟨st_109⟩
instance : CAg 109 := ⟨Tryd.isAgg109⟩
instance : CSz 109 1 := ⟨Tryd.sizeOf109⟩
instance : CFo 110 0 0 := ⟨fo_110_0⟩
instance : CSt 110 (Tryd.t110.zero.getD undef).cells.toList [(0, 1)] := ⟨st_110⟩
instance : CAg 110 := ⟨Tryd.isAgg110⟩
instance : CSz 110 1 := ⟨Tryd.sizeOf110⟩
instance : CFo 114 0 0 := ⟨fo_114_0⟩
instance : CFo 114 1 1 := ⟨fo_114_1⟩
instance : CSt 114 (Tryd.t114.zero.getD undef).cells.toList [(0, 1), (1, 1)] := ⟨st_114⟩
instance : CAg 114 := ⟨Tryd.isAgg114⟩
instance : CSz 114 2 := ⟨Tryd.sizeOf114⟩
instance : CFo 115 0 0 := ⟨fo_115_0⟩
instance : CFo 115 1 1 := ⟨fo_115_1⟩
instance : CSt 115 (Tryd.t115.zero.getD undef).cells.toList [(0, 1), (1, 1)] := ⟨st_115⟩
instance : CAg 115 := ⟨Tryd.isAgg115⟩
instance : CSz 115 2 := ⟨Tryd.sizeOf115⟩
instance : CFo 117 0 0 := ⟨fo_117_0⟩
instance : CFo 117 1 1 := ⟨fo_117_1⟩
instance : CFo 117 2 2 := ⟨fo_117_2⟩
instance : CFo 117 3 3 := ⟨fo_117_3⟩
instance : CSt 117 (Tryd.t117.zero.getD undef).cells.toList [(0, 1), (1, 1), (2, 1), (3, 1)] := ⟨st_117⟩
instance : CAg 117 := ⟨Tryd.isAgg117⟩
instance : CSz 117 4 := ⟨Tryd.sizeOf117⟩
instance : CFo 118 0 0 := ⟨fo_118_0⟩
instance : CFo 118 1 1 := ⟨fo_118_1⟩
instance : CFo 118 2 2 := ⟨fo_118_2⟩
instance : CFo 118 3 3 := ⟨fo_118_3⟩
instance : CSt 118 (Tryd.t118.zero.getD undef).cells.toList [(0, 1), (1, 1), (2, 1), (3, 1)] := ⟨st_118⟩
instance : CAg 118 := ⟨Tryd.isAgg118⟩
instance : CSz 118 4 := ⟨Tryd.sizeOf118⟩
instance : CNa 122 := ⟨Tryd.isAgg122⟩
instance : CSz 122 1 := ⟨Tryd.sizeOf122⟩
instance : CNa 123 := ⟨Tryd.isAgg123⟩
instance : CSz 123 1 := ⟨Tryd.sizeOf123⟩
instance : CNa 124 := ⟨Tryd.isAgg124⟩
instance : CSz 124 1 := ⟨Tryd.sizeOf124⟩
instance : CNa 125 := ⟨Tryd.isAgg125⟩
instance : CSz 125 1 := ⟨Tryd.sizeOf125⟩
instance : CNa 126 := ⟨Tryd.isAgg126⟩
instance : CSz 126 1 := ⟨Tryd.sizeOf126⟩
instance : CFo 127 0 0 := ⟨fo_127_0⟩
instance : CFo 127 1 1 := ⟨fo_127_1⟩
instance : CFo 127 2 2 := ⟨fo_127_2⟩
instance : CFo 127 3 3 := ⟨fo_127_3⟩
instance : CFo 127 4 4 := ⟨fo_127_4⟩
instance : CFo 127 5 5 := ⟨fo_127_5⟩
instance : CFo 127 6 6 := ⟨fo_127_6⟩
instance : CFo 127 7 7 := ⟨fo_127_7⟩
instance : CFo 127 8 8 := ⟨fo_127_8⟩
instance : CFo 127 9 9 := ⟨fo_127_9⟩
instance : CFo 127 10 10 := ⟨fo_127_10⟩
instance : CSt 127 (Tryd.t127.zero.getD undef).cells.toList [(0, 1), (1, 1), (2, 1), (3, 1), (4, 1), (5, 1), (6, 1), (7, 1), (8, 1), (9, 1), (10, 1)] := ⟨st_127⟩
instance : CAg 127 := ⟨Tryd.isAgg127⟩
instance : CSz 127 11 := ⟨Tryd.sizeOf127⟩
instance : CFo 128 0 0 := ⟨fo_128_0⟩
instance : CFo 128 1 1 := ⟨fo_128_1⟩
instance : CFo 128 2 2 := ⟨fo_128_2⟩
instance : CFo 128 3 3 := ⟨fo_128_3⟩
instance : CFo 128 4 4 := ⟨fo_128_4⟩
instance : CFo 128 5 5 := ⟨fo_128_5⟩
instance : CFo 128 6 6 := ⟨fo_128_6⟩
instance : CFo 128 7 7 := ⟨fo_128_7⟩
instance : CFo 128 8 8 := ⟨fo_128_8⟩
instance : CFo 128 9 9 := ⟨fo_128_9⟩
instance : CFo 128 10 10 := ⟨fo_128_10⟩
instance : CSt 128 (Tryd.t128.zero.getD undef).cells.toList [(0, 1), (1, 1), (2, 1), (3, 1), (4, 1), (5, 1), (6, 1), (7, 1), (8, 1), (9, 1), (10, 1)] := ⟨st_128⟩
instance : CAg 128 := ⟨Tryd.isAgg128⟩
instance : CSz 128 11 := ⟨Tryd.sizeOf128⟩
section
variable {n : Nat} {Q : Exit → Act → World → Prop} {ops : Array Oper} {rest : List Oper} {L : List Chunk} {R : List Fact} {al al' : List (Nat × Value)} {d k : Nat} {x y z : Operand} {T ty U : TypeId} {pos : String} {aft : Array Edge} {v : Value} {l l' : List Oper}
theorem kmv (h : PureOp Tryd.prog n al L R ⟨some d, .move x, ty, pos, aft, none⟩ v) : PureOp Tryd.prog n al L R ⟨some d, .move x, ty, pos, aft, none⟩ v := h
theorem kas (h : PureOp Tryd.prog n al L R ⟨some d, .assign x, ty, pos, aft, none⟩ v) : PureOp Tryd.prog n al L R ⟨some d, .assign x, ty, pos, aft, none⟩ v := h
theorem kfa {i : Nat} (h : PureOp Tryd.prog n al L R ⟨some d, .fieldAddr T x i, ty, pos, aft, none⟩ v) : PureOp Tryd.prog n al L R ⟨some d, .fieldAddr T x i, ty, pos, aft, none⟩ v := h
theorem kld (h : PureOp Tryd.prog n al L R ⟨some d, .load T x, ty, pos, aft, none⟩ v) : PureOp Tryd.prog n al L R ⟨some d, .load T x, ty, pos, aft, none⟩ v := h
theorem knc (h : PureOp Tryd.prog n al L R ⟨some d, .nilCheck x, ty, pos, aft, none⟩ v) : PureOp Tryd.prog n al L R ⟨some d, .nilCheck x, ty, pos, aft, none⟩ v := h
theorem kpk (h : PureOp Tryd.prog n al L R ⟨some d, .pick x y z, ty, pos, aft, none⟩ v) : PureOp Tryd.prog n al L R ⟨some d, .pick x y z, ty, pos, aft, none⟩ v := h
theorem kix (h : PureOp Tryd.prog n al L R ⟨some d, .indexAddr T x y, ty, pos, aft, none⟩ v) : PureOp Tryd.prog n al L R ⟨some d, .indexAddr T x y, ty, pos, aft, none⟩ v := h
theorem kxt {i : Nat} (h : PureOp Tryd.prog n al L R ⟨some d, .extract x i, ty, pos, aft, none⟩ v) : PureOp Tryd.prog n al L R ⟨some d, .extract x i, ty, pos, aft, none⟩ v := h
theorem kun (h : PureOp Tryd.prog n al L R ⟨some d, .unOp .not T x, ty, pos, aft, none⟩ v) : PureOp Tryd.prog n al L R ⟨some d, .unOp .not T x, ty, pos, aft, none⟩ v := h
theorem kle (h : PureOp Tryd.prog n al L R ⟨some d, .call { callee := .builtin .len, args := #[x], argTypes := #[T] }, ty, pos, aft, none⟩ v) : PureOp Tryd.prog n al L R ⟨some d, .call { callee := .builtin .len, args := #[x], argTypes := #[T] }, ty, pos, aft, none⟩ v := h
theorem kbd {ps : Array (Nat × Operand)} (h : PureOp Tryd.prog n al L R ⟨some d, .build T ps, ty, pos, aft, none⟩ v) : PureOp Tryd.prog n al L R ⟨some d, .build T ps, ty, pos, aft, none⟩ v := h
theorem kbe (h : PureOp Tryd.prog n al L R ⟨some d, .binOp .eql T x y U, ty, pos, aft, none⟩ v) : PureOp Tryd.prog n al L R ⟨some d, .binOp .eql T x y U, ty, pos, aft, none⟩ v := h
theorem kbn (h : PureOp Tryd.prog n al L R ⟨some d, .binOp .neq T x y U, ty, pos, aft, none⟩ v) : PureOp Tryd.prog n al L R ⟨some d, .binOp .neq T x y U, ty, pos, aft, none⟩ v := h
theorem kbl (h : PureOp Tryd.prog n al L R ⟨some d, .binOp .lss T x y U, ty, pos, aft, none⟩ v) : PureOp Tryd.prog n al L R ⟨some d, .binOp .lss T x y U, ty, pos, aft, none⟩ v := h
theorem kbm (h : PureOp Tryd.prog n al L R ⟨some d, .binOp .leq T x y U, ty, pos, aft, none⟩ v) : PureOp Tryd.prog n al L R ⟨some d, .binOp .leq T x y U, ty, pos, aft, none⟩ v := h
theorem kbg (h : PureOp Tryd.prog n al L R ⟨some d, .binOp .gtr T x y U, ty, pos, aft, none⟩ v) : PureOp Tryd.prog n al L R ⟨some d, .binOp .gtr T x y U, ty, pos, aft, none⟩ v := h
theorem kbh (h : PureOp Tryd.prog n al L R ⟨some d, .binOp .geq T x y U, ty, pos, aft, none⟩ v) : PureOp Tryd.prog n al L R ⟨some d, .binOp .geq T x y U, ty, pos, aft, none⟩ v := h
theorem kba (h : PureOp Tryd.prog n al L R ⟨some d, .binOp .add T x y U, ty, pos, aft, none⟩ v) : PureOp Tryd.prog n al L R ⟨some d, .binOp .add T x y U, ty, pos, aft, none⟩ v := h
theorem kbs (h : PureOp Tryd.prog n al L R ⟨some d, .binOp .sub T x y U, ty, pos, aft, none⟩ v) : PureOp Tryd.prog n al L R ⟨some d, .binOp .sub T x y U, ty, pos, aft, none⟩ v := h
theorem kbu (h : PureOp Tryd.prog n al L R ⟨some d, .binOp .mul T x y U, ty, pos, aft, none⟩ v) : PureOp Tryd.prog n al L R ⟨some d, .binOp .mul T x y U, ty, pos, aft, none⟩ v := h
structure Run (n : Nat) (ops : Array Oper) (Q : Exit → Act → World → Prop) (L : List Chunk) (R : List Fact) (k : Nat) (l : List Oper) (al : List (Nat × Value)) (l' : List Oper) (al' : List (Nat × Value)) : Prop where
  go : J Tryd.prog n ops Q l' L R al' → J Tryd.prog n ops Q l L R al
theorem R0 : Run n ops Q L R 0 l al l al := ⟨fun h => h⟩
theorem Rc {op : Oper} (hp : PureOp Tryd.prog n al L R op v) (hd : op.dst = some d) (h : Run n ops Q L R k rest ((d, v) :: al) l' al') : Run n ops Q L R (k + 1) (op :: rest) al l' al' := ⟨fun kk => ob hp (h.go kk) hd⟩
theorem Rgy {dst : Option Tmp} {op : Go.Op} {i : Nat} {b : Bool} {m : List Oper} (hv : gv n al m i = some b) (h : Run n m.toArray Q L R (k + 1) (⟨dst, op, ty, pos, aft, none⟩ :: rest) al l' al') : Run n m.toArray Q L R (k + 1) (⟨dst, op, ty, pos, aft, some (i, b)⟩ :: rest) al l' al' := ⟨fun kk => J.guardYes hv (h.go kk)⟩
theorem Rgn {op : Go.Op} {i : Nat} {b : Bool} {m : List Oper} (hv : gv n al m i = some (!b)) (h : Run n m.toArray Q L R k rest ((d, undef) :: al) l' al') : Run n m.toArray Q L R (k + 1) (⟨some d, op, ty, pos, aft, some (i, b)⟩ :: rest) al l' al' := ⟨fun kk => J.guardNo hv (h.go kk)⟩
theorem RgU {op : Go.Op} {i : Nat} {b : Bool} {m : List Oper} (hv : gu n al m i = true) (h : Run n m.toArray Q L R k rest ((d, undef) :: al) l' al') : Run n m.toArray Q L R (k + 1) (⟨some d, op, ty, pos, aft, some (i, b)⟩ :: rest) al l' al' := ⟨fun kk => J.guardUndef hv (h.go kk)⟩
/-- So many operations that change nothing. -/
theorem mr (h : Run n ops Q L R k l al l' al' := by repeat (first | exact R0 | (apply Rc; (focus (first | (apply kmv; exact q_mv) | (apply kas; exact q_as) | (apply kfa; first | exact q_fa CFo.h | exact q_fe CFo.h) | (apply kld; first | exact q_l1 CNa.h | exact q_lA CAg.h CSz.h | exact q_lNb _ CAg.h CSz.h | exact q_lNc _ CAg.h CSz.h | exact q_lNf _ CAg.h CSz.h) | (apply knc; first | exact q_nb | exact q_ne) | (apply kpk; first | exact q_pT | exact q_pF) | (apply kix; first | exact q_iN CSo.h | exact q_iI CSo.h) | (apply kxt; exact q_x) | (apply kun; first | exact q_notD | exact q_not) | (apply kle; exact q_len CUs.h) | (apply kbd; first | exact q_bd CSt.h | exact q_bdR CSt.h) | (apply kbe; exact q_in b_eqD) | (apply kbn; exact q_in b_neD) | (apply kbl; exact q_in b_lss) | (apply kbm; exact q_in b_leq) | (apply kbg; exact q_in b_gtr) | (apply kbh; exact q_in b_geq) | (apply kba; first | exact q_addN | exact q_add) | (apply kbs; exact q_sub) | (apply kbu; exact q_mul))); (focus exact rfl)) | (apply Rgy; (focus exact rfl)) | (apply Rgn; (focus exact rfl)) | (apply RgU; (focus exact rfl)))) : Run n ops Q L R k l al l' al' := h
theorem rn1 (kk : J Tryd.prog n ops Q l' L R al') (h : Run n ops Q L R 1 l al l' al' := by exact mr) : J Tryd.prog n ops Q l L R al := h.go kk
theorem rn2 (kk : J Tryd.prog n ops Q l' L R al') (h : Run n ops Q L R 2 l al l' al' := by exact mr) : J Tryd.prog n ops Q l L R al := h.go kk
theorem rn3 (kk : J Tryd.prog n ops Q l' L R al') (h : Run n ops Q L R 3 l al l' al' := by exact mr) : J Tryd.prog n ops Q l L R al := h.go kk
theorem rn4 (kk : J Tryd.prog n ops Q l' L R al') (h : Run n ops Q L R 4 l al l' al' := by exact mr) : J Tryd.prog n ops Q l L R al := h.go kk
theorem rn5 (kk : J Tryd.prog n ops Q l' L R al') (h : Run n ops Q L R 5 l al l' al' := by exact mr) : J Tryd.prog n ops Q l L R al := h.go kk
theorem rn6 (kk : J Tryd.prog n ops Q l' L R al') (h : Run n ops Q L R 6 l al l' al' := by exact mr) : J Tryd.prog n ops Q l L R al := h.go kk
theorem rn7 (kk : J Tryd.prog n ops Q l' L R al') (h : Run n ops Q L R 7 l al l' al' := by exact mr) : J Tryd.prog n ops Q l L R al := h.go kk
theorem rn8 (kk : J Tryd.prog n ops Q l' L R al') (h : Run n ops Q L R 8 l al l' al' := by exact mr) : J Tryd.prog n ops Q l L R al := h.go kk
theorem rn9 (kk : J Tryd.prog n ops Q l' L R al') (h : Run n ops Q L R 9 l al l' al' := by exact mr) : J Tryd.prog n ops Q l L R al := h.go kk
theorem rn10 (kk : J Tryd.prog n ops Q l' L R al') (h : Run n ops Q L R 10 l al l' al' := by exact mr) : J Tryd.prog n ops Q l L R al := h.go kk
theorem rn11 (kk : J Tryd.prog n ops Q l' L R al') (h : Run n ops Q L R 11 l al l' al' := by exact mr) : J Tryd.prog n ops Q l L R al := h.go kk
theorem rn12 (kk : J Tryd.prog n ops Q l' L R al') (h : Run n ops Q L R 12 l al l' al' := by exact mr) : J Tryd.prog n ops Q l L R al := h.go kk
theorem rn13 (kk : J Tryd.prog n ops Q l' L R al') (h : Run n ops Q L R 13 l al l' al' := by exact mr) : J Tryd.prog n ops Q l L R al := h.go kk
theorem rn14 (kk : J Tryd.prog n ops Q l' L R al') (h : Run n ops Q L R 14 l al l' al' := by exact mr) : J Tryd.prog n ops Q l L R al := h.go kk
theorem rn15 (kk : J Tryd.prog n ops Q l' L R al') (h : Run n ops Q L R 15 l al l' al' := by exact mr) : J Tryd.prog n ops Q l L R al := h.go kk
theorem rn16 (kk : J Tryd.prog n ops Q l' L R al') (h : Run n ops Q L R 16 l al l' al' := by exact mr) : J Tryd.prog n ops Q l L R al := h.go kk
theorem rn17 (kk : J Tryd.prog n ops Q l' L R al') (h : Run n ops Q L R 17 l al l' al' := by exact mr) : J Tryd.prog n ops Q l L R al := h.go kk
theorem rn18 (kk : J Tryd.prog n ops Q l' L R al') (h : Run n ops Q L R 18 l al l' al' := by exact mr) : J Tryd.prog n ops Q l L R al := h.go kk
theorem rn19 (kk : J Tryd.prog n ops Q l' L R al') (h : Run n ops Q L R 19 l al l' al' := by exact mr) : J Tryd.prog n ops Q l L R al := h.go kk
theorem rn20 (kk : J Tryd.prog n ops Q l' L R al') (h : Run n ops Q L R 20 l al l' al' := by exact mr) : J Tryd.prog n ops Q l L R al := h.go kk
theorem rn21 (kk : J Tryd.prog n ops Q l' L R al') (h : Run n ops Q L R 21 l al l' al' := by exact mr) : J Tryd.prog n ops Q l L R al := h.go kk
theorem rn22 (kk : J Tryd.prog n ops Q l' L R al') (h : Run n ops Q L R 22 l al l' al' := by exact mr) : J Tryd.prog n ops Q l L R al := h.go kk
theorem rn23 (kk : J Tryd.prog n ops Q l' L R al') (h : Run n ops Q L R 23 l al l' al' := by exact mr) : J Tryd.prog n ops Q l L R al := h.go kk
theorem rn24 (kk : J Tryd.prog n ops Q l' L R al') (h : Run n ops Q L R 24 l al l' al' := by exact mr) : J Tryd.prog n ops Q l L R al := h.go kk
theorem rn25 (kk : J Tryd.prog n ops Q l' L R al') (h : Run n ops Q L R 25 l al l' al' := by exact mr) : J Tryd.prog n ops Q l L R al := h.go kk
theorem rn26 (kk : J Tryd.prog n ops Q l' L R al') (h : Run n ops Q L R 26 l al l' al' := by exact mr) : J Tryd.prog n ops Q l L R al := h.go kk
theorem rn27 (kk : J Tryd.prog n ops Q l' L R al') (h : Run n ops Q L R 27 l al l' al' := by exact mr) : J Tryd.prog n ops Q l L R al := h.go kk
theorem rn28 (kk : J Tryd.prog n ops Q l' L R al') (h : Run n ops Q L R 28 l al l' al' := by exact mr) : J Tryd.prog n ops Q l L R al := h.go kk
theorem rn29 (kk : J Tryd.prog n ops Q l' L R al') (h : Run n ops Q L R 29 l al l' al' := by exact mr) : J Tryd.prog n ops Q l L R al := h.go kk
theorem rn30 (kk : J Tryd.prog n ops Q l' L R al') (h : Run n ops Q L R 30 l al l' al' := by exact mr) : J Tryd.prog n ops Q l L R al := h.go kk
theorem rn31 (kk : J Tryd.prog n ops Q l' L R al') (h : Run n ops Q L R 31 l al l' al' := by exact mr) : J Tryd.prog n ops Q l L R al := h.go kk
theorem rn32 (kk : J Tryd.prog n ops Q l' L R al') (h : Run n ops Q L R 32 l al l' al' := by exact mr) : J Tryd.prog n ops Q l L R al := h.go kk
variable {Sh : Rho → (Nat → Bool) → List Chunk} {R0' : List Fact} {al0 : List (Nat × Value)} {its its' : List Item} {i i' : Nat}
structure DRun (n : Nat) (ops : Array Oper) (Q : Exit → Act → World → Prop) (Sh : Rho → (Nat → Bool) → List Chunk) (R0 : List Fact) (al0 : List (Nat × Value)) (k i : Nat) (l : List Oper) (its : List Item) (i' : Nat) (l' : List Oper) (its' : List Item) : Prop where
  go : DJ Tryd.prog n ops Q Sh R0 al0 i' l' its' → DJ Tryd.prog n ops Q Sh R0 al0 i l its
theorem D0 : DRun n ops Q Sh R0' al0 0 i l its i l its := ⟨fun h => h⟩
theorem Dc {op : Oper} (hp : ∀ ρ S, PureOp Tryd.prog n (alOf its al0 ρ) (Sh ρ S) R0' op v) (hSh : Still ops Sh i) (hd : op.dst = some d) (h : DRun n ops Q Sh R0' al0 k (i + 1) rest (⟨i, some d, fun _ => v, fun _ => [], fun _ => []⟩ :: its) i' l' its') : DRun n ops Q Sh R0' al0 (k + 1) i (op :: rest) its i' l' its' := ⟨fun kk => e_pc hp hSh (h.go kk) hd⟩
theorem Dp {op : Oper} {v : Rho → Value} (hp : ∀ ρ S, PureOp Tryd.prog n (alOf its al0 ρ) (Sh ρ S) R0' op (v ρ)) (hi : Ind ops i v) (hSh : Still ops Sh i) (hd : op.dst = some d) (h : DRun n ops Q Sh R0' al0 k (i + 1) rest (⟨i, some d, v, fun _ => [], fun _ => []⟩ :: its) i' l' its') : DRun n ops Q Sh R0' al0 (k + 1) i (op :: rest) its i' l' its' := ⟨fun kk => e_p hp hi hSh (h.go kk) hd⟩
theorem Dgc {op : Go.Op} {q : Nat} {b : Bool} {m : List Oper} (hv : ∀ ρ, gv n (alOf its al0 ρ) m q = some b) (hp : ∀ ρ S, PureOp Tryd.prog n (alOf its al0 ρ) (Sh ρ S) R0' ⟨some d, op, ty, pos, aft, none⟩ v) (hSh : ∀ ρ g S, S i = false → Sh (Rho.set ρ i g) (upS S i) = Sh ρ S) (h : DRun n m.toArray Q Sh R0' al0 k (i + 1) rest (⟨i, some d, fun _ => v, fun _ => [], fun _ => []⟩ :: its) i' l' its') : DRun n m.toArray Q Sh R0' al0 (k + 1) i (⟨some d, op, ty, pos, aft, some (q, b)⟩ :: rest) its i' l' its' := ⟨fun kk => dj (dgy (dc hp (h.go kk) rfl hSh) hv)⟩
theorem Dgn {op : Go.Op} {q : Nat} {b : Bool} {m : List Oper} (hv : ∀ ρ, gv n (alOf its al0 ρ) m q = some (!b)) (hSh : ∀ ρ g S, S i = false → Sh (Rho.set ρ i g) (upS S i) = Sh ρ S) (h : DRun n m.toArray Q Sh R0' al0 k (i + 1) rest (⟨i, some d, fun _ => undef, fun _ => [], fun _ => []⟩ :: its) i' l' its') : DRun n m.toArray Q Sh R0' al0 (k + 1) i (⟨some d, op, ty, pos, aft, some (q, b)⟩ :: rest) its i' l' its' := ⟨fun kk => dj (dgn (h.go kk) hv hSh)⟩
theorem Dgu {op : Go.Op} {q : Nat} {b : Bool} {m : List Oper} (hv : ∀ ρ, gu n (alOf its al0 ρ) m q = true) (hSh : ∀ ρ g S, S i = false → Sh (Rho.set ρ i g) (upS S i) = Sh ρ S) (h : DRun n m.toArray Q Sh R0' al0 k (i + 1) rest (⟨i, some d, fun _ => undef, fun _ => [], fun _ => []⟩ :: its) i' l' its') : DRun n m.toArray Q Sh R0' al0 (k + 1) i (⟨some d, op, ty, pos, aft, some (q, b)⟩ :: rest) its i' l' its' := ⟨fun kk => dj (dgu (h.go kk) hv hSh)⟩
/-- The same where the order is open. -/
theorem mdr (h : DRun n ops Q Sh R0' al0 k i l its i' l' its' := by repeat (first | exact D0 | (apply Dc; (focus (intro _ _; first | (apply kmv; exact q_mv) | (apply kas; exact q_as) | (apply kfa; first | exact q_fa CFo.h | exact q_fe CFo.h) | (apply kld; first | exact q_l1 CNa.h | exact q_lA CAg.h CSz.h | exact q_lNb _ CAg.h CSz.h | exact q_lNc _ CAg.h CSz.h | exact q_lNf _ CAg.h CSz.h) | (apply knc; first | exact q_nb | exact q_ne) | (apply kpk; first | exact q_pT | exact q_pF) | (apply kix; first | exact q_iN CSo.h | exact q_iI CSo.h) | (apply kxt; exact q_x) | (apply kun; first | exact q_notD | exact q_not) | (apply kle; exact q_len CUs.h) | (apply kbd; first | exact q_bd CSt.h | exact q_bdR CSt.h) | (apply kbe; exact q_in b_eqD) | (apply kbn; exact q_in b_neD) | (apply kbl; exact q_in b_lss) | (apply kbm; exact q_in b_leq) | (apply kbg; exact q_in b_gtr) | (apply kbh; exact q_in b_geq) | (apply kba; first | exact q_addN | exact q_add) | (apply kbs; exact q_sub) | (apply kbu; exact q_mul))); (focus exact (fun _ _ _ _ _ => rfl)); (focus exact rfl)) | (apply Dgc; (focus exact (fun _ => rfl)); (focus (intro _ _; first | (apply kmv; exact q_mv) | (apply kas; exact q_as) | (apply kfa; first | exact q_fa CFo.h | exact q_fe CFo.h) | (apply kld; first | exact q_l1 CNa.h | exact q_lA CAg.h CSz.h | exact q_lNb _ CAg.h CSz.h | exact q_lNc _ CAg.h CSz.h | exact q_lNf _ CAg.h CSz.h) | (apply knc; first | exact q_nb | exact q_ne) | (apply kpk; first | exact q_pT | exact q_pF) | (apply kix; first | exact q_iN CSo.h | exact q_iI CSo.h) | (apply kxt; exact q_x) | (apply kun; first | exact q_notD | exact q_not) | (apply kle; exact q_len CUs.h) | (apply kbd; first | exact q_bd CSt.h | exact q_bdR CSt.h) | (apply kbe; exact q_in b_eqD) | (apply kbn; exact q_in b_neD) | (apply kbl; exact q_in b_lss) | (apply kbm; exact q_in b_leq) | (apply kbg; exact q_in b_gtr) | (apply kbh; exact q_in b_geq) | (apply kba; first | exact q_addN | exact q_add) | (apply kbs; exact q_sub) | (apply kbu; exact q_mul))); (focus exact (fun _ _ _ _ => rfl))) | (apply Dgn; (focus exact (fun _ => rfl)); (focus exact (fun _ _ _ _ => rfl))) | (apply Dgu; (focus exact (fun _ => rfl)); (focus exact (fun _ _ _ _ => rfl))) | (apply Dp; (focus (intro _ _; first | (apply kmv; exact q_mv) | (apply kas; exact q_as) | (apply kfa; first | exact q_fa CFo.h | exact q_fe CFo.h) | (apply kld; first | exact q_l1 CNa.h | exact q_lA CAg.h CSz.h | exact q_lNb _ CAg.h CSz.h | exact q_lNc _ CAg.h CSz.h | exact q_lNf _ CAg.h CSz.h) | (apply knc; first | exact q_nb | exact q_ne) | (apply kpk; first | exact q_pT | exact q_pF) | (apply kix; first | exact q_iN CSo.h | exact q_iI CSo.h) | (apply kxt; exact q_x) | (apply kun; first | exact q_notD | exact q_not) | (apply kle; exact q_len CUs.h) | (apply kbd; first | exact q_bd CSt.h | exact q_bdR CSt.h) | (apply kbe; exact q_in b_eqD) | (apply kbn; exact q_in b_neD) | (apply kbl; exact q_in b_lss) | (apply kbm; exact q_in b_leq) | (apply kbg; exact q_in b_gtr) | (apply kbh; exact q_in b_geq) | (apply kba; first | exact q_addN | exact q_add) | (apply kbs; exact q_sub) | (apply kbu; exact q_mul))); (focus exact (fun _ _ _ _ _ => rfl)); (focus exact (fun _ _ _ _ _ => rfl)); (focus exact rfl)))) : DRun n ops Q Sh R0' al0 k i l its i' l' its' := h
theorem dn1 (kk : DJ Tryd.prog n ops Q Sh R0' al0 i' l' its') (h : DRun n ops Q Sh R0' al0 1 i l its i' l' its' := by exact mdr) : DJ Tryd.prog n ops Q Sh R0' al0 i l its := h.go kk
theorem dn2 (kk : DJ Tryd.prog n ops Q Sh R0' al0 i' l' its') (h : DRun n ops Q Sh R0' al0 2 i l its i' l' its' := by exact mdr) : DJ Tryd.prog n ops Q Sh R0' al0 i l its := h.go kk
theorem dn3 (kk : DJ Tryd.prog n ops Q Sh R0' al0 i' l' its') (h : DRun n ops Q Sh R0' al0 3 i l its i' l' its' := by exact mdr) : DJ Tryd.prog n ops Q Sh R0' al0 i l its := h.go kk
theorem dn4 (kk : DJ Tryd.prog n ops Q Sh R0' al0 i' l' its') (h : DRun n ops Q Sh R0' al0 4 i l its i' l' its' := by exact mdr) : DJ Tryd.prog n ops Q Sh R0' al0 i l its := h.go kk
theorem dn5 (kk : DJ Tryd.prog n ops Q Sh R0' al0 i' l' its') (h : DRun n ops Q Sh R0' al0 5 i l its i' l' its' := by exact mdr) : DJ Tryd.prog n ops Q Sh R0' al0 i l its := h.go kk
theorem dn6 (kk : DJ Tryd.prog n ops Q Sh R0' al0 i' l' its') (h : DRun n ops Q Sh R0' al0 6 i l its i' l' its' := by exact mdr) : DJ Tryd.prog n ops Q Sh R0' al0 i l its := h.go kk
theorem dn7 (kk : DJ Tryd.prog n ops Q Sh R0' al0 i' l' its') (h : DRun n ops Q Sh R0' al0 7 i l its i' l' its' := by exact mdr) : DJ Tryd.prog n ops Q Sh R0' al0 i l its := h.go kk
theorem dn8 (kk : DJ Tryd.prog n ops Q Sh R0' al0 i' l' its') (h : DRun n ops Q Sh R0' al0 8 i l its i' l' its' := by exact mdr) : DJ Tryd.prog n ops Q Sh R0' al0 i l its := h.go kk
theorem dn9 (kk : DJ Tryd.prog n ops Q Sh R0' al0 i' l' its') (h : DRun n ops Q Sh R0' al0 9 i l its i' l' its' := by exact mdr) : DJ Tryd.prog n ops Q Sh R0' al0 i l its := h.go kk
theorem dn10 (kk : DJ Tryd.prog n ops Q Sh R0' al0 i' l' its') (h : DRun n ops Q Sh R0' al0 10 i l its i' l' its' := by exact mdr) : DJ Tryd.prog n ops Q Sh R0' al0 i l its := h.go kk
theorem dn11 (kk : DJ Tryd.prog n ops Q Sh R0' al0 i' l' its') (h : DRun n ops Q Sh R0' al0 11 i l its i' l' its' := by exact mdr) : DJ Tryd.prog n ops Q Sh R0' al0 i l its := h.go kk
theorem dn12 (kk : DJ Tryd.prog n ops Q Sh R0' al0 i' l' its') (h : DRun n ops Q Sh R0' al0 12 i l its i' l' its' := by exact mdr) : DJ Tryd.prog n ops Q Sh R0' al0 i l its := h.go kk
theorem dn13 (kk : DJ Tryd.prog n ops Q Sh R0' al0 i' l' its') (h : DRun n ops Q Sh R0' al0 13 i l its i' l' its' := by exact mdr) : DJ Tryd.prog n ops Q Sh R0' al0 i l its := h.go kk
theorem dn14 (kk : DJ Tryd.prog n ops Q Sh R0' al0 i' l' its') (h : DRun n ops Q Sh R0' al0 14 i l its i' l' its' := by exact mdr) : DJ Tryd.prog n ops Q Sh R0' al0 i l its := h.go kk
theorem dn15 (kk : DJ Tryd.prog n ops Q Sh R0' al0 i' l' its') (h : DRun n ops Q Sh R0' al0 15 i l its i' l' its' := by exact mdr) : DJ Tryd.prog n ops Q Sh R0' al0 i l its := h.go kk
theorem dn16 (kk : DJ Tryd.prog n ops Q Sh R0' al0 i' l' its') (h : DRun n ops Q Sh R0' al0 16 i l its i' l' its' := by exact mdr) : DJ Tryd.prog n ops Q Sh R0' al0 i l its := h.go kk
theorem dn17 (kk : DJ Tryd.prog n ops Q Sh R0' al0 i' l' its') (h : DRun n ops Q Sh R0' al0 17 i l its i' l' its' := by exact mdr) : DJ Tryd.prog n ops Q Sh R0' al0 i l its := h.go kk
theorem dn18 (kk : DJ Tryd.prog n ops Q Sh R0' al0 i' l' its') (h : DRun n ops Q Sh R0' al0 18 i l its i' l' its' := by exact mdr) : DJ Tryd.prog n ops Q Sh R0' al0 i l its := h.go kk
theorem dn19 (kk : DJ Tryd.prog n ops Q Sh R0' al0 i' l' its') (h : DRun n ops Q Sh R0' al0 19 i l its i' l' its' := by exact mdr) : DJ Tryd.prog n ops Q Sh R0' al0 i l its := h.go kk
theorem dn20 (kk : DJ Tryd.prog n ops Q Sh R0' al0 i' l' its') (h : DRun n ops Q Sh R0' al0 20 i l its i' l' its' := by exact mdr) : DJ Tryd.prog n ops Q Sh R0' al0 i l its := h.go kk
theorem dn21 (kk : DJ Tryd.prog n ops Q Sh R0' al0 i' l' its') (h : DRun n ops Q Sh R0' al0 21 i l its i' l' its' := by exact mdr) : DJ Tryd.prog n ops Q Sh R0' al0 i l its := h.go kk
theorem dn22 (kk : DJ Tryd.prog n ops Q Sh R0' al0 i' l' its') (h : DRun n ops Q Sh R0' al0 22 i l its i' l' its' := by exact mdr) : DJ Tryd.prog n ops Q Sh R0' al0 i l its := h.go kk
theorem dn23 (kk : DJ Tryd.prog n ops Q Sh R0' al0 i' l' its') (h : DRun n ops Q Sh R0' al0 23 i l its i' l' its' := by exact mdr) : DJ Tryd.prog n ops Q Sh R0' al0 i l its := h.go kk
theorem dn24 (kk : DJ Tryd.prog n ops Q Sh R0' al0 i' l' its') (h : DRun n ops Q Sh R0' al0 24 i l its i' l' its' := by exact mdr) : DJ Tryd.prog n ops Q Sh R0' al0 i l its := h.go kk
theorem dn25 (kk : DJ Tryd.prog n ops Q Sh R0' al0 i' l' its') (h : DRun n ops Q Sh R0' al0 25 i l its i' l' its' := by exact mdr) : DJ Tryd.prog n ops Q Sh R0' al0 i l its := h.go kk
theorem dn26 (kk : DJ Tryd.prog n ops Q Sh R0' al0 i' l' its') (h : DRun n ops Q Sh R0' al0 26 i l its i' l' its' := by exact mdr) : DJ Tryd.prog n ops Q Sh R0' al0 i l its := h.go kk
theorem dn27 (kk : DJ Tryd.prog n ops Q Sh R0' al0 i' l' its') (h : DRun n ops Q Sh R0' al0 27 i l its i' l' its' := by exact mdr) : DJ Tryd.prog n ops Q Sh R0' al0 i l its := h.go kk
theorem dn28 (kk : DJ Tryd.prog n ops Q Sh R0' al0 i' l' its') (h : DRun n ops Q Sh R0' al0 28 i l its i' l' its' := by exact mdr) : DJ Tryd.prog n ops Q Sh R0' al0 i l its := h.go kk
theorem dn29 (kk : DJ Tryd.prog n ops Q Sh R0' al0 i' l' its') (h : DRun n ops Q Sh R0' al0 29 i l its i' l' its' := by exact mdr) : DJ Tryd.prog n ops Q Sh R0' al0 i l its := h.go kk
theorem dn30 (kk : DJ Tryd.prog n ops Q Sh R0' al0 i' l' its') (h : DRun n ops Q Sh R0' al0 30 i l its i' l' its' := by exact mdr) : DJ Tryd.prog n ops Q Sh R0' al0 i l its := h.go kk
theorem dn31 (kk : DJ Tryd.prog n ops Q Sh R0' al0 i' l' its') (h : DRun n ops Q Sh R0' al0 31 i l its i' l' its' := by exact mdr) : DJ Tryd.prog n ops Q Sh R0' al0 i l its := h.go kk
theorem dn32 (kk : DJ Tryd.prog n ops Q Sh R0' al0 i' l' its') (h : DRun n ops Q Sh R0' al0 32 i l its i' l' its' := by exact mdr) : DJ Tryd.prog n ops Q Sh R0' al0 i l its := h.go kk
end
/-- What holds. -/
structure Hold (p : Prop) : Prop where
  h : p
/-- From one region's end to the next one's begin. -/
theorem nx {p q : Prop} (k : p) (h : Hold p → q := by intro h; refine J.nil ?_; refine jx_then ?_; (repeat refine jc_seq ?_); exact h.h) : q := h ⟨k⟩
theorem nr {p q : Prop} (k : p) (h : Hold p → q := by intro h; refine J.nil ?_; refine jx_then ?_; (repeat refine jc_seq ?_); refine jc_region ?_; exact h.h) : q := h ⟨k⟩
theorem sq {p q : Prop} (k : p) (h : Hold p → q := by intro h; (repeat refine jc_seq ?_); exact h.h) : q := h ⟨k⟩
theorem sr {p q : Prop} (k : p) (h : Hold p → q := by intro h; (repeat refine jc_seq ?_); refine jc_region ?_; exact h.h) : q := h ⟨k⟩
theorem rt {p q : Prop} (k : p) (h : Hold p → q := by intro h; refine jc_ret ?_; (repeat (first | refine jx_thenRet ?_ | refine jx_blockRet ?_)); exact h.h) : q := h ⟨k⟩
theorem xt {p q : Prop} (k : p) (h : Hold p → q := by intro h; refine jc_exit ?_; (repeat (first | refine jx_thenExit ?_ | refine jx_blockMiss rfl ?_)); refine jx_blockHit ?_; exact h.h) : q := h ⟨k⟩
/-- One cell is written. -/
theorem sc {p q : Prop} (k : p) (h : Hold p → q := by intro h; (first | refine s_b CSz.h ?_ | refine s_f CSz.h ?_); intro cs hcs; simp only [Nat.zero_add, Nat.add_zero, Nat.reduceAdd, List.set_cons_zero, List.set_cons_succ, Config.cells, Msg.cells, Line.cells, Op.cells, Done.cells, Step.cells, Core.cells, Entry.cells, Chip.cells, El0.cs, El1.cs] at hcs; subst hcs; exact h.h) : q := h ⟨k⟩
theorem bm {n : Nat} {Q : Exit → Act → World → Prop} {id id' : Nat} {L : List Chunk} {R : List Fact} {al : List (Nat × Value)} (h : JX n Q (.exit id') L R al) (hne : Nat.beq id' id = false := by with_unfolding_all exact rfl) : JX n (Exit.inBlock id Q) (.exit id') L R al := jx_blockMiss hne h
/-- What stands between two runs. -/
theorem Gl {p q : Prop} (k : p) (h : Hold p → q := by intro h; (repeat (with_reducible first | refine J.nil ?_ | refine jx_then ?_ | refine jc_seq ?_ | refine jc_block ?_ | refine jc_ret ?_ | refine jx_thenRet ?_ | refine jx_blockRet ?_ | refine jx_block ?_ | refine jc_skip ?_ | refine jc_exit ?_ | refine jx_thenExit ?_ | refine jx_blockHit ?_ | refine bm ?_)); exact h.h) : q := h ⟨k⟩
theorem Glc {p q : Prop} (k : p) (h : Hold p → q := by intro h; (repeat (first | (with_reducible first | refine J.nil ?_ | refine jx_then ?_ | refine jc_seq ?_ | refine jc_block ?_ | refine jc_ret ?_ | refine jx_thenRet ?_ | refine jx_blockRet ?_ | refine jx_block ?_ | refine jc_skip ?_ | refine jc_exit ?_ | refine jx_thenExit ?_ | refine jx_blockHit ?_ | refine bm ?_) | refine cF_ ?_ | refine cT ?_)); exact h.h) : q := h ⟨k⟩
theorem Gmc {p q : Prop} (k : p) (h : Hold p → q := by intro h; (repeat (first | (with_reducible first | refine J.nil ?_ | refine jx_then ?_ | refine jc_seq ?_ | refine jc_block ?_ | refine jc_ret ?_ | refine jx_thenRet ?_ | refine jx_blockRet ?_ | refine jx_block ?_ | refine jc_skip ?_ | refine jc_exit ?_ | refine jx_thenExit ?_ | refine jx_blockHit ?_ | refine bm ?_) | refine cF_ ?_ | refine cT ?_)); refine jc_region ?_; exact h.h) : q := h ⟨k⟩
theorem Gm {p q : Prop} (k : p) (h : Hold p → q := by intro h; (repeat (with_reducible first | refine J.nil ?_ | refine jx_then ?_ | refine jc_seq ?_ | refine jc_block ?_ | refine jc_ret ?_ | refine jx_thenRet ?_ | refine jx_blockRet ?_ | refine jx_block ?_ | refine jc_skip ?_ | refine jc_exit ?_ | refine jx_thenExit ?_ | refine jx_blockHit ?_ | refine bm ?_)); refine jc_region ?_; exact h.h) : q := h ⟨k⟩
section
variable {n : Nat} {Q : Exit → Act → World → Prop} {ops : Array Oper} {rest : List Oper} {L : List Chunk} {R : List Fact} {al al' : List (Nat × Value)} {d k : Nat} {x y z : Operand} {T ty U : TypeId} {pos : String} {aft : Array Edge} {v : Value} {l l' : List Oper}
variable {p : Prop}
theorem Ga1 (kk : p) (h : Run n ops Q L R 1 l al l' al' := by exact mr) (hg : Hold p → J Tryd.prog n ops Q l' L R al' := by intro h; exact Gl h.h) : J Tryd.prog n ops Q l L R al := h.go (hg ⟨kk⟩)
theorem Ga2 (kk : p) (h : Run n ops Q L R 2 l al l' al' := by exact mr) (hg : Hold p → J Tryd.prog n ops Q l' L R al' := by intro h; exact Gl h.h) : J Tryd.prog n ops Q l L R al := h.go (hg ⟨kk⟩)
theorem Ga3 (kk : p) (h : Run n ops Q L R 3 l al l' al' := by exact mr) (hg : Hold p → J Tryd.prog n ops Q l' L R al' := by intro h; exact Gl h.h) : J Tryd.prog n ops Q l L R al := h.go (hg ⟨kk⟩)
theorem Ga4 (kk : p) (h : Run n ops Q L R 4 l al l' al' := by exact mr) (hg : Hold p → J Tryd.prog n ops Q l' L R al' := by intro h; exact Gl h.h) : J Tryd.prog n ops Q l L R al := h.go (hg ⟨kk⟩)
theorem Ga5 (kk : p) (h : Run n ops Q L R 5 l al l' al' := by exact mr) (hg : Hold p → J Tryd.prog n ops Q l' L R al' := by intro h; exact Gl h.h) : J Tryd.prog n ops Q l L R al := h.go (hg ⟨kk⟩)
theorem Ga6 (kk : p) (h : Run n ops Q L R 6 l al l' al' := by exact mr) (hg : Hold p → J Tryd.prog n ops Q l' L R al' := by intro h; exact Gl h.h) : J Tryd.prog n ops Q l L R al := h.go (hg ⟨kk⟩)
theorem Ga7 (kk : p) (h : Run n ops Q L R 7 l al l' al' := by exact mr) (hg : Hold p → J Tryd.prog n ops Q l' L R al' := by intro h; exact Gl h.h) : J Tryd.prog n ops Q l L R al := h.go (hg ⟨kk⟩)
theorem Ga8 (kk : p) (h : Run n ops Q L R 8 l al l' al' := by exact mr) (hg : Hold p → J Tryd.prog n ops Q l' L R al' := by intro h; exact Gl h.h) : J Tryd.prog n ops Q l L R al := h.go (hg ⟨kk⟩)
theorem Ga9 (kk : p) (h : Run n ops Q L R 9 l al l' al' := by exact mr) (hg : Hold p → J Tryd.prog n ops Q l' L R al' := by intro h; exact Gl h.h) : J Tryd.prog n ops Q l L R al := h.go (hg ⟨kk⟩)
theorem Ga10 (kk : p) (h : Run n ops Q L R 10 l al l' al' := by exact mr) (hg : Hold p → J Tryd.prog n ops Q l' L R al' := by intro h; exact Gl h.h) : J Tryd.prog n ops Q l L R al := h.go (hg ⟨kk⟩)
theorem Ga11 (kk : p) (h : Run n ops Q L R 11 l al l' al' := by exact mr) (hg : Hold p → J Tryd.prog n ops Q l' L R al' := by intro h; exact Gl h.h) : J Tryd.prog n ops Q l L R al := h.go (hg ⟨kk⟩)
theorem Ga12 (kk : p) (h : Run n ops Q L R 12 l al l' al' := by exact mr) (hg : Hold p → J Tryd.prog n ops Q l' L R al' := by intro h; exact Gl h.h) : J Tryd.prog n ops Q l L R al := h.go (hg ⟨kk⟩)
theorem Ga13 (kk : p) (h : Run n ops Q L R 13 l al l' al' := by exact mr) (hg : Hold p → J Tryd.prog n ops Q l' L R al' := by intro h; exact Gl h.h) : J Tryd.prog n ops Q l L R al := h.go (hg ⟨kk⟩)
theorem Ga14 (kk : p) (h : Run n ops Q L R 14 l al l' al' := by exact mr) (hg : Hold p → J Tryd.prog n ops Q l' L R al' := by intro h; exact Gl h.h) : J Tryd.prog n ops Q l L R al := h.go (hg ⟨kk⟩)
theorem Ga15 (kk : p) (h : Run n ops Q L R 15 l al l' al' := by exact mr) (hg : Hold p → J Tryd.prog n ops Q l' L R al' := by intro h; exact Gl h.h) : J Tryd.prog n ops Q l L R al := h.go (hg ⟨kk⟩)
theorem Ga16 (kk : p) (h : Run n ops Q L R 16 l al l' al' := by exact mr) (hg : Hold p → J Tryd.prog n ops Q l' L R al' := by intro h; exact Gl h.h) : J Tryd.prog n ops Q l L R al := h.go (hg ⟨kk⟩)
theorem Ga17 (kk : p) (h : Run n ops Q L R 17 l al l' al' := by exact mr) (hg : Hold p → J Tryd.prog n ops Q l' L R al' := by intro h; exact Gl h.h) : J Tryd.prog n ops Q l L R al := h.go (hg ⟨kk⟩)
theorem Ga18 (kk : p) (h : Run n ops Q L R 18 l al l' al' := by exact mr) (hg : Hold p → J Tryd.prog n ops Q l' L R al' := by intro h; exact Gl h.h) : J Tryd.prog n ops Q l L R al := h.go (hg ⟨kk⟩)
theorem Ga19 (kk : p) (h : Run n ops Q L R 19 l al l' al' := by exact mr) (hg : Hold p → J Tryd.prog n ops Q l' L R al' := by intro h; exact Gl h.h) : J Tryd.prog n ops Q l L R al := h.go (hg ⟨kk⟩)
theorem Ga20 (kk : p) (h : Run n ops Q L R 20 l al l' al' := by exact mr) (hg : Hold p → J Tryd.prog n ops Q l' L R al' := by intro h; exact Gl h.h) : J Tryd.prog n ops Q l L R al := h.go (hg ⟨kk⟩)
theorem Ga21 (kk : p) (h : Run n ops Q L R 21 l al l' al' := by exact mr) (hg : Hold p → J Tryd.prog n ops Q l' L R al' := by intro h; exact Gl h.h) : J Tryd.prog n ops Q l L R al := h.go (hg ⟨kk⟩)
theorem Ga22 (kk : p) (h : Run n ops Q L R 22 l al l' al' := by exact mr) (hg : Hold p → J Tryd.prog n ops Q l' L R al' := by intro h; exact Gl h.h) : J Tryd.prog n ops Q l L R al := h.go (hg ⟨kk⟩)
theorem Ga23 (kk : p) (h : Run n ops Q L R 23 l al l' al' := by exact mr) (hg : Hold p → J Tryd.prog n ops Q l' L R al' := by intro h; exact Gl h.h) : J Tryd.prog n ops Q l L R al := h.go (hg ⟨kk⟩)
theorem Ga24 (kk : p) (h : Run n ops Q L R 24 l al l' al' := by exact mr) (hg : Hold p → J Tryd.prog n ops Q l' L R al' := by intro h; exact Gl h.h) : J Tryd.prog n ops Q l L R al := h.go (hg ⟨kk⟩)
theorem Ga25 (kk : p) (h : Run n ops Q L R 25 l al l' al' := by exact mr) (hg : Hold p → J Tryd.prog n ops Q l' L R al' := by intro h; exact Gl h.h) : J Tryd.prog n ops Q l L R al := h.go (hg ⟨kk⟩)
theorem Ga26 (kk : p) (h : Run n ops Q L R 26 l al l' al' := by exact mr) (hg : Hold p → J Tryd.prog n ops Q l' L R al' := by intro h; exact Gl h.h) : J Tryd.prog n ops Q l L R al := h.go (hg ⟨kk⟩)
theorem Ga27 (kk : p) (h : Run n ops Q L R 27 l al l' al' := by exact mr) (hg : Hold p → J Tryd.prog n ops Q l' L R al' := by intro h; exact Gl h.h) : J Tryd.prog n ops Q l L R al := h.go (hg ⟨kk⟩)
theorem Ga28 (kk : p) (h : Run n ops Q L R 28 l al l' al' := by exact mr) (hg : Hold p → J Tryd.prog n ops Q l' L R al' := by intro h; exact Gl h.h) : J Tryd.prog n ops Q l L R al := h.go (hg ⟨kk⟩)
theorem Ga29 (kk : p) (h : Run n ops Q L R 29 l al l' al' := by exact mr) (hg : Hold p → J Tryd.prog n ops Q l' L R al' := by intro h; exact Gl h.h) : J Tryd.prog n ops Q l L R al := h.go (hg ⟨kk⟩)
theorem Ga30 (kk : p) (h : Run n ops Q L R 30 l al l' al' := by exact mr) (hg : Hold p → J Tryd.prog n ops Q l' L R al' := by intro h; exact Gl h.h) : J Tryd.prog n ops Q l L R al := h.go (hg ⟨kk⟩)
theorem Ga31 (kk : p) (h : Run n ops Q L R 31 l al l' al' := by exact mr) (hg : Hold p → J Tryd.prog n ops Q l' L R al' := by intro h; exact Gl h.h) : J Tryd.prog n ops Q l L R al := h.go (hg ⟨kk⟩)
theorem Ga32 (kk : p) (h : Run n ops Q L R 32 l al l' al' := by exact mr) (hg : Hold p → J Tryd.prog n ops Q l' L R al' := by intro h; exact Gl h.h) : J Tryd.prog n ops Q l L R al := h.go (hg ⟨kk⟩)
theorem Gb1 (kk : p) (h : Run n ops Q L R 1 l al l' al' := by exact mr) (hg : Hold p → J Tryd.prog n ops Q l' L R al' := by intro h; exact Gm h.h) : J Tryd.prog n ops Q l L R al := h.go (hg ⟨kk⟩)
theorem Gb2 (kk : p) (h : Run n ops Q L R 2 l al l' al' := by exact mr) (hg : Hold p → J Tryd.prog n ops Q l' L R al' := by intro h; exact Gm h.h) : J Tryd.prog n ops Q l L R al := h.go (hg ⟨kk⟩)
theorem Gb3 (kk : p) (h : Run n ops Q L R 3 l al l' al' := by exact mr) (hg : Hold p → J Tryd.prog n ops Q l' L R al' := by intro h; exact Gm h.h) : J Tryd.prog n ops Q l L R al := h.go (hg ⟨kk⟩)
theorem Gb4 (kk : p) (h : Run n ops Q L R 4 l al l' al' := by exact mr) (hg : Hold p → J Tryd.prog n ops Q l' L R al' := by intro h; exact Gm h.h) : J Tryd.prog n ops Q l L R al := h.go (hg ⟨kk⟩)
theorem Gb5 (kk : p) (h : Run n ops Q L R 5 l al l' al' := by exact mr) (hg : Hold p → J Tryd.prog n ops Q l' L R al' := by intro h; exact Gm h.h) : J Tryd.prog n ops Q l L R al := h.go (hg ⟨kk⟩)
theorem Gb6 (kk : p) (h : Run n ops Q L R 6 l al l' al' := by exact mr) (hg : Hold p → J Tryd.prog n ops Q l' L R al' := by intro h; exact Gm h.h) : J Tryd.prog n ops Q l L R al := h.go (hg ⟨kk⟩)
theorem Gb7 (kk : p) (h : Run n ops Q L R 7 l al l' al' := by exact mr) (hg : Hold p → J Tryd.prog n ops Q l' L R al' := by intro h; exact Gm h.h) : J Tryd.prog n ops Q l L R al := h.go (hg ⟨kk⟩)
theorem Gb8 (kk : p) (h : Run n ops Q L R 8 l al l' al' := by exact mr) (hg : Hold p → J Tryd.prog n ops Q l' L R al' := by intro h; exact Gm h.h) : J Tryd.prog n ops Q l L R al := h.go (hg ⟨kk⟩)
theorem Gb9 (kk : p) (h : Run n ops Q L R 9 l al l' al' := by exact mr) (hg : Hold p → J Tryd.prog n ops Q l' L R al' := by intro h; exact Gm h.h) : J Tryd.prog n ops Q l L R al := h.go (hg ⟨kk⟩)
theorem Gb10 (kk : p) (h : Run n ops Q L R 10 l al l' al' := by exact mr) (hg : Hold p → J Tryd.prog n ops Q l' L R al' := by intro h; exact Gm h.h) : J Tryd.prog n ops Q l L R al := h.go (hg ⟨kk⟩)
theorem Gb11 (kk : p) (h : Run n ops Q L R 11 l al l' al' := by exact mr) (hg : Hold p → J Tryd.prog n ops Q l' L R al' := by intro h; exact Gm h.h) : J Tryd.prog n ops Q l L R al := h.go (hg ⟨kk⟩)
theorem Gb12 (kk : p) (h : Run n ops Q L R 12 l al l' al' := by exact mr) (hg : Hold p → J Tryd.prog n ops Q l' L R al' := by intro h; exact Gm h.h) : J Tryd.prog n ops Q l L R al := h.go (hg ⟨kk⟩)
theorem Gb13 (kk : p) (h : Run n ops Q L R 13 l al l' al' := by exact mr) (hg : Hold p → J Tryd.prog n ops Q l' L R al' := by intro h; exact Gm h.h) : J Tryd.prog n ops Q l L R al := h.go (hg ⟨kk⟩)
theorem Gb14 (kk : p) (h : Run n ops Q L R 14 l al l' al' := by exact mr) (hg : Hold p → J Tryd.prog n ops Q l' L R al' := by intro h; exact Gm h.h) : J Tryd.prog n ops Q l L R al := h.go (hg ⟨kk⟩)
theorem Gb15 (kk : p) (h : Run n ops Q L R 15 l al l' al' := by exact mr) (hg : Hold p → J Tryd.prog n ops Q l' L R al' := by intro h; exact Gm h.h) : J Tryd.prog n ops Q l L R al := h.go (hg ⟨kk⟩)
theorem Gb16 (kk : p) (h : Run n ops Q L R 16 l al l' al' := by exact mr) (hg : Hold p → J Tryd.prog n ops Q l' L R al' := by intro h; exact Gm h.h) : J Tryd.prog n ops Q l L R al := h.go (hg ⟨kk⟩)
theorem Gb17 (kk : p) (h : Run n ops Q L R 17 l al l' al' := by exact mr) (hg : Hold p → J Tryd.prog n ops Q l' L R al' := by intro h; exact Gm h.h) : J Tryd.prog n ops Q l L R al := h.go (hg ⟨kk⟩)
theorem Gb18 (kk : p) (h : Run n ops Q L R 18 l al l' al' := by exact mr) (hg : Hold p → J Tryd.prog n ops Q l' L R al' := by intro h; exact Gm h.h) : J Tryd.prog n ops Q l L R al := h.go (hg ⟨kk⟩)
theorem Gb19 (kk : p) (h : Run n ops Q L R 19 l al l' al' := by exact mr) (hg : Hold p → J Tryd.prog n ops Q l' L R al' := by intro h; exact Gm h.h) : J Tryd.prog n ops Q l L R al := h.go (hg ⟨kk⟩)
theorem Gb20 (kk : p) (h : Run n ops Q L R 20 l al l' al' := by exact mr) (hg : Hold p → J Tryd.prog n ops Q l' L R al' := by intro h; exact Gm h.h) : J Tryd.prog n ops Q l L R al := h.go (hg ⟨kk⟩)
theorem Gb21 (kk : p) (h : Run n ops Q L R 21 l al l' al' := by exact mr) (hg : Hold p → J Tryd.prog n ops Q l' L R al' := by intro h; exact Gm h.h) : J Tryd.prog n ops Q l L R al := h.go (hg ⟨kk⟩)
theorem Gb22 (kk : p) (h : Run n ops Q L R 22 l al l' al' := by exact mr) (hg : Hold p → J Tryd.prog n ops Q l' L R al' := by intro h; exact Gm h.h) : J Tryd.prog n ops Q l L R al := h.go (hg ⟨kk⟩)
theorem Gb23 (kk : p) (h : Run n ops Q L R 23 l al l' al' := by exact mr) (hg : Hold p → J Tryd.prog n ops Q l' L R al' := by intro h; exact Gm h.h) : J Tryd.prog n ops Q l L R al := h.go (hg ⟨kk⟩)
theorem Gb24 (kk : p) (h : Run n ops Q L R 24 l al l' al' := by exact mr) (hg : Hold p → J Tryd.prog n ops Q l' L R al' := by intro h; exact Gm h.h) : J Tryd.prog n ops Q l L R al := h.go (hg ⟨kk⟩)
theorem Gb25 (kk : p) (h : Run n ops Q L R 25 l al l' al' := by exact mr) (hg : Hold p → J Tryd.prog n ops Q l' L R al' := by intro h; exact Gm h.h) : J Tryd.prog n ops Q l L R al := h.go (hg ⟨kk⟩)
theorem Gb26 (kk : p) (h : Run n ops Q L R 26 l al l' al' := by exact mr) (hg : Hold p → J Tryd.prog n ops Q l' L R al' := by intro h; exact Gm h.h) : J Tryd.prog n ops Q l L R al := h.go (hg ⟨kk⟩)
theorem Gb27 (kk : p) (h : Run n ops Q L R 27 l al l' al' := by exact mr) (hg : Hold p → J Tryd.prog n ops Q l' L R al' := by intro h; exact Gm h.h) : J Tryd.prog n ops Q l L R al := h.go (hg ⟨kk⟩)
theorem Gb28 (kk : p) (h : Run n ops Q L R 28 l al l' al' := by exact mr) (hg : Hold p → J Tryd.prog n ops Q l' L R al' := by intro h; exact Gm h.h) : J Tryd.prog n ops Q l L R al := h.go (hg ⟨kk⟩)
theorem Gb29 (kk : p) (h : Run n ops Q L R 29 l al l' al' := by exact mr) (hg : Hold p → J Tryd.prog n ops Q l' L R al' := by intro h; exact Gm h.h) : J Tryd.prog n ops Q l L R al := h.go (hg ⟨kk⟩)
theorem Gb30 (kk : p) (h : Run n ops Q L R 30 l al l' al' := by exact mr) (hg : Hold p → J Tryd.prog n ops Q l' L R al' := by intro h; exact Gm h.h) : J Tryd.prog n ops Q l L R al := h.go (hg ⟨kk⟩)
theorem Gb31 (kk : p) (h : Run n ops Q L R 31 l al l' al' := by exact mr) (hg : Hold p → J Tryd.prog n ops Q l' L R al' := by intro h; exact Gm h.h) : J Tryd.prog n ops Q l L R al := h.go (hg ⟨kk⟩)
theorem Gb32 (kk : p) (h : Run n ops Q L R 32 l al l' al' := by exact mr) (hg : Hold p → J Tryd.prog n ops Q l' L R al' := by intro h; exact Gm h.h) : J Tryd.prog n ops Q l L R al := h.go (hg ⟨kk⟩)
theorem Gc1 (kk : p) (h : Run n ops Q L R 1 l al l' al' := by exact mr) (hg : Hold p → J Tryd.prog n ops Q l' L R al' := by intro h; exact Glc h.h) : J Tryd.prog n ops Q l L R al := h.go (hg ⟨kk⟩)
theorem Gc2 (kk : p) (h : Run n ops Q L R 2 l al l' al' := by exact mr) (hg : Hold p → J Tryd.prog n ops Q l' L R al' := by intro h; exact Glc h.h) : J Tryd.prog n ops Q l L R al := h.go (hg ⟨kk⟩)
theorem Gc3 (kk : p) (h : Run n ops Q L R 3 l al l' al' := by exact mr) (hg : Hold p → J Tryd.prog n ops Q l' L R al' := by intro h; exact Glc h.h) : J Tryd.prog n ops Q l L R al := h.go (hg ⟨kk⟩)
theorem Gc4 (kk : p) (h : Run n ops Q L R 4 l al l' al' := by exact mr) (hg : Hold p → J Tryd.prog n ops Q l' L R al' := by intro h; exact Glc h.h) : J Tryd.prog n ops Q l L R al := h.go (hg ⟨kk⟩)
theorem Gc5 (kk : p) (h : Run n ops Q L R 5 l al l' al' := by exact mr) (hg : Hold p → J Tryd.prog n ops Q l' L R al' := by intro h; exact Glc h.h) : J Tryd.prog n ops Q l L R al := h.go (hg ⟨kk⟩)
theorem Gc6 (kk : p) (h : Run n ops Q L R 6 l al l' al' := by exact mr) (hg : Hold p → J Tryd.prog n ops Q l' L R al' := by intro h; exact Glc h.h) : J Tryd.prog n ops Q l L R al := h.go (hg ⟨kk⟩)
theorem Gc7 (kk : p) (h : Run n ops Q L R 7 l al l' al' := by exact mr) (hg : Hold p → J Tryd.prog n ops Q l' L R al' := by intro h; exact Glc h.h) : J Tryd.prog n ops Q l L R al := h.go (hg ⟨kk⟩)
theorem Gc8 (kk : p) (h : Run n ops Q L R 8 l al l' al' := by exact mr) (hg : Hold p → J Tryd.prog n ops Q l' L R al' := by intro h; exact Glc h.h) : J Tryd.prog n ops Q l L R al := h.go (hg ⟨kk⟩)
theorem Gc9 (kk : p) (h : Run n ops Q L R 9 l al l' al' := by exact mr) (hg : Hold p → J Tryd.prog n ops Q l' L R al' := by intro h; exact Glc h.h) : J Tryd.prog n ops Q l L R al := h.go (hg ⟨kk⟩)
theorem Gc10 (kk : p) (h : Run n ops Q L R 10 l al l' al' := by exact mr) (hg : Hold p → J Tryd.prog n ops Q l' L R al' := by intro h; exact Glc h.h) : J Tryd.prog n ops Q l L R al := h.go (hg ⟨kk⟩)
theorem Gc11 (kk : p) (h : Run n ops Q L R 11 l al l' al' := by exact mr) (hg : Hold p → J Tryd.prog n ops Q l' L R al' := by intro h; exact Glc h.h) : J Tryd.prog n ops Q l L R al := h.go (hg ⟨kk⟩)
theorem Gc12 (kk : p) (h : Run n ops Q L R 12 l al l' al' := by exact mr) (hg : Hold p → J Tryd.prog n ops Q l' L R al' := by intro h; exact Glc h.h) : J Tryd.prog n ops Q l L R al := h.go (hg ⟨kk⟩)
theorem Gc13 (kk : p) (h : Run n ops Q L R 13 l al l' al' := by exact mr) (hg : Hold p → J Tryd.prog n ops Q l' L R al' := by intro h; exact Glc h.h) : J Tryd.prog n ops Q l L R al := h.go (hg ⟨kk⟩)
theorem Gc14 (kk : p) (h : Run n ops Q L R 14 l al l' al' := by exact mr) (hg : Hold p → J Tryd.prog n ops Q l' L R al' := by intro h; exact Glc h.h) : J Tryd.prog n ops Q l L R al := h.go (hg ⟨kk⟩)
theorem Gc15 (kk : p) (h : Run n ops Q L R 15 l al l' al' := by exact mr) (hg : Hold p → J Tryd.prog n ops Q l' L R al' := by intro h; exact Glc h.h) : J Tryd.prog n ops Q l L R al := h.go (hg ⟨kk⟩)
theorem Gc16 (kk : p) (h : Run n ops Q L R 16 l al l' al' := by exact mr) (hg : Hold p → J Tryd.prog n ops Q l' L R al' := by intro h; exact Glc h.h) : J Tryd.prog n ops Q l L R al := h.go (hg ⟨kk⟩)
theorem Gc17 (kk : p) (h : Run n ops Q L R 17 l al l' al' := by exact mr) (hg : Hold p → J Tryd.prog n ops Q l' L R al' := by intro h; exact Glc h.h) : J Tryd.prog n ops Q l L R al := h.go (hg ⟨kk⟩)
theorem Gc18 (kk : p) (h : Run n ops Q L R 18 l al l' al' := by exact mr) (hg : Hold p → J Tryd.prog n ops Q l' L R al' := by intro h; exact Glc h.h) : J Tryd.prog n ops Q l L R al := h.go (hg ⟨kk⟩)
theorem Gc19 (kk : p) (h : Run n ops Q L R 19 l al l' al' := by exact mr) (hg : Hold p → J Tryd.prog n ops Q l' L R al' := by intro h; exact Glc h.h) : J Tryd.prog n ops Q l L R al := h.go (hg ⟨kk⟩)
theorem Gc20 (kk : p) (h : Run n ops Q L R 20 l al l' al' := by exact mr) (hg : Hold p → J Tryd.prog n ops Q l' L R al' := by intro h; exact Glc h.h) : J Tryd.prog n ops Q l L R al := h.go (hg ⟨kk⟩)
theorem Gc21 (kk : p) (h : Run n ops Q L R 21 l al l' al' := by exact mr) (hg : Hold p → J Tryd.prog n ops Q l' L R al' := by intro h; exact Glc h.h) : J Tryd.prog n ops Q l L R al := h.go (hg ⟨kk⟩)
theorem Gc22 (kk : p) (h : Run n ops Q L R 22 l al l' al' := by exact mr) (hg : Hold p → J Tryd.prog n ops Q l' L R al' := by intro h; exact Glc h.h) : J Tryd.prog n ops Q l L R al := h.go (hg ⟨kk⟩)
theorem Gc23 (kk : p) (h : Run n ops Q L R 23 l al l' al' := by exact mr) (hg : Hold p → J Tryd.prog n ops Q l' L R al' := by intro h; exact Glc h.h) : J Tryd.prog n ops Q l L R al := h.go (hg ⟨kk⟩)
theorem Gc24 (kk : p) (h : Run n ops Q L R 24 l al l' al' := by exact mr) (hg : Hold p → J Tryd.prog n ops Q l' L R al' := by intro h; exact Glc h.h) : J Tryd.prog n ops Q l L R al := h.go (hg ⟨kk⟩)
theorem Gc25 (kk : p) (h : Run n ops Q L R 25 l al l' al' := by exact mr) (hg : Hold p → J Tryd.prog n ops Q l' L R al' := by intro h; exact Glc h.h) : J Tryd.prog n ops Q l L R al := h.go (hg ⟨kk⟩)
theorem Gc26 (kk : p) (h : Run n ops Q L R 26 l al l' al' := by exact mr) (hg : Hold p → J Tryd.prog n ops Q l' L R al' := by intro h; exact Glc h.h) : J Tryd.prog n ops Q l L R al := h.go (hg ⟨kk⟩)
theorem Gc27 (kk : p) (h : Run n ops Q L R 27 l al l' al' := by exact mr) (hg : Hold p → J Tryd.prog n ops Q l' L R al' := by intro h; exact Glc h.h) : J Tryd.prog n ops Q l L R al := h.go (hg ⟨kk⟩)
theorem Gc28 (kk : p) (h : Run n ops Q L R 28 l al l' al' := by exact mr) (hg : Hold p → J Tryd.prog n ops Q l' L R al' := by intro h; exact Glc h.h) : J Tryd.prog n ops Q l L R al := h.go (hg ⟨kk⟩)
theorem Gc29 (kk : p) (h : Run n ops Q L R 29 l al l' al' := by exact mr) (hg : Hold p → J Tryd.prog n ops Q l' L R al' := by intro h; exact Glc h.h) : J Tryd.prog n ops Q l L R al := h.go (hg ⟨kk⟩)
theorem Gc30 (kk : p) (h : Run n ops Q L R 30 l al l' al' := by exact mr) (hg : Hold p → J Tryd.prog n ops Q l' L R al' := by intro h; exact Glc h.h) : J Tryd.prog n ops Q l L R al := h.go (hg ⟨kk⟩)
theorem Gc31 (kk : p) (h : Run n ops Q L R 31 l al l' al' := by exact mr) (hg : Hold p → J Tryd.prog n ops Q l' L R al' := by intro h; exact Glc h.h) : J Tryd.prog n ops Q l L R al := h.go (hg ⟨kk⟩)
theorem Gc32 (kk : p) (h : Run n ops Q L R 32 l al l' al' := by exact mr) (hg : Hold p → J Tryd.prog n ops Q l' L R al' := by intro h; exact Glc h.h) : J Tryd.prog n ops Q l L R al := h.go (hg ⟨kk⟩)
theorem Gd1 (kk : p) (h : Run n ops Q L R 1 l al l' al' := by exact mr) (hg : Hold p → J Tryd.prog n ops Q l' L R al' := by intro h; exact Gmc h.h) : J Tryd.prog n ops Q l L R al := h.go (hg ⟨kk⟩)
theorem Gd2 (kk : p) (h : Run n ops Q L R 2 l al l' al' := by exact mr) (hg : Hold p → J Tryd.prog n ops Q l' L R al' := by intro h; exact Gmc h.h) : J Tryd.prog n ops Q l L R al := h.go (hg ⟨kk⟩)
theorem Gd3 (kk : p) (h : Run n ops Q L R 3 l al l' al' := by exact mr) (hg : Hold p → J Tryd.prog n ops Q l' L R al' := by intro h; exact Gmc h.h) : J Tryd.prog n ops Q l L R al := h.go (hg ⟨kk⟩)
theorem Gd4 (kk : p) (h : Run n ops Q L R 4 l al l' al' := by exact mr) (hg : Hold p → J Tryd.prog n ops Q l' L R al' := by intro h; exact Gmc h.h) : J Tryd.prog n ops Q l L R al := h.go (hg ⟨kk⟩)
theorem Gd5 (kk : p) (h : Run n ops Q L R 5 l al l' al' := by exact mr) (hg : Hold p → J Tryd.prog n ops Q l' L R al' := by intro h; exact Gmc h.h) : J Tryd.prog n ops Q l L R al := h.go (hg ⟨kk⟩)
theorem Gd6 (kk : p) (h : Run n ops Q L R 6 l al l' al' := by exact mr) (hg : Hold p → J Tryd.prog n ops Q l' L R al' := by intro h; exact Gmc h.h) : J Tryd.prog n ops Q l L R al := h.go (hg ⟨kk⟩)
theorem Gd7 (kk : p) (h : Run n ops Q L R 7 l al l' al' := by exact mr) (hg : Hold p → J Tryd.prog n ops Q l' L R al' := by intro h; exact Gmc h.h) : J Tryd.prog n ops Q l L R al := h.go (hg ⟨kk⟩)
theorem Gd8 (kk : p) (h : Run n ops Q L R 8 l al l' al' := by exact mr) (hg : Hold p → J Tryd.prog n ops Q l' L R al' := by intro h; exact Gmc h.h) : J Tryd.prog n ops Q l L R al := h.go (hg ⟨kk⟩)
theorem Gd9 (kk : p) (h : Run n ops Q L R 9 l al l' al' := by exact mr) (hg : Hold p → J Tryd.prog n ops Q l' L R al' := by intro h; exact Gmc h.h) : J Tryd.prog n ops Q l L R al := h.go (hg ⟨kk⟩)
theorem Gd10 (kk : p) (h : Run n ops Q L R 10 l al l' al' := by exact mr) (hg : Hold p → J Tryd.prog n ops Q l' L R al' := by intro h; exact Gmc h.h) : J Tryd.prog n ops Q l L R al := h.go (hg ⟨kk⟩)
theorem Gd11 (kk : p) (h : Run n ops Q L R 11 l al l' al' := by exact mr) (hg : Hold p → J Tryd.prog n ops Q l' L R al' := by intro h; exact Gmc h.h) : J Tryd.prog n ops Q l L R al := h.go (hg ⟨kk⟩)
theorem Gd12 (kk : p) (h : Run n ops Q L R 12 l al l' al' := by exact mr) (hg : Hold p → J Tryd.prog n ops Q l' L R al' := by intro h; exact Gmc h.h) : J Tryd.prog n ops Q l L R al := h.go (hg ⟨kk⟩)
theorem Gd13 (kk : p) (h : Run n ops Q L R 13 l al l' al' := by exact mr) (hg : Hold p → J Tryd.prog n ops Q l' L R al' := by intro h; exact Gmc h.h) : J Tryd.prog n ops Q l L R al := h.go (hg ⟨kk⟩)
theorem Gd14 (kk : p) (h : Run n ops Q L R 14 l al l' al' := by exact mr) (hg : Hold p → J Tryd.prog n ops Q l' L R al' := by intro h; exact Gmc h.h) : J Tryd.prog n ops Q l L R al := h.go (hg ⟨kk⟩)
theorem Gd15 (kk : p) (h : Run n ops Q L R 15 l al l' al' := by exact mr) (hg : Hold p → J Tryd.prog n ops Q l' L R al' := by intro h; exact Gmc h.h) : J Tryd.prog n ops Q l L R al := h.go (hg ⟨kk⟩)
theorem Gd16 (kk : p) (h : Run n ops Q L R 16 l al l' al' := by exact mr) (hg : Hold p → J Tryd.prog n ops Q l' L R al' := by intro h; exact Gmc h.h) : J Tryd.prog n ops Q l L R al := h.go (hg ⟨kk⟩)
theorem Gd17 (kk : p) (h : Run n ops Q L R 17 l al l' al' := by exact mr) (hg : Hold p → J Tryd.prog n ops Q l' L R al' := by intro h; exact Gmc h.h) : J Tryd.prog n ops Q l L R al := h.go (hg ⟨kk⟩)
theorem Gd18 (kk : p) (h : Run n ops Q L R 18 l al l' al' := by exact mr) (hg : Hold p → J Tryd.prog n ops Q l' L R al' := by intro h; exact Gmc h.h) : J Tryd.prog n ops Q l L R al := h.go (hg ⟨kk⟩)
theorem Gd19 (kk : p) (h : Run n ops Q L R 19 l al l' al' := by exact mr) (hg : Hold p → J Tryd.prog n ops Q l' L R al' := by intro h; exact Gmc h.h) : J Tryd.prog n ops Q l L R al := h.go (hg ⟨kk⟩)
theorem Gd20 (kk : p) (h : Run n ops Q L R 20 l al l' al' := by exact mr) (hg : Hold p → J Tryd.prog n ops Q l' L R al' := by intro h; exact Gmc h.h) : J Tryd.prog n ops Q l L R al := h.go (hg ⟨kk⟩)
theorem Gd21 (kk : p) (h : Run n ops Q L R 21 l al l' al' := by exact mr) (hg : Hold p → J Tryd.prog n ops Q l' L R al' := by intro h; exact Gmc h.h) : J Tryd.prog n ops Q l L R al := h.go (hg ⟨kk⟩)
theorem Gd22 (kk : p) (h : Run n ops Q L R 22 l al l' al' := by exact mr) (hg : Hold p → J Tryd.prog n ops Q l' L R al' := by intro h; exact Gmc h.h) : J Tryd.prog n ops Q l L R al := h.go (hg ⟨kk⟩)
theorem Gd23 (kk : p) (h : Run n ops Q L R 23 l al l' al' := by exact mr) (hg : Hold p → J Tryd.prog n ops Q l' L R al' := by intro h; exact Gmc h.h) : J Tryd.prog n ops Q l L R al := h.go (hg ⟨kk⟩)
theorem Gd24 (kk : p) (h : Run n ops Q L R 24 l al l' al' := by exact mr) (hg : Hold p → J Tryd.prog n ops Q l' L R al' := by intro h; exact Gmc h.h) : J Tryd.prog n ops Q l L R al := h.go (hg ⟨kk⟩)
theorem Gd25 (kk : p) (h : Run n ops Q L R 25 l al l' al' := by exact mr) (hg : Hold p → J Tryd.prog n ops Q l' L R al' := by intro h; exact Gmc h.h) : J Tryd.prog n ops Q l L R al := h.go (hg ⟨kk⟩)
theorem Gd26 (kk : p) (h : Run n ops Q L R 26 l al l' al' := by exact mr) (hg : Hold p → J Tryd.prog n ops Q l' L R al' := by intro h; exact Gmc h.h) : J Tryd.prog n ops Q l L R al := h.go (hg ⟨kk⟩)
theorem Gd27 (kk : p) (h : Run n ops Q L R 27 l al l' al' := by exact mr) (hg : Hold p → J Tryd.prog n ops Q l' L R al' := by intro h; exact Gmc h.h) : J Tryd.prog n ops Q l L R al := h.go (hg ⟨kk⟩)
theorem Gd28 (kk : p) (h : Run n ops Q L R 28 l al l' al' := by exact mr) (hg : Hold p → J Tryd.prog n ops Q l' L R al' := by intro h; exact Gmc h.h) : J Tryd.prog n ops Q l L R al := h.go (hg ⟨kk⟩)
theorem Gd29 (kk : p) (h : Run n ops Q L R 29 l al l' al' := by exact mr) (hg : Hold p → J Tryd.prog n ops Q l' L R al' := by intro h; exact Gmc h.h) : J Tryd.prog n ops Q l L R al := h.go (hg ⟨kk⟩)
theorem Gd30 (kk : p) (h : Run n ops Q L R 30 l al l' al' := by exact mr) (hg : Hold p → J Tryd.prog n ops Q l' L R al' := by intro h; exact Gmc h.h) : J Tryd.prog n ops Q l L R al := h.go (hg ⟨kk⟩)
theorem Gd31 (kk : p) (h : Run n ops Q L R 31 l al l' al' := by exact mr) (hg : Hold p → J Tryd.prog n ops Q l' L R al' := by intro h; exact Gmc h.h) : J Tryd.prog n ops Q l L R al := h.go (hg ⟨kk⟩)
theorem Gd32 (kk : p) (h : Run n ops Q L R 32 l al l' al' := by exact mr) (hg : Hold p → J Tryd.prog n ops Q l' L R al' := by intro h; exact Gmc h.h) : J Tryd.prog n ops Q l L R al := h.go (hg ⟨kk⟩)
theorem jd_ {id : Nat} (Sh : Rho → (Nat → Bool) → List Chunk) (k : DJ Tryd.prog n l.toArray Q Sh R al 0 l []) (hsl : slotsOk l.toArray = true := by kernel_rfl) (hed : edgesOk l.toArray = true := by kernel_rfl) (hL : ∀ ρ, Sh ρ (fun _ => false) = L := by exact fun _ => rfl) : JC Tryd.prog n (.region id l.toArray true) Q L R al := jc_draw mixed hsl hed Sh hL k
theorem jdc_ {id : Nat} (k : DJ Tryd.prog n l.toArray Q (fun _ _ => L) R al 0 l []) (hsl : slotsOk l.toArray = true := by kernel_rfl) (hed : edgesOk l.toArray = true := by kernel_rfl) : JC Tryd.prog n (.region id l.toArray true) Q L R al := jc_draw mixed hsl hed (fun _ _ => L) (fun _ => rfl) k
variable {Sh : Rho → (Nat → Bool) → List Chunk} {R0 : List Fact} {al0 : List (Nat × Value)} {its : List Item} {i : Nat} {q : Rho → Prop}
theorem dnl (k : ∀ ρ, q ρ) (h : ∀ ρ, Hold (q ρ) → JX n Q .normal (chunks its ρ ++ Sh ρ (fun j => Nat.blt j i)) (facts its ρ ++ R0) (alOf its al0 ρ) := by intro ρ h; simp only [chunks, facts, alOf, List.append_nil, List.nil_append, List.cons_append]; exact h.h) : DJ Tryd.prog n ops Q Sh R0 al0 i [] its := d_nilC fun ρ => h ρ ⟨k ρ⟩
theorem dtl {o : Oper} (k : ∀ ρ, q ρ) (ht : tailOk ops i = true := by kernel_rfl) (h : ∀ ρ, Hold (q ρ) → J Tryd.prog n ops Q (o :: rest) (chunks its ρ ++ Sh ρ (fun j => Nat.blt j i)) (facts its ρ ++ R0) (alOf its al0 ρ) := by intro ρ h; simp only [chunks, facts, alOf, List.append_nil, List.nil_append, List.cons_append]; exact h.h) : DJ Tryd.prog n ops Q Sh R0 al0 i (o :: rest) its := d_tailC ht fun ρ => h ρ ⟨k ρ⟩
theorem djc {op : Oper} (hp : ∀ ρ S, PureOp Tryd.prog n (alOf its al0 ρ) (Sh ρ S) R0 op v) (k : DJ Tryd.prog n ops Q Sh R0 al0 (i + 1) rest (⟨i, some d, fun _ => v, fun _ => [], fun _ => []⟩ :: its)) (hd : op.dst = some d := by exact rfl) (hSh : ∀ ρ g S, S i = false → Sh (Rho.set ρ i g) (upS S i) = Sh ρ S := by exact fun _ _ _ _ => rfl) : DJ Tryd.prog n ops Q Sh R0 al0 i (op :: rest) its := dj (dc hp k hd hSh)
theorem epc {op : Oper} (hp : ∀ ρ S, PureOp Tryd.prog n (alOf its al0 ρ) (Sh ρ S) R0 op v) (k : DJ Tryd.prog n ops Q Sh R0 al0 (i + 1) rest (⟨i, some d, fun _ => v, fun _ => [], fun _ => []⟩ :: its)) (hSh : Still ops Sh i := by exact fun _ _ _ _ _ => rfl) (hd : op.dst = some d := by exact rfl) : DJ Tryd.prog n ops Q Sh R0 al0 i (op :: rest) its := e_pc hp hSh k hd
theorem epp {op : Oper} {v : Rho → Value} (hp : ∀ ρ S, PureOp Tryd.prog n (alOf its al0 ρ) (Sh ρ S) R0 op (v ρ)) (k : DJ Tryd.prog n ops Q Sh R0 al0 (i + 1) rest (⟨i, some d, v, fun _ => [], fun _ => []⟩ :: its)) (hi : Ind ops i v := by first | exact Ind.const _ | exact fun _ _ _ _ _ => rfl | exact Ind.self | exact Ind.gh _ 3 rfl) (hSh : Still ops Sh i := by exact fun _ _ _ _ _ => rfl) (hd : op.dst = some d := by exact rfl) : DJ Tryd.prog n ops Q Sh R0 al0 i (op :: rest) its := e_p hp hi hSh k hd
theorem Ind.gd {γ : Type} [Gh γ] {j f : Nat} (hj : befB ops f j i = true) : Ind ops i (fun ρ => Gh.dec (γ := γ) (ρ j)) := Ind.gh (h := fun g => Gh.dec (γ := γ) g) j f hj
def befs (ops : Array Oper) (i : Nat) (l : List Nat) : Bool := l.all fun j => befB ops 9 j i
def afts (ops : Array Oper) (i : Nat) (l : List Nat) : Bool := l.all fun j => befB ops 9 i j
def AllS (S : Nat → Bool) (b : Bool) : List Nat → Prop
  | [] => True
  | j :: r => S j = b ∧ AllS S b r
theorem AllS.mk {S : Nat → Bool} {b : Bool} : ∀ {l : List Nat}, (∀ j, j ∈ l → S j = b) → AllS S b l
  | [], _ => trivial
  | j :: r, h => ⟨h j (.head _), AllS.mk fun j hj => h j (.tail _ hj)⟩
theorem Rho.at_set {ρ : Rho} {i : Nat} {g : G} : Rho.set ρ i g i = g := by simp [Rho.set]
theorem Rho.at_ne {ρ : Rho} {i j : Nat} {g : G} (h : Nat.beq j i = false) : Rho.set ρ i g j = ρ j := by
  have : j ≠ i := fun e => by rw [e, Nat.beq_refl] at h; cases h
  simp [Rho.set, this]
theorem upS_at {S : Nat → Bool} {i : Nat} : upS S i i = true := by simp [upS]
theorem upS_no {S : Nat → Bool} {i j : Nat} (h : Nat.beq j i = false) : upS S i j = S j := by simp [upS, h]
/-- A piece that is being written is written again. -/
theorem es_ (T0 : TypeId) (f : Nat) (bz az : List Nat) (bb : Rho → Nat) (vs us : Rho → List Value) {v : Rho → Value} {sz : Nat} (hsz : ∀ w, (sizeOf T).run Tryd.prog w = .ok sz w) (k : DJ Tryd.prog n ops Q Sh R0 al0 (i + 1) rest (⟨i, none, fun _ => undef, fun _ => [], fun _ => []⟩ :: its)) (hx : ∀ ρ, ev n (alOf its al0 ρ) x = some (bp (bb ρ) f) := by exact fun _ => rfl) (hy : ∀ ρ, ev n (alOf its al0 ρ) y = some (v ρ) := by exact fun _ => rfl) (hv : ∀ ρ, (v ρ).cells = (us ρ).toArray := by exact fun _ => rfl) (hl : ∀ ρ, (us ρ).length = sz := by exact fun _ => rfl)
    (h1 : ∀ ρ R' w L', Deps ops R0 its i ρ R' → St L' R' w → ∀ u ∈ us ρ, u.oneCell' = true := by exact fun _ _ _ _ _ _ => by first | (intro u hu; revert u hu; simp [Value.oneCell', Config.cells, Msg.cells, Line.cells, Op.cells, Done.cells, Step.cells]; done) | (repeat (first | exact one_nil | refine one_cons (by first | exact rfl | assumption) ?_))) (hf : ∀ ρ, Nat.ble (f + sz) (vs ρ).length = true := by exact fun _ => rfl) (hb : befs ops i bz = true := by kernel_rfl) (ha : afts ops i az = true := by kernel_rfl)
    (hSh : ∀ ρ g S, S i = false → AllS S true bz → AllS S false az → ∃ L1, (Sh ρ S).Perm (blk (bb ρ) T0 (vs ρ) :: L1) ∧ (Sh (Rho.set ρ i g) (upS S i)).Perm (blk (bb ρ) T0 ((vs ρ).take f ++ us ρ ++ (vs ρ).drop (f + sz)) :: L1) := by intro ρ g S hS hB hA; simp only [AllS, and_true] at hB hA; simp +decide only [upS_at, upS_no, Rho.at_ne, hS, hB, hA, cond_true, cond_false]; exact Pos.ex (by repeat (first | exact .hd | exact .hc | apply Pos.tl | apply Pos.ap))) : DJ Tryd.prog n ops Q Sh R0 al0 i (⟨none, .store T x y, ty, pos, aft, none⟩ :: rest) its :=
  e_store bb hsz hx hy hv hl h1 hf (fun ρ g S hS hB hA => hSh ρ g S hS (AllS.mk fun j hj => hB j ⟨9, List.all_eq_true.1 hb j hj⟩) (AllS.mk fun j hj => hA j ⟨9, List.all_eq_true.1 ha j hj⟩)) k
end
section
variable {P : Program} {n : Nat} {L L' L1 : List Chunk} {R : List Fact} {al : List (Nat × Value)} {γ : Type} {val : γ → Value} {Lf : γ → List Chunk} {Rf : γ → List Fact} {fn : Func} {e : Exit} {t u s r : Nat} {v v1 v2 v3 v4 : Value} {ty : TypeId} {sz b : Nat} {cs : List Value} {T0 : TypeId} {Q : Exit → Act → World → Prop} {c : Code}
theorem cq_ (L' : List Chunk) (k : JC P n c Q L' R al) (h : ∀ w, St L R w → St L' R w := by exact fun w hs => st_cut hs) : JC P n c Q L R al := JC.conseq h k
theorem xq_ (L' : List Chunk) (k : JX n Q e L' R al) (h : ∀ w, St L R w → St L' R w := by exact fun w hs => hs) : JX n Q e L R al := JX.conseq h k
theorem res4 {fn : Func} {t u s r : Nat} {v1 v2 v3 v4 : Value} (hf : fn.results = #[.tmp t, .tmp u, .tmp s, .tmp r]) (h1 : ev n al (.tmp t) = some v1) (h2 : ev n al (.tmp u) = some v2) (h3 : ev n al (.tmp s) = some v3) (h4 : ev n al (.tmp r) = some v4) (B : Nat → Value) (w : World) : (results fn (mkA n al B).tmps).run P w = .ok (.tuple #[v1, v2, v3, v4]) w := by
  have e1 := look_tmps (B := B) h1
  have e2 := look_tmps (B := B) h2
  have e3 := look_tmps (B := B) h3
  have e4 := look_tmps (B := B) h4
  simp [results, hf, e1, e2, e3, e4]
theorem rete1 (g : γ) (he : e = .normal ∨ e = .ret := by first | exact .inr rfl | exact .inl rfl) (hf : fn.results = #[.tmp t] := by exact rfl) (h0 : ev n al (.tmp t) = some v1 := by exact rfl) (hv : v1 = val g := by rfl) (hs : ∀ w, St L R w → St (Lf g) (Rf g) w := by exact fun w hs => st_cut hs) : JX n (bodyPost P fn (Post val Lf Rf)) e L R al := jx_body he (fun B w _ => res1 hf h0 B w) (fun w h => ⟨g, hv, hs w h⟩)
theorem retc1 (g : γ) (hT : ∀ w, (isAgg ty).run P w = .ok true w) (hsz : ∀ w, (sizeOf ty).run P w = .ok sz w) (he : e = .normal ∨ e = .ret := by first | exact .inr rfl | exact .inl rfl) (hf : fn.results = #[.cell t ty] := by exact rfl) (h0 : ev n al (.tmp t) = some (bp b 0) := by exact rfl)  (hp : Pick L (blk b T0 cs) L1 := by exact pkk) (hl : cs.length = sz := by exact rfl) (hv : (.agg cs.toArray) = val g := by rfl) (hs : ∀ w, St L R w → St (Lf g) (Rf g) w := by exact fun w hs => st_cut hs) : JX n (bodyPost P fn (Post val Lf Rf)) e L R al := jx_body he (fun B w hw => resC1 hf h0  hT hsz hp hl B w hw) (fun w h => ⟨g, hv, hs w h⟩)
theorem rete2 (g : γ) (he : e = .normal ∨ e = .ret := by first | exact .inr rfl | exact .inl rfl) (hf : fn.results = #[.tmp t, .tmp u] := by exact rfl) (h0 : ev n al (.tmp t) = some v1 := by exact rfl) (h1 : ev n al (.tmp u) = some v2 := by exact rfl) (hv : (.tuple #[v1, v2]) = val g := by rfl) (hs : ∀ w, St L R w → St (Lf g) (Rf g) w := by exact fun w hs => st_cut hs) : JX n (bodyPost P fn (Post val Lf Rf)) e L R al := jx_body he (fun B w _ => res2 hf h0 h1 B w) (fun w h => ⟨g, hv, hs w h⟩)
theorem retc2 (g : γ) (hT : ∀ w, (isAgg ty).run P w = .ok true w) (hsz : ∀ w, (sizeOf ty).run P w = .ok sz w) (he : e = .normal ∨ e = .ret := by first | exact .inr rfl | exact .inl rfl) (hf : fn.results = #[.cell t ty, .tmp u] := by exact rfl) (h0 : ev n al (.tmp t) = some (bp b 0) := by exact rfl) (h1 : ev n al (.tmp u) = some v2 := by exact rfl) (hp : Pick L (blk b T0 cs) L1 := by exact pkk) (hl : cs.length = sz := by exact rfl) (hv : (.tuple #[.agg cs.toArray, v2]) = val g := by rfl) (hs : ∀ w, St L R w → St (Lf g) (Rf g) w := by exact fun w hs => st_cut hs) : JX n (bodyPost P fn (Post val Lf Rf)) e L R al := jx_body he (fun B w hw => resC2 hf h0 h1 hT hsz hp hl B w hw) (fun w h => ⟨g, hv, hs w h⟩)
theorem rete3 (g : γ) (he : e = .normal ∨ e = .ret := by first | exact .inr rfl | exact .inl rfl) (hf : fn.results = #[.tmp t, .tmp u, .tmp s] := by exact rfl) (h0 : ev n al (.tmp t) = some v1 := by exact rfl) (h1 : ev n al (.tmp u) = some v2 := by exact rfl) (h2 : ev n al (.tmp s) = some v3 := by exact rfl) (hv : (.tuple #[v1, v2, v3]) = val g := by rfl) (hs : ∀ w, St L R w → St (Lf g) (Rf g) w := by exact fun w hs => st_cut hs) : JX n (bodyPost P fn (Post val Lf Rf)) e L R al := jx_body he (fun B w _ => res3 hf h0 h1 h2 B w) (fun w h => ⟨g, hv, hs w h⟩)
theorem retc3 (g : γ) (hT : ∀ w, (isAgg ty).run P w = .ok true w) (hsz : ∀ w, (sizeOf ty).run P w = .ok sz w) (he : e = .normal ∨ e = .ret := by first | exact .inr rfl | exact .inl rfl) (hf : fn.results = #[.cell t ty, .tmp u, .tmp s] := by exact rfl) (h0 : ev n al (.tmp t) = some (bp b 0) := by exact rfl) (h1 : ev n al (.tmp u) = some v2 := by exact rfl) (h2 : ev n al (.tmp s) = some v3 := by exact rfl) (hp : Pick L (blk b T0 cs) L1 := by exact pkk) (hl : cs.length = sz := by exact rfl) (hv : (.tuple #[.agg cs.toArray, v2, v3]) = val g := by rfl) (hs : ∀ w, St L R w → St (Lf g) (Rf g) w := by exact fun w hs => st_cut hs) : JX n (bodyPost P fn (Post val Lf Rf)) e L R al := jx_body he (fun B w hw => resC3 hf h0 h1 h2 hT hsz hp hl B w hw) (fun w h => ⟨g, hv, hs w h⟩)
theorem rete4 (g : γ) (he : e = .normal ∨ e = .ret := by first | exact .inr rfl | exact .inl rfl) (hf : fn.results = #[.tmp t, .tmp u, .tmp s, .tmp r] := by exact rfl) (h0 : ev n al (.tmp t) = some v1 := by exact rfl) (h1 : ev n al (.tmp u) = some v2 := by exact rfl) (h2 : ev n al (.tmp s) = some v3 := by exact rfl) (h3 : ev n al (.tmp r) = some v4 := by exact rfl) (hv : (.tuple #[v1, v2, v3, v4]) = val g := by rfl) (hs : ∀ w, St L R w → St (Lf g) (Rf g) w := by exact fun w hs => st_cut hs) : JX n (bodyPost P fn (Post val Lf Rf)) e L R al := jx_body he (fun B w _ => res4 hf h0 h1 h2 h3 B w) (fun w h => ⟨g, hv, hs w h⟩)
theorem retc4 (g : γ) (hT : ∀ w, (isAgg ty).run P w = .ok true w) (hsz : ∀ w, (sizeOf ty).run P w = .ok sz w) (he : e = .normal ∨ e = .ret := by first | exact .inr rfl | exact .inl rfl) (hf : fn.results = #[.cell t ty, .tmp u, .tmp s, .tmp r] := by exact rfl) (h0 : ev n al (.tmp t) = some (bp b 0) := by exact rfl) (h1 : ev n al (.tmp u) = some v2 := by exact rfl) (h2 : ev n al (.tmp s) = some v3 := by exact rfl) (h3 : ev n al (.tmp r) = some v4 := by exact rfl) (hp : Pick L (blk b T0 cs) L1 := by exact pkk) (hl : cs.length = sz := by exact rfl) (hv : (.tuple #[.agg cs.toArray, v2, v3, v4]) = val g := by rfl) (hs : ∀ w, St L R w → St (Lf g) (Rf g) w := by exact fun w hs => st_cut hs) : JX n (bodyPost P fn (Post val Lf Rf)) e L R al := jx_body he (fun B w hw => resC4 hf h0 h1 h2 h3 hT hsz hp hl B w hw) (fun w h => ⟨g, hv, hs w h⟩)
end
end Go.Proofs.YtiofgjolhbgkiaaDoor
end
section
/- This file proves what the library functions Itoa, Atoi, Split, Cut and Join do with what is owned and known, where the variables of the library are as their initialisers lay them. No conditions. -/
set_option maxHeartbeats 1000000
set_option maxRecDepth 8000
namespace Go.Proofs.YtiofgjolhbgkiaaDoor
open Go
open Go.Lib (itoa atoiAll)
/-- The variables of the library are as their initialisers lay them. -/
def lbF : Fact := ⟨fun j => (varF 1 (Lib.pow10Tab.map fun z => Value.int .u64 z)).p j ∧ (∃ m : Int, (celF 0 (vi m)).p j) ∧ (∃ (tp : TypeId) (p : Value), (varF 2 [.iface tp p]).p j) ∧ ∃ (tp : TypeId) (p : Value), (varF 3 [.iface tp p]).p j,
  fun j j' h ⟨h1, ⟨m, h2⟩, ⟨a, b, h3⟩, c, d, h4⟩ => ⟨Fact.mono _ _ _ h h1, ⟨m, Fact.mono _ _ _ h h2⟩, ⟨a, b, Fact.mono _ _ _ h h3⟩, c, d, Fact.mono _ _ _ h h4⟩⟩
section
variable {L : List Chunk} {R : List Fact} {w : World}
theorem lb_tab (hl : lbF ∈ R) (hs : St L R w) : Lib.TabIs Tryd.prog w "internal/strconv.uint64pow10" .u64 Lib.pow10Tab := by
  obtain ⟨m, j, hd, hm, hj, hst, hr⟩ := hs
  obtain ⟨h1, _⟩ := hr _ hl
  exact var_of (R := [varF 1 (Lib.pow10Tab.map fun z => Value.int .u64 z)]) (L := L) (by kernel_rfl) (.head _) ⟨m, j, hd, hm, hj, hst, fun f hf => by cases List.mem_singleton.1 hf; exact h1⟩
theorem lb_max (hl : lbF ∈ R) (hs : St L R w) : ∃ m : Int, w.cell? ⟨0, 0, none⟩ = some (vi m) := by
  obtain ⟨m, j, hd, hm, hj, hst, hr⟩ := hs
  obtain ⟨_, ⟨k, cells, T, fz, h1, h2⟩, _⟩ := hr _ hl
  exact ⟨k, by rw [cell_of (mem_ob (hj _ _ h1))]; exact h2⟩
theorem lb_syn (hl : lbF ∈ R) (hs : St L R w) : ∃ (tp : TypeId) (p : Value), w.var? Tryd.prog "strconv.ErrSyntax" = some #[.iface tp p] := by
  obtain ⟨m, j, hd, hm, hj, hst, hr⟩ := hs
  obtain ⟨_, _, ⟨a, b, h1⟩, _⟩ := hr _ hl
  exact ⟨a, b, var_of (R := [varF 2 [.iface a b]]) (L := L) (by kernel_rfl) (.head _) ⟨m, j, hd, hm, hj, hst, fun f hf => by cases List.mem_singleton.1 hf; exact h1⟩⟩
theorem lb_rng (hl : lbF ∈ R) (hs : St L R w) : ∃ (tp : TypeId) (p : Value), w.var? Tryd.prog "strconv.ErrRange" = some #[.iface tp p] := by
  obtain ⟨m, j, hd, hm, hj, hst, hr⟩ := hs
  obtain ⟨_, _, _, a, b, h1⟩ := hr _ hl
  exact ⟨a, b, var_of (R := [varF 3 [.iface a b]]) (L := L) (by kernel_rfl) (.head _) ⟨m, j, hd, hm, hj, hst, fun f hf => by cases List.mem_singleton.1 hf; exact h1⟩⟩
/-- Itoa. -/
theorem cItoa {n : Int} (hs : St L R w) (hl : lbF ∈ R) (hn : In64 n) : Calls Tryd.prog 15 [vi n].toArray w (Post (fun _ : Unit => .string (bstr (itoa n))) (fun _ => L) (fun _ => R)) :=
  calls_grows hs (fun w' ⟨k, os, e⟩ => by subst e; exact grows_grow k os) (Tryd.strconv_Itoa n hn.1 hn.2 w (lb_tab hl hs))
/-- Atoi. -/
theorem cAtoi {l : Bs} (hs : St L R w) (hl : lbF ∈ R) (hn : l.length ≤ 4294967280) : Calls Tryd.prog 37 [.string (bstr l)].toArray w (Post (fun g : TypeId × Value => .tuple #[vi (vOf l), erV (okA l) g]) (fun _ => L) (fun _ => R)) := by
  have hz : (bstr l).size = l.length := bstr_size l
  cases h : atoiAll l
  · rename_i v
    have e1 : vOf l = v := by unfold vOf; rw [h]
    have e2 : okA l = true := by unfold okA; rw [h]
    rw [e1, e2]
    exact (Any.strconv_Atoi_ok Tryd.laysC172 (bstr l) (by omega) v (by rw [bs_data]; exact h) w).mono fun e w' ⟨h1, h2⟩ => ⟨(0, .nilIface), h1, hs.grows (by
      rcases h2 with e | ⟨t, e⟩
      · rw [e]; exact Mem.le_refl _
      · rw [e]; exact grows_below (Lib.bytesWorld_below w _ t))⟩
  · have e1 : vOf l = 0 := by unfold vOf; rw [h]
    have e2 : okA l = false := by unfold okA; rw [h]
    rw [e1, e2]
    obtain ⟨tp, p, hv⟩ := lb_syn hl hs
    exact (Any.strconv_Atoi_syntax_var Tryd.laysC172 (bstr l) (by omega) (by rw [bs_data]; exact h) tp p w hv).mono fun e w' ⟨N, h1, _, _, h2⟩ => ⟨(85, _), h1, hs.grows (grows_below h2)⟩
  · have e1 : vOf l = Go.Lib.atoiSat l := by unfold vOf; rw [h]
    have e2 : okA l = false := by unfold okA; rw [h]
    rw [e1, e2]
    obtain ⟨tp, p, hv⟩ := lb_rng hl hs
    exact (Any.strconv_Atoi_range_var Tryd.laysC172 (bstr l) (by omega) (by rw [bs_data]; exact h) tp p w hv).mono fun e w' ⟨N, h1, _, _, h2⟩ => ⟨(85, _), h1, hs.grows (grows_below h2)⟩
/-- Cut at one byte. -/
theorem cCut {l : Bs} {c : UInt8} (hs : St L R w) (hl : lbF ∈ R) (hn : l.length ≤ 4294967280) : Calls Tryd.prog 24 [.string (bstr l), .string (bstr [c])].toArray w (Post (fun _ : Unit => .tuple #[.string (bstr (Lib.cut l [c]).1), .string (bstr (Lib.cut l [c]).2.1), .bool (Lib.cut l [c]).2.2]) (fun _ => L) (fun _ => R)) := by
  obtain ⟨m, hm⟩ := lb_max hl hs
  have hz : (bstr l).size = l.length := bstr_size l
  exact calls_grows hs (fun w' ⟨k, e⟩ => by subst e; exact grows_drewN k) (Tryd.strings_Cut (bstr l) (bstr [c]) m w (by omega) hm)
theorem cCutF {l : Bs} {c : UInt8} (hs : St L R w) (hl : lbF ∈ R) (hn : l.length ≤ 4294967280) (h : c ∉ l) : Calls Tryd.prog 24 [.string (bstr l), .string (bstr [c])].toArray w (Post (fun _ : Unit => .tuple #[.string (bstr l), .string (bstr []), .bool false]) (fun _ => L) (fun _ => R)) := by
  have := cCut (c := c) hs hl hn
  rw [cut_free h] at this; exact this
theorem cCutT {b r : Bs} {c : UInt8} (hs : St L R w) (hl : lbF ∈ R) (hn : (b ++ c :: r).length ≤ 4294967280) (h : c ∉ b) : Calls Tryd.prog 24 [.string (bstr (b ++ c :: r)), .string (bstr [c])].toArray w (Post (fun _ : Unit => .tuple #[.string (bstr b), .string (bstr r), .bool true]) (fun _ => L) (fun _ => R)) := by
  have := cCut (c := c) hs hl hn
  rw [cut_hit h] at this; exact this
/-- Split at one byte. -/
theorem cSplit {l : Bs} {c : UInt8} (hs : St L R w) (hl : lbF ∈ R) (hn : l.length ≤ 16777215) : Calls Tryd.prog 31 [.string (bstr l), .string (bstr [c])].toArray w (Post (fun v : Value => v) (fun _ => L) (fun v => sl (α := Wd) v (cutAt c l) :: R)) := by
  obtain ⟨m, hm⟩ := lb_max hl hs
  have hz : (bstr l).size = l.length := bstr_size l
  have h1 : 1 ≤ (bstr [c]).size := Nat.le_refl 1
  have hle := Lib.countB_le (bstr [c]) h1 _ (bstr l) (Nat.le_refl _)
  have hlen := Lib.splitB_all (bstr [c]) h1 0 _ (bstr l) rfl
  have e1 : (Lib.splitB (bstr [c]) 0 (Lib.countB (bstr l) (bstr [c])) (bstr l)).map (·.data.toList) = cutAt c l := by
    rw [Lib.splitB_data]; exact split_cut c l
  have e2 : (Lib.splitB (bstr [c]) 0 (Lib.countB (bstr l) (bstr [c])) (bstr l)).map Value.string = (cutAt c l).map fun x => Value.string (bstr x) := by
    rw [← e1, List.map_map]; rfl
  have e3 : (cutAt c l).length = Lib.countB (bstr l) (bstr [c]) + 1 := by rw [← e1, List.length_map, hlen]
  refine (Tryd.strings_Split (bstr l) (bstr [c]) m w (by omega) hm h1).mono fun e w' ⟨g1, g2⟩ => ⟨_, g1, ?_⟩
  rw [g2, e2, ← e3]
  exact sl_new (ws := cutAt c l) hs (by have : maxN = 16777216 := rfl; have e4 : @List.length Wd (cutAt c l) = @List.length Bs (cutAt c l) := rfl; omega)
/-- Join at a blank. -/
theorem cJoin {v : Value} {l : List Bs} (hs : St L R w) (h0 : sl (α := Wd) v l ∈ R) (hne : l ≠ []) (hn : (joinW l).length ≤ 140737488355328) : Calls Tryd.prog 17 [v, .string (bstr [32])].toArray w (Post (fun _ : Unit => .string (bstr (joinW l))) (fun _ => L) (fun _ => R)) := by
  obtain ⟨m, j, hd, hm, hj, hst, hr⟩ := id hs
  obtain ⟨base, cap, (hv : v = .slice base (@List.length Bs l) cap), ⟨(hN : @List.length Bs l ≤ maxN), (hcap : @List.length Bs l ≤ cap)⟩, hc⟩ := hr _ h0
  obtain ⟨a, cells, T, fz, cs, h1, h2, h3, h4, h5⟩ := hc hne
  obtain ⟨bk, o, sp⟩ := a
  simp only at h2; subst h2
  have hb := mem_ob (hj _ _ h3)
  have hrd : ∀ (l : List Bs) (cs : List Value), RdL (α := Wd) l cs j → cs = l.map fun x => Value.string (bstr x) := by
    intro l
    induction l with
    | nil => intro cs h; exact h
    | cons x l ih =>
      rintro cs ⟨c1, c2, e, (g1 : c1 = _), g2⟩
      rw [e, g1, ih _ g2]; rfl
  have hcs := hrd _ _ h5
  have hcell : ∀ (k : Nat) x, (l.map bstr)[k]? = some x → w.cell? ⟨bk, o + k, none⟩ = some (.string x) := by
    intro k x hk
    rw [cell_of hb]
    have e1 : cs[k]? = some (.string x) := by
      rw [hcs, List.getElem?_map]
      rw [List.getElem?_map] at hk
      obtain ⟨y, hy, rfl⟩ := Option.map_eq_some_iff.1 hk
      rw [hy]; rfl
    rw [← h4, List.getElem?_take] at e1
    split at e1
    · rw [List.getElem?_drop] at e1
      rw [← Array.getElem?_toList]; exact e1
    · cases e1
  have hlt : bk < w.heap.size := by
    rcases Nat.lt_or_ge bk w.heap.size with h | h
    · exact h
    · rw [Array.getElem?_eq_none h] at hb; cases hb
  have hl : (l.map bstr).length = @List.length Bs l := List.length_map _
  have hmn : maxN = 16777216 := rfl
  have c := Tryd.strings_Join bk o cap (l.map bstr) (bstr [32]) w hcell hlt (by rw [hl]; omega) (by rw [hl]; exact hcap) (by rw [bs_map, bs_data, join_is]; exact hn)
  rw [hl, bs_map, bs_data, join_is] at c
  rw [hv, h1]
  exact calls_grows hs (fun w' e => grows_below e) c
theorem split_bytes : ∀ {l : List ByteArray}, l = (l.map (·.data.toList)).map bstr
  | [] => rfl
  | b :: l => by rw [List.map_cons, List.map_cons, ← split_bytes]; rfl
end
end Go.Proofs.YtiofgjolhbgkiaaDoor
namespace Go.Proofs.YtiofgjolhbgkiaaDoor
end Go.Proofs.YtiofgjolhbgkiaaDoor
end
section
/- This file proves how arguments that are texts, or rows of structs of five fields, are read, and how long they are. No conditions. -/
namespace Go.Proofs.YtiofgjolhbgkiaaDoor
open Go Go.ChangeShapes Go.WideShapes Go.ChangeAt Go.RowKit
variable {P : Program}
theorem bulk_all_ge {H : Type} {k : Nat} {l : List (DataW H)} (h : ∀ x ∈ l, k ≤ Rows.uptoBulk x) : k * l.length ≤ Rows.uptoBulkAll l := by
  induction l with
  | nil => simp
  | cons x r ih =>
    have h1 := h x (List.mem_cons_self ..)
    have h2 := ih fun y hy => h y (List.mem_cons_of_mem _ hy)
    simp only [Rows.uptoBulkAll, List.length_cons, Nat.mul_succ]; omega
section
variable {H : Type} {enc : TypeId × Value → H} {W : World} {sp : Nat → Bool} {held : Bool} {base : Nat} {t : TypeId} {v : Value} {d : DataW H} {ps : List MemPlace}
/-- A row of structs of five fields: each counts six at least. -/
theorem arg_rows {α : Type} [Enc α] {e : TypeId} {fs : Array Field} (ht : P.underlying t = some (.slice e)) (he : P.underlying e = some (.struct fs)) (h5 : fs.size = 5) (hr : Reads P (List α) t) (hok : Value.okWide P W .any base t v) (h : DataW.Trod enc P W 0 sp held t v d ps) (hb : Rows.uptoBulk d ≤ 1048576) : ∃ xs : List α, (sl v xs).p (memOf W) ∧ 6 * xs.length ≤ 1048576 := by
  obtain ⟨a, len, cap, rfl⟩ := okWide_slice ht hok
  obtain ⟨fuel, hf⟩ := h
  obtain ⟨xs, u, hu, hx⟩ := hr H enc W sp held fuel _ d ps hf hb
  have hu' : [Value.slice a len cap] = [u] := hu
  injection hu' with hu'
  subst hu'
  refine ⟨xs, hx, ?_⟩
  obtain ⟨b, c, he2, _⟩ := hx
  cases he2
  rcases DataW.trod_slice ht hf with ⟨hv, hx⟩ | ⟨a', len', cap', elems, rest, n, hn, hv, hx, hba, hlc, hcm, hel, hget, _⟩
  · have : [Value.slice a xs.length cap] = [Value.slice none 0 0] := hv
    simp at this; omega
  · have e1 : [Value.slice a xs.length cap] = [Value.slice (some a') len' cap'] := hv
    simp only [List.cons.injEq, Value.slice.injEq, and_true] at e1
    simp only [Prod.mk.injEq] at hx
    obtain ⟨rfl, _⟩ := hx
    simp only [Rows.uptoBulk] at hb
    have h6 : 6 * (elems.map (·.1)).length ≤ Rows.uptoBulkAll (elems.map (·.1)) := bulk_all_ge fun x hx => by
      obtain ⟨y, hy, rfl⟩ := List.mem_map.1 hx
      obtain ⟨i, hi, e⟩ := List.mem_iff_getElem.1 hy
      have h1 := hget i (by omega)
      rw [List.getElem?_eq_getElem hi, Option.bind_eq_some_iff] at h1
      obtain ⟨es, h2, h3⟩ := h1
      obtain ⟨zs, n2, hf2, hx2, hl2, hxl2, hget2⟩ := DataW.trod_struct he h3
      rw [e] at hx2
      rw [hx2]
      have h7 := length_le (zs.map (·.1))
      rw [List.length_map, hxl2, h5] at h7
      simp only [Rows.uptoBulk]; omega
    rw [List.length_map, hel] at h6
    omega
/-- A text. -/
theorem arg_text (ht : P.underlying t = some .string) (hok : Value.okWide P W .any base t v) (h : DataW.Trod enc P W 0 sp held t v d ps) (hb : Rows.uptoBulk d ≤ 1048576) : ∃ x : List UInt8, v = .string (bstr x) ∧ x.length ≤ 1048576 := by
  obtain ⟨s, rfl⟩ := okWide_string ht hok
  obtain ⟨fuel, hf⟩ := h
  obtain ⟨s', h1, h2, h3⟩ := DataW.trod_string ht hf
  simp [Value.cells] at h1
  subst h1
  simp only [Prod.mk.injEq] at h2
  obtain ⟨rfl, _⟩ := h2
  simp only [Rows.uptoBulk] at hb
  exact ⟨s.data.toList, rfl, by omega⟩
end
end Go.Proofs.YtiofgjolhbgkiaaDoor
end
section
/- This file proves what the list of a row says of the library's variables, and lays a world that holds them. No conditions. -/
set_option maxHeartbeats 1000000
set_option maxRecDepth 8000
namespace Go.Proofs.YtiofgjolhbgkiaaDoor
open Go Go.RowKit
theorem gPw : Tryd.prog.globalNamed "internal/strconv.uint64pow10" = some 1 := by kernel_rfl
theorem gPwT : (Tryd.prog.globals[1]?).map (·.type) = some 89 := by kernel_rfl
theorem gEs : Tryd.prog.globalNamed "strconv.ErrSyntax" = some 2 := by kernel_rfl
theorem gEsT : (Tryd.prog.globals[2]?).map (·.type) = some 47 := by kernel_rfl
theorem gEr : Tryd.prog.globalNamed "strconv.ErrRange" = some 3 := by kernel_rfl
theorem gErT : (Tryd.prog.globals[3]?).map (·.type) = some 47 := by kernel_rfl
theorem csTab : Tryd.prog.cellsOf 89 = 20 := by kernel_rfl
theorem csU64 : Tryd.prog.cellsOf 72 = 1 := by kernel_rfl
theorem csErs : Tryd.prog.cellsOf 110 = 1 := by kernel_rfl
theorem csStr : Tryd.prog.cellsOf 9 = 1 := by kernel_rfl
theorem ersStar : "*" ++ "errors.errorString" = "*errors.errorString" := by decide
theorem ersRow (u : TypeId) (h : Tryd.prog.typeName? 3 u = some "*errors.errorString") : u = 108 :=
  typeName_ptr_named (nm := "errors.errorString") (by rw [ersStar]; kernel_rfl) (by kernel_rfl) (by decide) u (by rw [ersStar]; exact h)
theorem mlShape {W : World} (hsh : W.ShapedOpen Tryd.prog) : ∃ m, W.cell? ⟨0, 0, none⟩ = some (.int .i64 m) :=
  cell_of_shapedOpen_int (t := 3) (zero := #[.int .i64 0]) hsh (of_decide_eq_true (by kernel_rfl)) (by kernel_rfl) rfl (by kernel_rfl) (by kernel_rfl) Tryd.underlying3
theorem pwTab : (Rows.laid_internal_strconv_uint64pow10 : DataW Unit) = Lib.tabData .u64 Lib.pow10Tab := by kernel_rfl
/-- What the list says. -/
theorem lb_start {W : World} (hsh : W.ShapedOpen Tryd.prog) (hL : laidMet Tryd.prog Rows.scriptTellsUptoRow.laid W) : lbF.p (memOf W) := by
  obtain ⟨m, hm⟩ := mlShape hsh
  have h1 : laidMet Tryd.prog (("internal/strconv.uint64pow10", Rows.laid_internal_strconv_uint64pow10) :: _) W := ((hL).tail).tail
  rw [pwTab] at h1
  have t1 := Lib.tabIs_of_head gPw gPwT Tryd.underlying89 Tryd.underlying72 csU64 csTab h1
  obtain ⟨a1, s1, hv1, _⟩ := laid_sentinel (((((hL).tail).tail).tail).tail) gEr gErT Tryd.underlying47 ersRow Tryd.underlying108 Tryd.underlying110 rfl rfl Tryd.underlying9 csErs csStr
  obtain ⟨a2, s2, hv2, _⟩ := laid_sentinel ((((((hL).tail).tail).tail).tail).tail) gEs gEsT Tryd.underlying47 ersRow Tryd.underlying108 Tryd.underlying110 rfl rfl Tryd.underlying9 csErs csStr
  exact ⟨by have := var_heap gPw t1; exact this, ⟨m, cell_heap hm⟩, ⟨_, _, var_heap gEs hv2⟩, _, _, var_heap gEr hv1⟩
def flD0 : DataW Unit → List Value
  | .lit (.int k n) => [.int k n]
  | _ => []
def flD1 : DataW Unit → List Value
  | .agg l => l.flatMap flD0
  | d => flD0 d
def flD2 : DataW Unit → List Value
  | .agg l => l.flatMap flD1
  | d => flD0 d
def putCells (cs : Array Value) : Obj → Obj
  | .cells _ t fz => .cells cs t fz
  | o => o
noncomputable def lowW : Nat := (World.holding Tryd.prog default ⟨#[], #[], []⟩).heap.size
/-- The settled world, the variables as their initialisers lay them. -/
noncomputable def laidW (os : Os) : World :=
  let w0 := World.holding Tryd.prog os ⟨#[.cells #[.string ⟨#[105, 110, 118, 97, 108, 105, 100, 32, 115, 121, 110, 116, 97, 120]⟩] 110, .cells #[.string ⟨#[118, 97, 108, 117, 101, 32, 111, 117, 116, 32, 111, 102, 32, 114, 97, 110, 103, 101]⟩] 110], #[], []⟩
  { w0 with heap := (((((((w0.heap.modify 4 (putCells (flD2 Rows.laid_math_bits_deBruijn32tab).toArray)).modify 5 (putCells (flD2 Rows.laid_math_bits_deBruijn64tab).toArray)).modify 1 (putCells (flD2 Rows.laid_internal_strconv_uint64pow10).toArray)).modify 7 (putCells (flD2 Rows.laid_unicode_utf8_acceptRanges).toArray)).modify 6 (putCells (flD2 Rows.laid_unicode_utf8_first).toArray)).modify 2 (putCells #[.iface 108 (.pointer (some ⟨lowW, 0, none⟩))])).modify 3 (putCells #[.iface 108 (.pointer (some ⟨lowW + 1, 0, none⟩))])) }
end Go.Proofs.YtiofgjolhbgkiaaDoor
end
section
/- This file proves, in plain Lean, that the document's scan of a line tells the step of a line. No conditions. -/
namespace Go.Proofs.YtiofgjolhbgkiaaDoor
def scan (k : Nat) : Nat → List Bs → List Int → Nat → Int × List Int × Nat
  | _, [], nums, op => (0, nums, op)
  | i, w :: r, nums, op =>
    if k = 1 ∧ i = 1 then
      (if nums.length = 1 then (if place opns w = 0 then (1, nums, op) else scan k (i + 1) r nums (place opns w)) else scan k (i + 1) r nums op)
    else match numOf w with
      | none => (2, nums, op)
      | some n => scan k (i + 1) r (nums ++ [n]) op
def want (k op : Nat) : Nat := if k = 1 ∧ (op = 2 ∨ op = 3) then 3 else if k = 1 ∨ k = 5 then 2 else 1
def docFin (k : Nat) (nums : List Int) (op : Nat) : Step × Int :=
  if nums.length ≠ want k op ∨ (k = 1 ∧ op = 0) then (zStep, 2)
  else if k = 1 then (⟨1, nums.getD 0 0, 0, 0, ⟨(op : Nat), nums.getD 1 0, if want k op = 3 then nums.getD 2 0 else 0⟩⟩, 0)
  else if k = 6 then (⟨6, nums.getD 0 0, 0, 0, zOp⟩, 0)
  else if k = 5 then (⟨5, 0, nums.getD 0 0, nums.getD 1 0, zOp⟩, 0)
  else (⟨(k : Nat), 0, nums.getD 0 0, 0, zOp⟩, 0)
def docLine : List Bs → Step × Int
  | [] => (zStep, 1)
  | w :: r =>
    if place kinds w = 0 then (zStep, 1)
    else if (scan (place kinds w) 0 r [] 0).1 ≠ 0 then (zStep, (scan (place kinds w) 0 r [] 0).1)
    else docFin (place kinds w) (scan (place kinds w) 0 r [] 0).2.1 (scan (place kinds w) 0 r [] 0).2.2
def numsAll : List Bs → Option (List Int)
  | [] => some []
  | w :: r => match numOf w with
    | none => none
    | some n => match numsAll r with
      | none => none
      | some ns => some (n :: ns)
theorem numsAll_len : ∀ {r : List Bs} {ns : List Int}, numsAll r = some ns → ns.length = r.length
  | [], ns, h => by injection h with h; rw [← h]; rfl
  | w :: r, ns, h => by
    unfold numsAll at h
    split at h
    · cases h
    · split at h
      · cases h
      · rename_i ns' h'
        injection h with h
        rw [← h, List.length_cons, List.length_cons, numsAll_len h']
theorem scan_none {k : Nat} : ∀ {r : List Bs} {i : Nat} {nums : List Int} {op : Nat}, ¬ (k = 1 ∧ i ≤ 1) → numsAll r = none → (scan k i r nums op).1 = 2
  | [], i, nums, op, hk, h => by cases h
  | w :: r, i, nums, op, hk, h => by
    unfold scan
    rw [if_neg (by omega)]
    unfold numsAll at h
    cases hn : numOf w with
    | none => rfl
    | some n =>
      simp only [hn] at h ⊢
      exact scan_none (by omega) (by
        split at h
        · assumption
        · cases h)
theorem scan_some {k : Nat} : ∀ {r : List Bs} {i : Nat} {nums ns : List Int} {op : Nat}, ¬ (k = 1 ∧ i ≤ 1) → numsAll r = some ns → scan k i r nums op = (0, nums ++ ns, op)
  | [], i, nums, ns, op, hk, h => by
    injection h with h; subst h; rw [List.append_nil]; rfl
  | w :: r, i, nums, ns, op, hk, h => by
    unfold scan
    rw [if_neg (by omega)]
    unfold numsAll at h
    cases hn : numOf w with
    | none => simp only [hn] at h; cases h
    | some n =>
      simp only [hn] at h ⊢
      cases ha : numsAll r with
      | none => simp only [ha] at h; cases h
      | some ns' =>
        simp only [ha] at h
        injection h with h
        rw [scan_some (by omega) ha, ← h, List.append_assoc]; rfl
theorem numsAll_one (x : Bs) : numsAll [x] = (numOf x).map fun n => [n] := by
  unfold numsAll; cases numOf x <;> rfl
theorem numsAll_two (x y : Bs) : numsAll [x, y] = match numOf x, numOf y with
    | some p, some q => some [p, q]
    | _, _ => none := by
  unfold numsAll
  cases numOf x with
  | none => rfl
  | some p => simp only; rw [numsAll_one]; cases numOf y <;> rfl
theorem scan_one (a : Bs) (r : List Bs) : scan 1 0 (a :: r) [] 0 = match numOf a with
    | none => (2, [], 0)
    | some n => scan 1 1 r [n] 0 := by
  rw [scan, if_neg (by decide)]; rfl
theorem scan_two (o : Bs) (t : List Bs) (n : Int) : scan 1 1 (o :: t) [n] 0 = if place opns o = 0 then (1, [n], 0) else scan 1 2 t [n] (place opns o) := by
  rw [scan, if_pos (by decide), if_pos (by rfl)]
theorem doc_op (r : List Bs) : (if (scan 1 0 r [] 0).1 ≠ 0 then (zStep, (scan 1 0 r [] 0).1) else docFin 1 (scan 1 0 r [] 0).2.1 (scan 1 0 r [] 0).2.2) = lineOp r := by
  match r with
  | [] => rfl
  | [a] =>
    unfold lineOp
    rw [scan_one]
    cases numOf a with
    | none => rfl
    | some n => rfl
  | a :: o :: t =>
    unfold lineOp
    rw [scan_one]
    simp only
    cases numOf a with
    | none => rfl
    | some n =>
      simp only
      rw [scan_two]
      by_cases h0 : place opns o = 0
      · rw [if_pos h0, if_pos h0]; rfl
      rw [if_neg h0, if_neg h0]
      cases ha : numsAll t with
      | none =>
        have e := scan_none (k := 1) (r := t) (i := 2) (nums := [n]) (op := place opns o) (by omega) ha
        rw [e, if_pos (by decide)]
        split
        · match t, ha with
          | [x, y], ha =>
            rw [numsAll_two] at ha
            simp only
            split at ha
            · cases ha
            · split
              · simp_all
              · rfl
          | [], ha => rfl
          | [x], ha => rfl
          | x :: y :: z :: q, ha => rfl
        · match t, ha with
          | [x], ha =>
            rw [numsAll_one] at ha
            cases hx : numOf x with
            | none => simp only [hx]
            | some p => rw [hx] at ha; cases ha
          | [], ha => rfl
          | x :: y :: q, ha => rfl
      | some ns =>
        rw [scan_some (by omega) ha]
        have hl := numsAll_len ha
        rw [if_neg (by simp)]
        simp only
        unfold docFin want
        by_cases h23 : place opns o = 2 ∨ place opns o = 3
        · rw [if_pos h23]
          simp only [true_and, h23, if_true, List.length_append, List.length_singleton]
          match t, ha, hl with
          | [x, y], ha, hl =>
            rw [numsAll_two] at ha
            split at ha
            · rename_i p q hp hq
              injection ha with ha
              subst ha
              simp only [hp, hq]
              rw [if_neg (by simp [h0])]; rfl
            · cases ha
          | [], ha, hl => rw [if_pos (.inl (by rw [hl]; simp))]
          | [x], ha, hl => rw [if_pos (.inl (by rw [hl]; simp))]
          | x :: y :: z :: q, ha, hl => rw [if_pos (.inl (by rw [hl]; simp; omega))]
        · rw [if_neg h23]
          simp only [true_and, h23, if_false, true_or, if_true, List.length_append, List.length_singleton]
          match t, ha, hl with
          | [x], ha, hl =>
            rw [numsAll_one] at ha
            cases hx : numOf x with
            | none => rw [hx] at ha; cases ha
            | some p =>
              rw [hx] at ha
              injection ha with ha
              subst ha
              simp only [hx]
              rw [if_neg (by simp [h0])]; rfl
          | [], ha, hl => rw [if_pos (.inl (by rw [hl]; simp))]
          | x :: y :: q, ha, hl => rw [if_pos (.inl (by rw [hl]; simp; omega))]
/-- The document's scan tells the step of a line. -/
theorem doc_line : ∀ (W : List Bs), docLine W = lineOf W
  | [] => rfl
  | w :: r => by
    unfold docLine lineOf
    simp only
    by_cases h0 : place kinds w = 0
    · rw [if_pos h0, if_pos h0]
    rw [if_neg h0, if_neg h0]
    by_cases h1 : place kinds w = 1
    · rw [h1, if_pos rfl]; exact doc_op r
    rw [if_neg h1]
    cases ha : numsAll r with
    | none =>
      rw [scan_none (by omega) ha, if_pos (by decide)]
      split
      · match r, ha with
        | [x, y], ha =>
          rw [numsAll_two] at ha
          simp only
          split at ha
          · cases ha
          · split
            · simp_all
            · rfl
        | [], ha => rfl
        | [x], ha => rfl
        | x :: y :: z :: q, ha => rfl
      · match r, ha with
        | [x], ha =>
          rw [numsAll_one] at ha
          cases hx : numOf x with
          | none => simp only [hx]
          | some p => rw [hx] at ha; cases ha
        | [], ha => rfl
        | x :: y :: q, ha => rfl
    | some ns =>
      rw [scan_some (by omega) ha, if_neg (by simp)]
      have hl := numsAll_len ha
      simp only [List.nil_append]
      unfold docFin want
      simp only [h1, false_and, false_or, or_false, if_false]
      by_cases h5 : place kinds w = 5
      · simp only [h5, if_true]
        match r, ha, hl with
        | [x, y], ha, hl =>
          rw [numsAll_two] at ha
          split at ha
          · rename_i p q hp hq
            injection ha with ha
            subst ha
            simp only [hp, hq]; rfl
          · cases ha
        | [], ha, hl => rw [if_pos (by rw [hl]; simp)]
        | [x], ha, hl => rw [if_pos (by rw [hl]; simp)]
        | x :: y :: z :: q, ha, hl => rw [if_pos (by rw [hl]; simp)]
      · simp only [h5, if_false]
        match r, ha, hl with
        | [x], ha, hl =>
          rw [numsAll_one] at ha
          cases hx : numOf x with
          | none => rw [hx] at ha; cases ha
          | some p =>
            rw [hx] at ha
            injection ha with ha
            subst ha
            simp only [hx]
            rw [if_neg (by simp)]
            split <;> rfl
        | [], ha, hl => rw [if_pos (by rw [hl]; simp)]
        | x :: y :: q, ha, hl => rw [if_pos (by rw [hl]; simp)]
end Go.Proofs.YtiofgjolhbgkiaaDoor
end
section
/- This file proves what lists of names there are, and where a word stands in them. No conditions. -/
set_option maxHeartbeats 1000000
set_option maxRecDepth 8000
namespace Go.Proofs.YtiofgjolhbgkiaaDoor
open Go
theorem place_here : ∀ {l : List Bs} {w : Bs} {k : Nat}, k < l.length → w ∉ l.take k → l.getD k [] = w → place l w = k + 1
  | [], w, k, h, _, _ => absurd h (Nat.not_lt_zero _)
  | x :: r, w, 0, h, _, e => by
    have e' : x = w := e
    unfold place; rw [if_pos e']
  | x :: r, w, k + 1, h, hn, e => by
    have hx : ¬ x = w := fun e => hn (by rw [List.take_succ_cons, e]; exact List.mem_cons_self ..)
    have ih := place_here (l := r) (w := w) (k := k) (by simpa using h) (fun hm => hn (by rw [List.take_succ_cons]; exact List.mem_cons_of_mem _ hm)) (by simpa using e)
    unfold place; rw [if_neg hx, ih]
theorem place_none : ∀ {l : List Bs} {w : Bs}, w ∉ l → place l w = 0
  | [], w, _ => rfl
  | x :: r, w, h => by
    have hx : ¬ x = w := fun e => h (by rw [e]; exact List.mem_cons_self ..)
    unfold place; rw [if_neg hx, place_none (fun hm => h (List.mem_cons_of_mem _ hm))]
theorem not_next {l : List Bs} {w : Bs} {k : Nat} (hk : k < l.length) (h : w ∉ l.take k) (h2 : ¬ l.getD k [] = w) : w ∉ l.take (k + 1) := by
  rw [takeS [] hk]; intro hm
  rcases List.mem_append.1 hm with a | a
  · exact h a
  · exact h2 (List.mem_singleton.1 a).symm
theorem rdKinds {R : List Fact} : ∀ j, (∀ q ∈ R, q.p j) → RdV (α := Wd) kinds [.string (bstr [111, 112]), .string (bstr [103, 111]), .string (bstr [100, 114, 111, 112]), .string (bstr [116, 119, 105, 99, 101]), .string (bstr [115, 112, 111, 105, 108]), .string (bstr [116, 105, 109, 101, 114])] j := fun j _ => ⟨⟨_, rfl, rfl⟩, ⟨_, rfl, rfl⟩, ⟨_, rfl, rfl⟩, ⟨_, rfl, rfl⟩, ⟨_, rfl, rfl⟩, ⟨_, rfl, rfl⟩, trivial⟩
theorem rdOpns {R : List Fact} : ∀ j, (∀ q ∈ R, q.p j) → RdV (α := Wd) opns [.string (bstr [108, 111, 97, 100]), .string (bstr [115, 116, 111, 114, 101]), .string (bstr [97, 100, 100]), .string (bstr [101, 118, 105, 99, 116])] j := fun j _ => ⟨⟨_, rfl, rfl⟩, ⟨_, rfl, rfl⟩, ⟨_, rfl, rfl⟩, ⟨_, rfl, rfl⟩, trivial⟩
theorem scWords {L : List Chunk} {R : List Fact} {w : World}  (hs : St (L) R w) : Calls Tryd.prog 13 [].toArray w (Post (fun g : Value => g) (fun g => L) (fun g => sl (α := Wd) g kinds :: R)) := by
  refine calls_args Tryd.func13 rfl Tryd.ntmps13 rfl hs ?_
  clear hs
  refine Gm ?_
  refine Gb1 ?_
  refine li (α := Wd) kinds eo_37 rfl rdKinds ?_; intro v1
  refine Ga1 ?_
  exact rete1 v1
theorem scOps {L : List Chunk} {R : List Fact} {w : World}  (hs : St (L) R w) : Calls Tryd.prog 16 [].toArray w (Post (fun g : Value => g) (fun g => L) (fun g => sl (α := Wd) g opns :: R)) := by
  refine calls_args Tryd.func16 rfl Tryd.ntmps16 rfl hs ?_
  clear hs
  refine Gm ?_
  refine Gb1 ?_
  refine li (α := Wd) opns eo_37 rfl rdOpns ?_; intro v1
  refine Ga1 ?_
  exact rete1 v1
theorem rfKinds {L : List Chunk} {R : List Fact} {w : World}  (hs : St (L) R w) : Calls Tryd.prog 18 [].toArray w (Post (fun g : Value => g) (fun g => L) (fun g => sl (α := Wd) g kinds :: R)) := by
  refine calls_args Tryd.func18 rfl Tryd.ntmps18 rfl hs ?_
  clear hs
  refine Gm ?_
  refine Gb1 ?_
  refine li (α := Wd) kinds eo_37 rfl rdKinds ?_; intro v1
  refine Ga1 ?_
  exact rete1 v1
theorem rfOps {L : List Chunk} {R : List Fact} {w : World}  (hs : St (L) R w) : Calls Tryd.prog 20 [].toArray w (Post (fun g : Value => g) (fun g => L) (fun g => sl (α := Wd) g opns :: R)) := by
  refine calls_args Tryd.func20 rfl Tryd.ntmps20 rfl hs ?_
  clear hs
  refine Gm ?_
  refine Gb1 ?_
  refine li (α := Wd) opns eo_37 rfl rdOpns ?_; intro v1
  refine Ga1 ?_
  exact rete1 v1
theorem scIndex {L : List Chunk} {R : List Fact} {w : World} {v0 : Value} {l : List Bs} {wd : Bs} (hs : St (L) R w) (h0 : sl (α := Wd) v0 l ∈ R) : Calls Tryd.prog 32 [v0, .string (bstr wd)].toArray w (Post (fun _ : Unit => vi ((place l wd : Nat) : Int)) (fun _ => L) (fun _ => R)) := by
  refine calls_args Tryd.func32 rfl Tryd.ntmps32 rfl hs ?_
  clear hs
  refine Gm ?_
  refine Gb1 ?_
  refine Ga3 ?_
  refine JC.know (p := l.length ≤ 16777216) (fun w hs => sl_len (α := Wd) (v := v0) (xs := l) mm hs) (fun hll => ?_)
  refine jc_loop (γ := Nat) (fun k => k ≤ l.length ∧ wd ∉ l.take k) (fun _ => L) (fun _ => R) (fun k => [(1, .string (bstr wd)), (7, v0), (8, vi (l.length : Int)), (9, vi (k : Int))]) (fun k => l.length - k) 0 ⟨Nat.zero_le _, by simp⟩ alT (fun w hs => st_cut hs) ?_
  rintro k ⟨hk, hno⟩
  try simp only at hk hno ⊢
  refine Gm ?_
  refine Ga1 ?_
  refine cdx (p := ?p1) (hd := ?d1) ?e1 ?_ ?_; case e1 => exact rfl
  ·
   intro ht10
   refine Gl ?_
   refine JC.open0 (α := Wd) (xs := l) (v := v0) k mm (show k < @List.length Bs l by omega) (fun _ => ?_)
   refine jc_region ?_
   refine Gb5 ?_
   refine rn2 ?_
   refine ob (q_s b_seD) ?_
   refine Gl ?_
   refine cdx (p := ?p2) (hd := ?d2) ?e2 ?_ ?_; case e2 => exact rfl
   ·
    intro ht16
    refine Gm ?_
    refine Ga3 ?_
    have hpl := place_here (by omega) hno ht16
    rw [hpl]
    exact rete1 ()
   ·
    intro ht16
    refine Gm ?_
    refine Ga2 ?_
    refine jx_head (k + 1) ⟨by omega, not_next (by omega) hno ht16⟩ (by omega) alT (fun w hs => st_cut hs)
  ·
   intro ht10
   refine Gm ?_
   refine Ga1 ?_
   have hkl : ¬ ((k : Int) < ((l.length : Nat) : Int)) := ht10
   rw [place_none (l := l) (w := wd) (by rwa [List.take_of_length_le (by omega)] at hno)]
   exact rete1 ()
theorem rfPlace {L : List Chunk} {R : List Fact} {w : World} {v0 : Value} {l : List Bs} {wd : Bs} (hs : St (L) R w) (h0 : sl (α := Wd) v0 l ∈ R) : Calls Tryd.prog 36 [v0, .string (bstr wd)].toArray w (Post (fun _ : Unit => vi ((place l wd : Nat) : Int)) (fun _ => L) (fun _ => R)) := by
  refine calls_args Tryd.func36 rfl Tryd.ntmps36 rfl hs ?_
  clear hs
  refine Gm ?_
  refine Gb1 ?_
  refine Ga3 ?_
  refine JC.know (p := l.length ≤ 16777216) (fun w hs => sl_len (α := Wd) (v := v0) (xs := l) mm hs) (fun hll => ?_)
  refine jc_loop (γ := Nat) (fun k => k ≤ l.length ∧ wd ∉ l.take k) (fun _ => L) (fun _ => R) (fun k => [(1, .string (bstr wd)), (7, v0), (8, vi (l.length : Int)), (9, vi (k : Int))]) (fun k => l.length - k) 0 ⟨Nat.zero_le _, by simp⟩ alT (fun w hs => st_cut hs) ?_
  rintro k ⟨hk, hno⟩
  try simp only at hk hno ⊢
  refine Gm ?_
  refine Ga1 ?_
  refine cdx (p := ?p1) (hd := ?d1) ?e1 ?_ ?_; case e1 => exact rfl
  ·
   intro ht10
   refine Gl ?_
   refine JC.open0 (α := Wd) (xs := l) (v := v0) k mm (show k < @List.length Bs l by omega) (fun _ => ?_)
   refine jc_region ?_
   refine Gb5 ?_
   refine rn2 ?_
   refine ob (q_s b_seD) ?_
   refine Gl ?_
   refine cdx (p := ?p2) (hd := ?d2) ?e2 ?_ ?_; case e2 => exact rfl
   ·
    intro ht16
    refine Gm ?_
    refine Ga3 ?_
    have hpl := place_here (by omega) hno ht16
    rw [hpl]
    exact rete1 ()
   ·
    intro ht16
    refine Gm ?_
    refine Ga2 ?_
    refine jx_head (k + 1) ⟨by omega, not_next (by omega) hno ht16⟩ (by omega) alT (fun w hs => st_cut hs)
  ·
   intro ht10
   refine Gm ?_
   refine Ga1 ?_
   have hkl : ¬ ((k : Int) < ((l.length : Nat) : Int)) := ht10
   rw [place_none (l := l) (w := wd) (by rwa [List.take_of_length_le (by omega)] at hno)]
   exact rete1 ()
end Go.Proofs.YtiofgjolhbgkiaaDoor
end
section
/- This file tells, in plain Lean, what the reader of a line comes to, case by case. No conditions. -/
namespace Go.Proofs.YtiofgjolhbgkiaaDoor
theorem pl0 {W : List Bs} (h : place kinds (hdW (W, true)) = 0) : progLine W = (zStep, 1) := if_pos h
theorem pl1 {W : List Bs} (h : place kinds (hdW (W, true)) = 1) : progLine W = progOp (rdW (W, true)) := by unfold progLine; rw [if_neg (by omega), if_pos h]
theorem pl6 {W : List Bs} (h : place kinds (hdW (W, true)) = 6) : progLine W = fin ⟨6, vN (rdW (W, true)), 0, 0, zOp⟩ (rdN (rdW (W, true))) := by unfold progLine; rw [if_neg (by omega), if_neg (by omega), if_pos h]
theorem pl5 {W : List Bs} (h : place kinds (hdW (W, true)) = 5) : progLine W = fin ⟨5, 0, vN (rdW (W, true)), vN (rdN (rdW (W, true))), zOp⟩ (rdN (rdN (rdW (W, true)))) := by unfold progLine; rw [if_neg (by omega), if_neg (by omega), if_neg (by omega), if_pos h]
theorem plE {W : List Bs} (h0 : place kinds (hdW (W, true)) ≠ 0) (h1 : place kinds (hdW (W, true)) ≠ 1) (h6 : place kinds (hdW (W, true)) ≠ 6) (h5 : place kinds (hdW (W, true)) ≠ 5) : progLine W = fin ⟨(place kinds (hdW (W, true)) : Nat), 0, vN (rdW (W, true)), 0, zOp⟩ (rdN (rdW (W, true))) := by unfold progLine; rw [if_neg h0, if_neg h1, if_neg h6, if_neg h5]
theorem pl_all (k : Nat) : k = 0 ∨ k = 1 ∨ k = 6 ∨ k = 5 ∨ (k ≠ 0 ∧ k ≠ 1 ∧ k ≠ 6 ∧ k ≠ 5) := by omega
theorem po0 {st : RSt} (h : place opns (hdW (rdN st)) = 0) (h2 : (rdW (rdN st)).2 = true) : progOp st = (zStep, 1) := if_pos ⟨h, h2⟩
theorem po2 {st : RSt} (h : place opns (hdW (rdN st)) = 2 ∨ place opns (hdW (rdN st)) = 3) : progOp st = fin ⟨1, vN st, 0, 0, ⟨(place opns (hdW (rdN st)) : Nat), vN (rdW (rdN st)), vN (rdN (rdW (rdN st)))⟩⟩ (rdN (rdN (rdW (rdN st)))) := by
  unfold progOp; rw [if_neg (by omega), if_pos h]
theorem po1 {st : RSt} (h0 : ¬ (place opns (hdW (rdN st)) = 0 ∧ (rdW (rdN st)).2 = true)) (h : ¬ (place opns (hdW (rdN st)) = 2 ∨ place opns (hdW (rdN st)) = 3)) : progOp st = fin ⟨1, vN st, 0, 0, ⟨(place opns (hdW (rdN st)) : Nat), vN (rdW (rdN st)), 0⟩⟩ (rdN (rdW (rdN st))) := by
  unfold progOp; rw [if_neg h0, if_neg h]
theorem po_all (k : Nat) (b : Bool) : (k = 0 ∧ b = true) ∨ (k = 0 ∧ b = false) ∨ (k ≠ 0 ∧ (k = 2 ∨ k = 3)) ∨ (k ≠ 0 ∧ ¬ (k = 2 ∨ k = 3)) := by cases b <;> simp <;> omega
theorem fin1 {s : Step} {st : RSt} (h : st.2 = false) : fin s st = (zStep, 2) := if_pos (.inl h)
theorem fin2 {s : Step} {st : RSt} (h : 0 < st.1.length) : fin s st = (zStep, 2) := if_pos (.inr h)
theorem fin3 {s : Step} {st : RSt} (h : st.2 = true) (h2 : st.1.length = 0) : fin s st = (s, 0) := if_neg (by rw [h, h2]; simp)
theorem fin_all (st : RSt) : st.2 = false ∨ (st.2 = true ∧ 0 < st.1.length) ∨ (st.2 = true ∧ st.1.length = 0) := by
  cases st.2
  · exact .inl rfl
  · rcases Nat.eq_zero_or_pos st.1.length with h | h
    · exact .inr (.inr ⟨rfl, h⟩)
    · exact .inr (.inl ⟨rfl, h⟩)
/-- No word is long. -/
def BdW (N : Nat) (st : RSt) : Prop := ∀ w ∈ st.1, w.length ≤ N
theorem BdW.hd {N : Nat} {st : RSt} (h : BdW N st) : (hdW st).length ≤ N := by
  obtain ⟨l, b⟩ := st
  cases l with
  | nil => exact Nat.zero_le _
  | cons a r => exact h a (List.mem_cons_self ..)
theorem BdW.w {N : Nat} {st : RSt} (h : BdW N st) : BdW N (rdW st) := by
  obtain ⟨l, b⟩ := st
  cases l with
  | nil => exact fun _ hm => by cases hm
  | cons a r => exact fun w hm => h w (List.mem_cons_of_mem _ hm)
theorem BdW.n {N : Nat} {st : RSt} (h : BdW N st) : BdW N (rdN st) := h.w
theorem cut_len {c : UInt8} : ∀ {s : Bs} {w : Bs}, w ∈ cutAt c s → w.length ≤ s.length
  | [], w, h => by simp [cutAt] at h; rw [h]; simp
  | b :: r, w, h => by
    by_cases e : b = c
    · subst e; rw [cutAt_eq] at h
      rcases List.mem_cons.1 h with h | h
      · rw [h]; simp
      · have := cut_len h; simp; omega
    · obtain ⟨x, ws, h1, h2⟩ := cutAt_cons (r := r) e
      rw [h2] at h
      rcases List.mem_cons.1 h with h | h
      · have := cut_len (c := c) (s := r) (w := x) (by rw [h1]; exact List.mem_cons_self ..)
        rw [h]; simp; omega
      · have := cut_len (c := c) (s := r) (w := w) (by rw [h1]; exact List.mem_cons_of_mem _ h)
        simp; omega
theorem BdW.cut {s : Bs} : BdW s.length (cutAt 32 s, true) := fun _ h => cut_len h
theorem line_prog (b : Bs) : lineS b = progLine (cutAt 32 b) := (prog_line _ (cutAt_ne _ _)).symm
theorem scr_two {s : Bs} (h : s ≠ []) : (10 : UInt8) ∉ s ∨ ∃ b r, s = b ++ 10 :: r ∧ (10 : UInt8) ∉ b := by
  rcases scr_cases s with e | ⟨_, h2⟩ | h3
  · exact absurd e h
  · exact .inl h2
  · exact .inr h3
theorem comb_nil (r : List Step × Int) (h : r.2 ≠ 0 → r.1 = []) : comb [] r = r := by
  unfold comb
  split
  · rename_i h0; rw [← h0]; rfl
  · rename_i h0; rw [← h h0]
theorem prs_head (t : Bs) : parseS t = comb [] (parseS t) := (comb_nil _ (scr_err _ (Nat.le_refl _))).symm
theorem prs_ok {t b r : Bs} {D : List Step} (he : parseS t = comb D (parseS (b ++ 10 :: r))) (hb : (10 : UInt8) ∉ b) (h0 : (lineS b).2 = 0) : parseS t = comb (D ++ [(lineS b).1]) (parseS r) := by
  rw [he, scr_cons hb, if_pos h0, comb_comb]
theorem prs_er {t b r : Bs} {D : List Step} (he : parseS t = comb D (parseS (b ++ 10 :: r))) (hb : (10 : UInt8) ∉ b) (h0 : (lineS b).2 ≠ 0) : parseS t = ([], (lineS b).2) := by
  rw [he, scr_cons hb, if_neg h0, comb_err h0]
theorem prs_op {t s : Bs} {D : List Step} (he : parseS t = comb D (parseS s)) (hs : (10 : UInt8) ∉ s) (h0 : s ≠ []) : parseS t = ([], 2) := by
  rw [he, scr_open hs h0, comb_err (by decide)]
theorem prs_end {t s : Bs} {D : List Step} (he : parseS t = comb D (parseS s)) (h0 : s = []) : parseS t = (D, 0) := by
  rw [he, h0, scr_nil, comb_ok, List.append_nil]
theorem line_wf {b : Bs} (h : (lineS b).2 = 0) : (lineS b).1.wf := (text_line (b := b) (s := (lineS b).1) (by rw [← h])).2.2.2
end Go.Proofs.YtiofgjolhbgkiaaDoor
end
section
/- This file tells, in plain Lean, what the document's reader comes to, byte by byte and word by word. No conditions. -/
namespace Go.Proofs.YtiofgjolhbgkiaaDoor
open Go.Lib (itoa atoiAll)
/-! ### Words -/
theorem cut_sp : ∀ (x : Bs), cutAt 32 (x ++ [32]) = cutAt 32 x ++ [[]]
  | [] => rfl
  | a :: r => by
    have ih := cut_sp r
    by_cases e : a = 32
    · subst e; rw [List.cons_append, cutAt_eq, cutAt_eq, ih]; rfl
    · obtain ⟨w, ws, h1, h2⟩ := cutAt_cons (r := r) e
      obtain ⟨w', ws', h3, h4⟩ := cutAt_cons (r := r ++ [32]) e
      rw [List.cons_append, h4, h2]
      rw [h3, h1] at ih
      injection ih with i1 i2
      rw [i1, i2]; rfl
theorem cut_by {b : UInt8} (hb : b ≠ 32) : ∀ (x : Bs), cutAt 32 (x ++ [b]) = (cutAt 32 x).set ((cutAt 32 x).length - 1) ((cutAt 32 x).getD ((cutAt 32 x).length - 1) [] ++ [b])
  | [] => by
    obtain ⟨w, ws, h1, h2⟩ := cutAt_cons (c := 32) (b := b) (r := []) hb
    have h3 : cutAt 32 ([] : Bs) = [[]] := rfl
    rw [h3] at h1
    injection h1 with i1 i2
    rw [List.nil_append, h2, ← i1, ← i2]; rfl
  | a :: r => by
    have ih := cut_by hb r
    by_cases e : a = 32
    · subst e
      rw [List.cons_append, cutAt_eq, cutAt_eq, ih]
      cases hc : cutAt 32 r with
      | nil => exact absurd hc (cutAt_ne _ _)
      | cons u t => simp
    · obtain ⟨w, ws, h1, h2⟩ := cutAt_cons (r := r) e
      obtain ⟨w', ws', h3, h4⟩ := cutAt_cons (r := r ++ [b]) e
      rw [List.cons_append, h4, h2]
      rw [h3, h1] at ih
      cases ws with
      | nil => simp at ih ⊢; rw [ih.1, ih.2]; exact ⟨rfl, rfl⟩
      | cons u t =>
        simp at ih ⊢
        exact ⟨ih.1, ih.2⟩
theorem cut_count {c : UInt8} : ∀ (s : Bs), (cutAt c s).length ≤ s.length + 1
  | [] => Nat.le_refl _
  | b :: r => by
    have ih := cut_count (c := c) r
    by_cases e : b = c
    · subst e; rw [cutAt_eq]; simp; exact ih
    · obtain ⟨w, ws, h1, h2⟩ := cutAt_cons (r := r) e
      rw [h1] at ih
      rw [h2]; simp at ih ⊢; omega
theorem cut_cons (s : Bs) : ∃ w r, cutAt 32 s = w :: r := by
  cases h : cutAt 32 s with
  | nil => exact absurd h (cutAt_ne _ _)
  | cons w r => exact ⟨w, r, rfl⟩
theorem take_byte {s : Bs} {k : Nat} (h : k < s.length) : s.take (k + 1) = s.take k ++ [s.getD k 0] := by
  rw [List.take_add_one, List.getD_eq_getElem?_getD, List.getElem?_eq_getElem h]; rfl
theorem byte_is {b c : UInt8} (h : ((b.toNat : Nat) : Int) = ((c.toNat : Nat) : Int)) : b = c := UInt8.toNat_inj.1 (by omega)
theorem piece_one {s : Bs} {k : Nat} (h : k < s.length) : (s.drop k).take (k + 1 - k) = [s.getD k 0] := by
  rw [show k + 1 - k = 1 by omega, List.drop_eq_getElem_cons h, List.getD_eq_getElem?_getD, List.getElem?_eq_getElem h]; rfl
/-- The words so far, the next byte being a blank, or none. -/
theorem words_sp {s : Bs} {k : Nat} (h : k < s.length) (hb : s.getD k 0 = 32) : cutAt 32 (s.take (k + 1)) = cutAt 32 (s.take k) ++ [[]] := by
  rw [take_byte h, hb, cut_sp]
theorem words_by {s : Bs} {k : Nat} (h : k < s.length) (hb : s.getD k 0 ≠ 32) : cutAt 32 (s.take (k + 1)) = (cutAt 32 (s.take k)).set (((cutAt 32 (s.take k)).length : Int) - 1).toNat ((cutAt 32 (s.take k)).getD (((cutAt 32 (s.take k)).length : Int) - 1).toNat [] ++ (s.drop k).take (k + 1 - k)) := by
  rw [take_byte h, cut_by hb, piece_one h, show (((cutAt 32 (s.take k)).length : Int) - 1).toNat = (cutAt 32 (s.take k)).length - 1 by omega]
/-! ### A line's scan -/
theorem num_some {w : Bs} (h1 : okA w = true) (h2 : itoa (vOf w) = w) : numOf w = some (vOf w) := by
  unfold okA at h1; unfold numOf vOf at *
  cases h : atoiAll w <;> simp only [h] at h1 h2 ⊢
  · rw [if_pos h2]
  · cases h1
  · cases h1
theorem num_none {w : Bs} (h : okOf w = false) : numOf w = none := by
  unfold okOf at h
  cases e : numOf w with
  | none => rfl
  | some v => rw [e] at h; cases h
section
variable {K k op : Nat} {r : List Bs} {nums : List Int}
theorem drop_word (hk : k < r.length) : r.drop k = r.getD k [] :: r.drop (k + 1) := by
  rw [List.drop_eq_getElem_cons hk, List.getD_eq_getElem?_getD, List.getElem?_eq_getElem hk]; rfl
theorem sc_op (hk : k < r.length) (h1 : K = 1) (h2 : k = 1) (h3 : nums.length = 1) (h4 : place opns (r.getD k []) ≠ 0) : scan K k (r.drop k) nums op = scan K (k + 1) (r.drop (k + 1)) nums (place opns (r.getD k [])) := by
  rw [drop_word hk, scan, if_pos ⟨h1, h2⟩, if_pos h3, if_neg h4]
theorem sc_opE (hk : k < r.length) (h1 : K = 1) (h2 : k = 1) (h3 : nums.length = 1) (h4 : place opns (r.getD k []) = 0) : scan K k (r.drop k) nums op = (1, nums, op) := by
  rw [drop_word hk, scan, if_pos ⟨h1, h2⟩, if_pos h3, if_pos h4]
theorem sc_skip (hk : k < r.length) (h1 : K = 1) (h2 : k = 1) (h3 : nums.length ≠ 1) : scan K k (r.drop k) nums op = scan K (k + 1) (r.drop (k + 1)) nums op := by
  rw [drop_word hk, scan, if_pos ⟨h1, h2⟩, if_neg h3]
theorem sc_num {n : Int} (hk : k < r.length) (h : ¬ (K = 1 ∧ k = 1)) (hn : numOf (r.getD k []) = some n) : scan K k (r.drop k) nums op = scan K (k + 1) (r.drop (k + 1)) (nums ++ [n]) op := by
  rw [drop_word hk, scan, if_neg h, hn]
theorem sc_numE (hk : k < r.length) (h : ¬ (K = 1 ∧ k = 1)) (hn : numOf (r.getD k []) = none) : scan K k (r.drop k) nums op = (2, nums, op) := by
  rw [drop_word hk, scan, if_neg h, hn]
theorem sc_end (hk : k = r.length) : scan K k (r.drop k) nums op = (0, nums, op) := by
  rw [hk, List.drop_length, scan]
end
section
variable {bs w0 : Bs} {r : List Bs} {nums : List Int} {op : Nat} {e : Int}
theorem dl_is (hW : cutAt 32 bs = w0 :: r) : lineS bs = docLine (w0 :: r) := by unfold lineS; rw [hW, doc_line]
theorem dl0 (hW : cutAt 32 bs = w0 :: r) (h : place kinds w0 = 0) : lineS bs = (zStep, 1) := by rw [dl_is hW]; exact if_pos h
theorem dlE (hW : cutAt 32 bs = w0 :: r) (h : place kinds w0 ≠ 0) (hs : scan (place kinds w0) 0 r [] 0 = (e, nums, op)) (he : e ≠ 0) : lineS bs = (zStep, e) := by
  rw [dl_is hW]; unfold docLine; dsimp only; rw [if_neg h, hs, if_pos he]
theorem dlF (hW : cutAt 32 bs = w0 :: r) (h : place kinds w0 ≠ 0) (hs : scan (place kinds w0) 0 r [] 0 = (0, nums, op)) : lineS bs = docFin (place kinds w0) nums op := by
  rw [dl_is hW]; unfold docLine; dsimp only; rw [if_neg h, hs, if_neg (by simp)]
end
section
variable {K op : Nat} {nums : List Int}
theorem df_bad (h : nums.length ≠ want K op ∨ (K = 1 ∧ op = 0)) : docFin K nums op = (zStep, 2) := if_pos h
theorem df_1a (h1 : K = 1) (h2 : op = 2 ∨ op = 3) (hn : nums.length = 3) : docFin K nums op = (⟨1, nums.getD 0 0, 0, 0, ⟨(op : Nat), nums.getD 1 0, nums.getD 2 0⟩⟩, 0) := by
  have hw : want K op = 3 := if_pos ⟨h1, h2⟩
  unfold docFin; rw [hw, if_neg (by omega), if_pos h1, if_pos rfl]
theorem df_1b (h1 : K = 1) (h0 : op ≠ 0) (h2 : ¬ (op = 2 ∨ op = 3)) (hn : nums.length = 2) : docFin K nums op = (⟨1, nums.getD 0 0, 0, 0, ⟨(op : Nat), nums.getD 1 0, 0⟩⟩, 0) := by
  have hw : want K op = 2 := by unfold want; rw [if_neg (fun h => h2 h.2), if_pos (.inl h1)]
  unfold docFin; rw [hw, if_neg (by omega), if_pos h1, if_neg (by decide)]
theorem df_6 (h : K = 6) (hn : nums.length = 1) : docFin K nums op = (⟨6, nums.getD 0 0, 0, 0, zOp⟩, 0) := by
  have hw : want K op = 1 := by unfold want; rw [if_neg (fun h => by omega), if_neg (by omega)]
  unfold docFin; rw [hw, if_neg (by omega), if_neg (by omega), if_pos h]
theorem df_5 (h : K = 5) (hn : nums.length = 2) : docFin K nums op = (⟨5, 0, nums.getD 0 0, nums.getD 1 0, zOp⟩, 0) := by
  have hw : want K op = 2 := by unfold want; rw [if_neg (fun h => by omega), if_pos (.inr h)]
  unfold docFin; rw [hw, if_neg (by omega), if_neg (by omega), if_neg (by omega), if_pos h]
theorem df_e (h1 : K ≠ 1) (h6 : K ≠ 6) (h5 : K ≠ 5) (hn : nums.length = 1) : docFin K nums op = (⟨(K : Nat), 0, nums.getD 0 0, 0, zOp⟩, 0) := by
  have hw : want K op = 1 := by unfold want; rw [if_neg (fun h => h1 h.1), if_neg (by omega)]
  unfold docFin; rw [hw, if_neg (by omega), if_neg h1, if_neg h6, if_neg h5]
theorem want3 (h1 : K = 1) (h2 : op = 2 ∨ op = 3) : want K op = 3 := if_pos ⟨h1, h2⟩
theorem want2 (h1 : K = 1) (h2 : ¬ (op = 2 ∨ op = 3)) : want K op = 2 := by unfold want; rw [if_neg (fun h => h2 h.2), if_pos (.inl h1)]
theorem want5 (h : K = 5) : want K op = 2 := by unfold want; rw [if_neg (fun h => by omega), if_pos (.inr h)]
theorem want1 (h1 : K ≠ 1) (h5 : K ≠ 5) : want K op = 1 := by unfold want; rw [if_neg (fun h => h1 h.1), if_neg (by omega)]
end
end Go.Proofs.YtiofgjolhbgkiaaDoor
end
section
/- This file proves what the document's cutter of words computes. No conditions. -/
set_option maxHeartbeats 1000000
set_option maxRecDepth 8000
namespace Go.Proofs.YtiofgjolhbgkiaaDoor
open Go
theorem last_len (s : Bs) (i : Nat) : ((cutAt 32 s).getD i []).length ≤ s.length := by
  rw [List.getD_eq_getElem?_getD]
  cases e : (cutAt 32 s)[i]? with
  | none => simp
  | some w => exact cut_len (List.mem_of_getElem? e)
theorem rfWords {L : List Chunk} {R : List Fact} {w : World} {s : Bs} (hs : St (L) R w) (hsn : s.length ≤ 16777000) : Calls Tryd.prog 35 [.string (bstr s)].toArray w (Post (fun v : Value => v) (fun v => L) (fun v => sl (α := Wd) v (cutAt 32 s) :: R)) := by
  refine calls_args Tryd.func35 rfl Tryd.ntmps35 rfl hs ?_
  clear hs
  refine Gm ?_
  refine Gb1 ?_
  refine liO (α := Wd) [toW []] eo_37 rfl (fun j h => ⟨⟨_, rfl, rfl⟩, trivial⟩) ?_; intro v5
  refine Gb1 ?_
  refine rn1 ?_
  refine ob (q_slen Tryd.underlying9) ?_
  refine Ga1 ?_
  refine jc_loop (γ := Nat × Value) (fun g => g.1 ≤ s.length) (fun g => row (α := Wd) 9 g.2 (cutAt 32 (s.take g.1)) :: L) (fun _ => R) (fun g => [(0, .string (bstr s)), (3, g.2), (7, vi (s.length : Int)), (8, vi (g.1 : Int))]) (fun g => s.length - g.1) (0, v5) (Nat.zero_le _) alT (fun w hs => st_cut hs) ?_
  rintro ⟨k, v⟩ hk
  try simp only at hk ⊢
  have hcc := cut_count (c := 32) (s.take k)
  rw [List.length_take] at hcc
  have hcp : 0 < @List.length Wd (cutAt 32 (s.take k)) := List.length_pos_iff.2 (cutAt_ne 32 (s.take k))
  have hcw : @List.length Wd (cutAt 32 (s.take k)) = @List.length Bs (cutAt 32 (s.take k)) := rfl
  refine Gm ?_
  refine Ga1 ?_
  refine cdx (p := ?p1) (hd := ?d1) ?e1 ?_ ?_; case e1 => exact rfl
  ·
   intro ht9
   refine Gm ?_
   refine Gb2 ?_
   refine rn2 ?_
   refine ob (q_sidx Tryd.underlying9) ?_
   refine Ga1 ?_
   refine cdx (p := ?p2) (hd := ?d2) ?e2 ?_ ?_; case e2 => exact rfl
   ·
    intro ht14
    refine jc_region ?_
    refine rn1 ?_
    refine li (α := Wd) [toW []] eo_37 rfl (fun j h => ⟨⟨_, rfl, rfl⟩, trivial⟩) ?_; intro v16
    refine ap eo_37 (hb := fun w hs => by have : maxN = 16777216 := rfl; simp only [List.length_cons, List.length_nil]; omega) (k := ?_); intro v17
    refine Gb1 ?_
    refine Ga2 ?_
    refine jx_head (k + 1, v17) (by show k + 1 ≤ s.length; omega) (by show s.length - (k + 1) < s.length - k; omega) alT (fun w hs => ?_)
    try simp only
    rw [words_sp (by omega) (byte_is ht14)]; exact st_cut hs
   ·
    intro ht14
    refine JC.focus0 (α := Wd) (T := 9) (v := v) (xs := (cutAt 32 (s.take k))) (((@List.length Wd (cutAt 32 (s.take k)) : Nat) : Int) - 1).toNat pkk (by omega) (fun _ => ?_)
    have hlast : ((cutAt 32 (s.take k)).getD (((@List.length Wd (cutAt 32 (s.take k)) : Nat) : Int) - 1).toNat []).length ≤ 16777000 := Nat.le_trans (last_len _ _) (by rw [List.length_take]; omega)
    have hpc : ((s.drop k).take (k + 1 - k)).length ≤ 1 := by rw [List.length_take]; omega
    refine jdc_ ?_
    refine dn14 ?_
    refine djc (fun _ _ => q_scut (lo := k) (hi := k + 1) Tryd.underlying9) ?_
    refine djc (fun _ _ => q_sadd (a := ((cutAt 32 (s.take k)).getD (((@List.length Wd (cutAt 32 (s.take k)) : Nat) : Int) - 1).toNat [])) (b := (s.drop k).take (k + 1 - k))) ?_
    refine dn1 ?_
    refine dtl ?_; intro ρ
    refine sc ?_
    refine Gl ?_
    refine kp [0, 2, 3, 4, 7, 8, 9, 10, 11, 12, 13, 14, 15, 16, 17, 18, 19, 20, 21, 22, 23, 24, 25, 26, 27, 28, 29, 30, 31, 32, 33, 34, 35] ?_
    refine jc_region ?_
    refine Ga2 ?_
    refine jx_head (k + 1, v) (by show k + 1 ≤ s.length; omega) (by show s.length - (k + 1) < s.length - k; omega) alT (fun w hs => ?_)
    try simp only
    rw [words_by (by omega) (fun h => ht14 (by rw [h]; rfl))]
    exact st_cut (St.unfocus (α := Wd) (e := toW (((cutAt 32 (s.take k)).getD (((@List.length Wd (cutAt 32 (s.take k)) : Nat) : Int) - 1).toNat []) ++ (s.drop k).take (k + 1 - k))) (fun j _ => rfl) (hs.pick pkk))
  ·
   intro ht9
   refine Gm ?_
   refine Ga2 ?_
   have hkl : k = s.length := by omega
   subst hkl
   refine jx_body (.inr rfl) (fun B w hs => res1 rfl rfl B w) (fun w hs => ⟨v, rfl, by have h9 := hs.shut; rw [List.take_length] at h9; exact st_cut h9⟩)
end Go.Proofs.YtiofgjolhbgkiaaDoor
end
section
/- This file proves what the document's reader of a line computes. No conditions. -/
set_option maxHeartbeats 1000000
set_option maxRecDepth 8000
namespace Go.Proofs.YtiofgjolhbgkiaaDoor
open Go
theorem place_le (w : Bs) : ∀ l, place l w ≤ l.length
  | [] => Nat.le_refl _
  | x :: r => by
    have ih := place_le w r
    unfold place
    split
    · simp
    · split <;> simp at * <;> omega
theorem place_le4 (w : Bs) : place opns w ≤ 4 := place_le w opns
theorem rfLine {L : List Chunk} {R : List Fact} {w : World} {bs : Bs} (hs : St (L) R w) (hl : lbF ∈ R) (hb : bs.length ≤ 16777000) : Calls Tryd.prog 26 [.string (bstr bs)].toArray w (Post (fun _ : Unit => .tuple #[.agg (lineS bs).1.cells.toArray, vi (lineS bs).2]) (fun _ => L) (fun _ => R)) := by
  refine calls_args Tryd.func26 rfl Tryd.ntmps26 rfl hs ?_
  clear hs
  refine Gm ?_
  refine al_ (cs := zStep.cells) Tryd.zeroValue27 ?_; intro b2
  refine Gb1 ?_
  refine rn1 ?_
  refine r_call Tryd.call35 rfl (fun w hs => rfWords (s := bs) hs (by omega)) ?_; intro v15
  refine Ga1 ?_
  obtain ⟨w0, r, hW⟩ := cut_cons bs
  rw [hW]
  refine JC.open0 (α := Wd) (xs := w0 :: r) (v := v15) 0 mm (Nat.zero_lt_succ _) (fun _ => ?_)
  refine jdc_ ?_
  refine dj ?_
  refine d_call (γ := Value) (val := fun v => v) (F := fun v => [sl (α := Wd) v kinds]) (C := fun _ => []) Tryd.call18 (fun _ => rfl) (fun _ _ _ _ => rfl) (fun ρ L R w hd hs => rfKinds hs) ?_
  refine dn1 ?_
  refine djc (fun _ _ => q_iN (i := 0) so_37 (hl := len_sl (α := Wd) (xs := w0 :: r) mm) (h1 := Nat.zero_lt_succ _)) ?_
  refine djc (fun _ _ => q_l1 Tryd.isAgg9) ?_
  refine dtl ?_; intro ρ
  generalize (Gh.dec (γ := Value) (ρ 0)) = v16
  refine r_call Tryd.call36 rfl (fun w hs => rfPlace (wd := w0) hs mm) ?_; intro _
  refine Ga1 ?_
  rcases (show (place kinds w0 = 0) ∨ (place kinds w0 ≠ 0) from by omega) with hc | hc
  ·
   have e9 := dl0 hW hc
   refine jc_region ?_
   refine rn1 ?_
   refine ob (p_int rfl rfl (b_eql_T (by omega))) ?_
   refine Gmc ?_
   refine ob (q_bd (cs := zStep.cells) st_27) ?_
   refine s_B Tryd.sizeOf27 ?_
   refine Ga1 ?_
   rw [e9]
   exact retc2 () Tryd.isAgg27 Tryd.sizeOf27
  ·
   have hK := hc
   refine jc_region ?_
   refine rn1 ?_
   refine ob (p_int rfl rfl (b_eql_F (by omega))) ?_
   refine Glc ?_
   refine JC.know (p := ∃ a cap, v15 = .slice (some a) (@List.length Bs r + 1) cap ∧ @List.length Bs r + 1 ≤ cap) (fun w hs => sl_cons (α := Wd) (e := w0) (r := r) mm hs) (fun hx => ?_)
   obtain ⟨a, cap, rfl, hcap⟩ := hx
   refine jc_region ?_
   refine rn1 ?_
   refine ob (q_sl (lo := 1) (hi := @List.length Bs r + 1) (sz := 1) (e := 9) so_37 rfl rfl rfl (by omega) (by omega)) ?_
   refine J.conseq (R' := sl (α := Wd) (Value.slice (if cap = 1 then some a else some (a.add (1 * 1))) (@List.length Bs r + 1 - 1) (cap - 1)) r :: _) (fun w hs => sl_tail (α := Wd) (e := w0) (r := r) rfl mm hs) ?_
   generalize ((Value.slice (if cap = 1 then some a else some (a.add (1 * 1))) (@List.length Bs r + 1 - 1) (cap - 1))) = vt
   refine Gb1 ?_
   refine Gb1 ?_
   refine Ga1 ?_
   refine JC.conseq (R' := sl (α := Wd) vt r :: R) (fun w hs => st_cut hs) ?_
   refine jc_region ?_
   refine Ga3 ?_
   refine jc_loop (γ := Nat × Value × List Int × Nat) (fun g => g.1 ≤ r.length ∧ scan (place kinds w0) 0 r [] 0 = scan (place kinds w0) g.1 (r.drop g.1) g.2.2.1 g.2.2.2 ∧ g.2.2.1.length ≤ g.1 ∧ g.2.2.2 ≤ 4) (fun g => row 3 g.2.1 g.2.2.1 :: blk b2 27 [vi 0, vi 0, vi 0, vi 0, vi 0, vi 0, vi 0] :: L) (fun _ => sl (α := Wd) vt r :: R) (fun g => [(2, bp b2 0), (5, vi ((place kinds w0 : Nat) : Int)), (6, g.2.1), (7, vi ((g.2.2.2 : Nat) : Int)), (26, vt), (27, vi ((@List.length Wd r : Nat) : Int)), (28, vi (g.1 : Int))]) (fun g => r.length - g.1) (0, .slice none 0 0, [], 0) ⟨Nat.zero_le _, rfl, Nat.le_refl _, Nat.zero_le _⟩ alT (fun w hs => st_cut (hs.rowNil 3 Int)) ?_
   rintro ⟨k, nv, nums, op⟩ ⟨hk, hsc, hnl, hop⟩
   try simp only at hk hsc hnl hop ⊢
   have hrl : @List.length Wd r = @List.length Bs r := rfl
   have hrc := cut_count (c := 32) bs
   rw [hW, List.length_cons] at hrc
   refine Gm ?_
   refine Ga1 ?_
   refine cdx (p := ?p1) (hd := ?d1) ?e1 ?_ ?_; case e1 => exact rfl
   ·
    intro ht29
    refine Gl ?_
    have hkr : k < r.length := by omega
    have hwl : (r.getD k []).length ≤ bs.length := by
     have := last_len bs (k + 1); rw [hW] at this; exact this
    refine JC.open0 (α := Wd) (xs := r) (v := vt) k mm hkr (fun _ => ?_)
    refine jc_region ?_
    refine Ga5 ?_
    rcases (show (place kinds w0 = 1 ∧ k = 1) ∨ (place kinds w0 = 1 ∧ k ≠ 1) ∨ (place kinds w0 ≠ 1) from by omega) with hc | hc | hc
    ·
     have h11 := hc
     refine jc_region ?_
     refine rn1 ?_
     refine ob (p_int rfl rfl (b_eql_T (by omega))) ?_
     refine rn2 ?_
     refine gy ?_
     refine ob (p_int rfl rfl (b_eql_T (by omega))) ?_
     refine Gc1 ?_
     rcases (show (nums.length = 1) ∨ (nums.length ≠ 1) from by omega) with hc | hc
     ·
      have h12 := hc
      refine kp [2, 3, 5, 6, 7, 8, 9, 26, 27, 28, 29, 30, 31, 32, 33, 34, 35, 36, 37, 38, 39, 40, 41] ?_
      refine jc_region ?_
      refine rn2 ?_
      refine ob (p_int rfl rfl (b_eql_T (by omega))) ?_
      refine Gmc ?_
      refine r_call Tryd.call20 rfl (fun w hs => rfOps hs) ?_; intro v42
      refine rn1 ?_
      refine r_call Tryd.call36 rfl (fun w hs => rfPlace (wd := (r.getD k [])) hs mm) ?_; intro _
      refine Ga1 ?_
      rcases (show (place opns (r.getD k []) = 0) ∨ (place opns (r.getD k []) ≠ 0) from by omega) with hc | hc
      ·
       have e9 : lineS bs = (zStep, 1) := dlE hW hK (hsc.trans (sc_opE hkr h11.1 h11.2 h12 hc)) (by decide)
       refine jc_region ?_
       refine rn1 ?_
       refine ob (p_int rfl rfl (b_eql_T (by omega))) ?_
       refine Gmc ?_
       refine ob (q_bd (cs := zStep.cells) st_27) ?_
       refine s_B Tryd.sizeOf27 ?_
       refine Ga1 ?_
       rw [e9]
       exact retc2 () Tryd.isAgg27 Tryd.sizeOf27
      ·
       refine jc_region ?_
       refine rn1 ?_
       refine ob (p_int rfl rfl (b_eql_F (by omega))) ?_
       refine Gmc ?_
       refine Ga2 ?_
       refine jx_head (k + 1, nv, nums, place opns (r.getD k [])) ⟨by show k + 1 ≤ r.length; omega, hsc.trans (sc_op hkr h11.1 h11.2 h12 hc), by simp only [List.length_append, List.length_cons, List.length_nil]; omega, by first | exact hop | exact place_le4 _⟩ (by show r.length - (k + 1) < r.length - k; omega) alT (fun w hs => st_cut hs)
     ·
      have h12 := hc
      refine kp [2, 3, 5, 6, 7, 8, 9, 26, 27, 28, 29, 30, 31, 32, 33, 34, 35, 36, 37, 38, 39, 40, 41] ?_
      refine jc_region ?_
      refine rn2 ?_
      refine ob (p_int rfl rfl (b_eql_F (by omega))) ?_
      refine Gmc ?_
      refine Ga2 ?_
      refine jx_head (k + 1, nv, nums, op) ⟨by show k + 1 ≤ r.length; omega, hsc.trans (sc_skip hkr h11.1 h11.2 h12), by simp only [List.length_append, List.length_cons, List.length_nil]; omega, by first | exact hop | exact place_le4 _⟩ (by show r.length - (k + 1) < r.length - k; omega) alT (fun w hs => st_cut hs)
    ·
     have hn1 : ¬ (place kinds w0 = 1 ∧ k = 1) := fun h => hc.2 h.2
     refine jc_region ?_
     refine rn1 ?_
     refine ob (p_int rfl rfl (b_eql_T (by omega))) ?_
     refine rn2 ?_
     refine gy ?_
     refine ob (p_int rfl rfl (b_eql_F (by omega))) ?_
     refine Gc1 ?_
     refine kp [2, 3, 5, 6, 7, 8, 9, 10, 11, 26, 27, 28, 29, 30, 31, 32, 33, 34, 35, 36, 37, 38, 39, 40, 41, 42, 43, 44, 45, 46, 47, 48, 49, 50, 51, 52] ?_
     refine jc_region ?_
     refine rn1 ?_
     refine r_call Tryd.call37 rfl (fun w hs => cAtoi (l := (r.getD k [])) hs mm (by omega)) ?_; intro g50
     refine Ga5 ?_
     rcases (show (okA (r.getD k []) = true ∧ Go.Lib.itoa (vOf (r.getD k [])) = (r.getD k [])) ∨ (okA (r.getD k []) = true ∧ Go.Lib.itoa (vOf (r.getD k [])) ≠ (r.getD k [])) ∨ (okA (r.getD k []) = false ∧ True) from by exact num3 _) with hc | hc | hc
     ·
      refine jc_region ?_
      refine rn1 ?_
      refine ob (p_binG rfl rfl guard_er (b_erne_F Tryd.underlying47 hc.1)) ?_
      refine rn2 ?_
      refine gy ?_
      refine r_call Tryd.call15 rfl (fun w hs => cItoa hs mm (vOf_in _)) ?_; intro _
      refine rn1 ?_
      refine gy ?_
      refine ob (p_str rfl rfl (b_strne_F hc.2)) ?_
      refine Gd1 ?_
      refine rn2 ?_
      refine li (α := Int) [vOf (r.getD k [])] eo_64 rfl (fun j hj => ⟨⟨_, rfl, rfl, vOf_in _⟩, trivial⟩) ?_; intro v64
      refine ap eo_64 (hb := fun w hs => by have : maxN = 16777216 := rfl; have := cut_count (c := 32) bs; rw [hW] at this; simp only [List.length_cons, List.length_nil] at this ⊢; omega) (k := ?_); intro v65
      refine Gb1 ?_
      refine Ga2 ?_
      refine jx_head (k + 1, v65, nums ++ [vOf (r.getD k [])], op) ⟨by show k + 1 ≤ r.length; omega, hsc.trans (sc_num hkr hn1 (num_some hc.1 hc.2)), by simp only [List.length_append, List.length_cons, List.length_nil]; omega, by first | exact hop | exact place_le4 _⟩ (by show r.length - (k + 1) < r.length - k; omega) alT (fun w hs => st_cut hs)
     ·
      have ho : okOf (r.getD k []) = false := by rw [ok_of, hc.1, decide_eq_false hc.2]; rfl
      have e9 : lineS bs = (zStep, 2) := dlE hW hK (hsc.trans (sc_numE hkr hn1 (num_none ho))) (by decide)
      refine jc_region ?_
      refine rn1 ?_
      refine ob (p_binG rfl rfl guard_er (b_erne_F Tryd.underlying47 hc.1)) ?_
      refine rn2 ?_
      refine gy ?_
      refine r_call Tryd.call15 rfl (fun w hs => cItoa hs mm (vOf_in _)) ?_; intro _
      refine rn1 ?_
      refine gy ?_
      refine ob (p_str rfl rfl (b_strne_T hc.2)) ?_
      refine Gd1 ?_
      refine ob (q_bd (cs := zStep.cells) st_27) ?_
      refine s_B Tryd.sizeOf27 ?_
      refine Ga1 ?_
      rw [e9]
      exact retc2 () Tryd.isAgg27 Tryd.sizeOf27
     ·
      have ho : okOf (r.getD k []) = false := by rw [ok_of, hc.1]; rfl
      have e9 : lineS bs = (zStep, 2) := dlE hW hK (hsc.trans (sc_numE hkr hn1 (num_none ho))) (by decide)
      refine jc_region ?_
      refine rn1 ?_
      refine ob (p_binG rfl rfl guard_er (b_erne_T Tryd.underlying47 hc.1)) ?_
      refine Gd6 ?_
      refine ob (q_bd (cs := zStep.cells) st_27) ?_
      refine s_B Tryd.sizeOf27 ?_
      refine Ga1 ?_
      rw [e9]
      exact retc2 () Tryd.isAgg27 Tryd.sizeOf27
    ·
     have hn1 : ¬ (place kinds w0 = 1 ∧ k = 1) := fun h => hc h.1
     refine jc_region ?_
     refine rn1 ?_
     refine ob (p_int rfl rfl (b_eql_F (by omega))) ?_
     refine Gc4 ?_
     refine kp [2, 3, 5, 6, 7, 8, 9, 10, 11, 26, 27, 28, 29, 30, 31, 32, 33, 34, 35, 36, 37, 38, 39, 40, 41, 42, 43, 44, 45, 46, 47, 48, 49, 50, 51, 52] ?_
     refine jc_region ?_
     refine rn1 ?_
     refine r_call Tryd.call37 rfl (fun w hs => cAtoi (l := (r.getD k [])) hs mm (by omega)) ?_; intro g50
     refine Ga5 ?_
     rcases (show (okA (r.getD k []) = true ∧ Go.Lib.itoa (vOf (r.getD k [])) = (r.getD k [])) ∨ (okA (r.getD k []) = true ∧ Go.Lib.itoa (vOf (r.getD k [])) ≠ (r.getD k [])) ∨ (okA (r.getD k []) = false ∧ True) from by exact num3 _) with hc | hc | hc
     ·
      refine jc_region ?_
      refine rn1 ?_
      refine ob (p_binG rfl rfl guard_er (b_erne_F Tryd.underlying47 hc.1)) ?_
      refine rn2 ?_
      refine gy ?_
      refine r_call Tryd.call15 rfl (fun w hs => cItoa hs mm (vOf_in _)) ?_; intro _
      refine rn1 ?_
      refine gy ?_
      refine ob (p_str rfl rfl (b_strne_F hc.2)) ?_
      refine Gd1 ?_
      refine rn2 ?_
      refine li (α := Int) [vOf (r.getD k [])] eo_64 rfl (fun j hj => ⟨⟨_, rfl, rfl, vOf_in _⟩, trivial⟩) ?_; intro v64
      refine ap eo_64 (hb := fun w hs => by have : maxN = 16777216 := rfl; have := cut_count (c := 32) bs; rw [hW] at this; simp only [List.length_cons, List.length_nil] at this ⊢; omega) (k := ?_); intro v65
      refine Gb1 ?_
      refine Ga2 ?_
      refine jx_head (k + 1, v65, nums ++ [vOf (r.getD k [])], op) ⟨by show k + 1 ≤ r.length; omega, hsc.trans (sc_num hkr hn1 (num_some hc.1 hc.2)), by simp only [List.length_append, List.length_cons, List.length_nil]; omega, by first | exact hop | exact place_le4 _⟩ (by show r.length - (k + 1) < r.length - k; omega) alT (fun w hs => st_cut hs)
     ·
      have ho : okOf (r.getD k []) = false := by rw [ok_of, hc.1, decide_eq_false hc.2]; rfl
      have e9 : lineS bs = (zStep, 2) := dlE hW hK (hsc.trans (sc_numE hkr hn1 (num_none ho))) (by decide)
      refine jc_region ?_
      refine rn1 ?_
      refine ob (p_binG rfl rfl guard_er (b_erne_F Tryd.underlying47 hc.1)) ?_
      refine rn2 ?_
      refine gy ?_
      refine r_call Tryd.call15 rfl (fun w hs => cItoa hs mm (vOf_in _)) ?_; intro _
      refine rn1 ?_
      refine gy ?_
      refine ob (p_str rfl rfl (b_strne_T hc.2)) ?_
      refine Gd1 ?_
      refine ob (q_bd (cs := zStep.cells) st_27) ?_
      refine s_B Tryd.sizeOf27 ?_
      refine Ga1 ?_
      rw [e9]
      exact retc2 () Tryd.isAgg27 Tryd.sizeOf27
     ·
      have ho : okOf (r.getD k []) = false := by rw [ok_of, hc.1]; rfl
      have e9 : lineS bs = (zStep, 2) := dlE hW hK (hsc.trans (sc_numE hkr hn1 (num_none ho))) (by decide)
      refine jc_region ?_
      refine rn1 ?_
      refine ob (p_binG rfl rfl guard_er (b_erne_T Tryd.underlying47 hc.1)) ?_
      refine Gd6 ?_
      refine ob (q_bd (cs := zStep.cells) st_27) ?_
      refine s_B Tryd.sizeOf27 ?_
      refine Ga1 ?_
      rw [e9]
      exact retc2 () Tryd.isAgg27 Tryd.sizeOf27
   ·
    intro ht29
    refine Gl ?_
    have e0 := dlF hW hK (hsc.trans (sc_end (show k = r.length by omega)))
    refine JC.shut (T := 3) (v := nv) (xs := nums) pkk ?_
    refine jc_region ?_
    refine rn2 ?_
    refine al_ (cs := zStep.cells) Tryd.zeroValue27 ?_; intro b12
    refine s_B Tryd.sizeOf27 ?_
    refine Gm ?_
    refine Ga1 ?_
    rcases (show (place kinds w0 = 1 ∧ op = 2) ∨ (place kinds w0 = 1 ∧ op = 3) ∨ (place kinds w0 = 1 ∧ op ≠ 2 ∧ op ≠ 3) ∨ (place kinds w0 = 5) ∨ (place kinds w0 ≠ 1 ∧ place kinds w0 ≠ 5) from by omega) with hc | hc | hc | hc | hc
    ·
     have hw := want3 (op := op) hc.1 (.inl hc.2)
     have h23 : op = 2 ∨ op = 3 := .inl hc.2
     have hK1 := hc.1
     rw [hK1]
     refine jc_region ?_
     refine rn1 ?_
     refine ob (p_int rfl rfl (b_eql_T (by omega))) ?_
     refine rn2 ?_
     refine gy ?_
     refine ob (p_int rfl rfl (b_eql_T (by omega))) ?_
     refine Gc6 ?_
     refine kp [2, 3, 5, 6, 7, 12, 13] ?_
     refine jc_region ?_
     refine Ga1 ?_
     rcases (show (nums.length ≠ 3) ∨ (nums.length = 3) from by omega) with hc | hc
     ·
      have e9 := e0.trans (df_bad (.inl (by rw [hw]; exact hc)))
      refine jc_region ?_
      refine rn3 ?_
      refine ob (p_int rfl rfl (b_neq_T (by omega))) ?_
      refine Gd8 ?_
      refine ob (q_bd (cs := zStep.cells) st_27) ?_
      refine s_B Tryd.sizeOf27 ?_
      refine Ga1 ?_
      rw [e9]
      exact retc2 () Tryd.isAgg27 Tryd.sizeOf27
     ·
      have hn9 := hc
      refine jc_region ?_
      refine rn3 ?_
      refine ob (p_int rfl rfl (b_neq_F (by omega))) ?_
      refine rn2 ?_
      refine gy ?_
      refine ob (p_int rfl rfl (b_eql_T (by omega))) ?_
      refine rn2 ?_
      refine gy ?_
      refine ob (p_int rfl rfl (b_eql_F (by omega))) ?_
      refine Gd2 ?_
      refine Gb1 ?_
      refine ob (p_int rfl rfl (b_eql_T (by omega))) ?_
      refine Gc1 ?_
      refine JC.open0 (xs := nums) (v := nv) 0 mm (by omega) (fun hn0 => ?_)
      refine JC.open0 (xs := nums) (v := nv) 1 mm (by omega) (fun hn1 => ?_)
      refine cq_ (blk b12 27 [vi ((1 : Nat) : Int), vi 0, vi 0, vi 0, vi 0, vi 0, vi 0] :: blk b2 27 [vi 0, vi 0, vi 0, vi 0, vi 0, vi 0, vi 0] :: L) ?_
      refine jd_ (fun ρ S => blk b12 27 (bif S 14 then [vi ((1 : Nat) : Int), vi (nums.getD 0 0), vi 0, vi 0, vi ((op : Nat) : Int), vi (nums.getD 1 0), vi 0] else (bif S 11 then [vi ((1 : Nat) : Int), vi (nums.getD 0 0), vi 0, vi 0, vi ((op : Nat) : Int), vi 0, vi 0] else (bif S 8 then [vi ((1 : Nat) : Int), vi (nums.getD 0 0), vi 0, vi 0, vi 0, vi 0, vi 0] else [vi ((1 : Nat) : Int), vi 0, vi 0, vi 0, vi 0, vi 0, vi 0]))) :: blk b2 27 [vi 0, vi 0, vi 0, vi 0, vi 0, vi 0, vi 0] :: L) ?_
      refine dn1 ?_
      first | refine epc (fun _ _ => q_iN (i := 0) so_64) ?_ | refine epp (fun _ _ => q_iN (i := 0) so_64) ?_
      first | refine epc (fun _ _ => q_l1 Tryd.isAgg3) ?_ | refine epp (fun _ _ => q_l1 Tryd.isAgg3) ?_
      refine dn2 ?_
      first | refine epc (fun _ _ => q_iN (i := 1) so_64) ?_ | refine epp (fun _ _ => q_iN (i := 1) so_64) ?_
      first | refine epc (fun _ _ => q_l1 Tryd.isAgg3) ?_ | refine epp (fun _ _ => q_l1 Tryd.isAgg3) ?_
      refine dn1 ?_
      refine es_ 27 1 [] [11, 14] (fun ρ => b12) (fun ρ => [vi ((1 : Nat) : Int), vi 0, vi 0, vi 0, vi 0, vi 0, vi 0]) (fun ρ => [vi (nums.getD 0 0)]) Tryd.sizeOf3 ?_
      refine dn2 ?_
      refine es_ 27 4 [8] [14] (fun ρ => b12) (fun ρ => [vi ((1 : Nat) : Int), vi (nums.getD 0 0), vi 0, vi 0, vi 0, vi 0, vi 0]) (fun ρ => [vi ((op : Nat) : Int)]) Tryd.sizeOf3 ?_
      refine dn2 ?_
      refine es_ 27 5 [8, 11] [] (fun ρ => b12) (fun ρ => [vi ((1 : Nat) : Int), vi (nums.getD 0 0), vi 0, vi 0, vi ((op : Nat) : Int), vi 0, vi 0]) (fun ρ => [vi (nums.getD 1 0)]) Tryd.sizeOf3 ?_
      refine dnl ?_; intro ρ
      refine xq_ (blk b12 27 [vi ((1 : Nat) : Int), vi (nums.getD 0 0), vi 0, vi 0, vi ((op : Nat) : Int), vi (nums.getD 1 0), vi 0] :: blk b2 27 [vi 0, vi 0, vi 0, vi 0, vi 0, vi 0, vi 0] :: L) ?_
      refine Gl ?_
      refine kp [2, 3, 6, 12, 13, 98, 117, 118] ?_
      refine jc_region ?_
      refine rn1 ?_
      refine ob (p_int rfl rfl (b_eql_T rfl)) ?_
      refine Glc ?_
      refine JC.open0 (xs := nums) (v := nv) 2 mm (by omega) (fun hn2 => ?_)
      refine jc_region ?_
      refine rn1 ?_
      refine ob (q_iN (i := 2) so_64) ?_
      refine rn3 ?_
      refine sc ?_
      refine Gl ?_
      have e9 := e0.trans (df_1a hK1 h23 hn9)
      refine jc_region ?_
      refine rn1 ?_
      refine s_B Tryd.sizeOf27 ?_
      refine Ga1 ?_
      rw [e9]
      exact retc2 () Tryd.isAgg27 Tryd.sizeOf27
    ·
     have hw := want3 (op := op) hc.1 (.inr hc.2)
     have h23 : op = 2 ∨ op = 3 := .inr hc.2
     have hK1 := hc.1
     rw [hK1]
     refine jc_region ?_
     refine rn1 ?_
     refine ob (p_int rfl rfl (b_eql_T (by omega))) ?_
     refine rn2 ?_
     refine gy ?_
     refine ob (p_int rfl rfl (b_eql_F (by omega))) ?_
     refine rn2 ?_
     refine gy ?_
     refine ob (p_int rfl rfl (b_eql_T (by omega))) ?_
     refine Gc3 ?_
     refine kp [2, 3, 5, 6, 7, 12, 13] ?_
     refine jc_region ?_
     refine Ga1 ?_
     rcases (show (nums.length ≠ 3) ∨ (nums.length = 3) from by omega) with hc | hc
     ·
      have e9 := e0.trans (df_bad (.inl (by rw [hw]; exact hc)))
      refine jc_region ?_
      refine rn3 ?_
      refine ob (p_int rfl rfl (b_neq_T (by omega))) ?_
      refine Gd8 ?_
      refine ob (q_bd (cs := zStep.cells) st_27) ?_
      refine s_B Tryd.sizeOf27 ?_
      refine Ga1 ?_
      rw [e9]
      exact retc2 () Tryd.isAgg27 Tryd.sizeOf27
     ·
      have hn9 := hc
      refine jc_region ?_
      refine rn3 ?_
      refine ob (p_int rfl rfl (b_neq_F (by omega))) ?_
      refine rn2 ?_
      refine gy ?_
      refine ob (p_int rfl rfl (b_eql_T (by omega))) ?_
      refine rn2 ?_
      refine gy ?_
      refine ob (p_int rfl rfl (b_eql_F (by omega))) ?_
      refine Gd2 ?_
      refine Gb1 ?_
      refine ob (p_int rfl rfl (b_eql_T (by omega))) ?_
      refine Gc1 ?_
      refine JC.open0 (xs := nums) (v := nv) 0 mm (by omega) (fun hn0 => ?_)
      refine JC.open0 (xs := nums) (v := nv) 1 mm (by omega) (fun hn1 => ?_)
      refine cq_ (blk b12 27 [vi ((1 : Nat) : Int), vi 0, vi 0, vi 0, vi 0, vi 0, vi 0] :: blk b2 27 [vi 0, vi 0, vi 0, vi 0, vi 0, vi 0, vi 0] :: L) ?_
      refine jd_ (fun ρ S => blk b12 27 (bif S 14 then [vi ((1 : Nat) : Int), vi (nums.getD 0 0), vi 0, vi 0, vi ((op : Nat) : Int), vi (nums.getD 1 0), vi 0] else (bif S 11 then [vi ((1 : Nat) : Int), vi (nums.getD 0 0), vi 0, vi 0, vi ((op : Nat) : Int), vi 0, vi 0] else (bif S 8 then [vi ((1 : Nat) : Int), vi (nums.getD 0 0), vi 0, vi 0, vi 0, vi 0, vi 0] else [vi ((1 : Nat) : Int), vi 0, vi 0, vi 0, vi 0, vi 0, vi 0]))) :: blk b2 27 [vi 0, vi 0, vi 0, vi 0, vi 0, vi 0, vi 0] :: L) ?_
      refine dn1 ?_
      first | refine epc (fun _ _ => q_iN (i := 0) so_64) ?_ | refine epp (fun _ _ => q_iN (i := 0) so_64) ?_
      first | refine epc (fun _ _ => q_l1 Tryd.isAgg3) ?_ | refine epp (fun _ _ => q_l1 Tryd.isAgg3) ?_
      refine dn2 ?_
      first | refine epc (fun _ _ => q_iN (i := 1) so_64) ?_ | refine epp (fun _ _ => q_iN (i := 1) so_64) ?_
      first | refine epc (fun _ _ => q_l1 Tryd.isAgg3) ?_ | refine epp (fun _ _ => q_l1 Tryd.isAgg3) ?_
      refine dn1 ?_
      refine es_ 27 1 [] [11, 14] (fun ρ => b12) (fun ρ => [vi ((1 : Nat) : Int), vi 0, vi 0, vi 0, vi 0, vi 0, vi 0]) (fun ρ => [vi (nums.getD 0 0)]) Tryd.sizeOf3 ?_
      refine dn2 ?_
      refine es_ 27 4 [8] [14] (fun ρ => b12) (fun ρ => [vi ((1 : Nat) : Int), vi (nums.getD 0 0), vi 0, vi 0, vi 0, vi 0, vi 0]) (fun ρ => [vi ((op : Nat) : Int)]) Tryd.sizeOf3 ?_
      refine dn2 ?_
      refine es_ 27 5 [8, 11] [] (fun ρ => b12) (fun ρ => [vi ((1 : Nat) : Int), vi (nums.getD 0 0), vi 0, vi 0, vi ((op : Nat) : Int), vi 0, vi 0]) (fun ρ => [vi (nums.getD 1 0)]) Tryd.sizeOf3 ?_
      refine dnl ?_; intro ρ
      refine xq_ (blk b12 27 [vi ((1 : Nat) : Int), vi (nums.getD 0 0), vi 0, vi 0, vi ((op : Nat) : Int), vi (nums.getD 1 0), vi 0] :: blk b2 27 [vi 0, vi 0, vi 0, vi 0, vi 0, vi 0, vi 0] :: L) ?_
      refine Gl ?_
      refine kp [2, 3, 6, 12, 13, 98, 117, 118] ?_
      refine jc_region ?_
      refine rn1 ?_
      refine ob (p_int rfl rfl (b_eql_T rfl)) ?_
      refine Glc ?_
      refine JC.open0 (xs := nums) (v := nv) 2 mm (by omega) (fun hn2 => ?_)
      refine jc_region ?_
      refine rn1 ?_
      refine ob (q_iN (i := 2) so_64) ?_
      refine rn3 ?_
      refine sc ?_
      refine Gl ?_
      have e9 := e0.trans (df_1a hK1 h23 hn9)
      refine jc_region ?_
      refine rn1 ?_
      refine s_B Tryd.sizeOf27 ?_
      refine Ga1 ?_
      rw [e9]
      exact retc2 () Tryd.isAgg27 Tryd.sizeOf27
    ·
     have h23 : ¬ (op = 2 ∨ op = 3) := by omega
     have hw := want2 (op := op) hc.1 h23
     have hK1 := hc.1
     rw [hK1]
     refine jc_region ?_
     refine rn1 ?_
     refine ob (p_int rfl rfl (b_eql_T (by omega))) ?_
     refine rn2 ?_
     refine gy ?_
     refine ob (p_int rfl rfl (b_eql_F (by omega))) ?_
     refine rn2 ?_
     refine gy ?_
     refine ob (p_int rfl rfl (b_eql_F (by omega))) ?_
     refine Gc3 ?_
     refine kp [2, 3, 5, 6, 7, 12, 13, 80, 81, 82] ?_
     refine jc_region ?_
     refine rn1 ?_
     refine ob (p_int rfl rfl (b_eql_T (by omega))) ?_
     refine Gd1 ?_
     refine Ga1 ?_
     rcases (show (nums.length ≠ 2) ∨ (nums.length = 2 ∧ op = 0) ∨ (nums.length = 2 ∧ op ≠ 0) from by omega) with hc | hc | hc
     ·
      have e9 := e0.trans (df_bad (.inl (by rw [hw]; exact hc)))
      refine jc_region ?_
      refine rn3 ?_
      refine ob (p_int rfl rfl (b_neq_T (by omega))) ?_
      refine Gd8 ?_
      refine ob (q_bd (cs := zStep.cells) st_27) ?_
      refine s_B Tryd.sizeOf27 ?_
      refine Ga1 ?_
      rw [e9]
      exact retc2 () Tryd.isAgg27 Tryd.sizeOf27
     ·
      have e9 := e0.trans (df_bad (.inr ⟨hK1, hc.2⟩))
      refine jc_region ?_
      refine rn3 ?_
      refine ob (p_int rfl rfl (b_neq_F (by omega))) ?_
      refine rn2 ?_
      refine gy ?_
      refine ob (p_int rfl rfl (b_eql_T (by omega))) ?_
      refine rn2 ?_
      refine gy ?_
      refine ob (p_int rfl rfl (b_eql_T (by omega))) ?_
      refine Gd2 ?_
      refine ob (q_bd (cs := zStep.cells) st_27) ?_
      refine s_B Tryd.sizeOf27 ?_
      refine Ga1 ?_
      rw [e9]
      exact retc2 () Tryd.isAgg27 Tryd.sizeOf27
     ·
      have hn9 := hc.1
      have ho9 := hc.2
      refine jc_region ?_
      refine rn3 ?_
      refine ob (p_int rfl rfl (b_neq_F (by omega))) ?_
      refine rn2 ?_
      refine gy ?_
      refine ob (p_int rfl rfl (b_eql_T (by omega))) ?_
      refine rn2 ?_
      refine gy ?_
      refine ob (p_int rfl rfl (b_eql_F (by omega))) ?_
      refine Gd2 ?_
      refine Gb1 ?_
      refine ob (p_int rfl rfl (b_eql_T (by omega))) ?_
      refine Gc1 ?_
      refine JC.open0 (xs := nums) (v := nv) 0 mm (by omega) (fun hn0 => ?_)
      refine JC.open0 (xs := nums) (v := nv) 1 mm (by omega) (fun hn1 => ?_)
      refine cq_ (blk b12 27 [vi ((1 : Nat) : Int), vi 0, vi 0, vi 0, vi 0, vi 0, vi 0] :: blk b2 27 [vi 0, vi 0, vi 0, vi 0, vi 0, vi 0, vi 0] :: L) ?_
      refine jd_ (fun ρ S => blk b12 27 (bif S 14 then [vi ((1 : Nat) : Int), vi (nums.getD 0 0), vi 0, vi 0, vi ((op : Nat) : Int), vi (nums.getD 1 0), vi 0] else (bif S 11 then [vi ((1 : Nat) : Int), vi (nums.getD 0 0), vi 0, vi 0, vi ((op : Nat) : Int), vi 0, vi 0] else (bif S 8 then [vi ((1 : Nat) : Int), vi (nums.getD 0 0), vi 0, vi 0, vi 0, vi 0, vi 0] else [vi ((1 : Nat) : Int), vi 0, vi 0, vi 0, vi 0, vi 0, vi 0]))) :: blk b2 27 [vi 0, vi 0, vi 0, vi 0, vi 0, vi 0, vi 0] :: L) ?_
      refine dn1 ?_
      first | refine epc (fun _ _ => q_iN (i := 0) so_64) ?_ | refine epp (fun _ _ => q_iN (i := 0) so_64) ?_
      first | refine epc (fun _ _ => q_l1 Tryd.isAgg3) ?_ | refine epp (fun _ _ => q_l1 Tryd.isAgg3) ?_
      refine dn2 ?_
      first | refine epc (fun _ _ => q_iN (i := 1) so_64) ?_ | refine epp (fun _ _ => q_iN (i := 1) so_64) ?_
      first | refine epc (fun _ _ => q_l1 Tryd.isAgg3) ?_ | refine epp (fun _ _ => q_l1 Tryd.isAgg3) ?_
      refine dn1 ?_
      refine es_ 27 1 [] [11, 14] (fun ρ => b12) (fun ρ => [vi ((1 : Nat) : Int), vi 0, vi 0, vi 0, vi 0, vi 0, vi 0]) (fun ρ => [vi (nums.getD 0 0)]) Tryd.sizeOf3 ?_
      refine dn2 ?_
      refine es_ 27 4 [8] [14] (fun ρ => b12) (fun ρ => [vi ((1 : Nat) : Int), vi (nums.getD 0 0), vi 0, vi 0, vi 0, vi 0, vi 0]) (fun ρ => [vi ((op : Nat) : Int)]) Tryd.sizeOf3 ?_
      refine dn2 ?_
      refine es_ 27 5 [8, 11] [] (fun ρ => b12) (fun ρ => [vi ((1 : Nat) : Int), vi (nums.getD 0 0), vi 0, vi 0, vi ((op : Nat) : Int), vi 0, vi 0]) (fun ρ => [vi (nums.getD 1 0)]) Tryd.sizeOf3 ?_
      refine dnl ?_; intro ρ
      refine xq_ (blk b12 27 [vi ((1 : Nat) : Int), vi (nums.getD 0 0), vi 0, vi 0, vi ((op : Nat) : Int), vi (nums.getD 1 0), vi 0] :: blk b2 27 [vi 0, vi 0, vi 0, vi 0, vi 0, vi 0, vi 0] :: L) ?_
      refine Gl ?_
      refine kp [2, 3, 6, 12, 13, 98, 117, 118] ?_
      refine jc_region ?_
      refine rn1 ?_
      refine ob (p_int rfl rfl (b_eql_F (by decide))) ?_
      refine Glc ?_
      have e9 := e0.trans (df_1b hK1 ho9 h23 hn9)
      refine jc_region ?_
      refine rn1 ?_
      refine s_B Tryd.sizeOf27 ?_
      refine Ga1 ?_
      rw [e9]
      exact retc2 () Tryd.isAgg27 Tryd.sizeOf27
    ·
     have hw := want5 (op := op) hc
     have hK5 := hc
     rw [hK5]
     refine jc_region ?_
     refine rn1 ?_
     refine ob (p_int rfl rfl (b_eql_F (by omega))) ?_
     refine Gc9 ?_
     refine kp [2, 3, 5, 6, 7, 12, 13, 80, 81, 82] ?_
     refine jc_region ?_
     refine rn1 ?_
     refine ob (p_int rfl rfl (b_eql_F (by omega))) ?_
     refine Gd1 ?_
     refine rn1 ?_
     refine ob (p_int rfl rfl (b_eql_T (by omega))) ?_
     refine Gd1 ?_
     refine Ga1 ?_
     rcases (show (nums.length ≠ 2) ∨ (nums.length = 2) from by omega) with hc | hc
     ·
      have e9 := e0.trans (df_bad (.inl (by rw [hw]; exact hc)))
      refine jc_region ?_
      refine rn3 ?_
      refine ob (p_int rfl rfl (b_neq_T (by omega))) ?_
      refine Gd8 ?_
      refine ob (q_bd (cs := zStep.cells) st_27) ?_
      refine s_B Tryd.sizeOf27 ?_
      refine Ga1 ?_
      rw [e9]
      exact retc2 () Tryd.isAgg27 Tryd.sizeOf27
     ·
      have hn9 := hc
      refine jc_region ?_
      refine rn3 ?_
      refine ob (p_int rfl rfl (b_neq_F (by omega))) ?_
      refine rn2 ?_
      refine gy ?_
      refine ob (p_int rfl rfl (b_eql_F (by omega))) ?_
      refine Gd5 ?_
      refine Gb1 ?_
      refine ob (p_int rfl rfl (b_eql_F (by omega))) ?_
      refine Gd1 ?_
      refine ob (p_int rfl rfl (b_eql_F (by omega))) ?_
      refine Gd1 ?_
      refine ob (p_int rfl rfl (b_eql_T (by omega))) ?_
      refine Gc1 ?_
      refine JC.open0 (xs := nums) (v := nv) 0 mm (by omega) (fun hn0 => ?_)
      refine JC.open0 (xs := nums) (v := nv) 1 mm (by omega) (fun hn1 => ?_)
      refine cq_ (blk b12 27 [vi ((5 : Nat) : Int), vi 0, vi 0, vi 0, vi 0, vi 0, vi 0] :: blk b2 27 [vi 0, vi 0, vi 0, vi 0, vi 0, vi 0, vi 0] :: L) ?_
      refine jd_ (fun ρ S => blk b12 27 (bif S 9 then [vi ((5 : Nat) : Int), vi 0, vi (nums.getD 0 0), vi (nums.getD 1 0), vi 0, vi 0, vi 0] else (bif S 7 then [vi ((5 : Nat) : Int), vi 0, vi (nums.getD 0 0), vi 0, vi 0, vi 0, vi 0] else [vi ((5 : Nat) : Int), vi 0, vi 0, vi 0, vi 0, vi 0, vi 0])) :: blk b2 27 [vi 0, vi 0, vi 0, vi 0, vi 0, vi 0, vi 0] :: L) ?_
      refine dn1 ?_
      first | refine epc (fun _ _ => q_iN (i := 0) so_64) ?_ | refine epp (fun _ _ => q_iN (i := 0) so_64) ?_
      first | refine epc (fun _ _ => q_l1 Tryd.isAgg3) ?_ | refine epp (fun _ _ => q_l1 Tryd.isAgg3) ?_
      refine dn1 ?_
      first | refine epc (fun _ _ => q_iN (i := 1) so_64) ?_ | refine epp (fun _ _ => q_iN (i := 1) so_64) ?_
      first | refine epc (fun _ _ => q_l1 Tryd.isAgg3) ?_ | refine epp (fun _ _ => q_l1 Tryd.isAgg3) ?_
      refine dn1 ?_
      refine es_ 27 2 [] [9] (fun ρ => b12) (fun ρ => [vi ((5 : Nat) : Int), vi 0, vi 0, vi 0, vi 0, vi 0, vi 0]) (fun ρ => [vi (nums.getD 0 0)]) Tryd.sizeOf3 ?_
      refine dn1 ?_
      refine es_ 27 3 [7] [] (fun ρ => b12) (fun ρ => [vi ((5 : Nat) : Int), vi 0, vi (nums.getD 0 0), vi 0, vi 0, vi 0, vi 0]) (fun ρ => [vi (nums.getD 1 0)]) Tryd.sizeOf3 ?_
      refine dnl ?_; intro ρ
      refine xq_ (blk b12 27 [vi ((5 : Nat) : Int), vi 0, vi (nums.getD 0 0), vi (nums.getD 1 0), vi 0, vi 0, vi 0] :: blk b2 27 [vi 0, vi 0, vi 0, vi 0, vi 0, vi 0, vi 0] :: L) ?_
      refine Gl ?_
      have e9 := e0.trans (df_5 hK5 hn9)
      refine kp [2, 3, 12, 140] ?_
      refine jc_region ?_
      refine rn1 ?_
      refine s_B Tryd.sizeOf27 ?_
      refine Ga1 ?_
      rw [e9]
      exact retc2 () Tryd.isAgg27 Tryd.sizeOf27
    ·
     have hw := want1 (op := op) hc.1 hc.2
     have hKe := hc
     refine jc_region ?_
     refine rn1 ?_
     refine ob (p_int rfl rfl (b_eql_F (by omega))) ?_
     refine Gc9 ?_
     refine kp [2, 3, 5, 6, 7, 12, 13, 80, 81, 82] ?_
     refine jc_region ?_
     refine rn1 ?_
     refine ob (p_int rfl rfl (b_eql_F (by omega))) ?_
     refine Gd1 ?_
     refine rn1 ?_
     refine ob (p_int rfl rfl (b_eql_F (by omega))) ?_
     refine Gc1 ?_
     rcases (show (nums.length ≠ 1) ∨ (nums.length = 1) from by omega) with hc | hc
     ·
      have e9 := e0.trans (df_bad (.inl (by rw [hw]; exact hc)))
      refine jc_region ?_
      refine rn3 ?_
      refine ob (p_int rfl rfl (b_neq_T (by omega))) ?_
      refine Gd8 ?_
      refine ob (q_bd (cs := zStep.cells) st_27) ?_
      refine s_B Tryd.sizeOf27 ?_
      refine Ga1 ?_
      rw [e9]
      exact retc2 () Tryd.isAgg27 Tryd.sizeOf27
     ·
      have hn9 := hc
      refine jc_region ?_
      refine rn3 ?_
      refine ob (p_int rfl rfl (b_neq_F (by omega))) ?_
      refine rn2 ?_
      refine gy ?_
      refine ob (p_int rfl rfl (b_eql_F (by omega))) ?_
      refine Gd5 ?_
      refine Gb1 ?_
      refine ob (p_int rfl rfl (b_eql_F (by omega))) ?_
      refine Gc1 ?_
      rcases (show (place kinds w0 = 6) ∨ (place kinds w0 ≠ 6) from by omega) with hc | hc
      ·
       have hK6 := hc
       rw [hK6]
       refine jc_region ?_
       refine ob (p_int rfl rfl (b_eql_T (by omega))) ?_
       refine Gc1 ?_
       refine JC.open0 (xs := nums) (v := nv) 0 mm (by omega) (fun hn0 => ?_)
       refine jc_region ?_
       refine rn1 ?_
       refine ob (q_iN (i := 0) so_64) ?_
       refine rn2 ?_
       refine sc ?_
       refine Gl ?_
       have e9 := e0.trans (df_6 hK6 hn9)
       refine jc_region ?_
       refine rn1 ?_
       refine s_B Tryd.sizeOf27 ?_
       refine Ga1 ?_
       rw [e9]
       exact retc2 () Tryd.isAgg27 Tryd.sizeOf27
      ·
       have hKn := hc
       refine jc_region ?_
       refine ob (p_int rfl rfl (b_eql_F (by omega))) ?_
       refine Gd1 ?_
       refine ob (p_int rfl rfl (b_eql_F (by omega))) ?_
       refine Gc1 ?_
       refine JC.open0 (xs := nums) (v := nv) 0 mm (by omega) (fun hn0 => ?_)
       refine jc_region ?_
       refine rn1 ?_
       refine ob (q_iN (i := 0) so_64) ?_
       refine rn2 ?_
       refine sc ?_
       refine Gl ?_
       have e9 := e0.trans (df_e hKe.1 hKn hKe.2 hn9)
       refine jc_region ?_
       refine rn1 ?_
       refine s_B Tryd.sizeOf27 ?_
       refine Ga1 ?_
       rw [e9]
       exact retc2 () Tryd.isAgg27 Tryd.sizeOf27
end Go.Proofs.YtiofgjolhbgkiaaDoor
end
section
/- This file tells, in plain Lean, the words of a step's line, case by case, and how long a line is. No conditions. -/
namespace Go.Proofs.YtiofgjolhbgkiaaDoor
open Go.Lib (itoa)
theorem print_bad {s : Step} (h : badStep s) : printS s = ([], 1) := if_pos h
theorem print_ok {s : Step} (h : ¬ badStep s) : printS s = (joinW (stepWords s), 0) := if_neg h
theorem words1a {s : Step} (h : s.kind = 1) (h2 : s.op.kind = 2 ∨ s.op.kind = 3) : stepWords s = ((([nameK s.kind] ++ [itoa s.node]) ++ [nameO s.op.kind]) ++ [itoa s.op.line]) ++ [itoa s.op.value] := by
  unfold stepWords numWords; rw [if_pos h, if_pos h2]; rfl
theorem words1b {s : Step} (h : s.kind = 1) (h2 : ¬ (s.op.kind = 2 ∨ s.op.kind = 3)) : stepWords s = (([nameK s.kind] ++ [itoa s.node]) ++ [nameO s.op.kind]) ++ [itoa s.op.line] := by
  unfold stepWords numWords; rw [if_pos h, if_neg h2]; rfl
theorem words6 {s : Step} (h : s.kind = 6) : stepWords s = [nameK s.kind] ++ [itoa s.node] := by
  unfold stepWords numWords; rw [if_neg (by omega), if_pos h]; rfl
theorem words5 {s : Step} (h : s.kind = 5) : stepWords s = ([nameK s.kind] ++ [itoa s.n]) ++ [itoa s.bit] := by
  unfold stepWords numWords; rw [if_neg (by omega), if_neg (by omega), if_pos h]; rfl
theorem wordsE {s : Step} (h : s.kind ≠ 1) (h6 : s.kind ≠ 6) (h5 : s.kind ≠ 5) : stepWords s = [nameK s.kind] ++ [itoa s.n] := by
  unfold stepWords numWords; rw [if_neg h, if_neg h6, if_neg h5]; rfl
theorem print_six (s : Step) : s.kind < 1 ∨ 6 < s.kind ∨ (s.kind = 1 ∧ s.op.kind < 1) ∨ (s.kind = 1 ∧ 4 < s.op.kind) ∨ (s.kind = 1 ∧ 1 ≤ s.op.kind ∧ s.op.kind ≤ 4) ∨ (2 ≤ s.kind ∧ s.kind ≤ 6) := by omega
def lenW (l : List Bs) : Nat := (l.map fun w => w.length + 1).sum
theorem joinW_len : ∀ (l : List Bs), (joinW l).length ≤ lenW l
  | [] => Nat.le_refl _
  | [x] => by show x.length ≤ lenW [x]; unfold lenW; simp
  | x :: y :: r => by
    have ih := joinW_len (y :: r)
    show (x ++ 32 :: joinW (y :: r)).length ≤ lenW (x :: y :: r)
    unfold lenW at ih ⊢
    rw [List.length_append, List.length_cons, List.map_cons, List.sum_cons]; omega
theorem name_len {l : List Bs} (h : ∀ w ∈ l, w.length ≤ 5) (k : Nat) : (l.getD k []).length ≤ 5 := by
  rw [List.getD_eq_getElem?_getD]
  cases e : l[k]? with
  | none => simp
  | some w => exact h w (List.mem_of_getElem? e)
theorem lineT_len {s : Step} (hw : s.wf) : (lineT s).length ≤ 79 := by
  have h := joinW_len (stepWords s)
  have hk : (nameK s.kind).length ≤ 5 := name_len (by decide) _
  have ho : (nameO s.op.kind).length ≤ 5 := name_len (by decide) _
  obtain ⟨w1, w2, w3, w4, w5, w6, w7⟩ := hw
  have i2 := Go.Lib.itoa_length_le s.node w2.1 w2.2
  have i3 := Go.Lib.itoa_length_le s.n w3.1 w3.2
  have i4 := Go.Lib.itoa_length_le s.bit w4.1 w4.2
  have i6 := Go.Lib.itoa_length_le s.op.line w6.1 w6.2
  have i7 := Go.Lib.itoa_length_le s.op.value w7.1 w7.2
  unfold lineT
  refine Nat.le_trans h ?_
  by_cases h1 : s.kind = 1
  · by_cases h2 : s.op.kind = 2 ∨ s.op.kind = 3
    · rw [words1a h1 h2]; simp [lenW]; omega
    · rw [words1b h1 h2]; simp [lenW]; omega
  · by_cases h6 : s.kind = 6
    · rw [words6 h6]; simp [lenW]; omega
    · by_cases h5 : s.kind = 5
      · rw [words5 h5]; simp [lenW]; omega
      · rw [wordsE h1 h6 h5]; simp [lenW]; omega
theorem textB_len : ∀ {l : List Step}, (∀ s ∈ l, s.wf) → (textB l).length ≤ 80 * l.length
  | [], _ => Nat.le_refl _
  | s :: r, h => by
    have ih := textB_len (l := r) fun x hx => h x (List.mem_cons_of_mem _ hx)
    have := lineT_len (h s (List.mem_cons_self ..))
    rw [textB_cons, List.length_append, List.length_cons, List.length_cons]; omega
theorem textB_next {l : List Step} {k : Nat} (h : k < l.length) : textB (l.take (k + 1)) = (textB (l.take k) ++ lineT (l.getD k zStep)) ++ [10] := by
  have e : l.take (k + 1) = l.take k ++ [l.getD k zStep] := by
    rw [List.take_add_one, List.getD_eq_getElem?_getD, List.getElem?_eq_getElem h]; rfl
  rw [e, textB_app, textB_cons, List.append_assoc]; rfl
theorem textB_take (l : List Step) (k : Nat) : (textB (l.take k)).length ≤ (textB l).length := by
  have : textB l = textB (l.take k) ++ textB (l.drop k) := by rw [← textB_app, List.take_append_drop]
  rw [this, List.length_append]; omega
theorem textB_norm : ∀ (l : List Step), textB (l.map normS) = textB l
  | [] => rfl
  | s :: r => by rw [List.map_cons, textB_cons, textB_cons, norm_text, textB_norm r]
theorem good_next {l : List Step} {k : Nat} (h : ∀ s ∈ l.take k, ¬ badStep s) (hk : k < l.length) (hx : ¬ badStep (l.getD k zStep)) : ∀ s ∈ l.take (k + 1), ¬ badStep s := by
  have e : l.take (k + 1) = l.take k ++ [l.getD k zStep] := by
    rw [List.take_add_one, List.getD_eq_getElem?_getD, List.getElem?_eq_getElem hk]; rfl
  rw [e]; intro s hs
  rcases List.mem_append.1 hs with hs | hs
  · exact h s hs
  · rw [List.mem_singleton.1 hs]; exact hx
theorem text_bad {l : List Step} {k : Nat} (hk : k < l.length) (hx : badStep (l.getD k zStep)) : textS l = ([], 1) := textS_bad ⟨_, by
  rw [List.getD_eq_getElem?_getD, List.getElem?_eq_getElem hk]; exact List.getElem_mem _, hx⟩
theorem textB_ne {l : List Step} (h : l ≠ []) : textB l ≠ [] := by
  cases l with
  | nil => exact absurd rfl h
  | cons s r => rw [textB_cons]; simp
theorem joinW_snoc : ∀ {l : List Bs} (x : Bs), l ≠ [] → joinW (l ++ [x]) = (joinW l ++ [32]) ++ x
  | [], _, h => absurd rfl h
  | [a], x, _ => by show a ++ 32 :: x = (a ++ [32]) ++ x; simp
  | a :: b :: r, x, _ => by
    have ih := joinW_snoc (l := b :: r) x (by simp)
    show a ++ 32 :: joinW ((b :: r) ++ [x]) = _
    rw [ih]
    show _ = ((a ++ 32 :: joinW (b :: r)) ++ [32]) ++ x
    simp
theorem text1a {s : Step} (h : s.kind = 1) (h2 : s.op.kind = 2 ∨ s.op.kind = 3) : joinW (stepWords s) = ((((((((nameK s.kind ++ [32]) ++ itoa s.node) ++ [32]) ++ nameO s.op.kind) ++ [32]) ++ itoa s.op.line) ++ [32]) ++ itoa s.op.value) := by
  rw [words1a h h2, joinW_snoc _ (by simp), joinW_snoc _ (by simp), joinW_snoc _ (by simp), joinW_snoc _ (by simp)]; rfl
theorem text1b {s : Step} (h : s.kind = 1) (h2 : ¬ (s.op.kind = 2 ∨ s.op.kind = 3)) : joinW (stepWords s) = ((((((nameK s.kind ++ [32]) ++ itoa s.node) ++ [32]) ++ nameO s.op.kind) ++ [32]) ++ itoa s.op.line) := by
  rw [words1b h h2, joinW_snoc _ (by simp), joinW_snoc _ (by simp), joinW_snoc _ (by simp)]; rfl
theorem text6 {s : Step} (h : s.kind = 6) : joinW (stepWords s) = ((nameK s.kind ++ [32]) ++ itoa s.node) := by
  rw [words6 h, joinW_snoc _ (by simp)]; rfl
theorem text5 {s : Step} (h : s.kind = 5) : joinW (stepWords s) = ((((nameK s.kind ++ [32]) ++ itoa s.n) ++ [32]) ++ itoa s.bit) := by
  rw [words5 h, joinW_snoc _ (by simp), joinW_snoc _ (by simp)]; rfl
theorem textE {s : Step} (h : s.kind ≠ 1) (h6 : s.kind ≠ 6) (h5 : s.kind ≠ 5) : joinW (stepWords s) = ((nameK s.kind ++ [32]) ++ itoa s.n) := by
  rw [wordsE h h6 h5, joinW_snoc _ (by simp)]; rfl
theorem len_facts {s : Step} (hw : s.wf) : (nameK s.kind).length ≤ 5 ∧ (nameO s.op.kind).length ≤ 5 ∧ (itoa s.node).length ≤ 21 ∧ (itoa s.n).length ≤ 21 ∧ (itoa s.bit).length ≤ 21 ∧ (itoa s.op.line).length ≤ 21 ∧ (itoa s.op.value).length ≤ 21 := by
  obtain ⟨w1, w2, w3, w4, w5, w6, w7⟩ := hw
  exact ⟨name_len (by decide) _, name_len (by decide) _, Go.Lib.itoa_length_le s.node w2.1 w2.2, Go.Lib.itoa_length_le s.n w3.1 w3.2, Go.Lib.itoa_length_le s.bit w4.1 w4.2, Go.Lib.itoa_length_le s.op.line w6.1 w6.2, Go.Lib.itoa_length_le s.op.value w7.1 w7.2⟩
end Go.Proofs.YtiofgjolhbgkiaaDoor
end
section
/- This file proves, in plain Lean, what the laws of scripts ask of texts. No conditions. -/
namespace Go.Proofs.YtiofgjolhbgkiaaDoor
abbrev alTx : Bs := [111, 112, 32, 49, 32, 115, 116, 111, 114, 101, 32, 48, 32, 55, 10, 115, 112, 111, 105, 108, 32, 50, 32, 53, 10]
abbrev alSt : List Step := [⟨1, 1, 0, 0, ⟨2, 0, 7⟩⟩, ⟨5, 0, 2, 5, zOp⟩]
abbrev alGo : Step := ⟨2, 0, 3, 0, zOp⟩
theorem al_text : textB alSt = alTx := by decide +kernel
theorem al_wf : ∀ s ∈ alSt, ¬ badStep s ∧ s.wf := by
  intro s hs
  simp only [List.mem_cons, List.not_mem_nil, or_false] at hs
  rcases hs with rfl | rfl <;> exact ⟨by decide, by unfold Step.wf In64; decide⟩
theorem al_parse : parseS alTx = (alSt, 0) := by rw [← al_text, scr_text al_wf]; rfl
theorem al_back : textS alSt = (alTx, 0) := by rw [textS_ok (fun s h => (al_wf s h).1), al_text]
theorem al_go : printS alGo = ([103, 111, 32, 51], 0) := by
  rw [print_ok (by decide)]; decide +kernel
theorem len_textB : ∀ (l : List Step), l.length ≤ (textB l).length
  | [] => Nat.le_refl _
  | s :: r => by have := len_textB r; rw [textB_cons, List.length_append, List.length_cons, List.length_cons]; omega
theorem parse_len {t : Bs} (h : (parseS t).2 = 0) : (parseS t).1.length ≤ t.length ∧ textB (parseS t).1 = t := by
  have e := (scr_back t.length (t := t) (m := (parseS t).1) (Nat.le_refl _) (by rw [← h])).2
  exact ⟨by have := len_textB (parseS t).1; rw [e] at this; exact this, e⟩
theorem parse_no {t : Bs} (h : (parseS t).2 ≠ 0) : parseS t = ([], (parseS t).2) := by
  have := scr_err t.length (t := t) (Nat.le_refl _) h
  rw [← this]
theorem parse_yes {t : Bs} (h : (parseS t).2 = 0) : parseS t = ((parseS t).1, 0) := by rw [← h]
theorem text_again {t : Bs} (h : (parseS t).2 = 0) : textS (parseS t).1 = (t, 0) := turns2 (by rw [← h])
theorem norm_back {l : List Step} (hw : ∀ x ∈ l, x.wf) (h : ∀ s ∈ l, ¬ badStep s) : parseS (textB l) = (l.map normS, 0) ∧ textS (l.map normS) = (textB l, 0) := turns hw (textS_ok h)
theorem join_no {s t : Bs} (h : (parseS s).2 = 0) (h2 : (parseS t).2 ≠ 0) : (parseS (s ++ t)).2 = (parseS t).2 := by
  rw [scr_app2 s.length (a := (parseS s).1) (Nat.le_refl _) (by rw [← h]), parse_no h2, comb_err h2]
theorem join_yes {s t : Bs} (h : (parseS s).2 = 0) (h2 : (parseS t).2 = 0) : parseS (s ++ t) = ((parseS s).1 ++ (parseS t).1, 0) := by
  rw [scr_app2 s.length (a := (parseS s).1) (Nat.le_refl _) (by rw [← h]), parse_yes h2, comb_ok]
end Go.Proofs.YtiofgjolhbgkiaaDoor
end
section
/- This file tells, in plain Lean, what the document's reader of a text and the law of texts come to, byte by byte and step by step. No conditions. -/
namespace Go.Proofs.YtiofgjolhbgkiaaDoor
theorem b10_ne {b : UInt8} (h : b ≠ 10) : ((b.toNat : Nat) : Int) ≠ 10 := fun e => h (byte_is (c := 10) e)
theorem b10_eq {b : UInt8} (h : b = 10) : ((b.toNat : Nat) : Int) = 10 := by rw [h]; rfl
theorem b10_of {b : UInt8} (h : ¬ ((b.toNat : Nat) : Int) ≠ 10) : b = 10 := byte_is (c := 10) (Decidable.not_not.1 h)
/-- Where a text's reader stands: behind 'k' bytes, with steps 'D' and a line's beginning. -/
structure ScI (t : Bs) (k : Nat) (D : List Step) (ln : Bs) : Prop where
  le : k ≤ t.length
  eq : parseS t = comb D (parseS (ln ++ t.drop k))
  no : (10 : UInt8) ∉ ln
  len : D.length + ln.length ≤ k
  emp : ln = [] ↔ k = 0 ∨ t.getD (k - 1) 0 = 10
section
variable {t ln : Bs} {k : Nat} {D : List Step}
theorem ScI.zero (t : Bs) : ScI t 0 [] [] := ⟨Nat.zero_le _, by rw [List.drop_zero, List.nil_append]; exact prs_head t, by simp, Nat.le_refl _, by simp⟩
theorem drop_byte (hk : k < t.length) : t.drop k = t.getD k 0 :: t.drop (k + 1) := by
  rw [List.drop_eq_getElem_cons hk, List.getD_eq_getElem?_getD, List.getElem?_eq_getElem hk]; rfl
theorem ScI.more (h : ScI t k D ln) (hk : k < t.length) (hb : t.getD k 0 ≠ 10) : ScI t (k + 1) D (ln ++ (t.drop k).take (k + 1 - k)) := by
  rw [piece_one hk]
  refine ⟨hk, ?_, ?_, by have := h.len; simp only [List.length_append, List.length_cons, List.length_nil]; omega, ?_⟩
  · rw [h.eq, drop_byte hk, List.append_assoc]; rfl
  · intro hm
    rcases List.mem_append.1 hm with hm | hm
    · exact h.no hm
    · exact hb (List.mem_singleton.1 hm).symm
  · constructor
    · intro e; simp at e
    · rintro (e | e)
      · omega
      · rw [Nat.add_sub_cancel] at e; exact absurd e hb
theorem ScI.line (h : ScI t k D ln) (hk : k < t.length) (hb : t.getD k 0 = 10) : parseS t = comb D (parseS (ln ++ 10 :: t.drop (k + 1))) := by
  rw [h.eq, drop_byte hk, hb]
theorem ScI.next (h : ScI t k D ln) (hk : k < t.length) (hb : t.getD k 0 = 10) (h0 : (lineS ln).2 = 0) : ScI t (k + 1) (D ++ [(lineS ln).1]) [] :=
  ⟨hk, by rw [List.nil_append]; exact prs_ok (h.line hk hb) h.no h0, by simp, by have := h.len; simp only [List.length_append, List.length_cons, List.length_nil]; omega, by rw [Nat.add_sub_cancel]; exact ⟨fun _ => .inr hb, fun _ => rfl⟩⟩
theorem ScI.er (h : ScI t k D ln) (hk : k < t.length) (hb : t.getD k 0 = 10) (h0 : (lineS ln).2 ≠ 0) : parseS t = ([], (lineS ln).2) := prs_er (h.line hk hb) h.no h0
theorem ScI.fin (h : ScI t k D ln) (hk : k = t.length) : parseS t = comb D (parseS ln) := by
  rw [h.eq, hk, List.drop_length, List.append_nil]
theorem ScI.good (h : ScI t k D ln) (hk : k = t.length) (hl : t.length = 0 ∨ t.getD (t.length - 1) 0 = 10) : parseS t = (D, 0) := prs_end (h.fin hk) (h.emp.2 (by rw [hk]; exact hl))
theorem ScI.open (h : ScI t k D ln) (hk : k = t.length) (h0 : 0 < t.length) (hl : t.getD (t.length - 1) 0 ≠ 10) : parseS t = ([], 2) := prs_op (h.fin hk) h.no fun e => by
  rcases h.emp.1 e with e | e
  · omega
  · rw [hk] at e; exact hl e
end
/-! ### What is wanted of texts -/
def wantT (l : List Step) : Bs := l.flatMap fun s => (printS s).1 ++ [10]
theorem wantT_next {l : List Step} {k : Nat} (h : k < l.length) : wantT (l.take (k + 1)) = (wantT (l.take k) ++ (printS (l.getD k zStep)).1) ++ [10] := by
  have e : l.take (k + 1) = l.take k ++ [l.getD k zStep] := by
    rw [List.take_add_one, List.getD_eq_getElem?_getD, List.getElem?_eq_getElem h]; rfl
  rw [e]; unfold wantT; rw [List.flatMap_append]; simp
theorem wantT_good : ∀ {l : List Step}, (∀ s ∈ l, ¬ badStep s) → wantT l = textB l
  | [], _ => rfl
  | s :: r, h => by
    have e : wantT (s :: r) = ((printS s).1 ++ [10]) ++ wantT r := by unfold wantT; rw [List.flatMap_cons]
    rw [e, wantT_good fun x hx => h x (List.mem_cons_of_mem _ hx), print_ok (h s (List.mem_cons_self ..)), textB_cons]
    simp [lineT]
theorem wantT_len : ∀ {l : List Step}, (∀ s ∈ l, s.wf) → (wantT l).length ≤ 80 * l.length
  | [], _ => Nat.le_refl _
  | s :: r, h => by
    have ih := wantT_len (l := r) fun x hx => h x (List.mem_cons_of_mem _ hx)
    have e : wantT (s :: r) = ((printS s).1 ++ [10]) ++ wantT r := by unfold wantT; rw [List.flatMap_cons]
    have hp : (printS s).1.length ≤ 79 := by
      by_cases hb : badStep s
      · rw [print_bad hb]; simp
      · rw [print_ok hb]; exact lineT_len (h s (List.mem_cons_self ..))
    rw [e, List.length_append, List.length_append, List.length_cons, List.length_cons, List.length_nil]; omega
theorem tsn_good {l : List Step} {k : Nat} (hk : k < l.length) (hx : ¬ badStep (l.getD k zStep)) : (textS (l.take (k + 1))).2 = (textS (l.take k)).2 := by
  have e : l.take (k + 1) = l.take k ++ [l.getD k zStep] := by
    rw [List.take_add_one, List.getD_eq_getElem?_getD, List.getElem?_eq_getElem hk]; rfl
  rcases textS_cases (l.take k) with ⟨h1, h2⟩ | ⟨⟨s, h1, h3⟩, h2⟩
  · rw [h2, textS_ok (good_next h1 hk hx)]
  · rw [h2, e, textS_bad ⟨s, List.mem_append_left _ h1, h3⟩]
theorem tsn_bad {l : List Step} {k : Nat} (hk : k < l.length) (hx : badStep (l.getD k zStep)) : (textS (l.take (k + 1))).2 = 1 := by
  have e : l.take (k + 1) = l.take k ++ [l.getD k zStep] := by
    rw [List.take_add_one, List.getD_eq_getElem?_getD, List.getElem?_eq_getElem hk]; rfl
  rw [e, textS_bad ⟨_, List.mem_append_right _ (List.mem_singleton.2 rfl), hx⟩]
theorem tsn_one {l : List Step} (h : (textS l).2 ≠ 0) : (textS l).2 = 1 := by
  rcases textS_cases l with ⟨h1, h2⟩ | ⟨h1, h2⟩
  · rw [h2] at h; exact absurd rfl h
  · rw [h2]
theorem print_fst {s : Step} (h : ¬ badStep s) : (printS s).2 = 0 := by rw [print_ok h]
theorem print_snd {s : Step} (h : badStep s) : (printS s).2 = 1 := by rw [print_bad h]
theorem print_len {s : Step} (h : s.wf) : (printS s).1.length ≤ 79 := by
  by_cases hb : badStep s
  · rw [print_bad hb]; simp
  · rw [print_ok hb]; exact lineT_len h
end Go.Proofs.YtiofgjolhbgkiaaDoor
end
section
/- This file proves what the writer of a step's line computes. No conditions. -/
set_option maxHeartbeats 1000000
set_option maxRecDepth 8000
namespace Go.Proofs.YtiofgjolhbgkiaaDoor
open Go
theorem scWordsAt {L : List Chunk} {R : List Fact} {w : World} {k : Int} (hs : St L R w) (h1 : 1 ≤ k) (h6 : k ≤ 6) : Calls Tryd.prog 13 [].toArray w (Post (fun v : Value => v) (fun _ => L) (fun v => cF v 1 (k - 1).toNat [.string (bstr (nameK k))] :: sl (α := Wd) v kinds :: R)) :=
  calls_pst (scWords hs) fun v w hs => ⟨v, rfl, (St.open0 (α := Wd) (xs := kinds) (k - 1).toNat (.head _) (by show _ < 6; omega) hs).2⟩
theorem scOpsAt {L : List Chunk} {R : List Fact} {w : World} {k : Int} (hs : St L R w) (h1 : 1 ≤ k) (h4 : k ≤ 4) : Calls Tryd.prog 16 [].toArray w (Post (fun v : Value => v) (fun _ => L) (fun v => cF v 1 (k - 1).toNat [.string (bstr (nameO k))] :: sl (α := Wd) v opns :: R)) :=
  calls_pst (scOps hs) fun v w hs => ⟨v, rfl, (St.open0 (α := Wd) (xs := opns) (k - 1).toNat (.head _) (by show _ < 4; omega) hs).2⟩
theorem prNum {L : List Chunk} {R : List Fact} {w : World} {b : Nat} {v : Value} {ws : List Wd} {n : Int} (hs : St (blk b 37 [v] :: row 9 v ws :: L) R w) (hl : lbF ∈ R) (hn : In64 n) (hw : ws.length ≤ 100) : Calls Tryd.prog 14 [vi n, bp b 0].toArray w (Post (fun g : Value => .tuple #[]) (fun g => blk b 37 [g] :: row 9 g (ws ++ [toW (Go.Lib.itoa n)]) :: L) (fun g => R)) := by
  refine calls_args Tryd.func14 rfl Tryd.ntmps14 rfl hs ?_
  clear hs
  refine cq_ (blk b 37 [v] :: row 9 v ws :: L) ?_
  refine jd_ (fun ρ S => blk b 37 (bif S 5 then [(Gh.dec (γ := Value) (ρ 4))] else [v]) :: (bif S 4 then row 9 (Gh.dec (γ := Value) (ρ 4)) (ws ++ [toW (Go.Lib.itoa n)]) else row 9 v ws) :: L) ?_
  refine e_ld (v := v) (fun ρ S hS hB hA => by have h5 : S 5 = false := hA 5 ⟨0, rfl⟩; simp only [h5, cond_false]; exact q_l1 (hc := at_blk1 pkk (by repeat (first | exact rfl | refine at_bif rfl ?_))) Tryd.isAgg37) (fun _ _ _ _ _ => rfl) ?_
  refine dn1 ?_
  refine e_call (γ := Unit) (val := fun _ => .string (bstr (Go.Lib.itoa n))) (F := fun _ => []) Tryd.call15 (fun _ => rfl) (fun ρ L R w hd hs => cItoa hs (hd.base mm) hn) (fun _ _ _ _ _ => rfl) ?_
  refine e_lit (α := Wd) [toW (Go.Lib.itoa n)] eo_37 rfl (fun _ => rfl) rfl (fun _ => rfl) rfl rfl (fun ρ R hd j hj => ⟨⟨_, rfl, rfl⟩, trivial⟩) (fun _ _ _ _ _ => rfl) ?_
  refine e_append (e := 9) (xs := ws) (ys := [toW (Go.Lib.itoa n)]) (v := v) eo_37 (fun _ => rfl) (fun _ => rfl) rfl (by decide) (fun ρ R hd => (hd.dep (it := ⟨3, _, _, _, _⟩) (by repeat (first | exact List.Mem.head _ | refine List.Mem.tail _ ?_)) ⟨9, rfl⟩ (List.Mem.head _))) (by have : maxN = 16777216 := rfl; simp only [List.length_append, List.length_cons, List.length_nil]; omega) (fun ρ g S hS hB hA => ?_) ?_
  ·
   have ui : upS S 4 4 = true := rfl; have u5 : upS S 4 5 = S 5 := rfl; have h5 : S 5 = false := hA 5 ⟨0, rfl⟩; have rs : (Gh.dec (γ := Value) (Rho.set ρ 4 (Gh.enc g) 4)) = g := rfl
   simp only [ui, hS, u5, h5, rs, cond_true, cond_false]
   exact Pos.ex (by repeat (first | exact .hd | exact .hc | apply Pos.tl | apply Pos.ap))
  refine e_store1 (T0 := 37) (f := 0) (vs := fun ρ => [v]) (v := fun ρ => (Gh.dec (γ := Value) (ρ 4))) (fun ρ => b) Tryd.sizeOf37 (fun _ => rfl) (fun _ => rfl) (fun ρ S R w L9 hB hd hs => by have h4 : S 4 = true := hB 4 ⟨9, rfl⟩; simp only [h4, cond_true] at hs; exact row_one pkk hs) (fun _ => rfl) (fun ρ g S hS hB hA => ?_) ?_
  ·
   have ui : upS S 5 5 = true := rfl; have u4 : upS S 5 4 = S 4 := rfl; have r4 : Rho.set ρ 5 g 4 = ρ 4 := rfl
   simp only [ui, hS, u4, r4, cond_true, cond_false]
   exact Pos.ex (by repeat (first | exact .hd | exact .hc | apply Pos.tl | apply Pos.ap))
  refine dnl ?_; intro ρ
  refine xq_ (blk b 37 [(Gh.dec (γ := Value) (ρ 4))] :: row 9 (Gh.dec (γ := Value) (ρ 4)) (ws ++ [toW (Go.Lib.itoa n)]) :: L) ?_
  generalize (Gh.dec (γ := Value) (ρ 3)) = v6
  generalize (Gh.dec (γ := Value) (ρ 4)) = v7
  refine jx_body (.inl rfl) (fun B w hs => res0 rfl _ w) (fun w hs => ⟨v7, rfl, st_cut hs⟩)
theorem scPrint {L : List Chunk} {R : List Fact} {w : World} {s : Step} (hs : St (L) R w) (hl : lbF ∈ R) (hsw : s.wf) : Calls Tryd.prog 6 [.agg s.cells.toArray].toArray w (Post (fun _ : Unit => .tuple #[.string (bstr (printS s).1), vi (printS s).2]) (fun _ => L) (fun _ => R)) := by
  refine calls_args Tryd.func6 rfl Tryd.ntmps6 rfl hs ?_
  clear hs
  refine Gm ?_
  refine bx ?_; intro b1
  refine Ga2 ?_
  rcases (show (s.kind < 1) ∨ (6 < s.kind) ∨ (s.kind = 1 ∧ s.op.kind < 1) ∨ (s.kind = 1 ∧ 4 < s.op.kind) ∨ (s.kind = 1 ∧ 1 ≤ s.op.kind ∧ s.op.kind ≤ 4) ∨ (2 ≤ s.kind ∧ s.kind ≤ 6) from by exact print_six s) with hc | hc | hc | hc | hc | hc
  ·
   have hbad : badStep s := .inl hc
   refine jc_region ?_
   refine rn2 ?_
   refine ob (p_int rfl rfl (b_lss_T (by omega))) ?_
   refine Gd22 ?_
   refine Ga2 ?_
   rw [print_bad hbad]
   exact rete2 ()
  ·
   have hbad : badStep s := .inr (.inl hc)
   refine jc_region ?_
   refine rn2 ?_
   refine ob (p_int rfl rfl (b_lss_F (by omega))) ?_
   refine rn3 ?_
   refine gy ?_
   refine ob (p_int rfl rfl (b_gtr_T (by omega))) ?_
   refine Gd18 ?_
   refine Ga2 ?_
   rw [print_bad hbad]
   exact rete2 ()
  ·
   have hbad : badStep s := .inr (.inr ⟨hc.1, .inl hc.2⟩)
   refine jc_region ?_
   refine rn2 ?_
   refine ob (p_int rfl rfl (b_lss_F (by omega))) ?_
   refine rn3 ?_
   refine gy ?_
   refine ob (p_int rfl rfl (b_gtr_F (by omega))) ?_
   refine rn4 ?_
   refine gy ?_
   refine ob (p_int rfl rfl (b_eql_T hc.1)) ?_
   refine rn4 ?_
   refine gy ?_
   refine ob (p_int rfl rfl (b_lss_T hc.2)) ?_
   refine Gd8 ?_
   refine Ga2 ?_
   rw [print_bad hbad]
   exact rete2 ()
  ·
   have hbad : badStep s := .inr (.inr ⟨hc.1, .inr hc.2⟩)
   refine jc_region ?_
   refine rn2 ?_
   refine ob (p_int rfl rfl (b_lss_F (by omega))) ?_
   refine rn3 ?_
   refine gy ?_
   refine ob (p_int rfl rfl (b_gtr_F (by omega))) ?_
   refine rn4 ?_
   refine gy ?_
   refine ob (p_int rfl rfl (b_eql_T hc.1)) ?_
   refine rn4 ?_
   refine gy ?_
   refine ob (p_int rfl rfl (b_lss_F (by omega))) ?_
   refine rn4 ?_
   refine gy ?_
   refine ob (p_int rfl rfl (b_gtr_T hc.2)) ?_
   refine Gd3 ?_
   refine Ga2 ?_
   rw [print_bad hbad]
   exact rete2 ()
  ·
   have hnb : ¬ badStep s := by unfold badStep; omega
   have ht45_ : s.kind = 1 := hc.1
   have hk1 : 1 ≤ s.kind := by omega
   have hk2 : s.kind ≤ 6 := by omega
   refine jc_region ?_
   refine rn2 ?_
   refine ob (p_int rfl rfl (b_lss_F (by omega))) ?_
   refine rn3 ?_
   refine gy ?_
   refine ob (p_int rfl rfl (b_gtr_F (by omega))) ?_
   refine rn4 ?_
   refine gy ?_
   refine ob (p_int rfl rfl (b_eql_T hc.1)) ?_
   refine rn4 ?_
   refine gy ?_
   refine ob (p_int rfl rfl (b_lss_F (by omega))) ?_
   refine rn4 ?_
   refine gy ?_
   refine ob (p_int rfl rfl (b_gtr_F (by omega))) ?_
   refine Gc3 ?_
   refine cq_ (blk b1 27 s.cells :: L) ?_
   refine jd_ (fun ρ S => blk b1 27 s.cells :: ((bif S 7 then [blk (Gh.dec (γ := Nat) (ρ 7)) 37 (bif S 8 then [(Gh.dec (γ := Value) (ρ 6))] else [.slice none 0 0])] else []) ++ (L))) ?_
   refine e_call (γ := Value) (val := fun v => v) (F := fun v => [cF v 1 (s.kind - 1).toNat [.string (bstr (nameK s.kind))], sl (α := Wd) v kinds]) Tryd.call13 (fun _ => rfl) (fun ρ L R w hd hs => scWordsAt hs hk1 hk2) (fun _ _ _ _ _ => rfl) ?_
   refine dn3 ?_
   refine e_pw (v := fun ρ => ep (Gh.dec (γ := Value) (ρ 0)) 1 (s.kind - 1).toNat 0) (fun ρ S R9 hd => q_iI so_37 (hl := len_sl (α := Wd) (xs := kinds) (hd.dep (it := ⟨0, _, _, _, _⟩) (by repeat (first | exact List.Mem.head _ | refine List.Mem.tail _ ?_)) ⟨9, rfl⟩ (.tail _ (.head _)))) (h0 := by omega) (h1 := by show s.kind - 1 < ((6 : Nat) : Int); omega)) (Ind.gh (h := fun g => ep (Gh.dec (γ := Value) g) 1 (s.kind - 1).toNat 0) 0 0 rfl) (fun _ _ _ _ _ => rfl) ?_
   refine e_pw (v := fun ρ => .string (bstr (nameK s.kind))) (fun ρ S R9 hd => q_l1 Tryd.isAgg9 (hc := at_c1 (hd.dep (it := ⟨0, _, _, _, _⟩) (by repeat (first | exact List.Mem.head _ | refine List.Mem.tail _ ?_)) ⟨9, rfl⟩ (List.Mem.head _)) rfl)) (Ind.const _) (fun _ _ _ _ _ => rfl) ?_
   refine e_litC (α := Wd) [toW (nameK s.kind)] eo_37 rfl (fun _ => rfl) rfl (fun _ => rfl) rfl rfl (fun ρ R hd j hj => ⟨⟨_, rfl, rfl⟩, trivial⟩) (fun ρ g S hS hA => by have u7 : upS S 6 7 = S 7 := rfl; have u8 : upS S 6 8 = S 8 := rfl; have r7 : Rho.set ρ 6 g 7 = ρ 7 := rfl; have h8 : S 8 = false := hA 8 ⟨0, rfl⟩; simp only [u7, u8, r7, h8, cond_false]) ?_
   refine e_alloc (cs := [.slice none 0 0]) Tryd.zeroValue37 rfl (fun ρ b S hS hA => ?_) ?_
   ·
    have ui : upS S 7 7 = true := rfl; have u8 : upS S 7 8 = S 8 := rfl; have r6 : Rho.set ρ 7 (Gh.enc b) 6 = ρ 6 := rfl; have h8 : S 8 = false := hA 8 ⟨0, rfl⟩; have rs : (Gh.dec (γ := Nat) (Rho.set ρ 7 (Gh.enc b) 7)) = b := rfl
    simp only [ui, hS, u8, r6, h8, rs, cond_true, cond_false, List.nil_append]
    exact Ins.perm (by repeat (first | exact .hd | exact .hc | refine .tl ?_ | refine .ap ?_))
   refine e_store1 (T0 := 37) (f := 0) (vs := fun ρ => [.slice none 0 0]) (v := fun ρ => (Gh.dec (γ := Value) (ρ 6))) (fun ρ => (Gh.dec (γ := Nat) (ρ 7))) Tryd.sizeOf37 (fun _ => rfl) (fun _ => rfl) (fun ρ S R w L9 hB hd hs => hs.fact (hd.dep (it := ⟨6, _, _, _, _⟩) (by repeat (first | exact List.Mem.head _ | refine List.Mem.tail _ ?_)) ⟨9, rfl⟩ (List.Mem.head _))) (fun _ => rfl) (fun ρ g S hS hB hA => ?_) ?_
   ·
    have ui : upS S 8 8 = true := rfl; have u7 : upS S 8 7 = S 7 := rfl; have r6 : Rho.set ρ 8 g 6 = ρ 6 := rfl; have r7 : Rho.set ρ 8 g 7 = ρ 7 := rfl; have h7 : S 7 = true := hB 7 ⟨0, rfl⟩
    simp only [ui, hS, u7, r6, r7, h7, cond_true, cond_false]
    exact Pos.ex (by repeat (first | exact .hd | exact .hc | apply Pos.tl | apply Pos.ap))
   refine dnl ?_; intro ρ
   refine JX.conseq (L' := row 9 (Gh.dec (γ := Value) (ρ 6)) ([toW (nameK s.kind)] : List Wd) :: blk b1 27 s.cells :: (blk (Gh.dec (γ := Nat) (ρ 7)) 37 [(Gh.dec (γ := Value) (ρ 6))] :: L)) (fun w hs => st_cut hs) ?_
   generalize (Gh.dec (γ := Value) (ρ 0)) = v31
   generalize (Gh.dec (γ := Value) (ρ 6)) = v37
   generalize (Gh.dec (γ := Nat) (ρ 7)) = b4
   refine Gl ?_
   refine kp [1, 2, 3, 4, 5, 38] ?_
   refine jc_region ?_
   refine r_makeFunc rfl ?_
   refine Gb1 ?_
   refine Gb2 ?_
   refine ob (p_int rfl rfl (b_eql_T hc.1)) ?_
   refine Gd1 ?_
   refine rn3 ?_
   refine r_callv (γ := Value) (val := fun _ => .tuple #[]) (caps := [bp b4 0]) (vs := [vi s.node]) rfl Tryd.call14 rfl (fun w hs => prNum (b := b4) (v := v37) (ws := ([toW (nameK s.kind)] : List Wd)) (n := s.node) (st_cut hs) mm hsw.2.1 (by simp only [List.length_append, List.length_cons, List.length_nil]; omega)) ?_; intro v50
   refine Gl ?_
   have hk1 : 1 ≤ s.op.kind := hc.2.1
   have hk2 : s.op.kind ≤ 4 := hc.2.2
   refine cq_ (blk b4 37 [v50] :: row 9 v50 (([toW (nameK s.kind)] : List Wd) ++ [toW (Go.Lib.itoa s.node)]) :: blk b1 27 s.cells :: L) ?_
   refine jd_ (fun ρ S => blk b4 37 (bif S 10 then [(Gh.dec (γ := Value) (ρ 9))] else [v50]) :: (bif S 9 then row 9 (Gh.dec (γ := Value) (ρ 9)) ((([toW (nameK s.kind)] : List Wd) ++ [toW (Go.Lib.itoa s.node)]) ++ [toW (nameO s.op.kind)]) else row 9 v50 (([toW (nameK s.kind)] : List Wd) ++ [toW (Go.Lib.itoa s.node)])) :: blk b1 27 s.cells :: L) ?_
   refine e_ld (v := v50) (fun ρ S hS hB hA => by have h10 : S 10 = false := hA 10 ⟨0, rfl⟩; simp only [h10, cond_false]; exact q_l1 (hc := at_blk1 pkk (by repeat (first | exact rfl | refine at_bif rfl ?_))) Tryd.isAgg37) (fun _ _ _ _ _ => rfl) ?_
   refine e_call (γ := Value) (val := fun v => v) (F := fun v => [cF v 1 (s.op.kind - 1).toNat [.string (bstr (nameO s.op.kind))], sl (α := Wd) v opns]) Tryd.call16 (fun _ => rfl) (fun ρ L R w hd hs => scOpsAt hs hk1 hk2) (fun _ _ _ _ _ => rfl) ?_
   refine dn4 ?_
   refine e_pw (v := fun ρ => ep (Gh.dec (γ := Value) (ρ 1)) 1 (s.op.kind - 1).toNat 0) (fun ρ S R9 hd => q_iI so_37 (hl := len_sl (α := Wd) (xs := opns) (hd.dep (it := ⟨1, _, _, _, _⟩) (by repeat (first | exact List.Mem.head _ | refine List.Mem.tail _ ?_)) ⟨9, rfl⟩ (.tail _ (.head _)))) (h0 := by omega) (h1 := by show s.op.kind - 1 < ((4 : Nat) : Int); omega)) (Ind.gh (h := fun g => ep (Gh.dec (γ := Value) g) 1 (s.op.kind - 1).toNat 0) 1 0 rfl) (fun _ _ _ _ _ => rfl) ?_
   refine e_pw (v := fun ρ => .string (bstr (nameO s.op.kind))) (fun ρ S R9 hd => q_l1 Tryd.isAgg9 (hc := at_c1 (hd.dep (it := ⟨1, _, _, _, _⟩) (by repeat (first | exact List.Mem.head _ | refine List.Mem.tail _ ?_)) ⟨9, rfl⟩ (List.Mem.head _)) rfl)) (Ind.const _) (fun _ _ _ _ _ => rfl) ?_
   refine e_lit (α := Wd) [toW (nameO s.op.kind)] eo_37 rfl (fun _ => rfl) rfl (fun _ => rfl) rfl rfl (fun ρ R hd j hj => ⟨⟨_, rfl, rfl⟩, trivial⟩) (fun _ _ _ _ _ => rfl) ?_
   refine e_append (e := 9) (xs := (([toW (nameK s.kind)] : List Wd) ++ [toW (Go.Lib.itoa s.node)])) (ys := [toW (nameO s.op.kind)]) (v := v50) eo_37 (fun _ => rfl) (fun _ => rfl) rfl (by decide) (fun ρ R hd => (hd.dep (it := ⟨8, _, _, _, _⟩) (by repeat (first | exact List.Mem.head _ | refine List.Mem.tail _ ?_)) ⟨9, rfl⟩ (List.Mem.head _))) (by have : maxN = 16777216 := rfl; simp only [List.length_append, List.length_cons, List.length_nil]; omega) (fun ρ g S hS hB hA => ?_) ?_
   ·
    have ui : upS S 9 9 = true := rfl; have u10 : upS S 9 10 = S 10 := rfl; have h10 : S 10 = false := hA 10 ⟨0, rfl⟩; have rs : (Gh.dec (γ := Value) (Rho.set ρ 9 (Gh.enc g) 9)) = g := rfl
    simp only [ui, hS, u10, h10, rs, cond_true, cond_false]
    exact Pos.ex (by repeat (first | exact .hd | exact .hc | apply Pos.tl | apply Pos.ap))
   refine e_store1 (T0 := 37) (f := 0) (vs := fun ρ => [v50]) (v := fun ρ => (Gh.dec (γ := Value) (ρ 9))) (fun ρ => b4) Tryd.sizeOf37 (fun _ => rfl) (fun _ => rfl) (fun ρ S R w L9 hB hd hs => by have h9 : S 9 = true := hB 9 ⟨9, rfl⟩; simp only [h9, cond_true] at hs; exact row_one pkk hs) (fun _ => rfl) (fun ρ g S hS hB hA => ?_) ?_
   ·
    have ui : upS S 10 10 = true := rfl; have u9 : upS S 10 9 = S 9 := rfl; have r9 : Rho.set ρ 10 g 9 = ρ 9 := rfl
    simp only [ui, hS, u9, r9, cond_true, cond_false]
    exact Pos.ex (by repeat (first | exact .hd | exact .hc | apply Pos.tl | apply Pos.ap))
   refine dnl ?_; intro ρ
   refine xq_ (blk b4 37 [(Gh.dec (γ := Value) (ρ 9))] :: row 9 (Gh.dec (γ := Value) (ρ 9)) ((([toW (nameK s.kind)] : List Wd) ++ [toW (Go.Lib.itoa s.node)]) ++ [toW (nameO s.op.kind)]) :: blk b1 27 s.cells :: L) ?_
   generalize (Gh.dec (γ := Value) (ρ 1)) = v52
   generalize (Gh.dec (γ := Value) (ρ 8)) = v59
   generalize (Gh.dec (γ := Value) (ρ 9)) = v60
   refine Gm ?_
   refine rn4 ?_
   refine r_callv (γ := Value) (val := fun _ => .tuple #[]) (caps := [bp b4 0]) (vs := [vi s.op.line]) rfl Tryd.call14 rfl (fun w hs => prNum (b := b4) (v := v60) (ws := ((([toW (nameK s.kind)] : List Wd) ++ [toW (Go.Lib.itoa s.node)]) ++ [toW (nameO s.op.kind)])) (n := s.op.line) (st_cut hs) mm hsw.2.2.2.2.2.1 (by simp only [List.length_append, List.length_cons, List.length_nil]; omega)) ?_; intro v65
   refine Gl ?_
   rcases (show (s.op.kind = 2) ∨ (s.op.kind = 3) ∨ (s.op.kind ≠ 2 ∧ s.op.kind ≠ 3) from by omega) with hc | hc | hc
   ·
    have ht75 : s.op.kind = 2 ∨ s.op.kind = 3 := .inl hc
    refine jc_region ?_
    refine rn3 ?_
    refine ob (p_int rfl rfl (b_eql_T (by omega))) ?_
    refine Gc6 ?_
    refine kp [1, 2, 3, 4, 5, 40, 76, 77, 78, 79] ?_
    refine jc_region ?_
    refine rn4 ?_
    refine r_callv (γ := Value) (val := fun _ => .tuple #[]) (caps := [bp b4 0]) (vs := [vi s.op.value]) rfl Tryd.call14 rfl (fun w hs => prNum (b := b4) (v := v65) (ws := (((([toW (nameK s.kind)] : List Wd) ++ [toW (Go.Lib.itoa s.node)]) ++ [toW (nameO s.op.kind)]) ++ [toW (Go.Lib.itoa s.op.line)])) (n := s.op.value) (st_cut hs) mm hsw.2.2.2.2.2.2 (by simp only [List.length_append, List.length_cons, List.length_nil]; omega)) ?_; intro v80
    refine Gl ?_
    have eW : stepWords s = ((((([toW (nameK s.kind)] : List Wd) ++ [toW (Go.Lib.itoa s.node)]) ++ [toW (nameO s.op.kind)]) ++ [toW (Go.Lib.itoa s.op.line)]) ++ [toW (Go.Lib.itoa s.op.value)]) := (words1a ht45_ ht75)
    have hLn : (joinW ((((([toW (nameK s.kind)] : List Wd) ++ [toW (Go.Lib.itoa s.node)]) ++ [toW (nameO s.op.kind)]) ++ [toW (Go.Lib.itoa s.op.line)]) ++ [toW (Go.Lib.itoa s.op.value)])).length ≤ 79 := by rw [← eW]; exact lineT_len hsw
    refine JC.shut (α := Wd) (v := v80) (xs := ((((([toW (nameK s.kind)] : List Wd) ++ [toW (Go.Lib.itoa s.node)]) ++ [toW (nameO s.op.kind)]) ++ [toW (Go.Lib.itoa s.op.line)]) ++ [toW (Go.Lib.itoa s.op.value)])) (T := 9) pkk ?_
    refine jc_region ?_
    refine rn1 ?_
    refine r_call Tryd.call17 rfl (fun w hs => cJoin (l := ((((([toW (nameK s.kind)] : List Wd) ++ [toW (Go.Lib.itoa s.node)]) ++ [toW (nameO s.op.kind)]) ++ [toW (Go.Lib.itoa s.op.line)]) ++ [toW (Go.Lib.itoa s.op.value)])) hs mm (by rw [← eW]; exact stepWords_ne s) (Nat.le_trans hLn (by decide))) ?_; intro _
    refine Ga2 ?_
    rw [print_ok hnb, eW]
    exact rete2 ()
   ·
    have ht75 : s.op.kind = 2 ∨ s.op.kind = 3 := .inr hc
    refine jc_region ?_
    refine rn3 ?_
    refine ob (p_int rfl rfl (b_eql_F (by omega))) ?_
    refine rn4 ?_
    refine gy ?_
    refine ob (p_int rfl rfl (b_eql_T (by omega))) ?_
    refine Gc1 ?_
    refine kp [1, 2, 3, 4, 5, 40, 76, 77, 78, 79] ?_
    refine jc_region ?_
    refine rn4 ?_
    refine r_callv (γ := Value) (val := fun _ => .tuple #[]) (caps := [bp b4 0]) (vs := [vi s.op.value]) rfl Tryd.call14 rfl (fun w hs => prNum (b := b4) (v := v65) (ws := (((([toW (nameK s.kind)] : List Wd) ++ [toW (Go.Lib.itoa s.node)]) ++ [toW (nameO s.op.kind)]) ++ [toW (Go.Lib.itoa s.op.line)])) (n := s.op.value) (st_cut hs) mm hsw.2.2.2.2.2.2 (by simp only [List.length_append, List.length_cons, List.length_nil]; omega)) ?_; intro v80
    refine Gl ?_
    have eW : stepWords s = ((((([toW (nameK s.kind)] : List Wd) ++ [toW (Go.Lib.itoa s.node)]) ++ [toW (nameO s.op.kind)]) ++ [toW (Go.Lib.itoa s.op.line)]) ++ [toW (Go.Lib.itoa s.op.value)]) := (words1a ht45_ ht75)
    have hLn : (joinW ((((([toW (nameK s.kind)] : List Wd) ++ [toW (Go.Lib.itoa s.node)]) ++ [toW (nameO s.op.kind)]) ++ [toW (Go.Lib.itoa s.op.line)]) ++ [toW (Go.Lib.itoa s.op.value)])).length ≤ 79 := by rw [← eW]; exact lineT_len hsw
    refine JC.shut (α := Wd) (v := v80) (xs := ((((([toW (nameK s.kind)] : List Wd) ++ [toW (Go.Lib.itoa s.node)]) ++ [toW (nameO s.op.kind)]) ++ [toW (Go.Lib.itoa s.op.line)]) ++ [toW (Go.Lib.itoa s.op.value)])) (T := 9) pkk ?_
    refine jc_region ?_
    refine rn1 ?_
    refine r_call Tryd.call17 rfl (fun w hs => cJoin (l := ((((([toW (nameK s.kind)] : List Wd) ++ [toW (Go.Lib.itoa s.node)]) ++ [toW (nameO s.op.kind)]) ++ [toW (Go.Lib.itoa s.op.line)]) ++ [toW (Go.Lib.itoa s.op.value)])) hs mm (by rw [← eW]; exact stepWords_ne s) (Nat.le_trans hLn (by decide))) ?_; intro _
    refine Ga2 ?_
    rw [print_ok hnb, eW]
    exact rete2 ()
   ·
    have ht75 : ¬ (s.op.kind = 2 ∨ s.op.kind = 3) := by omega
    refine jc_region ?_
    refine rn3 ?_
    refine ob (p_int rfl rfl (b_eql_F (by omega))) ?_
    refine rn4 ?_
    refine gy ?_
    refine ob (p_int rfl rfl (b_eql_F (by omega))) ?_
    refine Gc1 ?_
    have eW : stepWords s = (((([toW (nameK s.kind)] : List Wd) ++ [toW (Go.Lib.itoa s.node)]) ++ [toW (nameO s.op.kind)]) ++ [toW (Go.Lib.itoa s.op.line)]) := (words1b ht45_ ht75)
    have hLn : (joinW (((([toW (nameK s.kind)] : List Wd) ++ [toW (Go.Lib.itoa s.node)]) ++ [toW (nameO s.op.kind)]) ++ [toW (Go.Lib.itoa s.op.line)])).length ≤ 79 := by rw [← eW]; exact lineT_len hsw
    refine JC.shut (α := Wd) (v := v65) (xs := (((([toW (nameK s.kind)] : List Wd) ++ [toW (Go.Lib.itoa s.node)]) ++ [toW (nameO s.op.kind)]) ++ [toW (Go.Lib.itoa s.op.line)])) (T := 9) pkk ?_
    refine kp [2, 3, 4, 97, 98] ?_
    refine jc_region ?_
    refine rn1 ?_
    refine r_call Tryd.call17 rfl (fun w hs => cJoin (l := (((([toW (nameK s.kind)] : List Wd) ++ [toW (Go.Lib.itoa s.node)]) ++ [toW (nameO s.op.kind)]) ++ [toW (Go.Lib.itoa s.op.line)])) hs mm (by rw [← eW]; exact stepWords_ne s) (Nat.le_trans hLn (by decide))) ?_; intro _
    refine Ga2 ?_
    rw [print_ok hnb, eW]
    exact rete2 ()
  ·
   have hnb : ¬ badStep s := by unfold badStep; omega
   have hk1 : 1 ≤ s.kind := by omega
   have hk2 : s.kind ≤ 6 := hc.2
   refine jc_region ?_
   refine rn2 ?_
   refine ob (p_int rfl rfl (b_lss_F (by omega))) ?_
   refine rn3 ?_
   refine gy ?_
   refine ob (p_int rfl rfl (b_gtr_F (by omega))) ?_
   refine rn4 ?_
   refine gy ?_
   refine ob (p_int rfl rfl (b_eql_F (by omega))) ?_
   refine Gc13 ?_
   refine cq_ (blk b1 27 s.cells :: L) ?_
   refine jd_ (fun ρ S => blk b1 27 s.cells :: ((bif S 7 then [blk (Gh.dec (γ := Nat) (ρ 7)) 37 (bif S 8 then [(Gh.dec (γ := Value) (ρ 6))] else [.slice none 0 0])] else []) ++ (L))) ?_
   refine e_call (γ := Value) (val := fun v => v) (F := fun v => [cF v 1 (s.kind - 1).toNat [.string (bstr (nameK s.kind))], sl (α := Wd) v kinds]) Tryd.call13 (fun _ => rfl) (fun ρ L R w hd hs => scWordsAt hs hk1 hk2) (fun _ _ _ _ _ => rfl) ?_
   refine dn3 ?_
   refine e_pw (v := fun ρ => ep (Gh.dec (γ := Value) (ρ 0)) 1 (s.kind - 1).toNat 0) (fun ρ S R9 hd => q_iI so_37 (hl := len_sl (α := Wd) (xs := kinds) (hd.dep (it := ⟨0, _, _, _, _⟩) (by repeat (first | exact List.Mem.head _ | refine List.Mem.tail _ ?_)) ⟨9, rfl⟩ (.tail _ (.head _)))) (h0 := by omega) (h1 := by show s.kind - 1 < ((6 : Nat) : Int); omega)) (Ind.gh (h := fun g => ep (Gh.dec (γ := Value) g) 1 (s.kind - 1).toNat 0) 0 0 rfl) (fun _ _ _ _ _ => rfl) ?_
   refine e_pw (v := fun ρ => .string (bstr (nameK s.kind))) (fun ρ S R9 hd => q_l1 Tryd.isAgg9 (hc := at_c1 (hd.dep (it := ⟨0, _, _, _, _⟩) (by repeat (first | exact List.Mem.head _ | refine List.Mem.tail _ ?_)) ⟨9, rfl⟩ (List.Mem.head _)) rfl)) (Ind.const _) (fun _ _ _ _ _ => rfl) ?_
   refine e_litC (α := Wd) [toW (nameK s.kind)] eo_37 rfl (fun _ => rfl) rfl (fun _ => rfl) rfl rfl (fun ρ R hd j hj => ⟨⟨_, rfl, rfl⟩, trivial⟩) (fun ρ g S hS hA => by have u7 : upS S 6 7 = S 7 := rfl; have u8 : upS S 6 8 = S 8 := rfl; have r7 : Rho.set ρ 6 g 7 = ρ 7 := rfl; have h8 : S 8 = false := hA 8 ⟨0, rfl⟩; simp only [u7, u8, r7, h8, cond_false]) ?_
   refine e_alloc (cs := [.slice none 0 0]) Tryd.zeroValue37 rfl (fun ρ b S hS hA => ?_) ?_
   ·
    have ui : upS S 7 7 = true := rfl; have u8 : upS S 7 8 = S 8 := rfl; have r6 : Rho.set ρ 7 (Gh.enc b) 6 = ρ 6 := rfl; have h8 : S 8 = false := hA 8 ⟨0, rfl⟩; have rs : (Gh.dec (γ := Nat) (Rho.set ρ 7 (Gh.enc b) 7)) = b := rfl
    simp only [ui, hS, u8, r6, h8, rs, cond_true, cond_false, List.nil_append]
    exact Ins.perm (by repeat (first | exact .hd | exact .hc | refine .tl ?_ | refine .ap ?_))
   refine e_store1 (T0 := 37) (f := 0) (vs := fun ρ => [.slice none 0 0]) (v := fun ρ => (Gh.dec (γ := Value) (ρ 6))) (fun ρ => (Gh.dec (γ := Nat) (ρ 7))) Tryd.sizeOf37 (fun _ => rfl) (fun _ => rfl) (fun ρ S R w L9 hB hd hs => hs.fact (hd.dep (it := ⟨6, _, _, _, _⟩) (by repeat (first | exact List.Mem.head _ | refine List.Mem.tail _ ?_)) ⟨9, rfl⟩ (List.Mem.head _))) (fun _ => rfl) (fun ρ g S hS hB hA => ?_) ?_
   ·
    have ui : upS S 8 8 = true := rfl; have u7 : upS S 8 7 = S 7 := rfl; have r6 : Rho.set ρ 8 g 6 = ρ 6 := rfl; have r7 : Rho.set ρ 8 g 7 = ρ 7 := rfl; have h7 : S 7 = true := hB 7 ⟨0, rfl⟩
    simp only [ui, hS, u7, r6, r7, h7, cond_true, cond_false]
    exact Pos.ex (by repeat (first | exact .hd | exact .hc | apply Pos.tl | apply Pos.ap))
   refine dnl ?_; intro ρ
   refine JX.conseq (L' := row 9 (Gh.dec (γ := Value) (ρ 6)) ([toW (nameK s.kind)] : List Wd) :: blk b1 27 s.cells :: (blk (Gh.dec (γ := Nat) (ρ 7)) 37 [(Gh.dec (γ := Value) (ρ 6))] :: L)) (fun w hs => st_cut hs) ?_
   generalize (Gh.dec (γ := Value) (ρ 0)) = v31
   generalize (Gh.dec (γ := Value) (ρ 6)) = v37
   generalize (Gh.dec (γ := Nat) (ρ 7)) = b4
   refine Gl ?_
   refine kp [1, 2, 3, 4, 5, 38] ?_
   refine jc_region ?_
   refine r_makeFunc rfl ?_
   refine Gb1 ?_
   refine Gb2 ?_
   refine ob (p_int rfl rfl (b_eql_F (by omega))) ?_
   refine Gd1 ?_
   refine Ga2 ?_
   refine cdx (p := ?p1) (hd := ?d1) ?e1 ?_ ?_; case e1 => exact rfl
   ·
    intro ht81
    refine jc_region ?_
    refine rn3 ?_
    refine r_callv (γ := Value) (val := fun _ => .tuple #[]) (caps := [bp b4 0]) (vs := [vi s.node]) rfl Tryd.call14 rfl (fun w hs => prNum (b := b4) (v := v37) (ws := ([toW (nameK s.kind)] : List Wd)) (n := s.node) (st_cut hs) mm hsw.2.1 (by simp only [List.length_append, List.length_cons, List.length_nil]; omega)) ?_; intro v86
    refine Gl ?_
    have eW : stepWords s = (([toW (nameK s.kind)] : List Wd) ++ [toW (Go.Lib.itoa s.node)]) := (words6 ht81)
    have hLn : (joinW (([toW (nameK s.kind)] : List Wd) ++ [toW (Go.Lib.itoa s.node)])).length ≤ 79 := by rw [← eW]; exact lineT_len hsw
    refine JC.shut (α := Wd) (v := v86) (xs := (([toW (nameK s.kind)] : List Wd) ++ [toW (Go.Lib.itoa s.node)])) (T := 9) pkk ?_
    refine jc_region ?_
    refine rn1 ?_
    refine r_call Tryd.call17 rfl (fun w hs => cJoin (l := (([toW (nameK s.kind)] : List Wd) ++ [toW (Go.Lib.itoa s.node)])) hs mm (by rw [← eW]; exact stepWords_ne s) (Nat.le_trans hLn (by decide))) ?_; intro _
    refine Ga2 ?_
    rw [print_ok hnb, eW]
    exact rete2 ()
   ·
    intro ht81
    refine Gm ?_
    refine Ga2 ?_
    refine cdx (p := ?p2) (hd := ?d2) ?e2 ?_ ?_; case e2 => exact rfl
    ·
     intro ht87
     refine Gm ?_
     refine rn3 ?_
     refine r_callv (γ := Value) (val := fun _ => .tuple #[]) (caps := [bp b4 0]) (vs := [vi s.n]) rfl Tryd.call14 rfl (fun w hs => prNum (b := b4) (v := v37) (ws := ([toW (nameK s.kind)] : List Wd)) (n := s.n) (st_cut hs) mm hsw.2.2.1 (by simp only [List.length_append, List.length_cons, List.length_nil]; omega)) ?_; intro v92
     refine Gm ?_
     refine rn3 ?_
     refine r_callv (γ := Value) (val := fun _ => .tuple #[]) (caps := [bp b4 0]) (vs := [vi s.bit]) rfl Tryd.call14 rfl (fun w hs => prNum (b := b4) (v := v92) (ws := (([toW (nameK s.kind)] : List Wd) ++ [toW (Go.Lib.itoa s.n)])) (n := s.bit) (st_cut hs) mm hsw.2.2.2.1 (by simp only [List.length_append, List.length_cons, List.length_nil]; omega)) ?_; intro v96
     refine Gl ?_
     have eW : stepWords s = ((([toW (nameK s.kind)] : List Wd) ++ [toW (Go.Lib.itoa s.n)]) ++ [toW (Go.Lib.itoa s.bit)]) := (words5 ht87)
     have hLn : (joinW ((([toW (nameK s.kind)] : List Wd) ++ [toW (Go.Lib.itoa s.n)]) ++ [toW (Go.Lib.itoa s.bit)])).length ≤ 79 := by rw [← eW]; exact lineT_len hsw
     refine JC.shut (α := Wd) (v := v96) (xs := ((([toW (nameK s.kind)] : List Wd) ++ [toW (Go.Lib.itoa s.n)]) ++ [toW (Go.Lib.itoa s.bit)])) (T := 9) pkk ?_
     refine jc_region ?_
     refine rn1 ?_
     refine r_call Tryd.call17 rfl (fun w hs => cJoin (l := ((([toW (nameK s.kind)] : List Wd) ++ [toW (Go.Lib.itoa s.n)]) ++ [toW (Go.Lib.itoa s.bit)])) hs mm (by rw [← eW]; exact stepWords_ne s) (Nat.le_trans hLn (by decide))) ?_; intro _
     refine Ga2 ?_
     rw [print_ok hnb, eW]
     exact rete2 ()
    ·
     intro ht87
     refine jc_region ?_
     refine rn3 ?_
     refine r_callv (γ := Value) (val := fun _ => .tuple #[]) (caps := [bp b4 0]) (vs := [vi s.n]) rfl Tryd.call14 rfl (fun w hs => prNum (b := b4) (v := v37) (ws := ([toW (nameK s.kind)] : List Wd)) (n := s.n) (st_cut hs) mm hsw.2.2.1 (by simp only [List.length_append, List.length_cons, List.length_nil]; omega)) ?_; intro v44
     refine Gl ?_
     have eW : stepWords s = (([toW (nameK s.kind)] : List Wd) ++ [toW (Go.Lib.itoa s.n)]) := (wordsE (by omega) ht81 ht87)
     have hLn : (joinW (([toW (nameK s.kind)] : List Wd) ++ [toW (Go.Lib.itoa s.n)])).length ≤ 79 := by rw [← eW]; exact lineT_len hsw
     refine JC.shut (α := Wd) (v := v44) (xs := (([toW (nameK s.kind)] : List Wd) ++ [toW (Go.Lib.itoa s.n)])) (T := 9) pkk ?_
     refine jc_region ?_
     refine rn1 ?_
     refine r_call Tryd.call17 rfl (fun w hs => cJoin (l := (([toW (nameK s.kind)] : List Wd) ++ [toW (Go.Lib.itoa s.n)])) hs mm (by rw [← eW]; exact stepWords_ne s) (Nat.le_trans hLn (by decide))) ?_; intro _
     refine Ga2 ?_
     rw [print_ok hnb, eW]
     exact rete2 ()
end Go.Proofs.YtiofgjolhbgkiaaDoor
end
section
/- This file proves what the document's writer of a step's line computes. No conditions. -/
set_option maxHeartbeats 1000000
set_option maxRecDepth 8000
namespace Go.Proofs.YtiofgjolhbgkiaaDoor
open Go
theorem rfKindsAt {L : List Chunk} {R : List Fact} {w : World} {k : Int} (hs : St L R w) (h1 : 1 ≤ k) (h6 : k ≤ 6) : Calls Tryd.prog 18 [].toArray w (Post (fun v : Value => v) (fun _ => L) (fun v => cF v 1 (k - 1).toNat [.string (bstr (nameK k))] :: sl (α := Wd) v kinds :: R)) :=
  calls_pst (rfKinds hs) fun v w hs => ⟨v, rfl, (St.open0 (α := Wd) (xs := kinds) (k - 1).toNat (.head _) (by show _ < 6; omega) hs).2⟩
theorem rfOpsAt {L : List Chunk} {R : List Fact} {w : World} {k : Int} (hs : St L R w) (h1 : 1 ≤ k) (h4 : k ≤ 4) : Calls Tryd.prog 20 [].toArray w (Post (fun v : Value => v) (fun _ => L) (fun v => cF v 1 (k - 1).toNat [.string (bstr (nameO k))] :: sl (α := Wd) v opns :: R)) :=
  calls_pst (rfOps hs) fun v w hs => ⟨v, rfl, (St.open0 (α := Wd) (xs := opns) (k - 1).toNat (.head _) (by show _ < 4; omega) hs).2⟩
theorem rfNum {L : List Chunk} {R : List Fact} {w : World} {b : Nat} {t : Bs} {n : Int} (hs : St (blk b 9 [.string (bstr (t))] :: L) R w) (hl : lbF ∈ R) (hn : In64 n) (ht : t.length ≤ 1000) : Calls Tryd.prog 19 [vi n, bp b 0].toArray w (Post (fun _ : Unit => .tuple #[]) (fun _ => blk b 9 [.string (bstr ((t ++ [32]) ++ Go.Lib.itoa n))] :: L) (fun _ => R)) := by
  have hi := Go.Lib.itoa_length_le n hn.1 hn.2
  refine calls_args Tryd.func19 rfl Tryd.ntmps19 rfl hs ?_
  clear hs
  refine cq_ (blk b 9 [.string (bstr (t))] :: L) ?_
  refine jd_ (fun ρ S => blk b 9 (bif S 5 then [.string (bstr ((t ++ [32]) ++ Go.Lib.itoa n))] else [.string (bstr (t))]) :: L) ?_
  refine e_ld (v := .string (bstr t)) (fun ρ S hS hB hA => by have h5 : S 5 = false := hA 5 ⟨0, rfl⟩; simp only [h5, cond_false]; exact q_l1 (hc := at_blk1 pkk (by repeat (first | exact rfl | refine at_bif rfl ?_))) Tryd.isAgg9) (fun _ _ _ _ _ => rfl) ?_
  first | refine epc (fun _ _ => q_sadd) ?_ | refine epp (fun _ _ => q_sadd) ?_
  refine dn1 ?_
  refine e_call (γ := Unit) (val := fun _ => .string (bstr (Go.Lib.itoa n))) (F := fun _ => []) Tryd.call15 (fun _ => rfl) (fun ρ L R w hd hs => cItoa hs (hd.base mm) hn) (fun _ _ _ _ _ => rfl) ?_
  first | refine epc (fun _ _ => q_sadd) ?_ | refine epp (fun _ _ => q_sadd) ?_
  refine es_ 9 0 [] [] (fun ρ => b) (fun ρ => [.string (bstr (t))]) (fun ρ => [.string (bstr ((t ++ [32]) ++ Go.Lib.itoa n))]) Tryd.sizeOf9 ?_
  refine dnl ?_; intro ρ
  refine xq_ (blk b 9 [.string (bstr ((t ++ [32]) ++ Go.Lib.itoa n))] :: L) ?_
  refine jx_body (.inl rfl) (fun B w hs => res0 rfl _ w) (fun w hs => ⟨(), rfl, st_cut hs⟩)
theorem rfPrint {L : List Chunk} {R : List Fact} {w : World} {s : Step} (hs : St (L) R w) (hl : lbF ∈ R) (hsw : s.wf) : Calls Tryd.prog 7 [.agg s.cells.toArray].toArray w (Post (fun _ : Unit => .tuple #[.string (bstr (printS s).1), vi (printS s).2]) (fun _ => L) (fun _ => R)) := by
  obtain ⟨g1, g2, g3, g4, g5, g6, g7⟩ := len_facts hsw
  refine calls_args Tryd.func7 rfl Tryd.ntmps7 rfl hs ?_
  clear hs
  refine Gm ?_
  refine bx ?_; intro b1
  refine Ga2 ?_
  rcases (show (s.kind < 1) ∨ (6 < s.kind) ∨ (s.kind = 1 ∧ s.op.kind < 1) ∨ (s.kind = 1 ∧ 4 < s.op.kind) ∨ (s.kind = 1 ∧ 1 ≤ s.op.kind ∧ s.op.kind ≤ 4) ∨ (2 ≤ s.kind ∧ s.kind ≤ 6) from by exact print_six s) with hc | hc | hc | hc | hc | hc
  ·
   have hbad : badStep s := .inl hc
   refine jc_region ?_
   refine rn2 ?_
   refine ob (p_int rfl rfl (b_lss_T (by omega))) ?_
   refine Gd5 ?_
   refine Ga2 ?_
   rw [print_bad hbad]
   exact rete2 ()
  ·
   have hbad : badStep s := .inr (.inl hc)
   refine jc_region ?_
   refine rn2 ?_
   refine ob (p_int rfl rfl (b_lss_F (by omega))) ?_
   refine rn3 ?_
   refine gy ?_
   refine ob (p_int rfl rfl (b_gtr_T (by omega))) ?_
   refine Gd1 ?_
   refine Ga2 ?_
   rw [print_bad hbad]
   exact rete2 ()
  ·
   have hbad : badStep s := .inr (.inr ⟨hc.1, .inl hc.2⟩)
   have hk1 : 1 ≤ s.kind := by omega
   have hk2 : s.kind ≤ 6 := by omega
   refine jc_region ?_
   refine rn2 ?_
   refine ob (p_int rfl rfl (b_lss_F (by omega))) ?_
   refine rn3 ?_
   refine gy ?_
   refine ob (p_int rfl rfl (b_gtr_F (by omega))) ?_
   refine Gc1 ?_
   refine cq_ (blk b1 27 s.cells :: L) ?_
   refine jd_ (fun ρ S => blk b1 27 s.cells :: ((bif S 6 then [blk (Gh.dec (γ := Nat) (ρ 6)) 9 (bif S 7 then [.string (bstr (nameK s.kind))] else [.string (bstr [])])] else []) ++ (L))) ?_
   refine e_call (γ := Value) (val := fun v => v) (F := fun v => [cF v 1 (s.kind - 1).toNat [.string (bstr (nameK s.kind))], sl (α := Wd) v kinds]) Tryd.call18 (fun _ => rfl) (fun ρ L R w hd hs => rfKindsAt hs hk1 hk2) (fun _ _ _ _ _ => rfl) ?_
   refine dn3 ?_
   refine e_pw (v := fun ρ => ep (Gh.dec (γ := Value) (ρ 0)) 1 (s.kind - 1).toNat 0) (fun ρ S R9 hd => q_iI so_37 (hl := len_sl (α := Wd) (xs := kinds) (hd.dep (it := ⟨0, _, _, _, _⟩) (by repeat (first | exact List.Mem.head _ | refine List.Mem.tail _ ?_)) ⟨9, rfl⟩ (.tail _ (.head _)))) (h0 := by omega) (h1 := by show s.kind - 1 < ((6 : Nat) : Int); omega)) (Ind.gh (h := fun g => ep (Gh.dec (γ := Value) g) 1 (s.kind - 1).toNat 0) 0 0 rfl) (fun _ _ _ _ _ => rfl) ?_
   refine e_pw (v := fun ρ => .string (bstr (nameK s.kind))) (fun ρ S R9 hd => q_l1 Tryd.isAgg9 (hc := at_c1 (hd.dep (it := ⟨0, _, _, _, _⟩) (by repeat (first | exact List.Mem.head _ | refine List.Mem.tail _ ?_)) ⟨9, rfl⟩ (List.Mem.head _)) rfl)) (Ind.const _) (fun _ _ _ _ _ => rfl) ?_
   refine e_alloc (cs := [.string (bstr [])]) Tryd.zeroValue9 rfl (fun ρ b S hS hA => ?_) ?_
   ·
    have ui : upS S 6 6 = true := rfl; have u7 : upS S 6 7 = S 7 := rfl; have h7 : S 7 = false := hA 7 ⟨0, rfl⟩; have rs : (Gh.dec (γ := Nat) (Rho.set ρ 6 (Gh.enc b) 6)) = b := rfl
    simp only [ui, hS, u7, h7, rs, cond_true, cond_false, List.nil_append]
    exact Ins.perm (by repeat (first | exact .hd | exact .hc | refine .tl ?_ | refine .ap ?_))
   refine es_ 9 0 [6] [] (fun ρ => (Gh.dec (γ := Nat) (ρ 6))) (fun ρ => [.string (bstr [])]) (fun ρ => [.string (bstr (nameK s.kind))]) Tryd.sizeOf9 ?_
   refine dnl ?_; intro ρ
   refine xq_ (blk b1 27 s.cells :: (blk (Gh.dec (γ := Nat) (ρ 6)) 9 [.string (bstr (nameK s.kind))] :: L)) ?_
   generalize (Gh.dec (γ := Value) (ρ 0)) = v14
   generalize (Gh.dec (γ := Nat) (ρ 6)) = b4
   refine Gm ?_
   refine r_makeFunc rfl ?_
   refine Gb1 ?_
   refine Gb2 ?_
   refine ob (p_int rfl rfl (b_eql_T hc.1)) ?_
   refine Gd1 ?_
   refine rn3 ?_
   refine ob (p_int rfl rfl (b_lss_T hc.2)) ?_
   refine Gc6 ?_
   refine kp [1, 2, 3, 4, 5, 22] ?_
   refine jc_region ?_
   refine Ga2 ?_
   rw [print_bad hbad]
   exact rete2 ()
  ·
   have hbad : badStep s := .inr (.inr ⟨hc.1, .inr hc.2⟩)
   have hk1 : 1 ≤ s.kind := by omega
   have hk2 : s.kind ≤ 6 := by omega
   refine jc_region ?_
   refine rn2 ?_
   refine ob (p_int rfl rfl (b_lss_F (by omega))) ?_
   refine rn3 ?_
   refine gy ?_
   refine ob (p_int rfl rfl (b_gtr_F (by omega))) ?_
   refine Gc1 ?_
   refine cq_ (blk b1 27 s.cells :: L) ?_
   refine jd_ (fun ρ S => blk b1 27 s.cells :: ((bif S 6 then [blk (Gh.dec (γ := Nat) (ρ 6)) 9 (bif S 7 then [.string (bstr (nameK s.kind))] else [.string (bstr [])])] else []) ++ (L))) ?_
   refine e_call (γ := Value) (val := fun v => v) (F := fun v => [cF v 1 (s.kind - 1).toNat [.string (bstr (nameK s.kind))], sl (α := Wd) v kinds]) Tryd.call18 (fun _ => rfl) (fun ρ L R w hd hs => rfKindsAt hs hk1 hk2) (fun _ _ _ _ _ => rfl) ?_
   refine dn3 ?_
   refine e_pw (v := fun ρ => ep (Gh.dec (γ := Value) (ρ 0)) 1 (s.kind - 1).toNat 0) (fun ρ S R9 hd => q_iI so_37 (hl := len_sl (α := Wd) (xs := kinds) (hd.dep (it := ⟨0, _, _, _, _⟩) (by repeat (first | exact List.Mem.head _ | refine List.Mem.tail _ ?_)) ⟨9, rfl⟩ (.tail _ (.head _)))) (h0 := by omega) (h1 := by show s.kind - 1 < ((6 : Nat) : Int); omega)) (Ind.gh (h := fun g => ep (Gh.dec (γ := Value) g) 1 (s.kind - 1).toNat 0) 0 0 rfl) (fun _ _ _ _ _ => rfl) ?_
   refine e_pw (v := fun ρ => .string (bstr (nameK s.kind))) (fun ρ S R9 hd => q_l1 Tryd.isAgg9 (hc := at_c1 (hd.dep (it := ⟨0, _, _, _, _⟩) (by repeat (first | exact List.Mem.head _ | refine List.Mem.tail _ ?_)) ⟨9, rfl⟩ (List.Mem.head _)) rfl)) (Ind.const _) (fun _ _ _ _ _ => rfl) ?_
   refine e_alloc (cs := [.string (bstr [])]) Tryd.zeroValue9 rfl (fun ρ b S hS hA => ?_) ?_
   ·
    have ui : upS S 6 6 = true := rfl; have u7 : upS S 6 7 = S 7 := rfl; have h7 : S 7 = false := hA 7 ⟨0, rfl⟩; have rs : (Gh.dec (γ := Nat) (Rho.set ρ 6 (Gh.enc b) 6)) = b := rfl
    simp only [ui, hS, u7, h7, rs, cond_true, cond_false, List.nil_append]
    exact Ins.perm (by repeat (first | exact .hd | exact .hc | refine .tl ?_ | refine .ap ?_))
   refine es_ 9 0 [6] [] (fun ρ => (Gh.dec (γ := Nat) (ρ 6))) (fun ρ => [.string (bstr [])]) (fun ρ => [.string (bstr (nameK s.kind))]) Tryd.sizeOf9 ?_
   refine dnl ?_; intro ρ
   refine xq_ (blk b1 27 s.cells :: (blk (Gh.dec (γ := Nat) (ρ 6)) 9 [.string (bstr (nameK s.kind))] :: L)) ?_
   generalize (Gh.dec (γ := Value) (ρ 0)) = v14
   generalize (Gh.dec (γ := Nat) (ρ 6)) = b4
   refine Gm ?_
   refine r_makeFunc rfl ?_
   refine Gb1 ?_
   refine Gb2 ?_
   refine ob (p_int rfl rfl (b_eql_T hc.1)) ?_
   refine Gd1 ?_
   refine rn3 ?_
   refine ob (p_int rfl rfl (b_lss_F (by omega))) ?_
   refine rn4 ?_
   refine gy ?_
   refine ob (p_int rfl rfl (b_gtr_T hc.2)) ?_
   refine Gc1 ?_
   refine kp [1, 2, 3, 4, 5, 22] ?_
   refine jc_region ?_
   refine Ga2 ?_
   rw [print_bad hbad]
   exact rete2 ()
  ·
   have hnb : ¬ badStep s := by unfold badStep; omega
   have ht45_ : s.kind = 1 := hc.1
   have hk1 : 1 ≤ s.kind := by omega
   have hk2 : s.kind ≤ 6 := by omega
   refine jc_region ?_
   refine rn2 ?_
   refine ob (p_int rfl rfl (b_lss_F (by omega))) ?_
   refine rn3 ?_
   refine gy ?_
   refine ob (p_int rfl rfl (b_gtr_F (by omega))) ?_
   refine Gc1 ?_
   refine cq_ (blk b1 27 s.cells :: L) ?_
   refine jd_ (fun ρ S => blk b1 27 s.cells :: ((bif S 6 then [blk (Gh.dec (γ := Nat) (ρ 6)) 9 (bif S 7 then [.string (bstr (nameK s.kind))] else [.string (bstr [])])] else []) ++ (L))) ?_
   refine e_call (γ := Value) (val := fun v => v) (F := fun v => [cF v 1 (s.kind - 1).toNat [.string (bstr (nameK s.kind))], sl (α := Wd) v kinds]) Tryd.call18 (fun _ => rfl) (fun ρ L R w hd hs => rfKindsAt hs hk1 hk2) (fun _ _ _ _ _ => rfl) ?_
   refine dn3 ?_
   refine e_pw (v := fun ρ => ep (Gh.dec (γ := Value) (ρ 0)) 1 (s.kind - 1).toNat 0) (fun ρ S R9 hd => q_iI so_37 (hl := len_sl (α := Wd) (xs := kinds) (hd.dep (it := ⟨0, _, _, _, _⟩) (by repeat (first | exact List.Mem.head _ | refine List.Mem.tail _ ?_)) ⟨9, rfl⟩ (.tail _ (.head _)))) (h0 := by omega) (h1 := by show s.kind - 1 < ((6 : Nat) : Int); omega)) (Ind.gh (h := fun g => ep (Gh.dec (γ := Value) g) 1 (s.kind - 1).toNat 0) 0 0 rfl) (fun _ _ _ _ _ => rfl) ?_
   refine e_pw (v := fun ρ => .string (bstr (nameK s.kind))) (fun ρ S R9 hd => q_l1 Tryd.isAgg9 (hc := at_c1 (hd.dep (it := ⟨0, _, _, _, _⟩) (by repeat (first | exact List.Mem.head _ | refine List.Mem.tail _ ?_)) ⟨9, rfl⟩ (List.Mem.head _)) rfl)) (Ind.const _) (fun _ _ _ _ _ => rfl) ?_
   refine e_alloc (cs := [.string (bstr [])]) Tryd.zeroValue9 rfl (fun ρ b S hS hA => ?_) ?_
   ·
    have ui : upS S 6 6 = true := rfl; have u7 : upS S 6 7 = S 7 := rfl; have h7 : S 7 = false := hA 7 ⟨0, rfl⟩; have rs : (Gh.dec (γ := Nat) (Rho.set ρ 6 (Gh.enc b) 6)) = b := rfl
    simp only [ui, hS, u7, h7, rs, cond_true, cond_false, List.nil_append]
    exact Ins.perm (by repeat (first | exact .hd | exact .hc | refine .tl ?_ | refine .ap ?_))
   refine es_ 9 0 [6] [] (fun ρ => (Gh.dec (γ := Nat) (ρ 6))) (fun ρ => [.string (bstr [])]) (fun ρ => [.string (bstr (nameK s.kind))]) Tryd.sizeOf9 ?_
   refine dnl ?_; intro ρ
   refine xq_ (blk b1 27 s.cells :: (blk (Gh.dec (γ := Nat) (ρ 6)) 9 [.string (bstr (nameK s.kind))] :: L)) ?_
   generalize (Gh.dec (γ := Value) (ρ 0)) = v14
   generalize (Gh.dec (γ := Nat) (ρ 6)) = b4
   refine Gm ?_
   refine r_makeFunc rfl ?_
   refine Gb1 ?_
   refine Gb2 ?_
   refine ob (p_int rfl rfl (b_eql_T hc.1)) ?_
   refine Gd1 ?_
   refine rn3 ?_
   refine ob (p_int rfl rfl (b_lss_F (by omega))) ?_
   refine rn4 ?_
   refine gy ?_
   refine ob (p_int rfl rfl (b_gtr_F (by omega))) ?_
   refine Gc1 ?_
   refine kp [1, 2, 3, 4, 5, 22, 39, 40, 41] ?_
   refine jc_region ?_
   refine rn3 ?_
   refine r_callv (γ := Unit) (val := fun _ => .tuple #[]) (caps := [bp b4 0]) (vs := [vi s.node]) rfl Tryd.call19 rfl (fun w hs => rfNum (b := b4) (t := nameK s.kind) (n := s.node) (st_cut hs) mm hsw.2.1 (by (try simp only [List.length_append, List.length_cons, List.length_nil]); omega)) ?_; intro _
   refine Gl ?_
   have hk1 : 1 ≤ s.op.kind := hc.2.1
   have hk2 : s.op.kind ≤ 4 := hc.2.2
   refine cq_ (blk b4 9 [.string (bstr (((nameK s.kind ++ [32]) ++ Go.Lib.itoa s.node)))] :: blk b1 27 s.cells :: L) ?_
   refine jd_ (fun ρ S => blk b4 9 (bif S 10 then [.string (bstr (((((nameK s.kind ++ [32]) ++ Go.Lib.itoa s.node) ++ [32]) ++ nameO s.op.kind)))] else [.string (bstr (((nameK s.kind ++ [32]) ++ Go.Lib.itoa s.node)))]) :: blk b1 27 s.cells :: L) ?_
   refine e_ld (v := .string (bstr (((nameK s.kind ++ [32]) ++ Go.Lib.itoa s.node)))) (fun ρ S hS hB hA => by have h10 : S 10 = false := hA 10 ⟨0, rfl⟩; simp only [h10, cond_false]; exact q_l1 (hc := at_blk1 pkk (by repeat (first | exact rfl | refine at_bif rfl ?_))) Tryd.isAgg9) (fun _ _ _ _ _ => rfl) ?_
   first | refine epc (fun _ _ => q_sadd) ?_ | refine epp (fun _ _ => q_sadd) ?_
   refine e_call (γ := Value) (val := fun v => v) (F := fun v => [cF v 1 (s.op.kind - 1).toNat [.string (bstr (nameO s.op.kind))], sl (α := Wd) v opns]) Tryd.call20 (fun _ => rfl) (fun ρ L R w hd hs => rfOpsAt hs hk1 hk2) (fun _ _ _ _ _ => rfl) ?_
   refine dn4 ?_
   refine e_pw (v := fun ρ => ep (Gh.dec (γ := Value) (ρ 2)) 1 (s.op.kind - 1).toNat 0) (fun ρ S R9 hd => q_iI so_37 (hl := len_sl (α := Wd) (xs := opns) (hd.dep (it := ⟨2, _, _, _, _⟩) (by repeat (first | exact List.Mem.head _ | refine List.Mem.tail _ ?_)) ⟨9, rfl⟩ (.tail _ (.head _)))) (h0 := by omega) (h1 := by show s.op.kind - 1 < ((4 : Nat) : Int); omega)) (Ind.gh (h := fun g => ep (Gh.dec (γ := Value) g) 1 (s.op.kind - 1).toNat 0) 2 0 rfl) (fun _ _ _ _ _ => rfl) ?_
   refine e_pw (v := fun ρ => .string (bstr (nameO s.op.kind))) (fun ρ S R9 hd => q_l1 Tryd.isAgg9 (hc := at_c1 (hd.dep (it := ⟨2, _, _, _, _⟩) (by repeat (first | exact List.Mem.head _ | refine List.Mem.tail _ ?_)) ⟨9, rfl⟩ (List.Mem.head _)) rfl)) (Ind.const _) (fun _ _ _ _ _ => rfl) ?_
   first | refine epc (fun _ _ => q_sadd) ?_ | refine epp (fun _ _ => q_sadd) ?_
   refine es_ 9 0 [] [] (fun ρ => b4) (fun ρ => [.string (bstr (((nameK s.kind ++ [32]) ++ Go.Lib.itoa s.node)))]) (fun ρ => [.string (bstr (((((nameK s.kind ++ [32]) ++ Go.Lib.itoa s.node) ++ [32]) ++ nameO s.op.kind)))]) Tryd.sizeOf9 ?_
   refine dnl ?_; intro ρ
   refine xq_ (blk b4 9 [.string (bstr (((((nameK s.kind ++ [32]) ++ Go.Lib.itoa s.node) ++ [32]) ++ nameO s.op.kind)))] :: blk b1 27 s.cells :: L) ?_
   generalize (Gh.dec (γ := Value) (ρ 2)) = v45
   refine Gm ?_
   refine rn4 ?_
   refine r_callv (γ := Unit) (val := fun _ => .tuple #[]) (caps := [bp b4 0]) (vs := [vi s.op.line]) rfl Tryd.call19 rfl (fun w hs => rfNum (b := b4) (t := ((((nameK s.kind ++ [32]) ++ Go.Lib.itoa s.node) ++ [32]) ++ nameO s.op.kind)) (n := s.op.line) (st_cut hs) mm hsw.2.2.2.2.2.1 (by (try simp only [List.length_append, List.length_cons, List.length_nil]); omega)) ?_; intro _
   refine Gl ?_
   rcases (show (s.op.kind = 2) ∨ (s.op.kind = 3) ∨ (s.op.kind ≠ 2 ∧ s.op.kind ≠ 3) from by omega) with hc | hc | hc
   ·
    have ht67 : s.op.kind = 2 ∨ s.op.kind = 3 := .inl hc
    refine jc_region ?_
    refine rn3 ?_
    refine ob (p_int rfl rfl (b_eql_T (by omega))) ?_
    refine Gd6 ?_
    refine rn4 ?_
    refine r_callv (γ := Unit) (val := fun _ => .tuple #[]) (caps := [bp b4 0]) (vs := [vi s.op.value]) rfl Tryd.call19 rfl (fun w hs => rfNum (b := b4) (t := ((((((nameK s.kind ++ [32]) ++ Go.Lib.itoa s.node) ++ [32]) ++ nameO s.op.kind) ++ [32]) ++ Go.Lib.itoa s.op.line)) (n := s.op.value) (st_cut hs) mm hsw.2.2.2.2.2.2 (by (try simp only [List.length_append, List.length_cons, List.length_nil]); omega)) ?_; intro _
    refine Gl ?_
    refine kp [2, 3, 4, 89] ?_
    refine jc_region ?_
    refine Ga3 ?_
    rw [print_ok hnb, text1a ht45_ ht67]
    exact rete2 ()
   ·
    have ht67 : s.op.kind = 2 ∨ s.op.kind = 3 := .inr hc
    refine jc_region ?_
    refine rn3 ?_
    refine ob (p_int rfl rfl (b_eql_F (by omega))) ?_
    refine rn4 ?_
    refine gy ?_
    refine ob (p_int rfl rfl (b_eql_T (by omega))) ?_
    refine Gd1 ?_
    refine rn4 ?_
    refine r_callv (γ := Unit) (val := fun _ => .tuple #[]) (caps := [bp b4 0]) (vs := [vi s.op.value]) rfl Tryd.call19 rfl (fun w hs => rfNum (b := b4) (t := ((((((nameK s.kind ++ [32]) ++ Go.Lib.itoa s.node) ++ [32]) ++ nameO s.op.kind) ++ [32]) ++ Go.Lib.itoa s.op.line)) (n := s.op.value) (st_cut hs) mm hsw.2.2.2.2.2.2 (by (try simp only [List.length_append, List.length_cons, List.length_nil]); omega)) ?_; intro _
    refine Gl ?_
    refine kp [2, 3, 4, 89] ?_
    refine jc_region ?_
    refine Ga3 ?_
    rw [print_ok hnb, text1a ht45_ ht67]
    exact rete2 ()
   ·
    have ht67 : ¬ (s.op.kind = 2 ∨ s.op.kind = 3) := by omega
    refine jc_region ?_
    refine rn3 ?_
    refine ob (p_int rfl rfl (b_eql_F (by omega))) ?_
    refine rn4 ?_
    refine gy ?_
    refine ob (p_int rfl rfl (b_eql_F (by omega))) ?_
    refine Gd1 ?_
    refine Ga3 ?_
    rw [print_ok hnb, text1b ht45_ ht67]
    exact rete2 ()
  ·
   have hnb : ¬ badStep s := by unfold badStep; omega
   have hk1 : 1 ≤ s.kind := by omega
   have hk2 : s.kind ≤ 6 := by omega
   refine jc_region ?_
   refine rn2 ?_
   refine ob (p_int rfl rfl (b_lss_F (by omega))) ?_
   refine rn3 ?_
   refine gy ?_
   refine ob (p_int rfl rfl (b_gtr_F (by omega))) ?_
   refine Gc1 ?_
   refine cq_ (blk b1 27 s.cells :: L) ?_
   refine jd_ (fun ρ S => blk b1 27 s.cells :: ((bif S 6 then [blk (Gh.dec (γ := Nat) (ρ 6)) 9 (bif S 7 then [.string (bstr (nameK s.kind))] else [.string (bstr [])])] else []) ++ (L))) ?_
   refine e_call (γ := Value) (val := fun v => v) (F := fun v => [cF v 1 (s.kind - 1).toNat [.string (bstr (nameK s.kind))], sl (α := Wd) v kinds]) Tryd.call18 (fun _ => rfl) (fun ρ L R w hd hs => rfKindsAt hs hk1 hk2) (fun _ _ _ _ _ => rfl) ?_
   refine dn3 ?_
   refine e_pw (v := fun ρ => ep (Gh.dec (γ := Value) (ρ 0)) 1 (s.kind - 1).toNat 0) (fun ρ S R9 hd => q_iI so_37 (hl := len_sl (α := Wd) (xs := kinds) (hd.dep (it := ⟨0, _, _, _, _⟩) (by repeat (first | exact List.Mem.head _ | refine List.Mem.tail _ ?_)) ⟨9, rfl⟩ (.tail _ (.head _)))) (h0 := by omega) (h1 := by show s.kind - 1 < ((6 : Nat) : Int); omega)) (Ind.gh (h := fun g => ep (Gh.dec (γ := Value) g) 1 (s.kind - 1).toNat 0) 0 0 rfl) (fun _ _ _ _ _ => rfl) ?_
   refine e_pw (v := fun ρ => .string (bstr (nameK s.kind))) (fun ρ S R9 hd => q_l1 Tryd.isAgg9 (hc := at_c1 (hd.dep (it := ⟨0, _, _, _, _⟩) (by repeat (first | exact List.Mem.head _ | refine List.Mem.tail _ ?_)) ⟨9, rfl⟩ (List.Mem.head _)) rfl)) (Ind.const _) (fun _ _ _ _ _ => rfl) ?_
   refine e_alloc (cs := [.string (bstr [])]) Tryd.zeroValue9 rfl (fun ρ b S hS hA => ?_) ?_
   ·
    have ui : upS S 6 6 = true := rfl; have u7 : upS S 6 7 = S 7 := rfl; have h7 : S 7 = false := hA 7 ⟨0, rfl⟩; have rs : (Gh.dec (γ := Nat) (Rho.set ρ 6 (Gh.enc b) 6)) = b := rfl
    simp only [ui, hS, u7, h7, rs, cond_true, cond_false, List.nil_append]
    exact Ins.perm (by repeat (first | exact .hd | exact .hc | refine .tl ?_ | refine .ap ?_))
   refine es_ 9 0 [6] [] (fun ρ => (Gh.dec (γ := Nat) (ρ 6))) (fun ρ => [.string (bstr [])]) (fun ρ => [.string (bstr (nameK s.kind))]) Tryd.sizeOf9 ?_
   refine dnl ?_; intro ρ
   refine xq_ (blk b1 27 s.cells :: (blk (Gh.dec (γ := Nat) (ρ 6)) 9 [.string (bstr (nameK s.kind))] :: L)) ?_
   generalize (Gh.dec (γ := Value) (ρ 0)) = v14
   generalize (Gh.dec (γ := Nat) (ρ 6)) = b4
   refine Gm ?_
   refine r_makeFunc rfl ?_
   refine Gb1 ?_
   refine Gb2 ?_
   refine ob (p_int rfl rfl (b_eql_F (by omega))) ?_
   refine Gd1 ?_
   refine Ga2 ?_
   refine cdx (p := ?p1) (hd := ?d1) ?e1 ?_ ?_; case e1 => exact rfl
   ·
    intro ht73
    refine Gm ?_
    refine rn3 ?_
    refine r_callv (γ := Unit) (val := fun _ => .tuple #[]) (caps := [bp b4 0]) (vs := [vi s.n]) rfl Tryd.call19 rfl (fun w hs => rfNum (b := b4) (t := nameK s.kind) (n := s.n) (st_cut hs) mm hsw.2.2.1 (by (try simp only [List.length_append, List.length_cons, List.length_nil]); omega)) ?_; intro _
    refine Gl ?_
    refine kp [1, 2, 3, 4, 5, 22, 79, 80, 81] ?_
    refine jc_region ?_
    refine rn3 ?_
    refine r_callv (γ := Unit) (val := fun _ => .tuple #[]) (caps := [bp b4 0]) (vs := [vi s.bit]) rfl Tryd.call19 rfl (fun w hs => rfNum (b := b4) (t := ((nameK s.kind ++ [32]) ++ Go.Lib.itoa s.n)) (n := s.bit) (st_cut hs) mm hsw.2.2.2.1 (by (try simp only [List.length_append, List.length_cons, List.length_nil]); omega)) ?_; intro _
    refine Gm ?_
    refine Ga3 ?_
    rw [print_ok hnb, text5 ht73]
    exact rete2 ()
   ·
    intro ht73
    refine Gm ?_
    refine Ga2 ?_
    refine cdx (p := ?p2) (hd := ?d2) ?e2 ?_ ?_; case e2 => exact rfl
    ·
     intro ht83
     refine jc_region ?_
     refine rn3 ?_
     refine r_callv (γ := Unit) (val := fun _ => .tuple #[]) (caps := [bp b4 0]) (vs := [vi s.node]) rfl Tryd.call19 rfl (fun w hs => rfNum (b := b4) (t := nameK s.kind) (n := s.node) (st_cut hs) mm hsw.2.1 (by (try simp only [List.length_append, List.length_cons, List.length_nil]); omega)) ?_; intro _
     refine Gl ?_
     refine kp [2, 3, 4, 89] ?_
     refine jc_region ?_
     refine Ga3 ?_
     rw [print_ok hnb, text6 ht83]
     exact rete2 ()
    ·
     intro ht83
     refine jc_region ?_
     refine rn3 ?_
     refine r_callv (γ := Unit) (val := fun _ => .tuple #[]) (caps := [bp b4 0]) (vs := [vi s.n]) rfl Tryd.call19 rfl (fun w hs => rfNum (b := b4) (t := nameK s.kind) (n := s.n) (st_cut hs) mm hsw.2.2.1 (by (try simp only [List.length_append, List.length_cons, List.length_nil]); omega)) ?_; intro _
     refine Gl ?_
     refine kp [2, 3, 4, 89] ?_
     refine jc_region ?_
     refine Ga3 ?_
     rw [print_ok hnb, textE (by omega) ht83 ht73]
     exact rete2 ()
end Go.Proofs.YtiofgjolhbgkiaaDoor
end
section
/- This file proves how structs of numbers are compared. No conditions. -/
set_option maxHeartbeats 1000000
set_option maxRecDepth 8000
namespace Go.Proofs.YtiofgjolhbgkiaaDoor
open Go
theorem eq_int {P : Program} {t : TypeId} {k : IntKind} {d : Nat} {a b : Int} (ht : P.underlying t = some (.int k)) (w : World) : (Op.equalIn (d + 1) t (.int k a) (.int k b)).run P w = .ok (a == b) w := by
  unfold Op.equalIn; simp [run_und ht]
theorem eq_bool {P : Program} {t : TypeId} {d : Nat} {a b : Bool} (ht : P.underlying t = some .bool) (w : World) : (Op.equalIn (d + 1) t (.bool a) (.bool b)).run P w = .ok (a == b) w := by
  unfold Op.equalIn; simp [run_und ht]
theorem eq_Op (x y : Op) {d : Nat} (w : World) : (Op.equalIn (d + 3) 25 (.agg x.cells.toArray) (.agg y.cells.toArray)).run Tryd.prog w = .ok (decide (x = y)) w := by
  show (Op.equalIn ((d + 2) + 1) 25 _ _).run _ _ = _
  rw [run_equalIn_struct w (d + 2) 25 _ _ (by kernel_rfl) (by kernel_rfl)]
  have e3 : ∀ (a b : Int) w, (Op.equalIn (d + 2) 3 (vi a) (vi b)).run Tryd.prog w = .ok (a == b) w := fun a b w => eq_int (d := d + 1) Tryd.underlying3 w
  simp only [Program.fieldsOf, Tryd.underlying25]
  simp [Op.eqFields, part, Tryd.isAgg3, Op.cells, e3]
  cases x; cases y; simp
  repeat' split
  all_goals simp_all
theorem ag_Op (x y : Op) {xo yo : Operand} (op : BinOp) (w : World) : (eqGuard op 25 xo yo (.agg x.cells.toArray) (.agg y.cells.toArray)).run Tryd.prog w = .ok () w := by
  have h : Tryd.prog.eqGuardType Tryd.prog.depth 25 = false := by kernel_rfl
  unfold eqGuard
  cases op <;> simp [h]
theorem be_Op (x y : Op) (w : World) : (binOp .eql 25 (.agg x.cells.toArray) (.agg y.cells.toArray)).run Tryd.prog w = .ok (.bool (decide (x = y))) w := by
  show (Op.equal 25 (.agg x.cells.toArray) (.agg y.cells.toArray) >>= fun r => Pure.pure (Value.bool r)).run _ w = _
  rw [Sem.run_bind, show Op.equal 25 (.agg x.cells.toArray) (.agg y.cells.toArray) = Op.equalIn (9997 + 3) 25 _ _ from rfl, eq_Op x y w]; rfl
theorem bn_Op (x y : Op) (w : World) : (binOp .neq 25 (.agg x.cells.toArray) (.agg y.cells.toArray)).run Tryd.prog w = .ok (.bool (!decide (x = y))) w := by
  show (Op.equal 25 (.agg x.cells.toArray) (.agg y.cells.toArray) >>= fun r => Pure.pure (Value.bool (!r))).run _ w = _
  rw [Sem.run_bind, show Op.equal 25 (.agg x.cells.toArray) (.agg y.cells.toArray) = Op.equalIn (9997 + 3) 25 _ _ from rfl, eq_Op x y w]; rfl
theorem bnD_Op (x y : Op) (w : World) : (binOp .neq 25 (.agg x.cells.toArray) (.agg y.cells.toArray)).run Tryd.prog w = .ok (.bool (decide (x ≠ y))) w := by rw [bn_Op, decide_not]
theorem be_Op_T {x y : Op} (h : x = y) (w : World) : (binOp .eql 25 (.agg x.cells.toArray) (.agg y.cells.toArray)).run Tryd.prog w = .ok (.bool true) w := by rw [be_Op, decide_eq_true h]
theorem be_Op_F {x y : Op} (h : x ≠ y) (w : World) : (binOp .eql 25 (.agg x.cells.toArray) (.agg y.cells.toArray)).run Tryd.prog w = .ok (.bool false) w := by rw [be_Op, decide_eq_false h]
theorem bn_Op_T {x y : Op} (h : x ≠ y) (w : World) : (binOp .neq 25 (.agg x.cells.toArray) (.agg y.cells.toArray)).run Tryd.prog w = .ok (.bool true) w := by rw [bn_Op, decide_eq_false h]; rfl
theorem bn_Op_F {x y : Op} (h : x = y) (w : World) : (binOp .neq 25 (.agg x.cells.toArray) (.agg y.cells.toArray)).run Tryd.prog w = .ok (.bool false) w := by rw [bn_Op, decide_eq_true h]; rfl
theorem eq_Step (x y : Step) {d : Nat} (w : World) : (Op.equalIn (d + 4) 27 (.agg x.cells.toArray) (.agg y.cells.toArray)).run Tryd.prog w = .ok (decide (x = y)) w := by
  show (Op.equalIn ((d + 3) + 1) 27 _ _).run _ _ = _
  rw [run_equalIn_struct w (d + 3) 27 _ _ (by kernel_rfl) (by kernel_rfl)]
  have e3 : ∀ (a b : Int) w, (Op.equalIn (d + 3) 3 (vi a) (vi b)).run Tryd.prog w = .ok (a == b) w := fun a b w => eq_int (d := d + 2) Tryd.underlying3 w
  have e25 : ∀ (a b : Op) w, (Op.equalIn (d + 3) 25 (.agg a.cells.toArray) (.agg b.cells.toArray)).run Tryd.prog w = .ok (decide (a = b)) w := fun a b w => eq_Op a b (d := d) w
  simp only [Program.fieldsOf, Tryd.underlying27]
  have p1 : ∀ (a b c : Int), (#[vi a, vi b, vi c] : Array Value) = (Op.mk a b c).cells.toArray := fun _ _ _ => rfl
  cases x with | mk x0 x1 x2 x3 x4 =>
  cases y with | mk y0 y1 y2 y3 y4 =>
  cases x4 with | mk xa xb xc =>
  cases y4 with | mk ya yb yc =>
  simp [Op.eqFields, part, Tryd.isAgg3, Tryd.isAgg25, Tryd.sizeOf25, Step.cells]
  simp [p1, e3, e25]
  repeat' split
  all_goals simp_all
theorem ag_Step (x y : Step) {xo yo : Operand} (op : BinOp) (w : World) : (eqGuard op 27 xo yo (.agg x.cells.toArray) (.agg y.cells.toArray)).run Tryd.prog w = .ok () w := by
  have h : Tryd.prog.eqGuardType Tryd.prog.depth 27 = false := by kernel_rfl
  unfold eqGuard
  cases op <;> simp [h]
theorem be_Step (x y : Step) (w : World) : (binOp .eql 27 (.agg x.cells.toArray) (.agg y.cells.toArray)).run Tryd.prog w = .ok (.bool (decide (x = y))) w := by
  show (Op.equal 27 (.agg x.cells.toArray) (.agg y.cells.toArray) >>= fun r => Pure.pure (Value.bool r)).run _ w = _
  rw [Sem.run_bind, show Op.equal 27 (.agg x.cells.toArray) (.agg y.cells.toArray) = Op.equalIn (9996 + 4) 27 _ _ from rfl, eq_Step x y w]; rfl
theorem bn_Step (x y : Step) (w : World) : (binOp .neq 27 (.agg x.cells.toArray) (.agg y.cells.toArray)).run Tryd.prog w = .ok (.bool (!decide (x = y))) w := by
  show (Op.equal 27 (.agg x.cells.toArray) (.agg y.cells.toArray) >>= fun r => Pure.pure (Value.bool (!r))).run _ w = _
  rw [Sem.run_bind, show Op.equal 27 (.agg x.cells.toArray) (.agg y.cells.toArray) = Op.equalIn (9996 + 4) 27 _ _ from rfl, eq_Step x y w]; rfl
theorem bnD_Step (x y : Step) (w : World) : (binOp .neq 27 (.agg x.cells.toArray) (.agg y.cells.toArray)).run Tryd.prog w = .ok (.bool (decide (x ≠ y))) w := by rw [bn_Step, decide_not]
theorem be_Step_T {x y : Step} (h : x = y) (w : World) : (binOp .eql 27 (.agg x.cells.toArray) (.agg y.cells.toArray)).run Tryd.prog w = .ok (.bool true) w := by rw [be_Step, decide_eq_true h]
theorem be_Step_F {x y : Step} (h : x ≠ y) (w : World) : (binOp .eql 27 (.agg x.cells.toArray) (.agg y.cells.toArray)).run Tryd.prog w = .ok (.bool false) w := by rw [be_Step, decide_eq_false h]
theorem bn_Step_T {x y : Step} (h : x ≠ y) (w : World) : (binOp .neq 27 (.agg x.cells.toArray) (.agg y.cells.toArray)).run Tryd.prog w = .ok (.bool true) w := by rw [bn_Step, decide_eq_false h]; rfl
theorem bn_Step_F {x y : Step} (h : x = y) (w : World) : (binOp .neq 27 (.agg x.cells.toArray) (.agg y.cells.toArray)).run Tryd.prog w = .ok (.bool false) w := by rw [bn_Step, decide_eq_true h]; rfl
end Go.Proofs.YtiofgjolhbgkiaaDoor
end
