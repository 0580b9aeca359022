/- This file proves rules for parts of an array of the call's own, for appending in place, for clearing, and for slices held against nil. No conditions. -/
import Derived.Test.YthnokijkdobdfaaAuto
set_option linter.unusedVariables false
set_option linter.unusedSimpArgs false
namespace Go.Proofs.Ythnokijkdobdfaa
open Go
def isNilV : Value → Bool
  | .slice none _ _ => true
  | _ => false
theorem eq_slnil {P : Program} {T e : TypeId} {k : Nat} {b : Option Addr} {l c : Nat} (ht : P.underlying T = some (.slice e)) (w : World) : (Op.equalIn (k + 1) T (.slice b l c) (.slice none 0 0)).run P w = .ok (isNilV (.slice b l c)) w := by
  unfold Op.equalIn
  cases b <;> simp [run_und ht, isNilV]
section
variable {P : Program} {n : Nat} {ops : Array Oper} {Q : Exit → Act → World → Prop} {rest : List Oper} {L L' : List Chunk} {R : List Fact} {al : List (Nat × Value)} {d : Nat} {x y : Operand} {T ty : TypeId} {pos : String} {aft : Array Edge}
theorem q_nil {e U : TypeId} {v : Value} {len : Nat} (ht : P.underlying T = some (.slice e)) (hl : SliceLen L R v len) (hx : ev n al x = some v := by exact rfl) : PureOp P n al L R ⟨some d, .binOp .eql T x (.const (.slice none 0 0)) U, ty, pos, aft, none⟩ (.bool (isNilV v)) :=
  ⟨rfl, fun ρ w h hs => by
    obtain ⟨base, cap, rfl, _⟩ := hl w hs
    have e1 : ρ (.const (.slice none 0 0)) = .slice none 0 0 := h _ (by simp [Op.operands]) _ rfl
    have e2 := h x (by simp [Op.operands]) _ hx
    have g : (eqGuard .eql T x (.const (.slice none 0 0)) (.slice base len cap) (.slice none 0 0)).run P w = .ok () w := by
      unfold eqGuard; rfl
    have e : (binOp .eql T (.slice base len cap) (.slice none 0 0)).run P w = .ok (.bool (isNilV (.slice base len cap))) w := by
      show (Op.equal T (.slice base len cap) (.slice none 0 0) >>= fun r => Pure.pure (Value.bool r)).run P w = _
      rw [Sem.run_bind]
      have : (Op.equal T (.slice base len cap) (.slice none 0 0)).run P w = .ok (isNilV (.slice base len cap)) w := by
        rw [show Op.equal T (.slice base len cap) (.slice none 0 0) = Op.equalIn (9999 + 1) T (.slice base len cap) (.slice none 0 0) from rfl, eq_slnil ht w]
      rw [this]; rfl
    have : (execOp ρ ⟨some d, .binOp .eql T x (.const (.slice none 0 0)) U, ty, pos, aft, none⟩) = (do let v ← (do eqGuard .eql T x (.const (.slice none 0 0)) (.slice base len cap) (.slice none 0 0); binOp .eql T (.slice base len cap) (.slice none 0 0)); pure (Next.value v)) := by
      simp only [execOp, e1, e2]
    rw [this]
    simp [g, e]⟩
theorem nil_of {α : Type} [Enc α] {v : Value} {xs : List α} {w : World} (hm : sl v xs ∈ R) (hs : St L R w) (h : isNilV v = true) : xs = [] := by
  obtain ⟨base, cap, rfl, _, hc⟩ := hs.fact hm
  cases base with
  | none =>
    apply Classical.byContradiction
    intro hne
    obtain ⟨a, _, _, _, _, h1, _⟩ := hc hne
    cases h1
  | some a => cases h
theorem JC.nilOf {α : Type} [Enc α] {c : Code} {v : Value} {xs : List α} (h : isNilV v = true) (hm : sl v xs ∈ R) (k : xs = [] → JC P n c Q L R al) : JC P n c Q L R al := JC.know (fun w hs => nil_of hm hs h) k
/-- A part of a slice whose place is known. -/
theorem q_sl {e : TypeId} {sz len cap lo hi : Nat} {a : Addr} {low high : Option Operand} (ht : SliceOf P T e sz) (hx : ev n al x = some (.slice (some a) len cap) := by exact rfl)
    (hlo : (match low with | none => lo = 0 | some y => ev n al y = some (vi (lo : Int))) := by exact rfl) (hhi : (match high with | none => hi = len | some y => ev n al y = some (vi (hi : Int))) := by exact rfl) (h1 : lo ≤ hi := by omega) (h2 : hi ≤ cap := by omega) : PureOp P n al L R ⟨some d, .slice T x low high none, ty, pos, aft, none⟩ (.slice (if cap = lo then some a else some (a.add (lo * sz))) (hi - lo) (cap - lo)) :=
  ⟨rfl, fun ρ w h hs => by
    show (Instr.sliceAt T (ρ x) (low.map ρ) (high.map ρ) none >>= fun v => Pure.pure (Next.value v)).run P w = _
    rw [h x (by simp [Op.operands]) _ hx, Sem.run_bind]
    have hlo' : (low.map ρ = none ∧ lo = 0) ∨ low.map ρ = some (vi (lo : Int)) := by
      cases low with
      | none => exact .inl ⟨rfl, hlo⟩
      | some y => right; simp only [Option.map_some]; rw [h y (by simp [Op.operands]) _ hlo]
    have hhi' : (high.map ρ = none ∧ hi = len) ∨ high.map ρ = some (vi (hi : Int)) := by
      cases high with
      | none => exact .inl ⟨rfl, hhi⟩
      | some y => right; simp only [Option.map_some]; rw [h y (by simp [Op.operands]) _ hhi]
    have e1 : (0 : Int) ≤ (lo : Int) ∧ (lo : Int) ≤ (hi : Int) := by omega
    have e2 : (0 : Int) ≤ (hi : Int) ∧ (hi : Int) ≤ (cap : Int) := by omega
    have : (Instr.sliceAt T (.slice (some a) len cap) (low.map ρ) (high.map ρ) none).run P w = .ok (.slice (if cap = lo then some a else some (a.add (lo * sz))) (hi - lo) (cap - lo)) w := by
      rcases hlo' with ⟨a1, a2⟩ | a1 <;> rcases hhi' with ⟨b1, b2⟩ | b1 <;> rw [a1, b1] <;>
        simp [Instr.sliceAt, Instr.slice, Instr.sliceBounds, Instr.sliceBound, run_und ht.1, ht.2, asIntOf, e1, e2, h1, h2] <;> (try subst a2) <;> (try subst b2) <;> (try simp) <;> (try omega)
    rw [this]; rfl⟩
end
section
variable {P : Program} {n : Nat} {L : List Chunk} {R : List Fact} {al : List (Nat × Value)} {d : Nat} {x y : Operand} {T ty : TypeId} {pos : String} {aft : Array Edge}
theorem ite_some {α : Type} {c : Prop} [Decidable c] {a b : α} : (if c then some a else some b) = some (if c then a else b) := by split <;> rfl
theorem q_sl0 {e : TypeId} {sz len cap hi : Nat} {a : Addr} {high : Option Operand} (ht : SliceOf P T e sz) (hx : ev n al x = some (.slice (some a) len cap)) (hhi : match high with | none => hi = len | some y => ev n al y = some (vi (hi : Int))) (h2 : hi ≤ cap) : PureOp P n al L R ⟨some d, .slice T x none high none, ty, pos, aft, none⟩ (.slice (some a) hi cap) := by
  have := q_sl (P := P) (L := L) (R := R) (d := d) (ty := ty) (pos := pos) (aft := aft) (lo := 0) (low := none) ht hx rfl hhi (Nat.zero_le _) h2
  simpa [Addr.add] using this
theorem q_slN {e : TypeId} {sz len cap lo hi : Nat} {a : Addr} {low high : Option Operand} (ht : SliceOf P T e sz) (hx : ev n al x = some (.slice (some a) len cap)) (hlo : match low with | none => lo = 0 | some y => ev n al y = some (vi (lo : Int))) (hhi : match high with | none => hi = len | some y => ev n al y = some (vi (hi : Int))) (h1 : lo ≤ hi) (h2 : hi ≤ cap) : PureOp P n al L R ⟨some d, .slice T x low high none, ty, pos, aft, none⟩ (.slice (some (if cap = lo then a else a.add (lo * sz))) (hi - lo) (cap - lo)) := by
  have := q_sl (P := P) (L := L) (R := R) (d := d) (ty := ty) (pos := pos) (aft := aft) ht hx hlo hhi h1 h2
  rw [ite_some] at this; exact this
end
/-! ### An array's block, opened whole -/
def rdL {α : Type} [Enc α] (xs : List α) (cs : List Value) : Fact := ⟨RdL xs cs, fun _ _ h hr => hr.mono h⟩
section
variable {P : Program} {n : Nat} {ops : Array Oper} {Q : Exit → Act → World → Prop} {rest : List Oper} {L L' : List Chunk} {R : List Fact} {al : List (Nat × Value)} {d : Nat} {x y : Operand} {T ty : TypeId} {pos : String} {aft : Array Edge}
variable {α : Type} [Enc α] {v : Value} {xs : List α}
theorem row_blk {w : World} (hne : xs ≠ []) (hs : St (row T v xs :: L) R w) : ∃ g cap cs, v = .slice (some ⟨g, 0, none⟩) xs.length cap ∧ xs.length ≤ cap ∧ cap ≤ maxLen ∧ xs.length ≤ maxN ∧ cs.length = cap * Enc.sz α ∧ St (blk g T cs :: L) (rdL xs (cs.take (xs.length * Enc.sz α)) :: R) w ∧ (∀ u ∈ cs.take (xs.length * Enc.sz α), u.oneCell' = true) := by
  obtain ⟨m, j, hd, hm, hj, ⟨m1, m2, hd', h1, h2, hc, hst⟩, hr⟩ := hs
  obtain ⟨h0, hv | ⟨g, cap, cur, cs, hv, hg, hcap, hml, hsz, htk, hrd⟩⟩ := hc
  · exact absurd hv.2 hne
  · subst htk
    refine ⟨g, cap, cur.toList, hv, hcap, hml, h0, by simpa using hsz, ⟨m, j, hd, hm, hj, ⟨m1, m2, hd', h1, h2, by simpa [blk, blkO] using hg, hst⟩, fun f hf => ?_⟩, hrd.one⟩
    cases List.mem_cons.1 hf with
    | inl e => rw [e]; exact hrd
    | inr e => exact hr f e
theorem blk_row {w : World} {g cap : Nat} {cs : List Value} (hN : xs.length ≤ maxN) (hcap : xs.length ≤ cap) (hml : cap ≤ maxLen) (hcl : cs.length = cap * Enc.sz α) (hrd : ∀ j, (∀ f ∈ R, f.p j) → RdL xs (cs.take (xs.length * Enc.sz α)) j) (hs : St (blk g T cs :: L) R w) : St (row T (.slice (some ⟨g, 0, none⟩) xs.length cap) xs :: L) R w := by
  obtain ⟨m, j, hd, hm, hj, ⟨m1, m2, hd', h1, h2, hc, hst⟩, hr⟩ := hs
  exact ⟨m, j, hd, hm, hj, ⟨m1, m2, hd', h1, h2, ⟨hN, .inr ⟨g, cap, cs.toArray, _, rfl, hc, hcap, hml, by simpa using hcl, rfl, hrd j hr⟩⟩, hst⟩, hr⟩
/-- Appending a part of the same array, in place. -/
theorem ap_in {t e : TypeId} {bytes g i j m cap c2 : Nat} {a : Addr} {z : Value} {cs : List Value} (he : ElemOf P t e 1 z bytes) (hx : ev n al x = some (.slice (some ⟨g, 0, none⟩) i cap)) (hy : ev n al y = some (.slice (some a) m c2)) (ha : m ≠ 0 → a = ⟨g, j, none⟩)
    (hp : Pick L (blk g e cs) L') (hcl : cs.length = cap) (hj : j + m ≤ cap) (hroom : i + m ≤ cap) (h1 : ∀ u ∈ (cs.drop j).take m, u.oneCell' = true)
    (k : J P n ops Q rest (blk g e (cs.take i ++ (cs.drop j).take m ++ cs.drop (i + m)) :: L') R ((d, .slice (some ⟨g, 0, none⟩) (i + m) cap) :: al)) :
    J P n ops Q (⟨some d, .call { callee := .builtin .append, args := #[x, y], argTypes := #[t, t] }, ty, pos, aft, none⟩ :: rest) L R al :=
  J.yield (L' := blk g e (cs.take i ++ (cs.drop j).take m ++ cs.drop (i + m)) :: L') (R' := R) rfl rfl (fun B w hs => by
    obtain ⟨ti, hi, hz, hisz, hiby⟩ := he.info
    have hs' := hs.pick hp
    have hgw : w.heap[g]? = some (.cells cs.toArray e (0, 0)) := hs'.blk_get
    by_cases hm : m = 0
    · subst hm
      refine ⟨w, exec_append ?_, ?_⟩
      · rw [ev_eval hx, ev_eval hy]
        have hfirst : (Builtin.firstCells 1 0 (.slice (some a) 0 c2)).run P w = .ok #[] w := by simp [Builtin.firstCells, loadCells, loadCellsFrom]
        simp [Builtin.append_, run_und he.und, sizeOf, typeInfo, hi, hisz, Builtin.lenOf, hfirst, show i ≤ cap by omega, storeCells]
      · simpa using hs'
    · have ha' := ha hm
      subst ha'
      have hnl : ((cs.drop j).take m).length = m * 1 := by simp; omega
      have hnc : ∀ (k : Nat) c, ((cs.drop j).take m)[k]? = some c → w.cell? ((⟨g, j, none⟩ : Addr).add k) = some c := by
        intro k c hk
        rw [add_mk, cell_of hgw]
        rw [List.getElem?_take] at hk
        split at hk
        · rw [List.getElem?_drop] at hk; simpa using hk
        · cases hk
      have hrun := run_append_room (P := P) (w := w) t ty e ti he.und hi g i cap cs.toArray hgw ⟨g, j, none⟩ m c2 ((cs.drop j).take m) (by rw [hisz]; exact hnl) hnc h1 hroom (by rw [hisz, hnl]; simp; omega)
      refine ⟨_, exec_append (by rw [ev_eval hx, ev_eval hy]; exact hrun), ?_⟩
      rw [hisz, hnl]
      simp only [Nat.mul_one]
      exact hs'.blk_set (setRow_heap' hgw).1 (setRow_heap' hgw).2 rfl rfl) k
/-- The rest of an array is cleared. -/
theorem clr {t e : TypeId} {bytes g o c2 : Nat} {z : Value} {cs : List Value} (he : ElemOf P t e 1 z bytes) (hz : ∀ w, (zeroValue e).run P w = .ok z w) (hzc : z.cells = #[z]) (hz1 : z.oneCell' = true) (hx : ev n al x = some (.slice (some ⟨g, o, none⟩) 1 c2))
    (hp : Pick L (blk g e cs) L') (hcl : o + 1 ≤ cs.length)
    (k : ∀ cs', cs' = cs.take o ++ [z] ++ cs.drop (o + 1) → J P n ops Q rest (blk g e cs' :: L') R al) :
    J P n ops Q (⟨none, .call { callee := .builtin .clear, args := #[x], argTypes := #[t] }, ty, pos, aft, none⟩ :: rest) L R al := by
  refine J.step rfl fun B w hs => .inl ?_
  have hs' := hs.pick hp
  have hgw : w.heap[g]? = some (.cells cs.toArray e (0, 0)) := hs'.blk_get
  have hzl : (Builtin.zeroCells z.cells 1).toList = [z] := by
    rw [hzc]; unfold Builtin.zeroCells; simp [List.range_succ]
  have hst := run_storeCells_at P g o e ([z]) 0 cs.toArray w hgw (by simpa using hcl) (fun u hu => by cases List.mem_singleton.1 hu; exact hz1)
  have e1 : (Builtin.clear_ #[t] ty #[(mkA n al B).eval x]).run P w = .ok (.tuple #[]) (w.setRow g (cs.take o ++ [z] ++ cs.drop (o + 1)).toArray) := by
    rw [ev_eval hx]
    simp [Builtin.clear_, run_und he.und, hz, hzl] at hst ⊢
    rw [hst]; rfl
  have e2 : (execOp (mkA n al B).eval ⟨none, .call { callee := .builtin .clear, args := #[x], argTypes := #[t] }, ty, pos, aft, none⟩).run P w = .ok (.value (.tuple #[])) (w.setRow g (cs.take o ++ [z] ++ cs.drop (o + 1)).toArray) := by
    simp [execOp, resolve, invoke, builtin, e1]
  unfold Oper.wp
  rw [e2, Oper.upon_value, mkA_putNone]
  exact k _ rfl B _ (hs'.blk_set (setRow_heap' hgw).1 (setRow_heap' hgw).2 rfl rfl)
end
/-- What a call hands back is let lie for good. -/
theorem frz {P : Program} {γ : Type} {f : FuncId} {args : Array Value} {w : World} {α : Type} [Enc α] {T : TypeId} {xs : List α} {val p : γ → Value} {L : γ → List Chunk} {R : γ → List Fact} (h : Calls P f args w (Post val (fun g => row T (p g) xs :: L g) R)) : Calls P f args w (Post val L (fun g => sl (p g) xs :: R g)) :=
  h.mono fun e w' ⟨g, h1, h2⟩ => ⟨g, h1, h2.shut⟩
section
variable {P : Program} {n : Nat} {ops : Array Oper} {Q : Exit → Act → World → Prop} {rest : List Oper} {L L' : List Chunk} {R : List Fact} {al : List (Nat × Value)} {d : Nat} {x y : Operand} {T ty : TypeId} {pos : String} {aft : Array Edge}
theorem takeS {α : Type} {l : List α} {k : Nat} (d : α) (h : k < l.length) : l.take (k + 1) = l.take k ++ [l.getD k d] := by
  rw [List.take_add_one, getD_some d h]; rfl
/-- A slice that lies in an array of the call's own. -/
theorem l_Sr {β : Type} [Enc β] {T' : TypeId} {v : Value} {xs : List (List β)} {i : Nat} (hT : ∀ w, (isAgg T).run P w = .ok false w) (hx : ev n al x = some (ep v 1 i 0)) (hp : Pick L (row T' v xs) L') (hi : i < xs.length)
    (k : ∀ u, J P n ops Q rest L (sl u (xs.getD i []) :: R) ((d, u) :: al)) : J P n ops Q (⟨some d, .load T x, ty, pos, aft, none⟩ :: rest) L R al :=
  r_loadSrow (α := List β) (f := 0) hT hx hp (getD_some [] hi) (fun cs m h => by obtain ⟨u, h1, h2⟩ := h; exact ⟨u, by rw [h1]; rfl, h2⟩) k
/-- A store of a slice into an array of slices of the call's own. -/
theorem s_Sr {β : Type} [Enc β] {T' : TypeId} {v c : Value} {xs : List (List β)} {ys : List β} {i : Nat} (hsz : ∀ w, (sizeOf T).run P w = .ok 1 w) (hx : ev n al x = some (ep v 1 i 0)) (hy : ev n al y = some c) (hm : sl c ys ∈ R) (hp : Pick L (row T' v xs) L') (hi : i < xs.length)
    (k : J P n ops Q rest (row T' v (xs.set i ys) :: L') R al) : J P n ops Q (⟨none, .store T x y, ty, pos, aft, none⟩ :: rest) L R al :=
  fun B w hs => by
    have hc : c.cells = #[c] ∧ c.oneCell' = true := by obtain ⟨base, cap, rfl, _⟩ := hs.fact hm; exact ⟨rfl, rfl⟩
    exact r_storeRow (α := List β) (f := 0) (cs := [c]) (e := xs.getD i []) (e' := ys) hsz hx hy hc.1 rfl (by intro u hu; cases List.mem_singleton.1 hu; exact hc.2) hp (getD_some [] hi)
      (fun ds m hr => by obtain ⟨u, h1, _⟩ := hr; rw [h1]; exact Nat.le_refl _) (fun j hj ds hr => by obtain ⟨u, h1, _⟩ := hr; rw [h1]; exact ⟨c, rfl, hj _ hm⟩) k B w hs
end
end Go.Proofs.Ythnokijkdobdfaa
