/- This file proves the rules for addresses, new memory, stores, append and calls. No conditions. -/
import Derived.Test.YthnokijkdobdfaaMem
set_option linter.unusedVariables false
set_option linter.unusedSimpArgs false
namespace Go.Proofs.Ythnokijkdobdfaa
open Go

/-- A field's place in a struct type. -/
def FieldOff (P : Program) (s : TypeId) (fld off : Nat) : Prop := ∃ fs f, P.underlying s = some (.struct fs) ∧ fs[fld]? = some f ∧ f.offset = off ∧ ∃ m, ∀ w, (sizeOf f.type).run P w = .ok (m + 1) w
def SliceOf (P : Program) (t e : TypeId) (sz : Nat) : Prop := P.underlying t = some (.slice e) ∧ ∀ w, (sizeOf e).run P w = .ok sz w

section
variable {P : Program} {n : Nat} {ops : Array Oper} {Q : Exit → Act → World → Prop} {rest : List Oper} {L L' : List Chunk} {R : List Fact} {al : List (Nat × Value)} {d : Nat} {x y : Operand} {T ty : TypeId} {pos : String} {aft : Array Edge}

theorem run_und {t : TypeId} {de : TypeDesc} (h : P.underlying t = some de) (w : World) : (underlying t).run P w = .ok de w := run_underlying h w

theorem run_fieldAt {s : TypeId} {fld off : Nat} {a : Addr} (h : FieldOff P s fld off) (w : World) : (Instr.fieldAt s (.pointer (some a)) fld).run P w = .ok (.pointer (some (a.add off))) w := by
  obtain ⟨fs, f, h1, h2, h3, m, h4⟩ := h
  simp [Instr.fieldAt, run_und h1, h2, Instr.sureAddr, fieldPlace, h4, h3]

theorem exec_fieldAddr {ρ : Operand → Value} {g : Option (Nat × Bool)} {w w' : World} {v : Value} {fld : Nat} (h : (Instr.fieldAt T (ρ x) fld).run P w = .ok v w') : (execOp ρ ⟨some d, .fieldAddr T x fld, ty, pos, aft, g⟩).run P w = .ok (.value v) w' := by
  show (Instr.fieldAt T (ρ x) fld >>= fun v => Pure.pure (Next.value v)).run P w = _
  rw [Sem.run_bind, h]; rfl
theorem r_fieldAddr {b f fld off : Nat} (hf : FieldOff P T fld off) (hx : ev n al x = some (bp b f))
    (k : J P n ops Q rest L R ((d, bp b (f + off)) :: al)) : J P n ops Q (⟨some d, .fieldAddr T x fld, ty, pos, aft, none⟩ :: rest) L R al :=
  J.pure rfl rfl (fun B w hs => exec_fieldAddr (by rw [ev_eval hx]; show (Instr.fieldAt T (.pointer (some ⟨b, f, none⟩)) fld).run P w = _; rw [run_fieldAt hf, add_mk]; rfl)) k

/-- A value is a slice of so many elements. -/
def SliceLen (L : List Chunk) (R : List Fact) (v : Value) (len : Nat) : Prop := ∀ w, St L R w → ∃ base cap, v = .slice base len cap ∧ (0 < len → ∃ a, base = some a)
section
variable {α : Type} [Enc α] {v : Value} {xs : List α} {i : Nat} {e : α}
theorem len_sl (hm : sl v xs ∈ R) : SliceLen L R v xs.length := by
  intro w hs
  obtain ⟨base, cap, hv, hn, hc⟩ := hs.fact hm
  refine ⟨base, cap, hv, fun h0 => ?_⟩
  obtain ⟨a, _, _, _, _, h1, _⟩ := hc (by intro h; rw [h] at h0; simp at h0)
  exact ⟨a, h1⟩
theorem len_row (hp : Pick L (row T v xs) L') : SliceLen L R v xs.length := by
  intro w hs
  obtain ⟨m, j, _, hle, _, hr, _⟩ := (hs.pick hp).head
  obtain ⟨h0, ⟨hv, hx⟩ | ⟨g, cap, cur, cs, hv, _⟩⟩ := hr
  · exact ⟨none, 0, by rw [hv, hx]; rfl, fun h => by rw [hx] at h; simp at h⟩
  · exact ⟨some ⟨g, 0, none⟩, cap, hv, fun _ => ⟨_, rfl⟩⟩
end

/-- A field of an element. -/
theorem r_fieldAddrE {v : Value} {sz i f fld off len : Nat} (hf : FieldOff P T fld off) (hx : ev n al x = some (ep v sz i f)) (hl : SliceLen L R v len) (h0 : 0 < len)
    (k : J P n ops Q rest L R ((d, ep v sz i (f + off)) :: al)) : J P n ops Q (⟨some d, .fieldAddr T x fld, ty, pos, aft, none⟩ :: rest) L R al :=
  J.pure rfl rfl (fun B w hs => exec_fieldAddr (by
    obtain ⟨base, cap, rfl, hb⟩ := hl w hs
    obtain ⟨a, rfl⟩ := hb h0
    rw [ev_eval hx, ep_eq, run_fieldAt hf, add_add, Nat.add_assoc, ep_eq])) k

theorem r_indexAddr {v : Value} {T e : TypeId} {sz len : Nat} {kd : IntKind} {i : Int} (ht : SliceOf P T e sz) (hx : ev n al x = some v) (hy : ev n al y = some (.int kd i)) (hl : SliceLen L R v len) (h0 : 0 ≤ i) (h1 : i < len)
    (k : J P n ops Q rest L R ((d, ep v sz i.toNat 0) :: al)) : J P n ops Q (⟨some d, .indexAddr T x y, ty, pos, aft, none⟩ :: rest) L R al :=
  J.pure rfl rfl (fun B w hs => by
    obtain ⟨base, cap, rfl, hb⟩ := hl w hs
    obtain ⟨a, rfl⟩ := hb (by omega)
    show (Instr.indexAt T ((mkA n al B).eval x) ((mkA n al B).eval y) >>= fun v => Pure.pure (Next.value v)).run P w = _
    rw [ev_eval hx, ev_eval hy, Sem.run_bind]
    have : (Instr.indexAt T (.slice (some a) len cap) (.int kd i)).run P w = .ok (.pointer (some (a.add (i.toNat * sz)))) w := by
      simp [Instr.indexAt, asIntOf, run_und ht.1, ht.2, h0, h1]
    rw [this]; rfl) k

theorem r_nilCheck {v : Value} {a : Addr} (hx : ev n al x = some v) (hv : ∀ w, St L R w → ∃ a, v = .pointer (some a))
    (k : J P n ops Q rest L R ((d, v) :: al)) : J P n ops Q (⟨some d, .nilCheck x, ty, pos, aft, none⟩ :: rest) L R al :=
  J.pure rfl rfl (fun B w hs => by
    obtain ⟨a, rfl⟩ := hv w hs
    simp only [execOp, ev_eval hx]; rfl) k
theorem r_nilCheckB {b f : Nat} (hx : ev n al x = some (bp b f)) (k : J P n ops Q rest L R ((d, bp b f) :: al)) : J P n ops Q (⟨some d, .nilCheck x, ty, pos, aft, none⟩ :: rest) L R al :=
  J.pure rfl rfl (fun B w hs => by simp only [execOp, ev_eval hx]; rfl) k
theorem r_nilCheckE {v : Value} {sz i f len : Nat} (hx : ev n al x = some (ep v sz i f)) (hl : SliceLen L R v len) (h0 : 0 < len) (k : J P n ops Q rest L R ((d, ep v sz i f) :: al)) : J P n ops Q (⟨some d, .nilCheck x, ty, pos, aft, none⟩ :: rest) L R al :=
  J.pure rfl rfl (fun B w hs => by
    obtain ⟨base, cap, rfl, hb⟩ := hl w hs
    obtain ⟨a, rfl⟩ := hb h0
    simp only [execOp, ev_eval hx, ep_eq]; rfl) k

/-! ### New memory -/
theorem r_box {v : Value} {cs : List Value} (hx : ev n al x = some v) (hv : v.cells = cs.toArray)
    (k : ∀ b, J P n ops Q rest (blk b T cs :: L) R ((d, bp b 0) :: al)) : J P n ops Q (⟨some d, .box T x, ty, pos, aft, none⟩ :: rest) L R al :=
  J.yieldEx (v := fun b => bp b 0) (L' := fun b => blk b T cs :: L) (R' := fun _ => R) rfl rfl (fun B w hs => by
    refine ⟨w.heap.size, _, ?_, hs.new (.cells cs.toArray T (0, 0))⟩
    show (Instr.box T ((mkA n al B).eval x) >>= fun v => Pure.pure (Next.value v)).run P w = _
    rw [ev_eval hx, ← hv]; rfl) k
theorem r_alloc {z : Value} {cs : List Value} (hz : ∀ w, (zeroValue T).run P w = .ok z w) (hv : z.cells = cs.toArray)
    (k : ∀ b, J P n ops Q rest (blk b T cs :: L) R ((d, bp b 0) :: al)) : J P n ops Q (⟨some d, .alloc T, ty, pos, aft, none⟩ :: rest) L R al :=
  J.yieldEx (v := fun b => bp b 0) (L' := fun b => blk b T cs :: L) (R' := fun _ => R) rfl rfl (fun B w hs => by
    refine ⟨w.heap.size, _, ?_, hs.new (.cells cs.toArray T (0, 0))⟩
    show (Instr.alloc T true (.tuple #[]) >>= fun v => Pure.pure (Next.value v)).run P w = _
    simp [Instr.alloc, hz, hv, newVar, newRow, bp]) k

/-! ### Stores -/
theorem run_store1 {w : World} {b f : Nat} {vs : List Value} {T0 : TypeId} {c : Value} (hsz : ∀ w, (sizeOf T).run P w = .ok 1 w) (h1 : c.oneCell' = true) (hb : w.heap[b]? = some (.cells vs.toArray T0 (0, 0))) (hf : f < vs.length) :
    (Instr.storeAt T (bp b f) c).run P w = .ok () (w.setCell ⟨b, f, none⟩ c) := by
  have hc : c.cells = #[c] := by cases c <;> first | rfl | cases h1
  have hcell : w.cell? ⟨b, f, none⟩ = some vs[f] := by rw [cell_of hb]; simp [hf]
  have hfz : w.frozen? ⟨b, f, none⟩ = false := by simp [World.frozen?, hb]
  have hst : (store (⟨b, f, none⟩ : Addr) c .plain).run P w = .ok () (w.setCell ⟨b, f, none⟩ c) := by
    cases c <;> first | (cases h1; done) | simp [store, Sem.run, hcell, hfz]
  simp [Instr.storeAt, bp, Instr.sureAddr, storeVar, hsz, hc, storeCells, Addr.add, hst]
theorem setCell_heap {w : World} {b f : Nat} {vs : List Value} {T0 : TypeId} {c : Value} (hb : w.heap[b]? = some (.cells vs.toArray T0 (0, 0))) :
    (w.setCell ⟨b, f, none⟩ c).heap[b]? = some (.cells (vs.set f c).toArray T0 (0, 0)) ∧ ∀ x, x ≠ b → (w.setCell ⟨b, f, none⟩ c).heap[x]? = w.heap[x]? := by
  constructor
  · simp [World.setCell, Array.getElem?_modify, hb]
  · intro x hx; simp [World.setCell, Array.getElem?_modify, Ne.symm hx]

theorem exec_store {ρ : Operand → Value} {g : Option (Nat × Bool)} {w w' : World} (h : (Instr.storeAt T (ρ x) (ρ y)).run P w = .ok () w') : (execOp ρ ⟨none, .store T x y, ty, pos, aft, g⟩).run P w = .ok .skip w' := by
  show (Instr.storeAt T (ρ x) (ρ y) >>= fun _ => Pure.pure Next.skip).run P w = _
  rw [Sem.run_bind, h]; rfl
theorem r_store1 {b f : Nat} {vs : List Value} {T0 : TypeId} {c : Value} (hsz : ∀ w, (sizeOf T).run P w = .ok 1 w) (hx : ev n al x = some (bp b f)) (hy : ev n al y = some c) (h1 : c.oneCell' = true) (hp : Pick L (blk b T0 vs) L') (hf : Nat.blt f vs.length = true)
    (k : J P n ops Q rest (blk b T0 (vs.set f c) :: L') R al) : J P n ops Q (⟨none, .store T x y, ty, pos, aft, none⟩ :: rest) L R al :=
  J.skip rfl rfl (fun B w hs => by
    have hs' := hs.pick hp
    refine ⟨_, exec_store (by rw [ev_eval hx, ev_eval hy]; exact run_store1 hsz h1 hs'.blk_get (blt_iff.1 hf)), ?_⟩
    exact hs'.blk_set (setCell_heap hs'.blk_get).1 (setCell_heap hs'.blk_get).2 rfl rfl) k

theorem run_storeN {w : World} {b f : Nat} {vs cs : List Value} {T0 : TypeId} (hsz : ∀ w, (sizeOf T).run P w = .ok cs.length w) (h1 : ∀ u ∈ cs, u.oneCell' = true) (hb : w.heap[b]? = some (.cells vs.toArray T0 (0, 0))) (hf : f + cs.length ≤ vs.length) :
    (Instr.storeAt T (bp b f) (.agg cs.toArray)).run P w = .ok () (w.setRow b (vs.take f ++ cs ++ vs.drop (f + cs.length)).toArray) := by
  have := run_storeCells_at P b f T0 cs 0 vs.toArray w hb (by simpa using hf) h1
  simp only [Nat.add_zero] at this
  simp [Instr.storeAt, bp, Instr.sureAddr, storeVar, hsz, Value.cells, this]
theorem setRow_heap' {w : World} {b : Nat} {vs us : List Value} {T0 : TypeId} (hb : w.heap[b]? = some (.cells vs.toArray T0 (0, 0))) :
    (w.setRow b us.toArray).heap[b]? = some (.cells us.toArray T0 (0, 0)) ∧ ∀ x, x ≠ b → (w.setRow b us.toArray).heap[x]? = w.heap[x]? := by
  constructor
  · simp [World.setRow, Array.getElem?_modify, hb]
  · intro x hx; simp [World.setRow, Array.getElem?_modify, Ne.symm hx]
theorem r_storeN {b f : Nat} {vs cs : List Value} {T0 : TypeId} {sz : Nat} (hsz : ∀ w, (sizeOf T).run P w = .ok sz w) (hx : ev n al x = some (bp b f)) (hy : ev n al y = some (.agg cs.toArray)) (hl : cs.length = sz) (h1 : ∀ u ∈ cs, u.oneCell' = true) (hp : Pick L (blk b T0 vs) L') (hf : Nat.ble (f + sz) vs.length = true)
    (k : J P n ops Q rest (blk b T0 (vs.take f ++ cs ++ vs.drop (f + sz)) :: L') R al) : J P n ops Q (⟨none, .store T x y, ty, pos, aft, none⟩ :: rest) L R al :=
  J.skip rfl rfl (fun B w hs => by
    subst hl
    have hs' := hs.pick hp
    refine ⟨_, exec_store (by rw [ev_eval hx, ev_eval hy]; exact run_storeN hsz h1 hs'.blk_get (Nat.le_of_ble_eq_true hf)), ?_⟩
    exact hs'.blk_set (setRow_heap' hs'.blk_get).1 (setRow_heap' hs'.blk_get).2 rfl rfl) k
/-- A whole variable is written anew. -/
theorem r_storeAll {b : Nat} {vs cs : List Value} {T0 : TypeId} {sz : Nat} (hsz : ∀ w, (sizeOf T).run P w = .ok sz w) (hx : ev n al x = some (bp b 0)) (hy : ev n al y = some (.agg cs.toArray)) (hl : cs.length = sz) (h1 : ∀ u ∈ cs, u.oneCell' = true) (hp : Pick L (blk b T0 vs) L') (hf : vs.length = sz)
    (k : J P n ops Q rest (blk b T0 cs :: L') R al) : J P n ops Q (⟨none, .store T x y, ty, pos, aft, none⟩ :: rest) L R al :=
  r_storeN (f := 0) hsz hx hy hl h1 hp (by rw [Nat.zero_add, hf]; exact Nat.ble_eq_true_of_le (Nat.le_refl _)) (by
    have : vs.take 0 ++ cs ++ vs.drop (0 + sz) = cs := by rw [← hf]; simp
    rw [this]; exact k)

section
variable {α : Type} [Enc α] {v : Value} {xs : List α} {i : Nat} {e e' : α}
/-- Writing a part of an element of the call's own array. -/
theorem row_write {w w' : World} {f : Nat} {cs : List Value} (hs : St (row T v xs :: L) R w) (hi : xs[i]? = some e) (hf : ∀ ds m, Enc.rd e ds m → f + cs.length ≤ ds.length)
    (he : ∀ j, (∀ q ∈ R, q.p j) → ∀ ds, Enc.rd e ds j → Enc.rd e' (ds.take f ++ cs ++ ds.drop (f + cs.length)) j) :
    ∃ g cap cur, v = .slice (some ⟨g, 0, none⟩) xs.length cap ∧ w.heap[g]? = some (.cells cur T (0, 0)) ∧ i * Enc.sz α + f + cs.length ≤ cur.size ∧
      St (row T v (xs.set i e') :: L) R (w.setRow g (cur.toList.take (i * Enc.sz α + f) ++ cs ++ cur.toList.drop (i * Enc.sz α + f + cs.length)).toArray) := by
  obtain ⟨m, j, hd, hm, hj, ⟨m1, m2, hd', h1, h2, hc, hst⟩, hr⟩ := hs
  obtain ⟨h0, hv | ⟨g, cap, cur, us, hv, hg, hcap, hml, hsz, htk, hrd⟩⟩ := hc
  · rw [hv.2] at hi; simp at hi
  have hgw : w.heap[g]? = some (.cells cur T (0, 0)) := mem_ob (hm _ _ (h1 _ _ hg))
  obtain ⟨p, c, q, e1, e2, e3, e4⟩ := hrd.get hi
  have hcl : c.length = Enc.sz α := Enc.len _ _ _ e3
  have hfc := hf _ _ e3
  have hilt : i < xs.length := (List.getElem?_eq_some_iff.1 hi).1
  have hus : us.length = xs.length * Enc.sz α := hrd.len
  have hmul : xs.length * Enc.sz α ≤ cap * Enc.sz α := Nat.mul_le_mul_right _ hcap
  have hi1 : (i + 1) * Enc.sz α ≤ xs.length * Enc.sz α := Nat.mul_le_mul_right _ hilt
  rw [Nat.succ_mul] at hi1
  have hfit : i * Enc.sz α + f + cs.length ≤ cur.size := by rw [hsz]; omega
  refine ⟨g, cap, cur, hv, hgw, hfit, ?_⟩
  -- the new cells
  let c' := c.take f ++ cs ++ c.drop (f + cs.length)
  let us' := p ++ c' ++ q
  have hc'l : c'.length = c.length := by simp only [c', List.length_append, List.length_take, List.length_drop]; omega
  have hus' : RdL (xs.set i e') us' j := e4 e' c' (he j hr c e3)
  let new := cur.toList.take (i * Enc.sz α + f) ++ cs ++ cur.toList.drop (i * Enc.sz α + f + cs.length)
  have hnewlen : new.length = cur.size := by
    simp only [new, List.length_append, List.length_take, List.length_drop, Array.length_toList]; omega
  -- cur = us ++ rest
  obtain ⟨rest0, hrest⟩ : ∃ r, cur.toList = us ++ r := ⟨cur.toList.drop (xs.length * Enc.sz α), by rw [← htk, List.take_append_drop]⟩
  have hp : p.length = i * Enc.sz α := e2
  have hnew : new = us' ++ rest0 := by
    have hcur : cur.toList = p ++ (c ++ (q ++ rest0)) := by rw [hrest, e1]; simp [List.append_assoc]
    simp only [new, us', c']
    rw [hcur, ← hp]
    have t1 : (p ++ (c ++ (q ++ rest0))).take (p.length + f) = p ++ c.take f := by
      rw [List.take_append, List.take_of_length_le (by omega), show p.length + f - p.length = f by omega, List.take_append_of_le_length (by omega)]
    have t2 : (p ++ (c ++ (q ++ rest0))).drop (p.length + f + cs.length) = c.drop (f + cs.length) ++ (q ++ rest0) := by
      rw [List.drop_append, List.drop_of_length_le (by omega), show p.length + f + cs.length - p.length = f + cs.length by omega, List.drop_append_of_le_length (by omega)]
      rfl
    rw [t1, t2]
    simp [List.append_assoc]
  have hb1 : (w.setRow g new.toArray).heap[g]? = some (.cells new.toArray T (0, 0)) := by simp [World.setRow, Array.getElem?_modify, hgw]
  have hb2 : ∀ x, x ≠ g → (w.setRow g new.toArray).heap[x]? = w.heap[x]? := by intro x hx; simp [World.setRow, Array.getElem?_modify, Ne.symm hx]
  have h3 : us'.length = us.length := by simp only [us', e1, List.length_append, hc'l]
  have htk' : new.take (xs.length * Enc.sz α) = us' := by
    rw [hnew, List.take_append_of_le_length (by omega), List.take_of_length_le (by omega)]
  exact St.put hd hm hj hd' h1 h2 hst hr hg hb1 hb2 rfl rfl ⟨by simpa using h0, .inr ⟨g, cap, new.toArray, us', by simpa using hv, one_self _ _, by simpa using hcap, hml, by rw [← hsz]; simpa using hnewlen, by rw [List.length_set]; exact htk', hus'⟩⟩
end
end
end Go.Proofs.Ythnokijkdobdfaa
