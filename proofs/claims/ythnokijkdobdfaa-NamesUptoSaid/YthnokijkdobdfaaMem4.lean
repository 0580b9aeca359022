/- This file proves the rules for new slices, lengths, parts of slices, tuples, calls, and what becomes of pieces of memory. No conditions. -/
import Derived.Test.YthnokijkdobdfaaMem3
set_option linter.unusedVariables false
set_option linter.unusedSimpArgs false
namespace Go.Proofs.Ythnokijkdobdfaa
open Go

/-- What a call leaves. -/
def Post {γ : Type} (val : γ → Value) (Lf : γ → List Chunk) (Rf : γ → List Fact) : Ending → World → Prop :=
  fun e w' => ∃ g, e = .returned (val g) ∧ St (Lf g) (Rf g) w'

def evL (n : Nat) (al : List (Nat × Value)) : List Operand → Option (List Value)
  | [] => some []
  | x :: r => match ev n al x, evL n al r with
    | some v, some vs => some (v :: vs)
    | _, _ => none
theorem evL_map {n : Nat} {al : List (Nat × Value)} {B : Nat → Value} : ∀ {l : List Operand} {vs : List Value}, evL n al l = some vs → l.map (mkA n al B).eval = vs
  | [], vs, h => by simp only [evL] at h; cases h; rfl
  | x :: r, vs, h => by
    simp only [evL] at h
    cases hx : ev n al x with
    | none => rw [hx] at h; cases h
    | some v =>
      cases hr : evL n al r with
      | none => rw [hx, hr] at h; cases h
      | some us =>
        rw [hx, hr] at h
        simp only [Option.some.injEq] at h
        rw [List.map_cons, ev_eval hx, evL_map hr, h]

section
variable {P : Program} {n : Nat} {ops : Array Oper} {Q : Exit → Act → World → Prop} {rest : List Oper} {L L' : List Chunk} {R : List Fact} {al : List (Nat × Value)} {d : Nat} {x y : Operand} {T ty : TypeId} {pos : String} {aft : Array Edge}

/-! ### Calls -/
theorem exec_call {ρ : Operand → Value} {g : Option (Nat × Bool)} {dst : Option Tmp} {w : World} {f : FuncId} {args : Array Operand} {ts : Array TypeId} (hf : ∀ args w, (callFunc f args).run P w = .ok (.enter f args) w) (hρ : ρ (.func f) = .func (.func f) #[] #[]) :
    (execOp ρ ⟨dst, .call { callee := .value (.func f), args, argTypes := ts }, ty, pos, aft, g⟩).run P w = .ok (.enter f (args.map ρ)) w := by
  simp [execOp, resolve, hρ, Deferred.ofValue, invoke, hf]
theorem r_call {γ : Type} {val : γ → Value} {Lf : γ → List Chunk} {Rf : γ → List Fact} {f : FuncId} {args : List Operand} {ts : Array TypeId} {vs : List Value} (hf : ∀ args w, (callFunc f args).run P w = .ok (.enter f args) w)
    (ha : evL n al args = some vs) (hc : ∀ w, St L R w → Calls P f vs.toArray w (Post val Lf Rf))
    (k : ∀ g, J P n ops Q rest (Lf g) (Rf g) ((d, val g) :: al)) : J P n ops Q (⟨some d, .call { callee := .value (.func f), args := args.toArray, argTypes := ts }, ty, pos, aft, none⟩ :: rest) L R al :=
  J.step rfl fun B w hs => .inl <| by
    unfold Oper.wp
    rw [exec_call hf rfl, Oper.upon_enter, List.map_toArray, evL_map ha]
    refine (hc w hs).mono ?_
    rintro e w' ⟨g, rfl, hs'⟩
    show wpList P ops Q rest ((mkA n al B).put (some d) (val g)) w'
    rw [mkA_put]
    exact k g B w' hs'
theorem r_callNone {γ : Type} {val : γ → Value} {Lf : γ → List Chunk} {Rf : γ → List Fact} {f : FuncId} {args : List Operand} {ts : Array TypeId} {vs : List Value} (hf : ∀ args w, (callFunc f args).run P w = .ok (.enter f args) w)
    (ha : evL n al args = some vs) (hc : ∀ w, St L R w → Calls P f vs.toArray w (Post val Lf Rf))
    (k : ∀ g, J P n ops Q rest (Lf g) (Rf g) al) : J P n ops Q (⟨none, .call { callee := .value (.func f), args := args.toArray, argTypes := ts }, ty, pos, aft, none⟩ :: rest) L R al :=
  J.step rfl fun B w hs => .inl <| by
    unfold Oper.wp
    rw [exec_call hf rfl, Oper.upon_enter, List.map_toArray, evL_map ha]
    refine (hc w hs).mono ?_
    rintro e w' ⟨g, rfl, hs'⟩
    show wpList P ops Q rest ((mkA n al B).put none (val g)) w'
    rw [mkA_putNone]
    exact k g B w' hs'

theorem r_extract {vs : List Value} {i : Nat} {v : Value} (hx : ev n al x = some (.tuple vs.toArray)) (hv : vs[i]? = some v)
    (k : J P n ops Q rest L R ((d, v) :: al)) : J P n ops Q (⟨some d, .extract x i, ty, pos, aft, none⟩ :: rest) L R al :=
  J.pure rfl rfl (fun B w _ => by simp [execOp, ev_eval hx, Instr.extract, hv]) k

theorem exec_len {ρ : Operand → Value} {g : Option (Nat × Bool)} {w w' : World} {t : TypeId} {v : Value} (h : (Builtin.len_ #[t] ty #[ρ x]).run P w = .ok v w') :
    (execOp ρ ⟨some d, .call { callee := .builtin .len, args := #[x], argTypes := #[t] }, ty, pos, aft, g⟩).run P w = .ok (.value v) w' := by
  simp [execOp, resolve, invoke, builtin, h]
theorem r_len {t e : TypeId} {v : Value} {len : Nat} (ht : P.underlying t = some (.slice e)) (hx : ev n al x = some v) (hl : SliceLen L R v len)
    (k : J P n ops Q rest L R ((d, vi (len : Int)) :: al)) : J P n ops Q (⟨some d, .call { callee := .builtin .len, args := #[x], argTypes := #[t] }, ty, pos, aft, none⟩ :: rest) L R al :=
  J.pure rfl rfl (fun B w hs => by
    obtain ⟨base, cap, rfl, _⟩ := hl w hs
    exact exec_len (by rw [ev_eval hx]; simp [Builtin.len_, run_und ht, goInt])) k

/-! ### Pieces of memory -/
section
variable {α : Type} [Enc α] {v : Value} {xs : List α} {i : Nat} {e e' : α}
/-- The nil slice is an array of the call's own that holds nothing. -/
theorem St.rowNil {w : World} (T : TypeId) (α : Type) [Enc α] (hs : St L R w) : St (row T (.slice none 0 0) ([] : List α) :: L) R w :=
  hs.emp fun i => ⟨by simp, .inl ⟨rfl, rfl⟩⟩
theorem row_isSlice {m j : Mem} (hd : Mem.disj m j) (h : (row T v xs).p m j) : isSlice v xs (Mem.join m j) := by
  obtain ⟨h0, ⟨hv, hx⟩ | ⟨g, cap, cur, cs, hv, hg, hcap, hml, hsz, htk, hrd⟩⟩ := h
  · exact ⟨none, 0, by rw [hv, hx]; rfl, ⟨h0, by rw [hx]; simp⟩, fun hne => absurd hx hne⟩
  · exact ⟨some ⟨g, 0, none⟩, cap, hv, ⟨h0, hcap⟩, fun _ => ⟨_, cur, T, (0, 0), cs, rfl, rfl, Mem.le_joinL _ _ _ _ hg, by simpa using htk, hrd.mono (Mem.le_joinR hd)⟩⟩
/-- An array of the call's own becomes data for good. -/
theorem St.shut {w : World} {T : TypeId} (hs : St (row T v xs :: L) R w) : St L (sl v xs :: R) w := hs.freeze fun m i hd h => row_isSlice hd h
/-- An empty slice is an array of the call's own. -/
theorem J.rowNil {l : List Oper} (T : TypeId) (α : Type) [Enc α] (k : J P n ops Q l (row T (.slice none 0 0) ([] : List α) :: L) R al) : J P n ops Q l L R al := J.conseq (fun _ hs => hs.rowNil T α) k
theorem JC.rowNil {c : Code} (T : TypeId) (α : Type) [Enc α] (k : JC P n c Q (row T (.slice none 0 0) ([] : List α) :: L) R al) : JC P n c Q L R al := JC.conseq (fun _ hs => hs.rowNil T α) k
theorem J.slNil {l : List Oper} (α : Type) [Enc α] (k : J P n ops Q l L (sl (.slice none 0 0) ([] : List α) :: R) al) : J P n ops Q l L R al := J.conseq (fun _ hs => (hs.rowNil 0 α).shut) k
theorem JC.slNil {c : Code} (α : Type) [Enc α] (k : JC P n c Q L (sl (.slice none 0 0) ([] : List α) :: R) al) : JC P n c Q L R al := JC.conseq (fun _ hs => (hs.rowNil 0 α).shut) k
theorem J.shut {l : List Oper} {T : TypeId} (hp : Pick L (row T v xs) L') (k : J P n ops Q l L' (sl v xs :: R) al) : J P n ops Q l L R al := J.conseq (fun _ hs => (hs.pick hp).shut) k
theorem JC.shut {c : Code} {T : TypeId} (hp : Pick L (row T v xs) L') (k : JC P n c Q L' (sl v xs :: R) al) : JC P n c Q L R al := JC.conseq (fun _ hs => (hs.pick hp).shut) k

/-! ### Slices of so many parts -/
/-- 'buildSlice' with its parts in order. -/
theorem r_buildSlice {t el : TypeId} {sz bytes len : Nat} {z : Value} {parts : List (Nat × Operand)} {vs : List Value} {cs : List Value} (he : ElemOf P t el sz z bytes) (hsz : Enc.sz α = sz)
    (ha : evL n al (parts.map (·.2)) = some vs)
    (hrun : ∀ w, (Instr.buildSlice t len ((parts.map (·.1)).zip vs).toArray).run P w = .ok (.slice (some ⟨w.heap.size, 0, none⟩) len len) (w.alloc (.cells cs.toArray el)))
    (hlen : xs.length = len) (hN : len ≤ maxN) (hrd : ∀ j, (∀ q ∈ R, q.p j) → RdL xs cs j) (hcl : cs.length = len * sz)
    (k : ∀ v, J P n ops Q rest (row el v xs :: L) R ((d, v) :: al)) : J P n ops Q (⟨some d, .buildSlice t len parts.toArray, ty, pos, aft, none⟩ :: rest) L R al :=
  J.yieldEx (v := fun v => v) (L' := fun v => row el v xs :: L) (R' := fun _ => R) rfl rfl (fun B w hs => by
    refine ⟨.slice (some ⟨w.heap.size, 0, none⟩) len len, w.alloc (.cells cs.toArray el), ?_, ?_⟩
    · show (Instr.buildSlice t len (parts.toArray.map fun (i, x) => (i, (mkA n al B).eval x)) >>= fun v => Pure.pure (Next.value v)).run P w = _
      have hp : (parts.toArray.map fun (i, x) => (i, (mkA n al B).eval x)) = ((parts.map (·.1)).zip vs).toArray := by
        rw [← evL_map (B := B) ha]
        simp only [List.map_toArray, List.map_map, List.zip_map', Function.comp_def]
      rw [hp, Sem.run_bind, hrun w]; rfl
    · obtain ⟨m, j, hd, hmw, hjw, hst, hr⟩ := hs
      exact St.newC hd hmw hjw hst hr rfl rfl rfl ⟨by rw [hlen]; exact hN, .inr ⟨w.heap.size, len, cs.toArray, cs, by rw [hlen], one_self _ _, by omega, by have : maxN = 16777216 := rfl; unfold maxLen; omega, by rw [hsz]; simpa using hcl, by rw [hlen, hsz, ← hcl]; simp, hrd j hr⟩⟩) k

/-- make: so many zero values. -/
theorem RdL.replicate {m : Mem} {x : α} {cs : List Value} (h : Enc.rd x cs m) : ∀ k, RdL (List.replicate k x) (List.replicate k cs).flatten m
  | 0 => rfl
  | k + 1 => ⟨cs, (List.replicate k cs).flatten, by simp [List.replicate_succ], h, RdL.replicate h k⟩
theorem madeCells_list {zc : List Value} {sz : Nat} (hz : zc.length = sz) (hpos : 0 < sz) : ∀ k, (madeCells zc.toArray (k * sz)).toList = (List.replicate k zc).flatten := by
  intro k
  apply List.ext_getElem?
  intro i
  have hlen : ((List.replicate k zc).flatten).length = k * sz := by simp [hz]
  by_cases hi : i < k * sz
  · have h1 : (madeCells zc.toArray (k * sz)).toList[i]? = zc[i % sz]? := by
      simp only [madeCells, Array.toList_map, List.getElem?_map, Array.getElem?_toList]
      rw [Array.getElem?_eq_getElem (by simpa using hi)]
      have hm : i % sz < zc.length := by rw [hz]; exact Nat.mod_lt _ hpos
      simp [hz, List.getElem?_eq_getElem hm, hm]
    rw [h1]
    clear h1 hlen
    induction k generalizing i with
    | zero => simp at hi
    | succ k ih =>
      rw [List.replicate_succ, List.flatten_cons]
      by_cases hlt : i < sz
      · rw [List.getElem?_append_left (by omega), Nat.mod_eq_of_lt hlt]
      · rw [List.getElem?_append_right (by omega), hz, ← ih (i - sz) (by rw [Nat.succ_mul] at hi; omega), ← Nat.mod_eq_sub_mod (by omega)]
  · rw [List.getElem?_eq_none (by simp [size_madeCells]; omega), List.getElem?_eq_none (by omega)]
theorem r_make {t el : TypeId} {sz bytes : Nat} {z : Value} {zc : List Value} {a : Int} {x0 : α} (he : ElemOf P t el sz z bytes) (hsz : Enc.sz α = sz) (hpos : 0 < sz) (hx : ev n al x = some (vi a)) (hy : ev n al y = some (vi a))
    (hzc : z.cells = zc.toArray) (hrd : ∀ j, Enc.rd x0 zc j) (h0 : 0 ≤ a) (hN : a ≤ 16777216)
    (k : ∀ v, J P n ops Q rest (row el v (List.replicate a.toNat x0) :: L) R ((d, v) :: al)) : J P n ops Q (⟨some d, .makeSlice t x y, ty, pos, aft, none⟩ :: rest) L R al :=
  J.yieldEx (v := fun v => v) (L' := fun v => row el v (List.replicate a.toNat x0) :: L) (R' := fun _ => R) rfl rfl (fun B w hs => by
    obtain ⟨i, hi, hz, hisz, hiby⟩ := he.info
    have hbytes : (i.bytes : Int) * a ≤ 281474976710656 := by
      have h1 : (i.bytes : Int) ≤ 1024 := by have := he.bnd; omega
      have h2 : (i.bytes : Int) * a ≤ 1024 * 16777216 := Int.mul_le_mul h1 hN h0 (by omega)
      omega
    refine ⟨.slice (some ⟨w.heap.size, 0, none⟩) a.toNat a.toNat, w.alloc (.cells (madeCells z.cells (a.toNat * i.size)) el), ?_, ?_⟩
    · show (Instr.makeSlice t ((mkA n al B).eval x) ((mkA n al B).eval y) >>= fun v => Pure.pure (Next.value v)).run P w = _
      rw [ev_eval hx, ev_eval hy, Sem.run_bind, run_make (P := P) w t el i z he.und hi hz .i64 .i64 a a h0 (Int.le_refl _) hbytes (by omega)]; rfl
    · obtain ⟨m, j, hd, hmw, hjw, hst, hr⟩ := hs
      have hzl : zc.length = sz := by have := he.zsz; rw [hzc] at this; simpa using this
      refine St.newC hd hmw hjw hst hr rfl rfl rfl ⟨by rw [List.length_replicate]; have : maxN = 16777216 := rfl; omega, .inr ⟨w.heap.size, a.toNat, _, (List.replicate a.toNat zc).flatten, by rw [List.length_replicate], one_self _ _, by rw [List.length_replicate]; omega, by unfold maxLen; omega, ?_, ?_, RdL.replicate (hrd j) _⟩⟩
      · rw [size_madeCells, hisz, hsz]
      · rw [hzc, hisz, madeCells_list hzl hpos, List.length_replicate, hsz, List.take_of_length_le]
        simp [hzl]) k

/-! ### A part of a slice -/
theorem sl_drop {m : Mem} {base : Option Addr} {cap k : Nat} (h : isSlice (.slice base xs.length cap) xs m) (hk : k ≤ xs.length) : isSlice (.slice (if cap = k then base else base.map (·.add (k * Enc.sz α))) (xs.length - k) (cap - k)) (xs.drop k) m := by
  obtain ⟨b', c', hv, hn, hc⟩ := h
  have e1 : base = b' ∧ cap = c' := by injection hv with a1 a2 a3; exact ⟨a1, a3⟩
  obtain ⟨rfl, rfl⟩ := e1
  refine ⟨_, _, by rw [List.length_drop], by rw [List.length_drop]; omega, fun hne => ?_⟩
  have hne' : xs ≠ [] := by intro h; rw [h] at hne; simp at hne
  obtain ⟨a, cells, T, fz, cs, h1, h2, h3, h4, h5⟩ := hc hne'
  have hkl : k < xs.length := by
    rcases Nat.lt_or_ge k xs.length with h | h
    · exact h
    · exact absurd (List.drop_of_length_le h) hne
  rw [← List.take_append_drop k xs] at h5
  obtain ⟨c1, c2, e1, e2, e3⟩ := RdL.split h5
  have hl1 : c1.length = k * Enc.sz α := by rw [e2.len, List.length_take, Nat.min_eq_left hk]
  subst h1
  by_cases hck : cap = k
  · -- then nothing would be left
    exfalso; omega
  · rw [if_neg hck]
    refine ⟨a.add (k * Enc.sz α), cells, T, fz, c2, rfl, ?_, ?_, ?_, e3⟩
    · rw [add_none h2]
    · rw [add_none h2]; exact h3
    · rw [add_none h2]
      have : ((cells.toList.drop a.off).take (xs.length * Enc.sz α)).drop (k * Enc.sz α) = c2 := by rw [h4, e1, List.drop_append_of_le_length (by omega), List.drop_of_length_le (by omega)]; rfl
      rw [List.drop_take, List.drop_drop] at this
      rw [List.length_drop, Nat.sub_mul]
      exact this
end
end
end Go.Proofs.Ythnokijkdobdfaa
