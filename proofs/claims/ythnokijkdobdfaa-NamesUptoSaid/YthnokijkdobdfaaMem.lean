/- This file proves the rules for operations that read and write memory, and for calls. No conditions. -/
import Derived.Test.YthnokijkdobdfaaOps
set_option linter.unusedVariables false
set_option linter.unusedSimpArgs false
namespace Go.Proofs.Ythnokijkdobdfaa
open Go

def bp (b f : Nat) : Value := .pointer (some ⟨b, f, none⟩)
def ep (v : Value) (sz i f : Nat) : Value := match v with
  | .slice (some a) _ _ => .pointer (some (a.add (i * sz + f)))
  | _ => undef

theorem add_add (a : Addr) (j k : Nat) : (a.add j).add k = a.add (j + k) := by
  unfold Addr.add
  by_cases hj : j = 0
  · subst hj; simp
  · by_cases hk : k = 0
    · subst hk; simp
    · simp [hj, hk, Nat.add_assoc]
theorem add_mk (b f k : Nat) : (⟨b, f, none⟩ : Addr).add k = ⟨b, f + k, none⟩ := by
  unfold Addr.add; by_cases h : k = 0 <;> simp [h]
theorem add_none {a : Addr} (h : a.spot = none) (k : Nat) : a.add k = ⟨a.block, a.off + k, none⟩ := by
  unfold Addr.add; by_cases hk : k = 0
  · subst hk; cases a; simp at h; subst h; simp
  · simp [hk]
theorem cell_of {w : World} {b : Nat} {cs : Array Value} {T : TypeId} {fz : Nat × Nat} (h : w.heap[b]? = some (.cells cs T fz)) (k : Nat) : w.cell? ⟨b, k, none⟩ = cs[k]? := by
  simp [World.cell?, h]

section
variable {P : Program} {n : Nat} {ops : Array Oper} {Q : Exit → Act → World → Prop} {rest : List Oper} {L L' : List Chunk} {R : List Fact} {al : List (Nat × Value)} {d : Nat} {x y : Operand} {T ty : TypeId} {pos : String} {aft : Array Edge}

/-- Cells behind a pointer. -/
def CellsAt (L : List Chunk) (R : List Fact) (p : Value) (cs : List Value) : Prop :=
  ∀ w, St L R w → ∃ a, p = .pointer (some a) ∧ ∀ (k : Nat) c, cs[k]? = some c → w.cell? (a.add k) = some c

theorem run_load1 {w : World} {a : Addr} {c : Value} (hT : ∀ w, (isAgg T).run P w = .ok false w) (h : w.cell? a = some c) : (Instr.loadAt T (.pointer (some a))).run P w = .ok c w := by
  simp [Instr.loadAt, Instr.sureAddr, loadVar, hT, h]
theorem run_loadN {w : World} {a : Addr} {cs : List Value} {sz : Nat} (hT : ∀ w, (isAgg T).run P w = .ok true w) (hsz : ∀ w, (sizeOf T).run P w = .ok sz w) (hl : cs.length = sz) (h : ∀ (k : Nat) c, cs[k]? = some c → w.cell? (a.add k) = some c) :
    (Instr.loadAt T (.pointer (some a))).run P w = .ok (.agg cs.toArray) w := by
  have := run_loadCells_list (P := P) (w := w) a cs h
  subst hl
  simp [Instr.loadAt, Instr.sureAddr, loadVar, hT, hsz, this]

theorem exec_load {ρ : Operand → Value} {g : Option (Nat × Bool)} {w w' : World} {v : Value} (h : (Instr.loadAt T (ρ x)).run P w = .ok v w') : (execOp ρ ⟨some d, .load T x, ty, pos, aft, g⟩).run P w = .ok (.value v) w' := by
  show (Instr.loadAt T (ρ x) >>= fun v => Pure.pure (Next.value v)).run P w = _
  rw [Sem.run_bind, h]; rfl

theorem r_load1 {p c : Value} (hT : ∀ w, (isAgg T).run P w = .ok false w) (hx : ev n al x = some p) (hc : CellsAt L R p [c])
    (k : J P n ops Q rest L R ((d, c) :: al)) : J P n ops Q (⟨some d, .load T x, ty, pos, aft, none⟩ :: rest) L R al :=
  J.pure rfl rfl (fun B w hs => by
    obtain ⟨a, rfl, h⟩ := hc w hs
    exact exec_load (by rw [ev_eval hx]; exact run_load1 hT (by simpa [Addr.add] using h 0 c rfl))) k
theorem r_loadN {p : Value} {cs : List Value} {sz : Nat} (hT : ∀ w, (isAgg T).run P w = .ok true w) (hsz : ∀ w, (sizeOf T).run P w = .ok sz w) (hx : ev n al x = some p) (hc : CellsAt L R p cs) (hl : cs.length = sz)
    (k : J P n ops Q rest L R ((d, .agg cs.toArray) :: al)) : J P n ops Q (⟨some d, .load T x, ty, pos, aft, none⟩ :: rest) L R al :=
  J.pure rfl rfl (fun B w hs => by
    obtain ⟨a, rfl, h⟩ := hc w hs
    exact exec_load (by rw [ev_eval hx]; exact run_loadN hT hsz hl h)) k

/-! ### Where cells are known -/
theorem pick_blk {b : Nat} {vs : List Value} {w : World} (h : Pick L (blk b T vs) L') (hs : St L R w) : w.heap[b]? = some (.cells vs.toArray T (0, 0)) := (hs.pick h).blk_get
theorem at_blk1 {b f : Nat} {vs : List Value} {c : Value} (h : Pick L (blk b T vs) L') (hv : vs[f]? = some c) : CellsAt L R (bp b f) [c] := by
  intro w hs
  refine ⟨⟨b, f, none⟩, rfl, fun k c' hk => ?_⟩
  match k, hk with
  | 0, hk =>
    have e : c = c' := by simpa using hk
    subst e
    rw [add_mk, cell_of (pick_blk h hs)]
    simpa using hv
  | k + 1, hk => simp at hk
theorem at_blkN {b f sz : Nat} {vs : List Value} (h : Pick L (blk b T vs) L') : CellsAt L R (bp b f) ((vs.drop f).take sz) := by
  intro w hs
  refine ⟨⟨b, f, none⟩, rfl, fun k c' hk => ?_⟩
  rw [add_mk, cell_of (pick_blk h hs)]
  rw [List.getElem?_take] at hk
  split at hk
  · rw [List.getElem?_drop] at hk; simpa using hk
  · cases hk
theorem at_blkAll {b : Nat} {vs : List Value} (h : Pick L (blk b T vs) L') : CellsAt L R (bp b 0) vs := by
  intro w hs
  refine ⟨⟨b, 0, none⟩, rfl, fun k c' hk => ?_⟩
  rw [add_mk, cell_of (pick_blk h hs)]
  simpa using hk

section
variable {α : Type} [Enc α] {v : Value} {xs : List α} {i : Nat} {e : α}

/-- One element's cells of a slice that is known. -/
theorem sl_cells {m : Mem} {w : World} (hm : Mem.le m (memOf w)) (h : isSlice v xs m) (hi : xs[i]? = some e) :
    ∃ a cs, v = .slice (some a) xs.length (match v with | .slice _ _ c => c | _ => 0) ∧ a.spot = none ∧ Enc.rd e cs m ∧ ∀ (k : Nat) c, cs[k]? = some c → w.cell? (a.add (i * Enc.sz α + k)) = some c := by
  obtain ⟨base, cap, hv, hn, hc⟩ := h
  have hne : xs ≠ [] := by intro h0; rw [h0] at hi; simp at hi
  obtain ⟨a, cells, T, fz, cs, h1, h2, h3, h4, h5⟩ := hc hne
  obtain ⟨p, c, q, e1, e2, e3, _⟩ := h5.get hi
  refine ⟨a, c, by rw [hv, h1], h2, e3, fun k u hk => ?_⟩
  rw [add_none h2, cell_of (mem_ob (hm _ _ h3))]
  have hcs : cs[i * Enc.sz α + k]? = some u := by
    rw [e1, List.append_assoc, List.getElem?_append_right (by omega), show i * Enc.sz α + k - p.length = k by omega, List.getElem?_append_left]
    · exact hk
    · exact (List.getElem?_eq_some_iff.1 hk).1
  rw [← h4, List.getElem?_take] at hcs
  split at hcs
  · rw [List.getElem?_drop] at hcs
    rw [← Array.getElem?_toList, ← hcs]
  · cases hcs

theorem ep_eq {a : Addr} {len cap sz i f : Nat} : ep (.slice (some a) len cap) sz i f = .pointer (some (a.add (i * sz + f))) := rfl

theorem at_sl1 {f : Nat} {c : Value} (hm : sl v xs ∈ R) (hi : xs[i]? = some e) (hc : ∀ cs m, Enc.rd e cs m → cs[f]? = some c) : CellsAt L R (ep v (Enc.sz α) i f) [c] := by
  intro w hs
  obtain ⟨m, hle, hr⟩ := hs.ex
  obtain ⟨a, cs, hv, hsp, hrd, hk⟩ := sl_cells hle (hr _ hm) hi
  refine ⟨a.add (i * Enc.sz α + f), by rw [hv, ep_eq], fun k c' hk' => ?_⟩
  match k, hk' with
  | 0, hk' =>
    have e' : c = c' := by simpa using hk'
    subst e'
    rw [add_add]; exact hk f c (hc _ _ hrd)
  | k + 1, hk' => simp at hk'
theorem at_slN {f : Nat} {ds : List Value} (hm : sl v xs ∈ R) (hi : xs[i]? = some e) (hc : ∀ cs m, Enc.rd e cs m → ∀ (k : Nat) c, ds[k]? = some c → cs[f + k]? = some c) : CellsAt L R (ep v (Enc.sz α) i f) ds := by
  intro w hs
  obtain ⟨m, hle, hr⟩ := hs.ex
  obtain ⟨a, cs, hv, hsp, hrd, hk⟩ := sl_cells hle (hr _ hm) hi
  refine ⟨a.add (i * Enc.sz α + f), by rw [hv, ep_eq], fun k c' hk' => ?_⟩
  rw [add_add, Nat.add_assoc]; exact hk _ _ (hc _ _ hrd k c' hk')

/-- The same of an array of the call's own. -/
theorem row_cells {m j : Mem} {w : World} (hm : Mem.le m (memOf w)) (h : (row T v xs).p m j) (hi : xs[i]? = some e) :
    ∃ a cs, v = .slice (some a) xs.length (match v with | .slice _ _ c => c | _ => 0) ∧ a.spot = none ∧ Enc.rd e cs j ∧ ∀ (k : Nat) c, cs[k]? = some c → w.cell? (a.add (i * Enc.sz α + k)) = some c := by
  obtain ⟨h0, hv | ⟨g, cap, cur, cs, hv, hg, hcap, hml, hsz, htk, hrd⟩⟩ := h
  · rw [hv.2] at hi; simp at hi
  obtain ⟨p, c, q, e1, e2, e3, _⟩ := hrd.get hi
  refine ⟨⟨g, 0, none⟩, c, by rw [hv], rfl, e3, fun k u hk => ?_⟩
  rw [add_mk, cell_of (mem_ob (hm _ _ hg))]
  have hcs : cs[i * Enc.sz α + k]? = some u := by
    rw [e1, List.append_assoc, List.getElem?_append_right (by omega), show i * Enc.sz α + k - p.length = k by omega, List.getElem?_append_left]
    · exact hk
    · exact (List.getElem?_eq_some_iff.1 hk).1
  rw [← htk, List.getElem?_take] at hcs
  split at hcs
  · rw [← Array.getElem?_toList, Nat.zero_add, ← hcs]
  · cases hcs
theorem at_row1 {f : Nat} {c : Value} (hp : Pick L (row T v xs) L') (hi : xs[i]? = some e) (hc : ∀ cs m, Enc.rd e cs m → cs[f]? = some c) : CellsAt L R (ep v (Enc.sz α) i f) [c] := by
  intro w hs
  obtain ⟨m, j, _, hle, _, hr, _⟩ := (hs.pick hp).head
  obtain ⟨a, cs, hv, hsp, hrd, hk⟩ := row_cells hle hr hi
  refine ⟨a.add (i * Enc.sz α + f), by rw [hv, ep_eq], fun k c' hk' => ?_⟩
  match k, hk' with
  | 0, hk' =>
    have e' : c = c' := by simpa using hk'
    subst e'
    rw [add_add]; exact hk f c (hc _ _ hrd)
  | k + 1, hk' => simp at hk'
theorem at_rowN {f : Nat} {ds : List Value} (hp : Pick L (row T v xs) L') (hi : xs[i]? = some e) (hc : ∀ cs m, Enc.rd e cs m → ∀ (k : Nat) c, ds[k]? = some c → cs[f + k]? = some c) : CellsAt L R (ep v (Enc.sz α) i f) ds := by
  intro w hs
  obtain ⟨m, j, _, hle, _, hr, _⟩ := (hs.pick hp).head
  obtain ⟨a, cs, hv, hsp, hrd, hk⟩ := row_cells hle hr hi
  refine ⟨a.add (i * Enc.sz α + f), by rw [hv, ep_eq], fun k c' hk' => ?_⟩
  rw [add_add, Nat.add_assoc]; exact hk _ _ (hc _ _ hrd k c' hk')

/-- What is known of an element that lies in a slice. -/
theorem sl_rd {w : World} (hm : sl v xs ∈ R) (hi : xs[i]? = some e) (hs : St L R w) : ∃ cs m, Enc.rd e cs m := by
  obtain ⟨m, hle, hr⟩ := hs.ex
  obtain ⟨a, cs, hv, hsp, hrd, hk⟩ := sl_cells hle (hr _ hm) hi
  exact ⟨cs, m, hrd⟩
theorem row_rd {w : World} (hp : Pick L (row T v xs) L') (hi : xs[i]? = some e) (hs : St L R w) : ∃ cs m, Enc.rd e cs m := by
  obtain ⟨m, j, _, hle, _, hr, _⟩ := (hs.pick hp).head
  obtain ⟨a, cs, hv, hsp, hrd, hk⟩ := row_cells hle hr hi
  exact ⟨cs, j, hrd⟩
theorem sl_len {w : World} (hm : sl v xs ∈ R) (hs : St L R w) : xs.length ≤ 16777216 := by
  obtain ⟨base, cap, hv, hn, hc⟩ := hs.fact hm
  exact hn.1
theorem row_len {w : World} (hp : Pick L (row T v xs) L') (hs : St L R w) : xs.length ≤ 16777216 := by
  obtain ⟨m, j, _, hle, _, hr, _⟩ := (hs.pick hp).head
  exact hr.1

/-- A cell that is not known ahead, with what is known of it. -/
theorem r_loadEx {γ : Type} {val : γ → Value} {F : γ → List Fact} {p : Value} (hx : ev n al x = some p)
    (h : ∀ w, St L R w → ∃ g, (Instr.loadAt T p).run P w = .ok (val g) w ∧ St L (F g ++ R) w)
    (k : ∀ g, J P n ops Q rest L (F g ++ R) ((d, val g) :: al)) : J P n ops Q (⟨some d, .load T x, ty, pos, aft, none⟩ :: rest) L R al :=
  J.yieldEx (v := val) (L' := fun _ => L) (R' := fun g => F g ++ R) rfl rfl (fun B w hs => by
    obtain ⟨g, hr, hs'⟩ := h w hs
    exact ⟨g, w, exec_load (by rw [ev_eval hx]; exact hr), hs'⟩) k

theorem St.addMem {L : List Chunk} {R : List Fact} {w : World} {F : List Fact} (h : ∀ i, Mem.le i (memOf w) → (∀ g ∈ R, g.p i) → ∀ f ∈ F, f.p i) (hs : St L R w) : St L (F ++ R) w := by
  obtain ⟨m, i, hd, hm, hi, hst, hr⟩ := hs
  refine ⟨m, i, hd, hm, hi, hst, fun g hg => ?_⟩
  cases List.mem_append.1 hg with
  | inl e => exact h i hi hr g e
  | inr e => exact hr g e
/-- What an element that lies in a slice has itself. -/
theorem sl_exN {γ : Type} {cf : γ → List Value} {F : γ → List Fact} {f : Nat} {w : World} (hm : sl v xs ∈ R) (hi : xs[i]? = some e)
    (hc : ∀ cs m, Enc.rd e cs m → ∃ g, (∀ (k : Nat) c, (cf g)[k]? = some c → cs[f + k]? = some c) ∧ ∀ q ∈ F g, q.p m) (hs : St L R w) :
    ∃ g a, ep v (Enc.sz α) i f = .pointer (some a) ∧ (∀ (k : Nat) c, (cf g)[k]? = some c → w.cell? (a.add k) = some c) ∧ St L (F g ++ R) w := by
  obtain ⟨m, j, hd, hmw, hjw, hst, hr⟩ := hs
  obtain ⟨a, cs, hv, hsp, hrd, hk⟩ := sl_cells hjw (hr _ hm) hi
  obtain ⟨g, hg, hq⟩ := hc _ _ hrd
  refine ⟨g, a.add (i * Enc.sz α + f), by rw [hv, ep_eq], fun k c hk' => by rw [add_add, Nat.add_assoc]; exact hk _ _ (hg k c hk'), ⟨m, j, hd, hmw, hjw, hst, fun q hq' => ?_⟩⟩
  cases List.mem_append.1 hq' with
  | inl e => exact hq q e
  | inr e => exact hr q e
theorem row_exN {γ : Type} {cf : γ → List Value} {F : γ → List Fact} {f : Nat} {w : World} (hp : Pick L (row T v xs) L') (hi : xs[i]? = some e)
    (hc : ∀ cs m, Enc.rd e cs m → ∃ g, (∀ (k : Nat) c, (cf g)[k]? = some c → cs[f + k]? = some c) ∧ ∀ q ∈ F g, q.p m) (hs : St L R w) :
    ∃ g a, ep v (Enc.sz α) i f = .pointer (some a) ∧ (∀ (k : Nat) c, (cf g)[k]? = some c → w.cell? (a.add k) = some c) ∧ St L (F g ++ R) w := by
  obtain ⟨m, j, hd, hmw, hjw, hst, hr⟩ := hs
  obtain ⟨m1, m2, hd', h1, h2, hc', hst'⟩ := star_pick hp hst
  obtain ⟨a, cs, hv, hsp, hrd, hk⟩ := row_cells (Mem.le_trans h1 hmw) hc' hi
  obtain ⟨g, hg, hq⟩ := hc _ _ hrd
  refine ⟨g, a.add (i * Enc.sz α + f), by rw [hv, ep_eq], fun k c hk' => by rw [add_add, Nat.add_assoc]; exact hk _ _ (hg k c hk'), ⟨m, j, hd, hmw, hjw, hst, fun q hq' => ?_⟩⟩
  cases List.mem_append.1 hq' with
  | inl e => exact hq q e
  | inr e => exact hr q e
/-- A slice that lies in a cell of an element. -/
theorem r_loadS {β : Type} [Enc β] {ys : List β} {f : Nat} (hT : ∀ w, (isAgg T).run P w = .ok false w) (hx : ev n al x = some (ep v (Enc.sz α) i f)) (hm : sl v xs ∈ R) (hi : xs[i]? = some e)
    (hc : ∀ cs m, Enc.rd e cs m → ∃ u, cs[f]? = some u ∧ isSlice u ys m)
    (k : ∀ u, J P n ops Q rest L (sl u ys :: R) ((d, u) :: al)) : J P n ops Q (⟨some d, .load T x, ty, pos, aft, none⟩ :: rest) L R al :=
  r_loadEx (γ := Value) (val := fun u => u) (F := fun u => [sl u ys]) hx (fun w hs => by
    obtain ⟨u, a, h1, h2, h3⟩ := sl_exN (γ := Value) (cf := fun u => [u]) (F := fun u => [sl u ys]) (f := f) hm hi (fun cs m hr => by
      obtain ⟨u, hu, hsu⟩ := hc cs m hr
      refine ⟨u, fun k c hk => ?_, fun q hq => by cases List.mem_singleton.1 hq; exact hsu⟩
      match k, hk with
      | 0, hk => simp at hk; subst hk; exact hu
      | k + 1, hk => simp at hk) hs
    exact ⟨u, by rw [h1]; exact run_load1 hT (by simpa [Addr.add] using h2 0 u rfl), h3⟩) k
theorem r_loadSrow {β : Type} [Enc β] {ys : List β} {f : Nat} {T' : TypeId} (hT : ∀ w, (isAgg T).run P w = .ok false w) (hx : ev n al x = some (ep v (Enc.sz α) i f)) (hp : Pick L (row T' v xs) L') (hi : xs[i]? = some e)
    (hc : ∀ cs m, Enc.rd e cs m → ∃ u, cs[f]? = some u ∧ isSlice u ys m)
    (k : ∀ u, J P n ops Q rest L (sl u ys :: R) ((d, u) :: al)) : J P n ops Q (⟨some d, .load T x, ty, pos, aft, none⟩ :: rest) L R al :=
  r_loadEx (γ := Value) (val := fun u => u) (F := fun u => [sl u ys]) hx (fun w hs => by
    obtain ⟨u, a, h1, h2, h3⟩ := row_exN (γ := Value) (cf := fun u => [u]) (F := fun u => [sl u ys]) (f := f) hp hi (fun cs m hr => by
      obtain ⟨u, hu, hsu⟩ := hc cs m hr
      refine ⟨u, fun k c hk => ?_, fun q hq => by cases List.mem_singleton.1 hq; exact hsu⟩
      match k, hk with
      | 0, hk => simp at hk; subst hk; exact hu
      | k + 1, hk => simp at hk) hs
    exact ⟨u, by rw [h1]; exact run_load1 hT (by simpa [Addr.add] using h2 0 u rfl), h3⟩) k
/-- A whole element, with slices in it. -/
theorem r_loadG {γ : Type} {cf : γ → List Value} {F : γ → List Fact} {sz : Nat} (hT : ∀ w, (isAgg T).run P w = .ok true w) (hsz : ∀ w, (sizeOf T).run P w = .ok sz w) (hx : ev n al x = some (ep v (Enc.sz α) i 0)) (hm : sl v xs ∈ R) (hi : xs[i]? = some e)
    (hl : ∀ g, (cf g).length = sz) (hc : ∀ cs m, Enc.rd e cs m → ∃ g, cs = cf g ∧ ∀ q ∈ F g, q.p m)
    (k : ∀ g, J P n ops Q rest L (F g ++ R) ((d, .agg (cf g).toArray) :: al)) : J P n ops Q (⟨some d, .load T x, ty, pos, aft, none⟩ :: rest) L R al :=
  r_loadEx (γ := γ) (val := fun g => .agg (cf g).toArray) (F := F) hx (fun w hs => by
    obtain ⟨g, a, h1, h2, h3⟩ := sl_exN (γ := γ) (cf := cf) (F := F) (f := 0) hm hi (fun cs m hr => by
      obtain ⟨g, hg, hq⟩ := hc cs m hr
      exact ⟨g, fun k c hk => by rw [Nat.zero_add, hg]; exact hk, hq⟩) hs
    exact ⟨g, by rw [h1]; exact run_loadN hT hsz (hl g) h2, h3⟩) k
theorem r_loadGrow {γ : Type} {cf : γ → List Value} {F : γ → List Fact} {sz : Nat} {T' : TypeId} (hT : ∀ w, (isAgg T).run P w = .ok true w) (hsz : ∀ w, (sizeOf T).run P w = .ok sz w) (hx : ev n al x = some (ep v (Enc.sz α) i 0)) (hp : Pick L (row T' v xs) L') (hi : xs[i]? = some e)
    (hl : ∀ g, (cf g).length = sz) (hc : ∀ cs m, Enc.rd e cs m → ∃ g, cs = cf g ∧ ∀ q ∈ F g, q.p m)
    (k : ∀ g, J P n ops Q rest L (F g ++ R) ((d, .agg (cf g).toArray) :: al)) : J P n ops Q (⟨some d, .load T x, ty, pos, aft, none⟩ :: rest) L R al :=
  r_loadEx (γ := γ) (val := fun g => .agg (cf g).toArray) (F := F) hx (fun w hs => by
    obtain ⟨g, a, h1, h2, h3⟩ := row_exN (γ := γ) (cf := cf) (F := F) (f := 0) hp hi (fun cs m hr => by
      obtain ⟨g, hg, hq⟩ := hc cs m hr
      exact ⟨g, fun k c hk => by rw [Nat.zero_add, hg]; exact hk, hq⟩) hs
    exact ⟨g, by rw [h1]; exact run_loadN hT hsz (hl g) h2, h3⟩) k
end
end
end Go.Proofs.Ythnokijkdobdfaa
