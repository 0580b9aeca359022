/- This file proves the rules for stores into an array of the call's own, for append, for new slices, and for calls. No conditions. -/
import Derived.Test.YthnokijkdobdfaaMem2
set_option linter.unusedVariables false
set_option linter.unusedSimpArgs false
namespace Go.Proofs.Ythnokijkdobdfaa
open Go

/-- What a slice's element type is. -/
structure ElemOf (P : Program) (t e : TypeId) (sz : Nat) (z : Value) (bytes : Nat) : Prop where
  und : P.underlying t = some (.slice e)
  info : ∃ i, P.info? e = some i ∧ i.zero = some z ∧ i.size = sz ∧ i.bytes = bytes
  zsz : z.cells.size = sz
  bnd : bytes ≤ 1024

section
variable {P : Program} {n : Nat} {ops : Array Oper} {Q : Exit → Act → World → Prop} {rest : List Oper} {L L' : List Chunk} {R : List Fact} {al : List (Nat × Value)} {d : Nat} {x y : Operand} {T ty : TypeId} {pos : String} {aft : Array Edge}
variable {α : Type} [Enc α] {v : Value} {xs : List α} {i : Nat} {e e' : α}

theorem r_storeRow {f sz : Nat} {c : Value} {cs : List Value} {T' : TypeId} (hsz : ∀ w, (sizeOf T).run P w = .ok sz w) (hx : ev n al x = some (ep v (Enc.sz α) i f)) (hy : ev n al y = some c) (hc : c.cells = cs.toArray) (hl : cs.length = sz) (h1 : ∀ u ∈ cs, u.oneCell' = true)
    (hp : Pick L (row T' v xs) L') (hi : xs[i]? = some e) (hf : ∀ ds m, Enc.rd e ds m → f + cs.length ≤ ds.length)
    (he : ∀ j, (∀ q ∈ R, q.p j) → ∀ ds, Enc.rd e ds j → Enc.rd e' (ds.take f ++ cs ++ ds.drop (f + cs.length)) j)
    (k : J P n ops Q rest (row T' v (xs.set i e') :: L') R al) : J P n ops Q (⟨none, .store T x y, ty, pos, aft, none⟩ :: rest) L R al :=
  J.skip rfl rfl (fun B w hs => by
    obtain ⟨g, cap, cur, hv, hg, hfit, hst⟩ := row_write (w' := w) (hs.pick hp) hi hf he
    refine ⟨_, exec_store ?_, hst⟩
    rw [ev_eval hx, ev_eval hy, hv, ep_eq, add_mk]
    have := run_storeCells_at P g (i * Enc.sz α + f) T' cs 0 cur w hg (by simpa using hfit) h1
    simp only [Nat.add_zero, Nat.zero_add] at this ⊢
    subst hl
    simp [Instr.storeAt, Instr.sureAddr, storeVar, hsz, hc, this]) k

theorem exec_append {ρ : Operand → Value} {g : Option (Nat × Bool)} {w w' : World} {t1 t2 : TypeId} {v : Value} (h : (Builtin.append_ #[t1, t2] ty #[ρ x, ρ y]).run P w = .ok v w') :
    (execOp ρ ⟨some d, .call { callee := .builtin .append, args := #[x, y], argTypes := #[t1, t2] }, ty, pos, aft, g⟩).run P w = .ok (.value v) w' := by
  simp [execOp, resolve, invoke, builtin, h]

theorem row_block {m j : Mem} {T : TypeId} (h : (row T v xs).p m j) : (v = .slice none 0 0 ∧ xs = []) ∨ ∃ g cap cur cs, v = .slice (some ⟨g, 0, none⟩) xs.length cap ∧ m (g + 1) = some (.ob (.cells cur T (0, 0))) ∧ xs.length ≤ cap ∧ cap ≤ maxLen ∧
      cur.size = cap * Enc.sz α ∧ cur.toList.take (xs.length * Enc.sz α) = cs ∧ RdL xs cs j := h.2

/-- A slice's cells, as a list. -/
theorem sl_list {m : Mem} {w : World} {ys : List α} {u : Value} (hm : Mem.le m (memOf w)) (h : isSlice u ys m) (hne : ys ≠ []) :
    ∃ a cap cs, u = .slice (some a) ys.length cap ∧ cs.length = ys.length * Enc.sz α ∧ RdL ys cs m ∧ ∀ (k : Nat) c, cs[k]? = some c → w.cell? (a.add k) = some c := by
  obtain ⟨base, cap, hv, hn, hc⟩ := h
  obtain ⟨a, cells, T, fz, cs, h1, h2, h3, h4, h5⟩ := hc hne
  refine ⟨a, cap, cs, by rw [hv, h1], h5.len, h5, fun k c hk => ?_⟩
  rw [add_none h2, cell_of (mem_ob (hm _ _ h3))]
  rw [← h4, List.getElem?_take] at hk
  split at hk
  · rw [List.getElem?_drop] at hk; rw [← Array.getElem?_toList, ← hk]
  · cases hk

theorem append_run {t e : TypeId} {sz bytes : Nat} {z : Value} {ys : List α} {u : Value} {w : World} (he : ElemOf P t e sz z bytes) (hsz : Enc.sz α = sz) (hpos : 0 < sz)
    (hs : St (row e v xs :: L) R w) (hm : sl u ys ∈ R) (hb : xs.length + ys.length ≤ maxN) :
    ∃ v' w', (Builtin.append_ #[t, t] ty #[v, u]).run P w = .ok v' w' ∧ St (row e v' (xs ++ ys) :: L) R w' := by
  obtain ⟨i, hi, hz, hisz, hiby⟩ := he.info
  have hN : maxN = 16777216 := rfl
  by_cases hne : ys = []
  · subst hne
    refine ⟨v, w, ?_, by simpa using hs⟩
    obtain ⟨base, cap, hu, _, _⟩ := hs.fact hm
    obtain ⟨m, j, _, hle, _, hr, _⟩ := hs.head
    have hfirst : (Builtin.firstCells sz 0 u).run P w = .ok #[] w := by
      rw [hu]; cases base <;> simp [Builtin.firstCells, loadCells, loadCellsFrom]
    have hlen : (Builtin.lenOf u).run P w = .ok 0 w := by rw [hu]; rfl
    rcases row_block hr with ⟨hv, _⟩ | ⟨g, c, cur, cs, hv, _, hc, _⟩
    · rw [hv]; simp [Builtin.append_, run_und he.und, sizeOf, typeInfo, hi, hisz, hlen, hfirst]
    · rw [hv]; simp [Builtin.append_, run_und he.und, sizeOf, typeInfo, hi, hisz, hlen, hfirst, hc, storeCells]
  obtain ⟨m, j, hd, hmw, hjw, ⟨m1, m2, hd', h1, h2, hc, hst⟩, hr⟩ := hs
  obtain ⟨a, ucap, news, hu, hnl, hnrd, hnc⟩ := sl_list hjw (hr _ hm) hne
  have hmpos : 0 < ys.length := List.length_pos_iff.2 hne
  have hs0 : St L R w := ⟨m, j, hd, hmw, hjw, Star.mono h2 (Mem.le_refl _) hst, hr⟩
  have hone := hnrd.one
  have hlen : (xs ++ ys).length = xs.length + ys.length := List.length_append
  -- a new array
  have mk : ∀ (w' : World) (cells : Array Value) (cap : Nat) (cs : List Value), w'.heap = w.heap.push (.cells cells e (0, 0)) → w'.os = w.os → w'.output = w.output → RdL (xs ++ ys) cs j → (xs ++ ys).length ≤ cap → cap ≤ maxLen → cells.size = cap * Enc.sz α → cells.toList.take ((xs ++ ys).length * Enc.sz α) = cs →
      St (row e (.slice (some ⟨w.heap.size, 0, none⟩) (xs ++ ys).length cap) (xs ++ ys) :: L) R w' := by
    intro w' cells cap cs hw ho hu hrd hcap hml hcl htk
    exact St.newC (Mem.disj_le hd h2 (Mem.le_refl _)) (Mem.le_trans h2 hmw) hjw hst hr hw ho hu ⟨by rw [hlen]; exact hb, .inr ⟨w.heap.size, cap, cells, cs, rfl, one_self _ _, hcap, hml, hcl, htk, hrd⟩⟩
  have hcapge : ∀ (w1 : World) need old, need ≤ maxN → need ≤ grownCap w1 need old e ∧ grownCap w1 need old e ≤ maxLen := by
    intro w1 need old hn
    exact ⟨grownCap_ge _ _ _ _, grownCap_le_maxLen _ _ _ _ (by rw [hN] at hn; unfold maxLen; omega)⟩
  have hbnd : ∀ k, k ≤ maxN → k * i.bytes ≤ 140737488355328 := by
    intro k hk
    have : k * i.bytes ≤ 16777216 * 1024 := Nat.mul_le_mul (by omega) (by rw [hiby]; exact he.bnd)
    omega
  have hzc : ∀ k, (Builtin.zeroCells z.cells k).size = k * Enc.sz α := by intro k; rw [size_zeroCells, he.zsz, hsz]
  rcases hc with ⟨h0, ⟨hv, hx⟩ | ⟨g, cap, cur, cs, hv, hg, hcap, hml, hcsz, htk, hrd⟩⟩
  · subst hx
    have hy : ([] ++ ys : List α) = ys := rfl
    have hyl : ys.length ≤ maxN := by simpa using hb
    have hgc := hcapge w ys.length 0 hyl
    refine ⟨_, _, by rw [hv, hu]; exact run_append_nil (P := P) (w := w) t ty e i z he.und hi hz a ys.length ucap news (by rw [hisz, ← hsz]; exact hnl) hnc hmpos (by omega) (by have := hbnd _ hyl; omega), ?_⟩
    have := mk (w.drew.alloc (.cells (news.toArray ++ Builtin.zeroCells z.cells (grownCap w ys.length 0 e - ys.length)) e)) _ (grownCap w ys.length 0 e) news rfl rfl rfl hnrd hgc.1 hgc.2
      (by rw [Array.size_append, hzc, List.size_toArray, hnl, ← Nat.add_mul]; congr 1; omega) (by simp only [Array.toList_append, hy]; rw [List.take_append_of_le_length (by simp [hnl]), List.take_of_length_le (by simp [hnl])])
    exact this
  have hgw : w.heap[g]? = some (.cells cur e (0, 0)) := mem_ob (hmw _ _ (h1 _ _ hg))
  have hcsl : cs.length = xs.length * Enc.sz α := hrd.len
  by_cases hroom : xs.length + ys.length ≤ cap
  · have hfit : xs.length * Enc.sz α + news.length ≤ cur.size := by rw [hcsz, hnl, ← Nat.add_mul]; exact Nat.mul_le_mul_right _ hroom
    refine ⟨_, _, by rw [hv, hu]; exact run_append_room (P := P) (w := w) t ty e i he.und hi g xs.length cap cur hgw a ys.length ucap news (by rw [hisz, ← hsz]; exact hnl) hnc hone hroom (by rw [hisz, ← hsz]; exact hfit), ?_⟩
    rw [hisz, ← hsz, htk]
    have hb1 : (w.setRow g (cs ++ news ++ cur.toList.drop (xs.length * Enc.sz α + news.length)).toArray).heap[g]? = some (.cells (cs ++ news ++ cur.toList.drop (xs.length * Enc.sz α + news.length)).toArray e (0, 0)) := by simp [World.setRow, Array.getElem?_modify, hgw]
    have hb2 : ∀ x, x ≠ g → (w.setRow g (cs ++ news ++ cur.toList.drop (xs.length * Enc.sz α + news.length)).toArray).heap[x]? = w.heap[x]? := by intro x hx; simp [World.setRow, Array.getElem?_modify, Ne.symm hx]
    refine St.put hd hmw hjw hd' h1 h2 hst hr hg hb1 hb2 rfl rfl ⟨by rw [hlen]; exact hb, .inr ⟨g, cap, _, cs ++ news, by rw [hlen], one_self _ _, by rw [hlen]; exact hroom, hml, ?_, ?_, RdL.append hnrd hrd⟩⟩
    · simp only [List.size_toArray, List.length_append, List.length_drop, Array.length_toList]; omega
    · rw [List.take_append_of_le_length (by simp only [List.length_append, hlen, Nat.add_mul]; omega), List.take_of_length_le (by simp only [List.length_append, hlen, Nat.add_mul]; omega)]
  · have hgc := hcapge w (xs.length + ys.length) cap hb
    have holds : ∀ (k : Nat) c, cs[k]? = some c → w.cell? ((⟨g, 0, none⟩ : Addr).add k) = some c := by
      intro k c hk
      rw [add_mk, cell_of hgw, Nat.zero_add]
      rw [← htk, List.getElem?_take] at hk
      split at hk
      · rw [← Array.getElem?_toList]; exact hk
      · cases hk
    refine ⟨_, _, by rw [hv, hu]; exact run_append_grow (P := P) (w := w) t ty e i z he.und hi hz ⟨g, 0, none⟩ xs.length cap cs (by rw [hisz, ← hsz]; exact hcsl) holds a ys.length ucap news (by rw [hisz, ← hsz]; exact hnl) hnc (by omega) (by omega) (growslice_fits (by omega) (hbnd _ hb)), ?_⟩
    have := mk (w.drew.alloc (.cells (cs.toArray ++ news.toArray ++ Builtin.zeroCells z.cells (grownCap w (xs.length + ys.length) cap e - (xs.length + ys.length))) e)) _ (grownCap w (xs.length + ys.length) cap e) (cs ++ news) rfl rfl rfl (RdL.append hnrd hrd) (by rw [hlen]; exact hgc.1) hgc.2
      (by rw [Array.size_append, Array.size_append, hzc, List.size_toArray, List.size_toArray, hnl, hcsl, ← Nat.add_mul, ← Nat.add_mul]; congr 1; omega)
      (by simp only [Array.toList_append]; rw [List.take_append_of_le_length (by simp [hnl, hcsl, Nat.add_mul]), List.take_of_length_le (by simp [hnl, hcsl, Nat.add_mul])])
    rw [hlen] at this
    exact this

theorem r_append {t e : TypeId} {sz bytes : Nat} {z : Value} {ys : List α} {u : Value} (he : ElemOf P t e sz z bytes) (hx : ev n al x = some v) (hy : ev n al y = some u) (hsz : Enc.sz α = sz) (hpos : 0 < sz)
    (hp : Pick L (row e v xs) L') (hm : sl u ys ∈ R) (hb : ∀ w, St L R w → xs.length + ys.length ≤ maxN)
    (k : ∀ v', J P n ops Q rest (row e v' (xs ++ ys) :: L') R ((d, v') :: al)) : J P n ops Q (⟨some d, .call { callee := .builtin .append, args := #[x, y], argTypes := #[t, t] }, ty, pos, aft, none⟩ :: rest) L R al :=
  J.yieldEx (v := fun v' => v') (L' := fun v' => row e v' (xs ++ ys) :: L') (R' := fun _ => R) rfl rfl (fun B w hs => by
    obtain ⟨v', w', h1, h2⟩ := append_run (ty := ty) he hsz hpos (hs.pick hp) hm (hb w hs)
    exact ⟨v', w', exec_append (by rw [ev_eval hx, ev_eval hy]; exact h1), h2⟩) k
end
end Go.Proofs.Ythnokijkdobdfaa
