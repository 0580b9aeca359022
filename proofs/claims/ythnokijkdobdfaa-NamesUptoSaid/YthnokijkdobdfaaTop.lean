/- This file proves how the arguments of a law, read as data, are lists and structs of numbers, and what is owed behind the call. No conditions. -/
import Derived.Test.YthnokijkdobdfaaFacts
import Derived.Test.YthnokijkdobdfaaRows
import Derived.ProofKit
import Derived.OpenShut
import Derived.JoinedCond
set_option linter.unusedVariables false
set_option linter.unusedSimpArgs false
namespace Go.Proofs.Ythnokijkdobdfaa
open Go Go.ChangeShapes Go.WideShapes Go.ChangeAt Go.RowKit

theorem bulk_one_le {H : Type} (d : DataW H) : 1 ≤ Rows.uptoBulk d := by
  cases d with
  | lit l => cases l <;> simp [Rows.uptoBulk]
  | nil => simp [Rows.uptoBulk]
  | ptr d => simp [Rows.uptoBulk]
  | slice elems spare => simp [Rows.uptoBulk]
  | agg parts => simp [Rows.uptoBulk]
  | iface t d => simp [Rows.uptoBulk]
  | map entries => simp [Rows.uptoBulk]
  | held h => simp [Rows.uptoBulk]
theorem part_le {H : Type} {d : DataW H} {l : List (DataW H)} (h : d ∈ l) : Rows.uptoBulk d ≤ Rows.uptoBulkAll l := by
  induction l with
  | nil => cases h
  | cons x r ih =>
    simp only [Rows.uptoBulkAll]
    cases List.mem_cons.1 h with
    | inl e => subst e; omega
    | inr e => have := ih e; omega
theorem length_le {H : Type} (l : List (DataW H)) : l.length ≤ Rows.uptoBulkAll l := by
  induction l with
  | nil => simp [Rows.uptoBulkAll]
  | cons x r ih => have := bulk_one_le x; simp only [Rows.uptoBulkAll, List.length_cons]; omega

/-- A type's cells read as data are values of 'α'. -/
def Reads (P : Program) (α : Type) [Enc α] (t : TypeId) : Prop :=
  ∀ (H : Type) (enc : TypeId × Value → H) (W : World) (sp : Nat → Bool) (held : Bool) (fuel : Nat) (cs : List Value) (d : DataW H) (ps : List MemPlace),
    DataW.trod enc P W 0 sp held fuel t cs = some (d, ps) → Rows.uptoBulk d ≤ 1048576 → ∃ x : α, Enc.rd x cs (memOf W)

variable {P : Program}
theorem in64_of {n : Int} (h : (Lit.int .i64 n).wf = true) : In64 n := by
  simp only [Lit.wf, Bool.and_eq_true, decide_eq_true_eq, IntKind.min, IntKind.max, IntKind.signed, IntKind.bits] at h
  unfold In64; simp at h; omega
theorem reads_int {t : TypeId} (ht : P.underlying t = some (.int .i64)) : Reads P Int t := by
  intro H enc W sp held fuel cs d ps h hb
  obtain ⟨n, rfl, hx, hw⟩ := DataW.trod_int ht h
  exact ⟨n, rfl, in64_of hw⟩
theorem reads_byte {t : TypeId} (ht : P.underlying t = some (.int .u8)) : Reads P UInt8 t := by
  intro H enc W sp held fuel cs d ps h hb
  obtain ⟨n, rfl, hx, hw⟩ := DataW.trod_int ht h
  simp only [Lit.wf, Bool.and_eq_true, decide_eq_true_eq, IntKind.min, IntKind.max, IntKind.signed, IntKind.bits] at hw
  simp at hw
  refine ⟨UInt8.ofNat n.toNat, ?_⟩
  show [Value.int .u8 n] = [Value.int .u8 ((UInt8.ofNat n.toNat).toNat : Int)]
  have : ((UInt8.ofNat n.toNat).toNat : Int) = n := by rw [UInt8.toNat_ofNat']; omega
  rw [this]
theorem reads_bool {t : TypeId} (ht : P.underlying t = some .bool) : Reads P Bool t := by
  intro H enc W sp held fuel cs d ps h hb
  obtain ⟨b, rfl, hx⟩ := DataW.trod_bool ht h
  exact ⟨b, rfl⟩

theorem cells?_get {W : World} {a : Addr} : ∀ {n : Nat} {cs : List Value}, W.cells? 0 a n = some cs → cs.length = n ∧ ∀ i, i < n → W.cell? (a.add i) = cs[i]? := by
  intro n cs h
  obtain ⟨_, h2, h3⟩ := World.cells?_some h
  exact ⟨h2, h3⟩
theorem cell?_row {W : World} {a : Addr} {v : Value} (h : W.cell? a = some v) : a.spot = none ∧ ∃ cells T fz, W.heap[a.block]? = some (.cells cells T fz) := by
  unfold World.cell? at h
  split at h
  · rename_i c T fz hb
    refine ⟨?_, c, T, fz, hb⟩
    cases hs : a.spot with
    | none => rfl
    | some s => rw [hs] at h; simp at h
  · cases h

theorem reads_slice {α : Type} [Enc α] {t e : TypeId} (ht : P.underlying t = some (.slice e)) (hsz : P.cellsOf e = Enc.sz α) (hpos : 0 < Enc.sz α) (he : Reads P α e) : Reads P (List α) t := by
  intro H enc W sp held fuel cs d ps h hb
  rcases DataW.trod_slice ht h with ⟨rfl, hx⟩ | ⟨a, len, cap, elems, rest, n, hf, rfl, hx, hba, hlc, hcm, hel, hget, _, _⟩
  · exact ⟨[], .slice none 0 0, rfl, none, 0, rfl, ⟨by simp, by simp⟩, fun h => absurd rfl h⟩
  simp only [Prod.mk.injEq] at hx
  obtain ⟨rfl, _⟩ := hx
  simp only [Rows.uptoBulk] at hb
  have hlen : len ≤ 1048576 := by have := length_le (elems.map (·.1)); rw [List.length_map, hel] at this; omega
  rw [hsz] at hget
  -- each element
  have hone : ∀ i, i < len → ∃ (x : α) (es : List Value), Enc.rd x es (memOf W) ∧ es.length = Enc.sz α ∧ ∀ j, j < Enc.sz α → W.cell? (a.add (i * Enc.sz α + j)) = es[j]? := by
    intro i hi
    have h1 := hget i hi
    have hi' : i < elems.length := by omega
    rw [List.getElem?_eq_getElem hi', Option.bind_eq_some_iff] at h1
    obtain ⟨es, h2, h3⟩ := h1
    obtain ⟨h4, h5⟩ := cells?_get h2
    have hbd : Rows.uptoBulk (elems[i]).1 ≤ 1048576 := by
      have := part_le (d := (elems[i]).1) (l := elems.map (·.1)) (List.mem_map.2 ⟨_, List.getElem_mem hi', rfl⟩)
      omega
    obtain ⟨x, hx⟩ := he H enc W sp held n es (elems[i]).1 (elems[i]).2 h3 hbd
    exact ⟨x, es, hx, h4, fun j hj => by rw [← add_add]; exact h5 j hj⟩
  -- all of them
  have hall : ∀ k, k ≤ len → ∃ (xs : List α) (us : List Value), xs.length = k ∧ RdL xs us (memOf W) ∧ ∀ j, j < k * Enc.sz α → W.cell? (a.add j) = us[j]? := by
    intro k
    induction k with
    | zero => intro _; exact ⟨[], [], rfl, rfl, fun j hj => by simp at hj⟩
    | succ k ih =>
      intro hk
      obtain ⟨xs, us, h1, h2, h3⟩ := ih (by omega)
      obtain ⟨x, es, h4, h5, h6⟩ := hone k (by omega)
      refine ⟨xs ++ [x], us ++ es, by simp [h1], RdL.append (RdL.single h4) h2, fun j hj => ?_⟩
      have hul : us.length = k * Enc.sz α := by rw [h2.len, h1]
      by_cases hjk : j < k * Enc.sz α
      · rw [List.getElem?_append_left (by omega)]; exact h3 j hjk
      · rw [List.getElem?_append_right (by omega), hul]
        have := h6 (j - k * Enc.sz α) (by rw [Nat.succ_mul] at hj; omega)
        rw [← this]; congr 2; omega
  obtain ⟨xs, us, h1, h2, h3⟩ := hall len (Nat.le_refl _)
  refine ⟨xs, .slice (some a) len cap, rfl, some a, cap, by rw [h1], ⟨by rw [h1]; have : maxN = 16777216 := rfl; omega, by rw [h1]; exact hlc⟩, fun hne => ?_⟩
  have hlpos : 0 < len := by rw [← h1]; exact List.length_pos_iff.2 hne
  have hul : us.length = len * Enc.sz α := by rw [h2.len, h1]
  have hmul : 0 < len * Enc.sz α := Nat.mul_pos hlpos hpos
  have h30 := h3 0 hmul
  have hu0 : ∃ u, us[0]? = some u := ⟨_, List.getElem?_eq_getElem (by omega)⟩
  obtain ⟨u, hu⟩ := hu0
  rw [hu] at h30
  have h30' : W.cell? a = some u := by simpa [Addr.add] using h30
  obtain ⟨hs, cells, T, fz, hblk⟩ := cell?_row h30'
  refine ⟨a, cells, T, fz, us, rfl, hs, ob_mem hblk, ?_, h2⟩
  rw [h1]
  apply List.ext_getElem?
  intro j
  rw [List.getElem?_take]
  by_cases hj : j < len * Enc.sz α
  · rw [if_pos hj, List.getElem?_drop, ← h3 j hj, add_none hs, cell_of hblk, Array.getElem?_toList]
  · rw [if_neg hj, List.getElem?_eq_none (by omega)]

/-- A struct of numbers: each field in its place. -/
theorem trod_fields {H : Type} {enc : TypeId × Value → H} {W : World} {sp : Nat → Bool} {held : Bool} {fuel : Nat} {t : TypeId} {cs : List Value} {d : DataW H} {ps : List MemPlace} {fs : Array Field} (ht : P.underlying t = some (.struct fs)) (h : DataW.trod enc P W 0 sp held fuel t cs = some (d, ps)) (hb : Rows.uptoBulk d ≤ 1048576) :
    cs.length = P.cellsOf t ∧ ∀ (i : Nat) (f : Field), fs[i]? = some f → ∃ n x, DataW.trod enc P W 0 sp held n f.type ((cs.drop f.offset).take (P.cellsOf f.type)) = some x ∧ Rows.uptoBulk x.1 ≤ 1048576 := by
  obtain ⟨xs, n, hf, hx, hl, hxl, hget⟩ := DataW.trod_struct ht h
  simp only [Prod.mk.injEq] at hx
  obtain ⟨rfl, _⟩ := hx
  simp only [Rows.uptoBulk] at hb
  refine ⟨hl, fun i f hfi => ?_⟩
  have hi : i < xs.length := by rw [hxl]; exact (Array.getElem?_eq_some_iff.1 hfi).1
  have := hget i f hfi
  rw [List.getElem?_eq_getElem hi] at this
  refine ⟨n, _, this, ?_⟩
  have := part_le (d := (xs[i]).1) (l := xs.map (·.1)) (List.mem_map.2 ⟨_, List.getElem_mem hi, rfl⟩)
  omega

/-! ### The memory that was there -/
def keepF (W : World) : Fact := ⟨fun m => Mem.le (memOf W) m, fun _ _ h h' => Mem.le_trans h' h⟩
theorem St.begin (W : World) : St [] [keepF W] W := ⟨fun _ => none, memOf W, fun _ => .inl rfl, (fun _ _ h => by cases h), Mem.le_refl _, trivial, fun f hf => by cases List.mem_singleton.1 hf; exact Mem.le_refl _⟩
theorem St.learn {L : List Chunk} {R : List Fact} {W w : World} {f : Fact} (hk : keepF W ∈ R) (hf : f.p (memOf W)) (hs : St L R w) : St L (f :: R) w := hs.addFact fun i h => f.mono _ _ (h _ hk) hf
theorem grown_of {L : List Chunk} {R : List Fact} {W w : World} (hk : keepF W ∈ R) (hs : St L R w) : Mem.le (memOf W) (memOf w) := hs.fact hk
theorem old_block {W w : World} (h : Mem.le (memOf W) (memOf w)) {b : Nat} (hb : b < W.heap.size) : w.heap[b]? = W.heap[b]? := by
  have : W.heap[b]? = some W.heap[b] := by simp [hb]
  rw [this]; exact mem_ob (h (b + 1) _ (ob_mem this))
theorem grown {W w : World} (h : Mem.le (memOf W) (memOf w)) : W.keptBut w (fun _ => False) ∧ W.heap.size ≤ w.heap.size := by
  have h0 := h 0 _ rfl
  simp only [memOf, Option.some.injEq, Ent.ext.injEq] at h0
  constructor
  · refine ⟨h0.1, h0.2, fun i hi => ?_⟩
    rw [old_block h hi]
    have : W.heap[i]? = some W.heap[i] := by simp [hi]
    rw [this]
    split
    · rename_i e1 e2
      simp only [Option.some.injEq] at e1 e2
      rw [e1] at e2
      cases e2
      exact ⟨rfl, rfl, rfl, fun _ _ => rfl⟩
    · rename_i e1 e2
      simp only [Option.some.injEq] at e1 e2
      rw [e1] at e2
      cases e2
      exact .inr ⟨rfl, rfl⟩
    · rfl
  · rcases Nat.lt_or_ge w.heap.size W.heap.size with hlt | hge
    · have := old_block h (b := w.heap.size) hlt
      simp [hlt] at this
    · exact hge
theorem frozen_old {W w : World} (h : Mem.le (memOf W) (memOf w)) (hn : W.heap.size ≤ w.heap.size) : ∀ p : MemPlace, p.block < W.heap.size → W.sameAt w p := by
  intro p hp
  cases p with
  | cell b off =>
    have ho := old_block h (b := b) hp
    simp only [World.sameAt, World.cell?]; rw [ho]
  | map b => exact old_block h hp
theorem trodAll_later {H : Type} {enc : TypeId × Value → H} {W w : World} (h : Mem.le (memOf W) (memOf w)) {sp : Nat → Bool} {held : Bool} : ∀ {ts : List TypeId} {vs : List Value} {ds : List (DataW H)} {ps : List MemPlace}, DataW.TrodAll enc P W 0 sp held ts vs ds ps → DataW.TrodAll enc P w 0 sp held ts vs ds ps
  | [], [], [], _, h1 => h1
  | t :: ts, v :: vs, d :: ds, ps, ⟨p, q, ⟨fuel, hf⟩, h2, h3⟩ => ⟨p, q, ⟨fuel, DataW.trod_carry _ _ _ _ hf fun x hx => frozen_old h (grown h).2 x (DataW.trod_lt _ _ _ _ hf x hx)⟩, trodAll_later h h2, h3⟩

/-! ### The structs -/
def FT (P : Program) (cs : List Value) (t : TypeId) (off : Nat) : Prop :=
  ∃ (H : Type) (enc : TypeId × Value → H) (W : World) (sp : Nat → Bool) (held : Bool) (n : Nat) (x : DataW H × List MemPlace), DataW.trod enc P W 0 sp held n t ((cs.drop off).take (P.cellsOf t)) = some x ∧ Rows.uptoBulk x.1 ≤ 1048576
theorem one_of {cs : List Value} {k : Nat} {c : Value} (h : (cs.drop k).take 1 = [c]) : cs[k]? = some c := by
  have : ((cs.drop k).take 1)[0]? = some c := by rw [h]; rfl
  simpa using this
theorem FT.int {cs : List Value} {t : TypeId} {k : Nat} (ht : P.underlying t = some (.int .i64)) (hs : P.cellsOf t = 1) (h : FT P cs t k) : ∃ n, cs[k]? = some (vi n) ∧ In64 n := by
  obtain ⟨H, enc, W, sp, held, n, x, hx, hb⟩ := h
  rw [hs] at hx
  obtain ⟨j, hj, _, hw⟩ := DataW.trod_int ht hx
  exact ⟨j, one_of hj, in64_of hw⟩
theorem FT.bool {cs : List Value} {t : TypeId} {k : Nat} (ht : P.underlying t = some .bool) (hs : P.cellsOf t = 1) (h : FT P cs t k) : ∃ b, cs[k]? = some (.bool b) := by
  obtain ⟨H, enc, W, sp, held, n, x, hx, hb⟩ := h
  rw [hs] at hx
  obtain ⟨j, hj, _⟩ := DataW.trod_bool ht hx
  exact ⟨j, one_of hj⟩
theorem FT.sub {α : Type} [Enc α] {cs : List Value} {t : TypeId} {k : Nat} (hr : Reads P α t) (hs : P.cellsOf t = Enc.sz α) (h : FT P cs t k) : ∃ (x : α) (m : Mem), Enc.rd x ((cs.drop k).take (Enc.sz α)) m := by
  obtain ⟨H, enc, W, sp, held, n, x, hx, hb⟩ := h
  rw [hs] at hx
  obtain ⟨y, hy⟩ := hr H enc W sp held n _ x.1 x.2 hx hb
  exact ⟨y, _, hy⟩
theorem fields_of {H : Type} {enc : TypeId × Value → H} {W : World} {sp : Nat → Bool} {held : Bool} {fuel : Nat} {t : TypeId} {cs : List Value} {d : DataW H} {ps : List MemPlace} {fs : Array Field} {n : Nat} (ht : P.underlying t = some (.struct fs)) (hn : P.cellsOf t = n) (h : DataW.trod enc P W 0 sp held fuel t cs = some (d, ps)) (hb : Rows.uptoBulk d ≤ 1048576) :
    cs.length = n ∧ ∀ (i : Nat) (f : Field), fs[i]? = some f → FT P cs f.type f.offset := by
  obtain ⟨h1, h2⟩ := trod_fields ht h hb
  refine ⟨h1.trans hn, fun i f hf => ?_⟩
  obtain ⟨k, x, h3, h4⟩ := h2 i f hf
  exact ⟨H, enc, W, sp, held, k, x, h3, h4⟩
theorem len2 {cs : List Value} (h : cs.length = 2) {a b : Value} (h0 : cs[0]? = some a) (h1 : cs[1]? = some b) : cs = [a, b] := by
  match cs, h with | [x, y], _ => simp at h0 h1; rw [h0, h1]
theorem len3 {cs : List Value} (h : cs.length = 3) {a b c : Value} (h0 : cs[0]? = some a) (h1 : cs[1]? = some b) (h2 : cs[2]? = some c) : cs = [a, b, c] := by
  match cs, h with | [x, y, z], _ => simp at h0 h1 h2; rw [h0, h1, h2]
theorem len8 {cs : List Value} (h : cs.length = 8) {a b c d e f g i : Value} (h0 : cs[0]? = some a) (h1 : cs[1]? = some b) (h2 : cs[2]? = some c) (h3 : cs[3]? = some d) (h4 : cs[4]? = some e) (h5 : cs[5]? = some f) (h6 : cs[6]? = some g) (h7 : cs[7]? = some i) : cs = [a, b, c, d, e, f, g, i] := by
  match cs, h with | [x0, x1, x2, x3, x4, x5, x6, x7], _ => simp at h0 h1 h2 h3 h4 h5 h6 h7; rw [h0, h1, h2, h3, h4, h5, h6, h7]
theorem len5 {cs : List Value} (h : cs.length = 5) {a b c d e : Value} (h0 : cs[0]? = some a) (h1 : cs[1]? = some b) (h2 : cs[2]? = some c) (h3 : cs[3]? = some d) (h4 : cs[4]? = some e) : cs = [a, b, c, d, e] := by
  match cs, h with | [x0, x1, x2, x3, x4], _ => simp at h0 h1 h2 h3 h4; rw [h0, h1, h2, h3, h4]
theorem len7 {cs : List Value} (h : cs.length = 7) {a b c d e f g : Value} (h0 : cs[0]? = some a) (h1 : cs[1]? = some b) (h2 : cs[2]? = some c) (h3 : cs[3]? = some d) (h4 : cs[4]? = some e) (h5 : cs[5]? = some f) (h6 : cs[6]? = some g) : cs = [a, b, c, d, e, f, g] := by
  match cs, h with | [x0, x1, x2, x3, x4, x5, x6], _ => simp at h0 h1 h2 h3 h4 h5 h6; rw [h0, h1, h2, h3, h4, h5, h6]
theorem op_mid {cs : List Value} {k : Nat} {o : Op} (h : (cs.drop k).take 3 = o.cells) : cs[k]? = some (vi o.kind) ∧ cs[k + 1]? = some (vi o.line) ∧ cs[k + 2]? = some (vi o.value) := by
  have e0 : ((cs.drop k).take 3)[0]? = some (vi o.kind) := by rw [h]; rfl
  have e1 : ((cs.drop k).take 3)[1]? = some (vi o.line) := by rw [h]; rfl
  have e2 : ((cs.drop k).take 3)[2]? = some (vi o.value) := by rw [h]; rfl
  rw [List.getElem?_take_of_lt (by omega), List.getElem?_drop] at e0 e1 e2
  exact ⟨e0, e1, e2⟩

/-! ### The arguments -/
theorem cells_of {v : Value} (h : ∀ cs, v ≠ .agg cs) : v.cells.toList = [v] := by cases v <;> first | rfl | exact absurd rfl (h _)
section
variable {H : Type} {enc : TypeId × Value → H} {W : World} {sp : Nat → Bool} {held : Bool} {base : Nat} {t : TypeId} {v : Value} {d : DataW H} {ps : List MemPlace}
theorem arg_int (ht : P.underlying t = some (.int .i64)) (hok : Value.okWide P W .any base t v) (h : DataW.Trod enc P W 0 sp held t v d ps) : ∃ n, v = vi n ∧ In64 n := by
  obtain ⟨n, rfl⟩ := okWide_int ht hok
  obtain ⟨fuel, hf⟩ := h
  obtain ⟨j, hj, _, hw⟩ := DataW.trod_int ht hf
  refine ⟨n, rfl, ?_⟩
  have : n = j := by simpa [Value.cells] using hj
  rw [this]; exact in64_of hw
theorem arg_bool (ht : P.underlying t = some .bool) (hok : Value.okWide P W .any base t v) : ∃ b, v = .bool b := okWide_bool ht hok
theorem arg_struct {α : Type} [Enc α] {fs : Array Field} (ht : P.underlying t = some (.struct fs)) (hr : Reads P α t) (hok : Value.okWide P W .any base t v) (h : DataW.Trod enc P W 0 sp held t v d ps) (hb : Rows.uptoBulk d ≤ 1048576) : ∃ (x : α) (cs : Array Value), v = .agg cs ∧ Enc.rd x cs.toList (memOf W) := by
  obtain ⟨cs, rfl, _⟩ := okWide_struct ht hok
  obtain ⟨fuel, hf⟩ := h
  obtain ⟨x, hx⟩ := hr H enc W sp held fuel _ d ps hf hb
  exact ⟨x, cs, rfl, hx⟩
theorem arg_slice {α : Type} [Enc α] {e : TypeId} (ht : P.underlying t = some (.slice e)) (hr : Reads P (List α) t) (hok : Value.okWide P W .any base t v) (h : DataW.Trod enc P W 0 sp held t v d ps) (hb : Rows.uptoBulk d ≤ 1048576) : ∃ xs : List α, (sl v xs).p (memOf W) ∧ xs.length ≤ 1048576 := by
  obtain ⟨a, len, cap, rfl⟩ := okWide_slice ht hok
  obtain ⟨fuel, hf⟩ := h
  obtain ⟨xs, u, hu, hx⟩ := hr H enc W sp held fuel _ d ps hf hb
  have hu' : [Value.slice a len cap] = [u] := hu
  injection hu' with hu'
  subst hu'
  refine ⟨xs, hx, ?_⟩
  obtain ⟨b, c, he, _⟩ := hx
  cases he
  rcases DataW.trod_slice ht hf with ⟨hv, hx⟩ | ⟨a', len', cap', elems, rest, n, hn, hv, hx, hba, hlc, hcm, hel, _⟩
  · have : [Value.slice a xs.length cap] = [Value.slice none 0 0] := hv
    simp at this; omega
  · have : [Value.slice a xs.length cap] = [Value.slice (some a') len' cap'] := hv
    simp only [List.cons.injEq, Value.slice.injEq, and_true] at this
    simp only [Prod.mk.injEq] at hx
    obtain ⟨rfl, _⟩ := hx
    simp only [Rows.uptoBulk] at hb
    have := length_le (elems.map (·.1))
    rw [List.length_map, hel] at this
    omega
end

/-- It answers true, and all that was there is as it was. -/
theorem close_true {H : Type} {enc : TypeId × Value → H} {f : Func} {s : ChangeSpec} {W W' : World} {args : Array Value} {ds gs : List (DataW H)} {before : List MemPlace} {tb : TypeId}
    (hkids : Kids P (· < P.types.size)) (hfull : ∀ t e, t < P.types.size → P.underlying t = some (.slice e) → 0 < P.cellsOf e)
    (hpar : ∀ t ∈ f.params.toList, t < P.types.size) (hrt : f.resultTypes = #[tb]) (htb : P.underlying tb = some .bool) (hv : s.vars = [])
    (hfn : (s.fn H (ds ++ gs)).results = [.lit (.bool true)] ∧ (s.fn H (ds ++ gs)).args = ds ∧ (s.fn H (ds ++ gs)).vars = [])
    (hW : DataW.Whole enc P f.params.toList s.vars false W args.toList ds gs before) (hm : Mem.le (memOf W) (memOf W')) :
    s.post enc P f false true false false W args (.bool true) W' := by
  have hlt := hW.lt
  have hW' := hW
  obtain ⟨p, q, hA, hV, rfl, _, _⟩ := hW
  rw [hv] at hV
  obtain ⟨rfl, rfl⟩ := trodVars_none hV
  have hg := grown hm
  refine ⟨ds, [], p ++ [], [], p, [], hW', ?_, ?_, ?_, ?_, fun h => by cases h⟩
  · rw [hfn.1, hrt]
    exact trodAll_cons_mk (shut_bool htb _) trodAll_mk0
  · rw [hfn.2.1]
    exact DataW.TrodAll.respare hkids hfull hpar (trodAll_later hm hA) (fun x hx => by simpa using hlt x (by simpa using hx))
  · rw [hfn.2.2, hv]; exact rfl
  · exact World.keptBut_mono (fun _ h => h.elim) hg.1
theorem small_all {H : Type} {l : List (DataW H)} (h : Rows.uptoSmall H l = true) {d : DataW H} (hd : d ∈ l) : Rows.uptoBulk d ≤ 1048576 := by
  have h' : Rows.uptoBulkAll l ≤ 1048576 := of_decide_eq_true h
  have := part_le hd
  omega
end Go.Proofs.Ythnokijkdobdfaa
