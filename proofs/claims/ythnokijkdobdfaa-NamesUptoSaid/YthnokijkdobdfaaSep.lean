/- This file proves the laws of a small separation logic over the model's memory: what is kept of blocks and of data while operations run. No conditions. -/
import Derived.WalkKit
set_option linter.unusedVariables false
set_option linter.unusedSimpArgs false
namespace Go.Proofs.Ythnokijkdobdfaa
open Go

/-- What lies at a place: a block, or (at place 0) the world outside. -/
inductive Ent where
  | ob (o : Obj)
  | ext (os : Os) (out : Array (Nat × ByteArray))
/-- A piece of memory: some blocks, each with what it holds (block b at place b + 1). -/
abbrev Mem := Nat → Option Ent
def Mem.le (m m' : Mem) : Prop := ∀ b o, m b = some o → m' b = some o
def Mem.disj (m m' : Mem) : Prop := ∀ b, m b = none ∨ m' b = none
def memOf (w : World) : Mem
  | 0 => some (.ext w.os w.output)
  | b + 1 => (w.heap[b]?).map .ob
theorem mem_ob {w : World} {b : Nat} {o : Obj} (h : memOf w (b + 1) = some (.ob o)) : w.heap[b]? = some o := by
  simp only [memOf] at h
  cases hb : w.heap[b]? with
  | none => rw [hb] at h; cases h
  | some o' => rw [hb] at h; simp at h; rw [h]
theorem ob_mem {w : World} {b : Nat} {o : Obj} (h : w.heap[b]? = some o) : memOf w (b + 1) = some (.ob o) := by simp [memOf, h]

theorem Mem.le_refl (m : Mem) : Mem.le m m := fun _ _ h => h
theorem Mem.le_trans {a b c : Mem} (h : Mem.le a b) (h' : Mem.le b c) : Mem.le a c := fun x o e => h' x o (h x o e)
theorem Mem.disj_symm {a b : Mem} (h : Mem.disj a b) : Mem.disj b a := fun x => (h x).symm
theorem Mem.disj_le {a b a' b' : Mem} (h : Mem.disj a b) (ha : Mem.le a' a) (hb : Mem.le b' b) : Mem.disj a' b' := by
  intro x
  cases h1 : a' x with
  | none => exact .inl rfl
  | some o =>
    cases h2 : b' x with
    | none => exact .inr rfl
    | some o' =>
      have e1 := ha _ _ h1
      have e2 := hb _ _ h2
      rcases h x with e | e
      · rw [e1] at e; cases e
      · rw [e2] at e; cases e

def Mem.join (a b : Mem) : Mem := fun x => match a x with | some o => some o | none => b x
theorem Mem.le_joinL (a b : Mem) : Mem.le a (Mem.join a b) := fun x o h => by simp [Mem.join, h]
theorem Mem.le_joinR {a b : Mem} (h : Mem.disj a b) : Mem.le b (Mem.join a b) := fun x o e => by
  rcases h x with h1 | h1
  · simp [Mem.join, h1, e]
  · rw [e] at h1; cases h1
theorem Mem.join_le {a b c : Mem} (ha : Mem.le a c) (hb : Mem.le b c) : Mem.le (Mem.join a b) c := by
  intro x o h
  unfold Mem.join at h
  cases e : a x with
  | none => rw [e] at h; exact hb _ _ h
  | some o' => rw [e] at h; cases h; exact ha _ _ e
theorem Mem.disj_join {a b c : Mem} (ha : Mem.disj a c) (hb : Mem.disj b c) : Mem.disj (Mem.join a b) c := by
  intro x
  rcases ha x with h1 | h1
  · rcases hb x with h2 | h2
    · left; simp [Mem.join, h1, h2]
    · exact .inr h2
  · exact .inr h1

def one (b : Nat) (o : Obj) : Mem := fun x => if x = b + 1 then some (.ob o) else none
theorem one_self (b : Nat) (o : Obj) : one b o (b + 1) = some (.ob o) := by simp [one]
theorem one_le {b : Nat} {o : Obj} {m : Mem} : Mem.le (one b o) m ↔ m (b + 1) = some (.ob o) := by
  constructor
  · intro h; exact h (b + 1) _ (by simp [one])
  · intro h x o' e
    unfold one at e
    split at e
    · rename_i hx; cases e; rw [hx]; exact h
    · cases e

/-- What is known for good: of memory that is not written any more. -/
structure Fact where
  p : Mem → Prop
  mono : ∀ m m', Mem.le m m' → p m → p m'
/-- A piece that is owned: of its own memory, and of what is known for good. -/
structure Chunk where
  p : Mem → Mem → Prop
  mono : ∀ m i i', Mem.le i i' → p m i → p m i'

/-- Pieces side by side, each with memory of its own. -/
def Star : List Chunk → Mem → Mem → Prop
  | [], _, _ => True
  | c :: L, m, i => ∃ m1 m2, Mem.disj m1 m2 ∧ Mem.le m1 m ∧ Mem.le m2 m ∧ c.p m1 i ∧ Star L m2 i

theorem Star.mono {L : List Chunk} : ∀ {m m' i i' : Mem}, Mem.le m m' → Mem.le i i' → Star L m i → Star L m' i' := by
  cases L with
  | nil => intros; trivial
  | cons c L =>
    intro m m' i i' hm hi ⟨m1, m2, hd, h1, h2, hc, hs⟩
    exact ⟨m1, m2, hd, Mem.le_trans h1 hm, Mem.le_trans h2 hm, c.mono _ _ _ hi hc, Star.mono (Mem.le_refl _) hi hs⟩

/-- 'L' is 'L'' with 'c' somewhere in it. -/
inductive Pick : List Chunk → Chunk → List Chunk → Prop
  | hd {c L} : Pick (c :: L) c L
  | tl {c d L L'} : Pick L c L' → Pick (d :: L) c (d :: L')

theorem star_pick {L : List Chunk} {c : Chunk} {L' : List Chunk} (h : Pick L c L') : ∀ {m i : Mem}, Star L m i → Star (c :: L') m i := by
  induction h with
  | hd => intro m i h; exact h
  | @tl c d L L' _ ih =>
    intro m i ⟨m1, m2, hd, h1, h2, hc, hs⟩
    obtain ⟨n1, n2, hd', g1, g2, hc', hs'⟩ := ih hs
    refine ⟨n1, Mem.join m1 n2, ?_, Mem.le_trans g1 h2, Mem.join_le h1 (Mem.le_trans g2 h2), hc', m1, n2, ?_, Mem.le_joinL _ _, Mem.le_joinR ?_, hc, hs'⟩
    · exact Mem.disj_symm (Mem.disj_join (Mem.disj_le hd (Mem.le_refl _) g1) (Mem.disj_symm hd'))
    · exact Mem.disj_le hd (Mem.le_refl _) g2
    · exact Mem.disj_le hd (Mem.le_refl _) g2

/-- The state: pieces that are owned, and what is known for good, in one world. -/
def St (L : List Chunk) (R : List Fact) (w : World) : Prop :=
  ∃ m i, Mem.disj m i ∧ Mem.le m (memOf w) ∧ Mem.le i (memOf w) ∧ Star L m i ∧ ∀ f ∈ R, f.p i

theorem St.pick {L L' : List Chunk} {c : Chunk} {R : List Fact} {w : World} (h : Pick L c L') (hs : St L R w) : St (c :: L') R w := by
  obtain ⟨m, i, hd, hm, hi, hst, hr⟩ := hs
  exact ⟨m, i, hd, hm, hi, star_pick h hst, hr⟩

/-- Fewer facts. -/
theorem St.facts {L : List Chunk} {R R' : List Fact} {w : World} (h : ∀ f ∈ R', f ∈ R) (hs : St L R w) : St L R' w := by
  obtain ⟨m, i, hd, hm, hi, hst, hr⟩ := hs
  exact ⟨m, i, hd, hm, hi, hst, fun f hf => hr f (h f hf)⟩

/-- Fewer pieces, in another order. -/
inductive LSub : List Chunk → List Chunk → Prop
  | nil {L} : LSub L []
  | refl {L} : LSub L L
  | cons {L L1 L' c} : Pick L c L1 → LSub L1 L' → LSub L (c :: L')
  | drop {L L' c} : LSub L L' → LSub (c :: L) L'
theorem star_sub {L L' : List Chunk} (h : LSub L L') : ∀ {m i : Mem}, Star L m i → Star L' m i := by
  induction h with
  | nil => intros; trivial
  | refl => intro m i h; exact h
  | cons hp _ ih =>
    intro m i h
    obtain ⟨m1, m2, hd, h1, h2, hc, hs⟩ := star_pick hp h
    exact ⟨m1, m2, hd, h1, h2, hc, ih hs⟩
  | drop _ ih =>
    intro m i h
    obtain ⟨m1, m2, hd, h1, h2, hc, hs⟩ := h
    exact Star.mono h2 (Mem.le_refl _) (ih hs)
/-- Fewer facts. -/
def FSub (R R' : List Fact) : Prop := ∀ f ∈ R', f ∈ R
theorem FSub.refl {R : List Fact} : FSub R R := fun _ h => h
theorem FSub.nil {R : List Fact} : FSub R [] := fun _ h => by cases h
theorem FSub.cons {R R' : List Fact} {f : Fact} (h : f ∈ R) (h' : FSub R R') : FSub R (f :: R') := fun g hg => by
  cases List.mem_cons.1 hg with
  | inl e => rw [e]; exact h
  | inr e => exact h' g e
theorem FSub.drop {R R' : List Fact} {f : Fact} (h : FSub R R') : FSub (f :: R) R' := fun g hg => List.mem_cons_of_mem _ (h g hg)
theorem St.sub {L L' : List Chunk} {R R' : List Fact} {w : World} (hl : LSub L L') (h : ∀ f ∈ R', f ∈ R) (hs : St L R w) : St L' R' w := by
  obtain ⟨m, i, hd, hm, hi, hst, hr⟩ := hs
  exact ⟨m, i, hd, hm, hi, star_sub hl hst, fun f hf => hr f (h f hf)⟩

/-- What the world holds of facts. -/
theorem St.fact {L : List Chunk} {R : List Fact} {w : World} {f : Fact} (hf : f ∈ R) (hs : St L R w) : f.p (memOf w) := by
  obtain ⟨m, i, hd, hm, hi, hst, hr⟩ := hs
  exact f.mono _ _ hi (hr f hf)

theorem memOf_same {w w' : World} (h : w'.heap = w.heap) (ho : w'.os = w.os) (hu : w'.output = w.output) : memOf w' = memOf w := by
  funext k; cases k with
  | zero => simp [memOf, ho, hu]
  | succ b => simp [memOf, h]
/-- Worlds with the same heap, and the same outside. -/
theorem St.heap {L : List Chunk} {R : List Fact} {w w' : World} (h : w'.heap = w.heap) (ho : w'.os = w.os) (hu : w'.output = w.output) (hs : St L R w) : St L R w' := by
  obtain ⟨m, i, hd, hm, hi, hst, hr⟩ := hs
  rw [← memOf_same h ho hu] at hm hi
  exact ⟨m, i, hd, hm, hi, hst, hr⟩

/-- A block that is owned whole. -/
def blkO (b : Nat) (o : Obj) : Chunk := ⟨fun m _ => m (b + 1) = some (.ob o), fun _ _ _ _ h => h⟩
/-- A block of cells that is owned whole. -/
def blk (b : Nat) (T : TypeId) (vs : List Value) : Chunk := blkO b (.cells vs.toArray T (0, 0))

theorem St.newC {L : List Chunk} {R : List Fact} {w w' : World} {o : Obj} {c : Chunk} {m i : Mem} (hd : Mem.disj m i) (hm : Mem.le m (memOf w)) (hi : Mem.le i (memOf w)) (hst : Star L m i) (hr : ∀ f ∈ R, f.p i)
    (hw' : w'.heap = w.heap.push o) (ho : w'.os = w.os) (hu : w'.output = w.output) (hc : c.p (one w.heap.size o) i) : St (c :: L) R w' := by
  have hw : Mem.le (memOf w) (memOf w') := by
    intro b o' e
    cases b with
    | zero => simp only [memOf] at e ⊢; rw [ho, hu]; exact e
    | succ b =>
      have hb : b < w.heap.size := by
        rcases Nat.lt_or_ge b w.heap.size with h | h
        · exact h
        · simp [memOf, Array.getElem?_eq_none h] at e
      simp only [memOf] at e ⊢
      rw [hw', Array.getElem?_push_lt hb]
      rw [Array.getElem?_eq_getElem hb] at e
      exact e
  have hfresh : ∀ n : Mem, Mem.le n (memOf w) → n (w.heap.size + 1) = none := by
    intro n hn
    cases e : n (w.heap.size + 1) with
    | none => rfl
    | some o' => have := hn _ _ e; simp [memOf] at this
  have hone : ∀ n : Mem, Mem.le n (memOf w) → Mem.disj (one w.heap.size o) n := by
    intro n hn x
    by_cases hx : x = w.heap.size + 1
    · right; rw [hx]; exact hfresh n hn
    · left; simp [one, hx]
  have h1 : Mem.le (one w.heap.size o) (memOf w') := one_le.2 (ob_mem (by simp [hw']))
  exact ⟨Mem.join (one w.heap.size o) m, i, Mem.disj_join (hone i hi) hd, Mem.join_le h1 (Mem.le_trans hm hw), Mem.le_trans hi hw, ⟨one w.heap.size o, m, hone m hm, Mem.le_joinL _ _, Mem.le_joinR (hone m hm), hc, hst⟩, hr⟩
theorem St.new {L : List Chunk} {R : List Fact} {w : World} (o : Obj) (hs : St L R w) : St (blkO w.heap.size o :: L) R { w with heap := w.heap.push o } := by
  obtain ⟨m, i, hd, hm, hi, hst, hr⟩ := hs
  exact St.newC hd hm hi hst hr rfl rfl rfl (one_self _ _)

/-- What is owned at the head is in the world; and what becomes of it is in the world then. -/
theorem St.blk_get {L : List Chunk} {R : List Fact} {w : World} {b : Nat} {o : Obj} (hs : St (blkO b o :: L) R w) : w.heap[b]? = some o := by
  obtain ⟨m, i, hd, hm, hi, ⟨m1, m2, _, h1, _, hc, _⟩, hr⟩ := hs
  exact mem_ob (hm _ _ (h1 _ _ hc))

theorem St.put {L : List Chunk} {R : List Fact} {w w' : World} {c' : Chunk} {b : Nat} {o o' : Obj} {m i m1 m2 : Mem} (hd : Mem.disj m i) (hm : Mem.le m (memOf w)) (hi : Mem.le i (memOf w)) (hd' : Mem.disj m1 m2) (h1 : Mem.le m1 m) (h2 : Mem.le m2 m)
    (hst : Star L m2 i) (hr : ∀ f ∈ R, f.p i) (hc : m1 (b + 1) = some (.ob o)) (hb : w'.heap[b]? = some o') (hrest : ∀ x, x ≠ b → w'.heap[x]? = w.heap[x]?) (ho : w'.os = w.os) (hu : w'.output = w.output) (hnew : c'.p (one b o') i) : St (c' :: L) R w' := by
  have hmb : m (b + 1) = some (.ob o) := h1 _ _ hc
  have h2b : m2 (b + 1) = none := by
    rcases hd' (b + 1) with e | e
    · rw [hc] at e; cases e
    · exact e
  have hib : i (b + 1) = none := by
    rcases hd (b + 1) with e | e
    · rw [hmb] at e; cases e
    · exact e
  have keep : ∀ n : Mem, n (b + 1) = none → Mem.le n (memOf w) → Mem.le n (memOf w') := by
    intro n hn hle x y e
    cases x with
    | zero => have := hle 0 y e; simp only [memOf] at this ⊢; rw [ho, hu]; exact this
    | succ x =>
      by_cases hx : x = b
      · rw [hx] at e; rw [hn] at e; cases e
      · have := hle (x + 1) y e
        simp only [memOf] at this ⊢
        rw [hrest x hx]; exact this
  have hdis : ∀ n : Mem, n (b + 1) = none → Mem.disj (one b o') n := by
    intro n hn x
    by_cases hx : x = b + 1
    · right; rw [hx]; exact hn
    · left; simp [one, hx]
  refine ⟨Mem.join (one b o') m2, i, Mem.disj_join (hdis i hib) (Mem.disj_le hd h2 (Mem.le_refl _)), ?_, keep i hib hi, ⟨one b o', m2, hdis m2 h2b, Mem.le_joinL _ _, Mem.le_joinR (hdis m2 h2b), hnew, hst⟩, hr⟩
  exact Mem.join_le (one_le.2 (ob_mem hb)) (keep m2 h2b (Mem.le_trans h2 hm))
theorem St.blk_set {L : List Chunk} {R : List Fact} {w w' : World} {b : Nat} {o o' : Obj} (hs : St (blkO b o :: L) R w)
    (hb : w'.heap[b]? = some o') (hrest : ∀ x, x ≠ b → w'.heap[x]? = w.heap[x]?) (ho : w'.os = w.os) (hu : w'.output = w.output) : St (blkO b o' :: L) R w' := by
  obtain ⟨m, i, hd, hm, hi, ⟨m1, m2, hd', h1, h2, hc, hst⟩, hr⟩ := hs
  exact St.put hd hm hi hd' h1 h2 hst hr hc hb hrest ho hu (one_self _ _)

/-- An owned piece becomes known for good. -/
theorem St.freeze {L : List Chunk} {R : List Fact} {w : World} {c : Chunk} {f : Fact} (h : ∀ m i, Mem.disj m i → c.p m i → f.p (Mem.join m i)) (hs : St (c :: L) R w) : St L (f :: R) w := by
  obtain ⟨m, i, hd, hm, hi, ⟨m1, m2, hd', h1, h2, hc, hst⟩, hr⟩ := hs
  have d1 : Mem.disj m1 i := Mem.disj_le hd h1 (Mem.le_refl _)
  refine ⟨m2, Mem.join m1 i, ?_, Mem.le_trans h2 hm, Mem.join_le (Mem.le_trans h1 hm) hi, Star.mono (Mem.le_refl _) (Mem.le_joinR d1) hst, ?_⟩
  · exact Mem.disj_symm (Mem.disj_join hd' (Mem.disj_symm (Mem.disj_le hd h2 (Mem.le_refl _))))
  · intro g hg
    cases List.mem_cons.1 hg with
    | inl e => rw [e]; exact h m1 i d1 hc
    | inr e => exact g.mono _ _ (Mem.le_joinR d1) (hr g e)

/-- A piece is what is weaker. -/
theorem St.weaken {L : List Chunk} {R : List Fact} {w : World} {c c' : Chunk} (h : ∀ m i, c.p m i → c'.p m i) (hs : St (c :: L) R w) : St (c' :: L) R w := by
  obtain ⟨m, i, hd, hm, hi, ⟨m1, m2, hd', h1, h2, hc, hst⟩, hr⟩ := hs
  exact ⟨m, i, hd, hm, hi, ⟨m1, m2, hd', h1, h2, h _ _ hc, hst⟩, hr⟩
/-- A piece, with one fact's help, is what is weaker. -/
theorem St.weaken_fact {L : List Chunk} {R : List Fact} {w : World} {c c' : Chunk} {f : Fact} (hf : f ∈ R) (h : ∀ m i, f.p i → c.p m i → c'.p m i) (hs : St (c :: L) R w) : St (c' :: L) R w := by
  obtain ⟨m, i, hd, hm, hi, ⟨m1, m2, hd', h1, h2, hc, hst⟩, hr⟩ := hs
  exact ⟨m, i, hd, hm, hi, ⟨m1, m2, hd', h1, h2, h _ _ (hr f hf) hc, hst⟩, hr⟩
/-- A piece that needs no memory. -/
theorem St.emp {L : List Chunk} {R : List Fact} {w : World} {c : Chunk} (h : ∀ i, c.p (fun _ => none) i) (hs : St L R w) : St (c :: L) R w := by
  obtain ⟨m, i, hd, hm, hi, hst, hr⟩ := hs
  exact ⟨m, i, hd, hm, hi, ⟨fun _ => none, m, fun _ => .inl rfl, (fun _ _ e => by cases e), Mem.le_refl _, h i, hst⟩, hr⟩
/-- A fact that follows from facts. -/
theorem St.addFact {L : List Chunk} {R : List Fact} {w : World} {f : Fact} (h : ∀ i, (∀ g ∈ R, g.p i) → f.p i) (hs : St L R w) : St L (f :: R) w := by
  obtain ⟨m, i, hd, hm, hi, hst, hr⟩ := hs
  refine ⟨m, i, hd, hm, hi, hst, fun g hg => ?_⟩
  cases List.mem_cons.1 hg with
  | inl e => rw [e]; exact h i hr
  | inr e => exact hr g e
/-- Two pieces made one. -/
theorem St.merge {L : List Chunk} {R : List Fact} {w : World} {c d e : Chunk} (h : ∀ m1 m2 m i, Mem.disj m1 m2 → Mem.le m1 m → Mem.le m2 m → c.p m1 i → d.p m2 i → e.p m i)
    (hs : St (c :: d :: L) R w) : St (e :: L) R w := by
  obtain ⟨m, i, hd, hm, hi, ⟨m1, m2, hd', h1, h2, hc, n1, n2, hd'', g1, g2, hc', hst⟩, hr⟩ := hs
  refine ⟨m, i, hd, hm, hi, ⟨Mem.join m1 n1, n2, ?_, Mem.join_le h1 (Mem.le_trans g1 h2), Mem.le_trans g2 h2, h m1 n1 _ i ?_ (Mem.le_joinL _ _) (Mem.le_joinR ?_) hc hc', hst⟩, hr⟩
  · exact Mem.disj_join (Mem.disj_le hd' (Mem.le_refl _) g2) hd''
  · exact Mem.disj_le hd' (Mem.le_refl _) g1
  · exact Mem.disj_le hd' (Mem.le_refl _) g1
/-- The facts' memory, opened. -/
theorem St.ex {L : List Chunk} {R : List Fact} {w : World} (hs : St L R w) : ∃ i, Mem.le i (memOf w) ∧ (∀ f ∈ R, f.p i) := by
  obtain ⟨m, i, hd, hm, hi, hst, hr⟩ := hs
  exact ⟨i, hi, hr⟩
/-- The head's memory, opened beside the facts' one. -/
theorem St.head {L : List Chunk} {R : List Fact} {w : World} {c : Chunk} (hs : St (c :: L) R w) : ∃ m i, Mem.disj m i ∧ Mem.le m (memOf w) ∧ Mem.le i (memOf w) ∧ c.p m i ∧ (∀ f ∈ R, f.p i) := by
  obtain ⟨m, i, hd, hm, hi, ⟨m1, m2, hd', h1, h2, hc, hst⟩, hr⟩ := hs
  exact ⟨m1, i, Mem.disj_le hd h1 (Mem.le_refl _), Mem.le_trans h1 hm, hi, hc, hr⟩
end Go.Proofs.Ythnokijkdobdfaa
