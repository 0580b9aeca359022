/- This file proves one rule for each kind of operation: what it does to the frame, and to the pieces of memory. No conditions. -/
import Derived.Test.YthnokijkdobdfaaEnc
set_option linter.unusedVariables false
set_option linter.unusedSimpArgs false
namespace Go.Proofs.Ythnokijkdobdfaa
open Go

/-! ### The frame -/
def look : List (Nat × Value) → Nat → Option Value
  | [], _ => none
  | (d, v) :: r, t => bif Nat.beq d t then some v else look r t

def mkA (n : Nat) (al : List (Nat × Value)) (B : Nat → Value) : Act :=
  { tmps := Array.ofFn (n := n) (fun i => (look al i).getD (B i)), defers := [] }

theorem mkA_put (n : Nat) (al : List (Nat × Value)) (B : Nat → Value) (d : Nat) (v : Value) : (mkA n al B).put (some d) v = mkA n ((d, v) :: al) B := by
  unfold mkA Act.put
  simp only [Act.mk.injEq, and_true]
  apply Array.ext
  · simp
  · intro i h1 h2
    simp only [Array.getElem_ofFn, look]
    rw [Array.getElem_setIfInBounds]
    by_cases h : d = i
    · subst h; simp
    · have : Nat.beq d i = false := by
        cases hb : Nat.beq d i with
        | false => rfl
        | true => exact absurd (Nat.eq_of_beq_eq_true hb) h
      rw [if_neg h, this]; exact Array.getElem_ofFn _
    · simpa using h2

theorem mkA_putNone (n : Nat) (al : List (Nat × Value)) (B : Nat → Value) (v : Value) : (mkA n al B).put none v = mkA n al B := rfl

/-- What an operand stands for. -/
def ev (n : Nat) (al : List (Nat × Value)) : Operand → Option Value
  | .tmp t => bif Nat.blt t n then look al t else none
  | .const v => some v
  | .global g => some (.pointer (some ⟨g, 0, none⟩))
  | .func f => some (.func (.func f) #[] #[])

theorem blt_iff {a b : Nat} : Nat.blt a b = true ↔ a < b := by
  constructor
  · intro h; exact Nat.le_of_ble_eq_true h
  · intro h; exact Nat.ble_eq_true_of_le h
theorem ev_eval {n : Nat} {al : List (Nat × Value)} {B : Nat → Value} {x : Operand} {v : Value} (h : ev n al x = some v) : (mkA n al B).eval x = v := by
  cases x with
  | tmp t =>
    simp only [ev] at h
    cases hb : Nat.blt t n with
    | false => rw [hb] at h; cases h
    | true =>
      rw [hb] at h
      have ht : t < n := blt_iff.1 hb
      have h' : look al t = some v := h
      simp [Act.eval, mkA, ht, h']
  | const v' => simp only [ev] at h; cases h; rfl
  | global g => simp only [ev] at h; cases h; rfl
  | func f => simp only [ev] at h; cases h; rfl
theorem look_tmps {n : Nat} {al : List (Nat × Value)} {B : Nat → Value} {t : Nat} {v : Value} (h : ev n al (.tmp t) = some v) : (mkA n al B).tmps[t]? = some v := by
  simp only [ev] at h
  cases hb : Nat.blt t n with
  | false => rw [hb] at h; cases h
  | true =>
    rw [hb] at h
    have ht : t < n := blt_iff.1 hb
    have h' : look al t = some v := h
    simp [mkA, ht, h']

/-! ### The judgement on a region's operations -/
def J (P : Program) (n : Nat) (ops : Array Oper) (Q : Exit → Act → World → Prop) (l : List Oper) (L : List Chunk) (R : List Fact) (al : List (Nat × Value)) : Prop :=
  ∀ B w, St L R w → wpList P ops Q l (mkA n al B) w
/-- What holds at an exit. -/
def JX (n : Nat) (Q : Exit → Act → World → Prop) (e : Exit) (L : List Chunk) (R : List Fact) (al : List (Nat × Value)) : Prop :=
  ∀ B w, St L R w → Q e (mkA n al B) w
/-- The judgement on code. -/
def JC (P : Program) (n : Nat) (c : Code) (Q : Exit → Act → World → Prop) (L : List Chunk) (R : List Fact) (al : List (Nat × Value)) : Prop :=
  ∀ B w, St L R w → c.wp P Q (mkA n al B) w

section
variable {P : Program} {n : Nat} {ops : Array Oper} {Q : Exit → Act → World → Prop} {rest : List Oper} {L : List Chunk} {R : List Fact} {al : List (Nat × Value)}

theorem J.nil (h : JX n Q .normal L R al) : J P n ops Q [] L R al := fun B w hs => h B w hs

theorem J.step {o : Oper} (hg : o.guard = none)
    (h : ∀ B w, St L R w → o.wp P (mkA n al B) w (wpList P ops Q rest) Q ∨ (o.asks P (mkA n al B) w ∧ LetsOut Q)) : J P n ops Q (o :: rest) L R al := by
  intro B w hs
  unfold wpList
  rw [if_pos (by simp [Region.wanted, hg])]
  exact h B w hs

/-- An operation that yields a value and leaves a state. -/
theorem J.yield {o : Oper} {d : Nat} {v : Value} {L' : List Chunk} {R' : List Fact} (hg : o.guard = none) (hd : o.dst = some d)
    (h : ∀ B w, St L R w → ∃ w', (execOp (mkA n al B).eval o).run P w = .ok (.value v) w' ∧ St L' R' w')
    (k : J P n ops Q rest L' R' ((d, v) :: al)) : J P n ops Q (o :: rest) L R al :=
  J.step hg fun B w hs => .inl <| by
    obtain ⟨w', hr, hs'⟩ := h B w hs
    unfold Oper.wp
    rw [hr, Oper.upon_value, hd, mkA_put]
    exact k B w' hs'
/-- The same, where what it yields is not known ahead. -/
theorem J.yieldEx {γ : Type} {o : Oper} {d : Nat} {v : γ → Value} {L' : γ → List Chunk} {R' : γ → List Fact} (hg : o.guard = none) (hd : o.dst = some d)
    (h : ∀ B w, St L R w → ∃ g w', (execOp (mkA n al B).eval o).run P w = .ok (.value (v g)) w' ∧ St (L' g) (R' g) w')
    (k : ∀ g, J P n ops Q rest (L' g) (R' g) ((d, v g) :: al)) : J P n ops Q (o :: rest) L R al :=
  J.step hg fun B w hs => .inl <| by
    obtain ⟨g, w', hr, hs'⟩ := h B w hs
    unfold Oper.wp
    rw [hr, Oper.upon_value, hd, mkA_put]
    exact k g B w' hs'
/-- An operation that yields nothing. -/
theorem J.skip {o : Oper} {L' : List Chunk} {R' : List Fact} (hg : o.guard = none) (hd : o.dst = none)
    (h : ∀ B w, St L R w → ∃ w', (execOp (mkA n al B).eval o).run P w = .ok .skip w' ∧ St L' R' w')
    (k : J P n ops Q rest L' R' al) : J P n ops Q (o :: rest) L R al :=
  J.step hg fun B w hs => .inl <| by
    obtain ⟨w', hr, hs'⟩ := h B w hs
    unfold Oper.wp
    rw [hr, Oper.upon_skip, hd, mkA_putNone]
    exact k B w' hs'
/-- The world is let alone. -/
theorem J.pure {o : Oper} {d : Nat} {v : Value} (hg : o.guard = none) (hd : o.dst = some d)
    (h : ∀ B w, St L R w → (execOp (mkA n al B).eval o).run P w = .ok (.value v) w)
    (k : J P n ops Q rest L R ((d, v) :: al)) : J P n ops Q (o :: rest) L R al :=
  J.yield hg hd (fun B w hs => ⟨w, h B w hs, hs⟩) k

/-! ### Guards -/
def nthO : List Oper → Nat → Option Oper
  | [], _ => none
  | o :: _, 0 => some o
  | _ :: r, i + 1 => nthO r i
theorem nthO_eq : ∀ (l : List Oper) (i : Nat), nthO l i = l[i]?
  | [], _ => by simp [nthO]
  | _ :: _, 0 => rfl
  | _ :: r, i + 1 => by simp [nthO, nthO_eq r i]
/-- What a guard's slot holds. -/
def gv (n : Nat) (al : List (Nat × Value)) (ops : List Oper) (i : Nat) : Option Bool := match nthO ops i with
  | some o => match o.dst with
    | some t => match ev n al (.tmp t) with
      | some (.bool b) => some b
      | _ => none
    | none => none
  | none => none
theorem gv_spec {n : Nat} {al : List (Nat × Value)} {l : List Oper} {i : Nat} {b : Bool} (h : gv n al l i = some b) : ∃ o t, l.toArray[i]? = some o ∧ o.dst = some t ∧ ev n al (.tmp t) = some (.bool b) := by
  unfold gv at h
  rw [nthO_eq] at h
  cases ho : l[i]? with
  | none => rw [ho] at h; cases h
  | some o =>
    rw [ho] at h
    simp only at h
    cases hd : o.dst with
    | none => rw [hd] at h; cases h
    | some t =>
      rw [hd] at h
      simp only at h
      refine ⟨o, t, by simpa using ho, hd, ?_⟩
      split at h
      · rename_i b' he; rw [he]; cases h; rfl
      · cases h
theorem J.guardNo {l : List Oper} {d : Nat} {op : Go.Op} {ty : TypeId} {pos : String} {aft : Array Edge} {i : Nat} {b : Bool} (hv : gv n al l i = some (!b))
    (k : J P n l.toArray Q rest L R ((d, undef) :: al)) : J P n l.toArray Q (⟨some d, op, ty, pos, aft, some (i, b)⟩ :: rest) L R al := by
  obtain ⟨oi, t, hi, ht, he⟩ := gv_spec hv
  intro B w hs
  unfold wpList
  have hw : Region.wanted ⟨some d, op, ty, pos, aft, some (i, b)⟩ (yielded l.toArray (mkA n al B).tmps) = false := by
    simp only [Region.wanted, yielded, hi, Option.bind_some, ht, look_tmps he]
    cases b <;> rfl
  rw [if_neg (by simp [hw]), mkA_put]
  exact k B w hs
theorem J.guardYes {l : List Oper} {dst : Option Tmp} {op : Go.Op} {ty : TypeId} {pos : String} {aft : Array Edge} {i : Nat} {b : Bool} (hv : gv n al l i = some b)
    (k : J P n l.toArray Q (⟨dst, op, ty, pos, aft, none⟩ :: rest) L R al) : J P n l.toArray Q (⟨dst, op, ty, pos, aft, some (i, b)⟩ :: rest) L R al := by
  obtain ⟨oi, t, hi, ht, he⟩ := gv_spec hv
  intro B w hs
  have hw : Region.wanted (⟨dst, op, ty, pos, aft, some (i, b)⟩ : Oper) (yielded l.toArray (mkA n al B).tmps) = true := by
    simp only [Region.wanted, yielded, hi, Option.bind_some, ht, look_tmps he]
    cases b <;> rfl
  have := k B w hs
  unfold wpList at this ⊢
  rw [if_pos (by simp [Region.wanted])] at this
  rw [if_pos hw]
  exact this

/-! ### Changes of what is said of the state -/
theorem J.conseq {l : List Oper} {L' : List Chunk} {R' : List Fact} (h : ∀ w, St L R w → St L' R' w) (k : J P n ops Q l L' R' al) : J P n ops Q l L R al := fun B w hs => k B w (h w hs)
theorem J.conseqEx {γ : Type} {l : List Oper} {L' : γ → List Chunk} {R' : γ → List Fact} (h : ∀ w, St L R w → ∃ g, St (L' g) (R' g) w) (k : ∀ g, J P n ops Q l (L' g) (R' g) al) : J P n ops Q l L R al :=
  fun B w hs => let ⟨g, hg⟩ := h w hs; k g B w hg
theorem J.pick {l : List Oper} {c : Chunk} {L' : List Chunk} (h : Pick L c L') (k : J P n ops Q l (c :: L') R al) : J P n ops Q l L R al := J.conseq (fun _ hs => hs.pick h) k
/-- What is known of the state at this point. -/
theorem J.know {l : List Oper} {p : Prop} (h : ∀ w, St L R w → p) (k : p → J P n ops Q l L R al) : J P n ops Q l L R al := fun B w hs => k (h w hs) B w hs
theorem JC.know {c : Code} {p : Prop} (h : ∀ w, St L R w → p) (k : p → JC P n c Q L R al) : JC P n c Q L R al := fun B w hs => k (h w hs) B w hs
theorem JC.conseq {c : Code} {L' : List Chunk} {R' : List Fact} (h : ∀ w, St L R w → St L' R' w) (k : JC P n c Q L' R' al) : JC P n c Q L R al := fun B w hs => k B w (h w hs)
theorem JC.conseqEx {γ : Type} {c : Code} {L' : γ → List Chunk} {R' : γ → List Fact} (h : ∀ w, St L R w → ∃ g, St (L' g) (R' g) w) (k : ∀ g, JC P n c Q (L' g) (R' g) al) : JC P n c Q L R al :=
  fun B w hs => let ⟨g, hg⟩ := h w hs; k g B w hg
theorem JC.pick {c : Code} {d : Chunk} {L' : List Chunk} (h : Pick L d L') (k : JC P n c Q (d :: L') R al) : JC P n c Q L R al := JC.conseq (fun _ hs => hs.pick h) k
theorem JX.conseq {e : Exit} {L' : List Chunk} {R' : List Fact} (h : ∀ w, St L R w → St L' R' w) (k : JX n Q e L' R' al) : JX n Q e L R al := fun B w hs => k B w (h w hs)

/-! ### Plain operations -/
theorem r_move {d : Nat} {x : Operand} {v : Value} {ty : TypeId} {pos : String} {aft : Array Edge} (hx : ev n al x = some v)
    (k : J P n ops Q rest L R ((d, v) :: al)) : J P n ops Q (⟨some d, .move x, ty, pos, aft, none⟩ :: rest) L R al :=
  J.pure rfl rfl (fun B w _ => by show Result.ok (Next.value _) w = _; rw [ev_eval hx]) k
theorem r_assign {d : Nat} {x : Operand} {v : Value} {ty : TypeId} {pos : String} {aft : Array Edge} (hx : ev n al x = some v)
    (k : J P n ops Q rest L R ((d, v) :: al)) : J P n ops Q (⟨some d, .assign x, ty, pos, aft, none⟩ :: rest) L R al :=
  J.pure rfl rfl (fun B w _ => by show Result.ok (Next.value _) w = _; rw [ev_eval hx]) k
theorem r_pickT {d : Nat} {c x y : Operand} {v : Value} {ty : TypeId} {pos : String} {aft : Array Edge} (hc : ev n al c = some (.bool true)) (hx : ev n al x = some v)
    (k : J P n ops Q rest L R ((d, v) :: al)) : J P n ops Q (⟨some d, .pick c x y, ty, pos, aft, none⟩ :: rest) L R al :=
  J.pure rfl rfl (fun B w _ => by simp [execOp, ev_eval hc, ev_eval hx, asBool, bind, pure, Sem.bind, Sem.run]) k
theorem r_pickF {d : Nat} {c x y : Operand} {v : Value} {ty : TypeId} {pos : String} {aft : Array Edge} (hc : ev n al c = some (.bool false)) (hy : ev n al y = some v)
    (k : J P n ops Q rest L R ((d, v) :: al)) : J P n ops Q (⟨some d, .pick c x y, ty, pos, aft, none⟩ :: rest) L R al :=
  J.pure rfl rfl (fun B w _ => by simp [execOp, ev_eval hc, ev_eval hy, asBool, bind, pure, Sem.bind, Sem.run]) k

/-- Arithmetic and comparison of integers. -/
theorem r_bin {d : Nat} {op : BinOp} {x y : Operand} {k : IntKind} {a b : Int} {v : Value} {T U ty : TypeId} {pos : String} {aft : Array Edge} (hx : ev n al x = some (.int k a)) (hy : ev n al y = some (.int k b))
    (hv : ∀ w : World, (binOp op T (.int k a) (.int k b)).run P w = .ok v w)
    (h : J P n ops Q rest L R ((d, v) :: al)) : J P n ops Q (⟨some d, .binOp op T x y U, ty, pos, aft, none⟩ :: rest) L R al :=
  J.pure rfl rfl (fun B w _ => by
    have e : (execOp (mkA n al B).eval ⟨some d, .binOp op T x y U, ty, pos, aft, none⟩) = (do let v ← (do eqGuard op T x y (.int k a) (.int k b); binOp op T (.int k a) (.int k b)); pure (Next.value v)) := by
      simp only [execOp, ev_eval hx, ev_eval hy]
    rw [e]
    have g : eqGuard op T x y (.int k a) (.int k b) = pure () := by
      unfold eqGuard; cases op <;> rfl
    rw [g]
    show (binOp op T (.int k a) (.int k b) >>= fun v => Sem.pure (Next.value v)).run P w = _
    rw [Sem.run_bind, hv w]; rfl) h
end
end Go.Proofs.Ythnokijkdobdfaa
