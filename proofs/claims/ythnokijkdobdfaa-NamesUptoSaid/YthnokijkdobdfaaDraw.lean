/- This file proves that a statement whose operations may come in more than one order is walked in the order of its text, where each operation does what it does whatever others have come before it. No conditions. -/
import Derived.Test.YthnokijkdobdfaaCtl
set_option linter.unusedVariables false
set_option linter.unusedSimpArgs false
namespace Go.Proofs.Ythnokijkdobdfaa
open Go

/-- What an operation whose outcome is not known ahead has yielded. -/
structure G where
  a : Value
  b : Value
  c : Value
  d : Value
  n : Nat
abbrev Rho := Nat → G
def Rho.set (ρ : Rho) (i : Nat) (g : G) : Rho := fun j => if j = i then g else ρ j

def directB (ops : Array Oper) (i j : Nat) : Bool := match ops[j]? with
  | some o => o.after.toList.any fun e => Region.binds .any e && Nat.beq e.on i
  | none => false
/-- Operation i comes ahead of operation j, whatever order is picked. -/
def befB (ops : Array Oper) : Nat → Nat → Nat → Bool
  | 0, i, j => directB ops i j
  | f + 1, i, j => directB ops i j || (match ops[j]? with
    | some o => o.after.toList.any fun e => Region.binds .any e && befB ops f i e.on
    | none => false)
def Bef (ops : Array Oper) (i j : Nat) : Prop := ∃ f, befB ops f i j = true

/-- All that surely comes ahead of what is in 'S', looked for downward. -/
def cloB (ops : Array Oper) : Nat → List Nat → List Nat
  | 0, S => S
  | k + 1, S => bif S.any (fun j => directB ops k j) then cloB ops k (k :: S) else cloB ops k S
theorem befB_trans {ops : Array Oper} {i j : Nat} (hij : directB ops i j = true) : ∀ (f m : Nat), befB ops f j m = true → befB ops (f + 1) i m = true := by
  have key : ∀ (f m : Nat), befB ops f j m = true → ∃ f', befB ops f' i m = true ∧ f' = f + 1 := by
    intro f
    induction f with
    | zero =>
      intro m h
      refine ⟨1, ?_, rfl⟩
      simp only [befB] at h ⊢
      simp only [directB] at h
      cases ho : ops[m]? with
      | none => rw [ho] at h; cases h
      | some o =>
        rw [ho] at h
        obtain ⟨e, hm, hb⟩ := List.any_eq_true.1 h
        simp only [Bool.and_eq_true] at hb
        rw [Bool.or_eq_true]; right
        exact List.any_eq_true.2 ⟨e, hm, by simp only [Bool.and_eq_true]; exact ⟨hb.1, by rw [Nat.eq_of_beq_eq_true hb.2]; exact hij⟩⟩
    | succ f ih =>
      intro m h
      refine ⟨f + 2, ?_, rfl⟩
      rw [show f + 2 = (f + 1) + 1 from rfl, befB]
      rw [befB, Bool.or_eq_true] at h
      rw [Bool.or_eq_true]
      rcases h with h | h
      · right
        simp only [directB] at h
        cases ho : ops[m]? with
        | none => rw [ho] at h; cases h
        | some o =>
          rw [ho] at h
          obtain ⟨e, hm, hb⟩ := List.any_eq_true.1 h
          simp only [Bool.and_eq_true] at hb
          refine List.any_eq_true.2 ⟨e, hm, ?_⟩
          simp only [Bool.and_eq_true]
          refine ⟨hb.1, ?_⟩
          rw [Nat.eq_of_beq_eq_true hb.2, befB, Bool.or_eq_true]
          exact .inl hij
      · right
        cases ho : ops[m]? with
        | none => rw [ho] at h; cases h
        | some o =>
          rw [ho] at h
          obtain ⟨e, hm, hb⟩ := List.any_eq_true.1 h
          simp only [Bool.and_eq_true] at hb
          refine List.any_eq_true.2 ⟨e, hm, ?_⟩
          simp only [Bool.and_eq_true]
          obtain ⟨f', h1, h2⟩ := ih _ hb.2
          subst h2
          exact ⟨hb.1, h1⟩
  intro f m h
  obtain ⟨f', h1, rfl⟩ := key f m h
  exact h1
theorem cloB_bef {ops : Array Oper} {m : Nat} : ∀ (k : Nat) (S : List Nat), (∀ j ∈ S, j = m ∨ Bef ops j m) → ∀ j ∈ cloB ops k S, j = m ∨ Bef ops j m
  | 0, S, h => h
  | k + 1, S, h => by
    unfold cloB
    cases ha : S.any (fun j => directB ops k j) with
    | false => exact cloB_bef k S h
    | true =>
      refine cloB_bef k (k :: S) ?_
      intro j hj
      cases List.mem_cons.1 hj with
      | inl e =>
        subst e
        obtain ⟨q, hq, hd⟩ := List.any_eq_true.1 ha
        rcases h q hq with e | ⟨f, hf⟩
        · subst e; exact .inr ⟨0, hd⟩
        · exact .inr ⟨f + 1, befB_trans hd f m hf⟩
      | inr e => exact h j e
theorem clo_bef {ops : Array Oper} {m i : Nat} (hi : i < m) (h : (cloB ops m [m]).contains i = true) : Bef ops i m := by
  have := cloB_bef (ops := ops) (m := m) m [m] (fun j hj => .inl (List.mem_singleton.1 hj)) i (by simpa using h)
  rcases this with e | e
  · omega
  · exact e

/-- 'f' hangs on nothing that may come behind operation i. -/
def Ind (ops : Array Oper) (i : Nat) {β : Type} (f : Rho → β) : Prop := ∀ q g ρ, q ≠ i → ¬ Bef ops q i → f (Rho.set ρ q g) = f ρ
theorem Ind.const {ops : Array Oper} {i : Nat} {β : Type} (c : β) : Ind ops i (fun _ => c) := fun _ _ _ _ _ => rfl
theorem Ind.gh {ops : Array Oper} {i : Nat} {β : Type} {h : G → β} (j f : Nat) (hj : befB ops f j i = true) : Ind ops i (fun ρ => h (ρ j)) := fun q g ρ hq hn => by
  have : j ≠ q := fun e => hn ⟨f, e ▸ hj⟩
  simp [Rho.set, this]
theorem Ind.self {ops : Array Oper} {i : Nat} {β : Type} {h : G → β} : Ind ops i (fun ρ => h (ρ i)) := fun q g ρ hq hn => by
  simp [Rho.set, Ne.symm hq]
theorem Ind.gh2 {ops : Array Oper} {i : Nat} {β : Type} {h : G → G → β} (j k f : Nat) (hj : befB ops f j i = true) (hk : befB ops f k i = true) : Ind ops i (fun ρ => h (ρ j) (ρ k)) := fun q g ρ hq hn => by
  have h1 : j ≠ q := fun e => hn ⟨f, e ▸ hj⟩
  have h2 : k ≠ q := fun e => hn ⟨f, e ▸ hk⟩
  simp [Rho.set, h1, h2]

/-- One operation's yield. -/
structure Item where
  idx : Nat
  dst : Option Nat
  val : Rho → Value
  F : Rho → List Fact
  C : Rho → List Chunk
def alOf (its : List Item) (al0 : List (Nat × Value)) (ρ : Rho) : List (Nat × Value) := match its with
  | [] => al0
  | it :: r => match it.dst with
    | some d => (d, it.val ρ) :: alOf r al0 ρ
    | none => alOf r al0 ρ
def facts : List Item → Rho → List Fact
  | [], _ => []
  | it :: r, ρ => it.F ρ ++ facts r ρ
def chunks : List Item → Rho → List Chunk
  | [], _ => []
  | it :: r, ρ => it.C ρ ++ chunks r ρ
/-- The facts of operations that are surely ahead. -/
def factsOf (its : List Item) (use : List Nat) (ρ : Rho) : List Fact := match its with
  | [] => []
  | it :: r => bif use.any (Nat.beq it.idx) then it.F ρ ++ factsOf r use ρ else factsOf r use ρ

def Agree (ops : Array Oper) (n : Nat) (al : List (Nat × Value)) (o : Oper) (a : Act) : Prop := ∀ t v, t ∈ o.looksAt ops → ev n al (.tmp t) = some v → a.tmps[t]? = some v

section
variable (P : Program) (n : Nat) (ops : Array Oper) (Q : Exit → Act → World → Prop) (Sh : Rho → (Nat → Bool) → List Chunk) (R0 : List Fact) (al0 : List (Nat × Value))

def upS (S : Nat → Bool) (i : Nat) : Nat → Bool := fun j => bif Nat.beq j i then true else S j

/-- What an operation does, whatever others have come. -/
def Tok (i : Nat) (o : Oper) (its : List Item) (it : Item) : Prop :=
  ∀ (ρ : Rho) (S : Nat → Bool) (a : Act) (L' : List Chunk) (R' : List Fact) (w : World) (K : Act → World → Prop), S i = false → (∀ j, Bef ops j i → S j = true) → (∀ j, Bef ops i j → S j = false) → Agree ops n (alOf its al0 ρ) o a →
    (∀ it' ∈ its, Bef ops it'.idx i → ∀ f ∈ it'.F ρ, f ∈ R') → (∀ f ∈ R0, f ∈ R') → St (Sh ρ S ++ L') R' w →
    (∀ g w', St (Sh (Rho.set ρ i g) (upS S i) ++ (it.C (Rho.set ρ i g) ++ L')) (it.F (Rho.set ρ i g) ++ R') w' → K (a.put o.dst (it.val (Rho.set ρ i g))) w') →
    if Region.wanted o (yielded ops a.tmps) then o.wp P a w K Q ∨ (o.asks P a w ∧ LetsOut Q) else K (a.put o.dst undef) w

/-- The rest comes in the order of the text, behind all that is ahead of it. -/
def tailOk (m : Nat) : Bool := (List.range m).all (fun i => (cloB ops m [m]).contains i) && (List.range ops.size).all (fun t => Nat.ble t m || befB ops 0 (t - 1) t)

def DJ : Nat → List Oper → List Item → Prop
  | i, [], its => ∀ ρ, JX n Q .normal (Sh ρ (fun j => Nat.blt j i) ++ chunks its ρ) (facts its ρ ++ R0) (alOf its al0 ρ)
  | i, o :: rest, its =>
    (tailOk ops i = true ∧ ∀ ρ, J P n ops Q (o :: rest) (Sh ρ (fun j => Nat.blt j i) ++ chunks its ρ) (facts its ρ ++ R0) (alOf its al0 ρ)) ∨
    ∃ it : Item, it.idx = i ∧ it.dst = o.dst ∧ Ind ops i it.val ∧ Ind ops i it.F ∧ Ind ops i it.C ∧ Tok P n ops Q Sh R0 al0 i o its it ∧ DJ (i + 1) rest (it :: its)
end

/-- Slots are written once, and read ahead of that, or behind it, but not at random. -/
def slotsOk (ops : Array Oper) : Bool :=
  (List.range ops.size).all fun i => match ops[i]? with
    | none => false
    | some o => (List.range ops.size).all fun j => Nat.beq i j || (match ops[j]? with
      | none => false
      | some q => (match q.dst with
        | none => true
        | some d => !(o.dst == some d) && (!(o.looksAt ops).contains d || (bif Nat.blt j i then befB ops 0 j i else befB ops 0 i j))))

section
variable {P : Program} {n : Nat} {ops : Array Oper} {Q : Exit → Act → World → Prop} {Sh : Rho → (Nat → Bool) → List Chunk} {R0 : List Fact} {al0 : List (Nat × Value)}

/-- The frame, slot by slot. -/
def mkK (n : Nat) (f : Nat → Option Value) (B : Nat → Value) : Act := { tmps := Array.ofFn (n := n) (fun i => (f i).getD (B i)), defers := [] }
theorem mkK_put (f : Nat → Option Value) (B : Nat → Value) (d : Nat) (v : Value) : (mkK n f B).put (some d) v = mkK n (fun t => if t = d then some v else f t) B := by
  unfold mkK Act.put
  simp only [Act.mk.injEq, and_true]
  apply Array.ext
  · simp
  · intro i h1 h2
    simp only [Array.getElem_ofFn]
    rw [Array.getElem_setIfInBounds (by simpa using h2)]
    by_cases h : d = i
    · subst h; simp
    · rw [if_neg h, if_neg (Ne.symm h)]; exact Array.getElem_ofFn _
/-- What is known of a slot when the operations of 'S' have come. -/
def known (its : List Item) (al0 : List (Nat × Value)) (ρ : Rho) (S : Nat → Bool) (t : Nat) : Option Value := match its with
  | [] => look al0 t
  | it :: r => if it.dst = some t ∧ S it.idx = true then some (it.val ρ) else known r al0 ρ S t

theorem known_ne {its : List Item} {ρ : Rho} {S S' : Nat → Bool} {t : Nat} (h : ∀ it ∈ its, it.dst = some t → S it.idx = S' it.idx) : known its al0 ρ S t = known its al0 ρ S' t := by
  induction its with
  | nil => rfl
  | cons it r ih =>
    simp only [known]
    rw [ih (fun it' h' => h it' (List.mem_cons_of_mem _ h'))]
    by_cases hd : it.dst = some t
    · rw [h it (List.mem_cons_self ..) hd]
    · simp [hd]
theorem known_all {its : List Item} {ρ : Rho} {S : Nat → Bool} (h : ∀ it ∈ its, S it.idx = true) : known its al0 ρ S = look (alOf its al0 ρ) := by
  funext t
  induction its with
  | nil => rfl
  | cons it r ih =>
    simp only [known, alOf, h it (List.mem_cons_self ..), and_true]
    rw [ih (fun it' h' => h it' (List.mem_cons_of_mem _ h'))]
    cases hd : it.dst with
    | none => simp
    | some d =>
      simp only [look, Option.some.injEq]
      by_cases hdt : d = t
      · subst hdt; simp
      · have : Nat.beq d t = false := by
          cases hb : Nat.beq d t with
          | false => rfl
          | true => exact absurd (Nat.eq_of_beq_eq_true hb) hdt
        simp [hdt, this]
theorem known_rho {its : List Item} {ρ : Rho} {S : Nat → Bool} {q : Nat} {g : G} (h : ∀ it ∈ its, S it.idx = true → it.val (Rho.set ρ q g) = it.val ρ) (t : Nat) : known its al0 (Rho.set ρ q g) S t = known its al0 ρ S t := by
  induction its with
  | nil => rfl
  | cons it r ih =>
    simp only [known]
    rw [ih (fun it' h' => h it' (List.mem_cons_of_mem _ h'))]
    by_cases hd : it.dst = some t ∧ S it.idx = true
    · rw [if_pos hd, if_pos hd, h it (List.mem_cons_self ..) hd.2]
    · rw [if_neg hd, if_neg hd]

def edgesOk (ops : Array Oper) : Bool := (List.range ops.size).all fun i => match ops[i]? with
  | none => false
  | some o => o.after.toList.all fun e => !Region.binds .any e || Nat.blt e.on i

theorem star_perm {L L' : List Chunk} (h : L.Perm L') : ∀ {m i : Mem}, Star L m i → Star L' m i := by
  induction h with
  | nil => intro m i h; exact h
  | cons x _ ih => intro m i ⟨m1, m2, hd, h1, h2, hc, hs⟩; exact ⟨m1, m2, hd, h1, h2, hc, ih hs⟩
  | swap x y l => intro m i h; exact star_pick (.tl .hd) h
  | trans _ _ ih1 ih2 => intro m i h; exact ih2 (ih1 h)
theorem St.perm {L L' : List Chunk} {R : List Fact} {w : World} (h : L.Perm L') (hs : St L R w) : St L' R w := by
  obtain ⟨m, i, hd, hm, hi, hst, hr⟩ := hs
  exact ⟨m, i, hd, hm, hi, star_perm h hst, hr⟩

/-- The items' chunks and facts, of those that have come. -/
def chunksS (its : List Item) (S : Nat → Bool) (ρ : Rho) : List Chunk := match its with
  | [] => []
  | it :: r => (bif S it.idx then it.C ρ else []) ++ chunksS r S ρ
def factsS (its : List Item) (S : Nat → Bool) (ρ : Rho) : List Fact := match its with
  | [] => []
  | it :: r => (bif S it.idx then it.F ρ else []) ++ factsS r S ρ

/-- All that the derivation gives, item by item. -/
inductive Chain (P : Program) (n : Nat) (ops : Array Oper) (Q : Exit → Act → World → Prop) (Sh : Rho → (Nat → Bool) → List Chunk) (R0 : List Fact) (al0 : List (Nat × Value)) : Nat → List Item → Prop
  | nil : Chain P n ops Q Sh R0 al0 0 []
  | cons {i : Nat} {its : List Item} {it : Item} {o : Oper} : Chain P n ops Q Sh R0 al0 i its → it.idx = i → ops[i]? = some o → it.dst = o.dst → Ind ops i it.val → Ind ops i it.F → Ind ops i it.C → Tok P n ops Q Sh R0 al0 i o its it → Chain P n ops Q Sh R0 al0 (i + 1) (it :: its)

def Fin (P : Program) (n : Nat) (ops : Array Oper) (Q : Exit → Act → World → Prop) (Sh : Rho → (Nat → Bool) → List Chunk) (R0 : List Fact) (al0 : List (Nat × Value)) (m : Nat) (its : List Item) : Prop :=
  (m = ops.size ∧ ∀ ρ, JX n Q .normal (Sh ρ (fun j => Nat.blt j m) ++ chunks its ρ) (facts its ρ ++ R0) (alOf its al0 ρ)) ∨
  (m < ops.size ∧ tailOk ops m = true ∧ ∀ ρ, J P n ops Q (ops.toList.drop m) (Sh ρ (fun j => Nat.blt j m) ++ chunks its ρ) (facts its ρ ++ R0) (alOf its al0 ρ))

theorem dj_fin : ∀ (l : List Oper) (i : Nat) (its : List Item), ops.toList.drop i = l → i ≤ ops.size → Chain P n ops Q Sh R0 al0 i its → DJ P n ops Q Sh R0 al0 i l its → ∃ m its', Chain P n ops Q Sh R0 al0 m its' ∧ Fin P n ops Q Sh R0 al0 m its'
  | [], i, its, hl, hi, hc, h => by
    refine ⟨i, its, hc, .inl ⟨?_, h⟩⟩
    have := congrArg List.length hl
    simp at this
    omega
  | o :: rest, i, its, hl, hi, hc, h => by
    have hlt : i < ops.size := by
      have := congrArg List.length hl
      simp at this
      omega
    rcases h with ⟨ht, hj⟩ | ⟨it, h1, h2, h3, h4, h5, h6, h7⟩
    · exact ⟨i, its, hc, .inr ⟨hlt, ht, fun ρ => by rw [hl]; exact hj ρ⟩⟩
    · have ho : ops[i]? = some o := by
        have : (ops.toList.drop i)[0]? = some o := by rw [hl]; rfl
        rw [List.getElem?_drop] at this
        simpa using this
      refine dj_fin rest (i + 1) (it :: its) ?_ hlt (.cons hc h1 ho h2 h3 h4 h5 h6) h7
      rw [← List.drop_drop, hl]; rfl

theorem Chain.lt {m : Nat} {its : List Item} (h : Chain P n ops Q Sh R0 al0 m its) : ∀ it ∈ its, it.idx < m := by
  induction h with
  | nil => intro it h; cases h
  | cons hc h1 _ _ _ _ _ _ ih =>
    intro it' hi
    cases List.mem_cons.1 hi with
    | inl e => rw [e, h1]; exact Nat.lt_succ_self _
    | inr e => exact Nat.lt_succ_of_lt (ih it' e)
theorem Chain.props {m : Nat} {its : List Item} (h : Chain P n ops Q Sh R0 al0 m its) : ∀ it ∈ its, ∃ o, ops[it.idx]? = some o ∧ it.dst = o.dst ∧ Ind ops it.idx it.val ∧ Ind ops it.idx it.F ∧ Ind ops it.idx it.C := by
  induction h with
  | nil => intro it h; cases h
  | @cons i its it o hc h1 h2 h3 h4 h5 h6 _ ih =>
    intro it' hi
    cases List.mem_cons.1 hi with
    | inl e => subst e; subst h1; exact ⟨o, h2, h3, h4, h5, h6⟩
    | inr e => exact ih it' e
/-- One item, and those ahead of it. -/
theorem Chain.at {m i : Nat} {its : List Item} (h : Chain P n ops Q Sh R0 al0 m its) (hi : i < m) :
    ∃ it o below above, its = above ++ it :: below ∧ it.idx = i ∧ ops[i]? = some o ∧ it.dst = o.dst ∧ Ind ops i it.val ∧ Ind ops i it.F ∧ Ind ops i it.C ∧ Tok P n ops Q Sh R0 al0 i o below it ∧ (∀ x ∈ below, x.idx < i) ∧ (∀ x ∈ above, i < x.idx) := by
  induction h with
  | nil => omega
  | @cons k its it o hc h1 h2 h3 h4 h5 h6 h7 ih =>
    by_cases hk : i = k
    · subst hk
      exact ⟨it, o, its, [], rfl, h1, h2, h3, h4, h5, h6, h7, hc.lt, by simp⟩
    · obtain ⟨it', o', below, above, e, e1, e2, e3, e4, e5, e6, e7, e8, e9⟩ := ih (by omega)
      refine ⟨it', o', below, it :: above, by rw [e]; rfl, e1, e2, e3, e4, e5, e6, e7, e8, ?_⟩
      intro x hx
      cases List.mem_cons.1 hx with
      | inl ex => rw [ex, h1]; omega
      | inr ex => exact e9 x ex

theorem countP_set {l : List Nat} (hn : l.Nodup) {p p' : Nat → Bool} {i : Nat} (hi : i ∈ l) (h1 : p i = true) (h2 : p' i = false) (h : ∀ j, j ≠ i → p' j = p j) : l.countP p' + 1 = l.countP p := by
  induction l with
  | nil => cases hi
  | cons x r ih =>
    rw [List.nodup_cons] at hn
    by_cases hx : x = i
    · subst hx
      have : r.countP p' = r.countP p := by
        apply List.countP_congr
        intro j hj
        have : j ≠ x := fun e => hn.1 (e ▸ hj)
        rw [h j this]
      rw [List.countP_cons_of_neg (by simp [h2]), List.countP_cons_of_pos (by simp [h1]), this]
    · have hi' : i ∈ r := by cases List.mem_cons.1 hi with
        | inl e => exact absurd e.symm hx
        | inr e => exact e
      have := ih hn.2 hi'
      rw [List.countP_cons, List.countP_cons, h x hx]
      omega

/-- Which operations are left. -/
def left (ops : Array Oper) (listed : Array Bool) : Nat := (List.range ops.size).countP fun i => !listed.getD i true
def Closed (ops : Array Oper) (listed : Array Bool) : Prop := ∀ j o, ops[j]? = some o → listed.getD j false = true → ∀ e ∈ o.after, Region.binds .any e = true → listed.getD e.on false = true

theorem closed_bef {listed : Array Bool} (hc : Closed ops listed) : ∀ (f i j : Nat), befB ops f i j = true → (∃ o, ops[j]? = some o ∧ ∀ e ∈ o.after, Region.binds .any e = true → listed.getD e.on false = true) → listed.getD i false = true := by
  have hdir : ∀ i j, directB ops i j = true → (∃ o, ops[j]? = some o ∧ ∀ e ∈ o.after, Region.binds .any e = true → listed.getD e.on false = true) → listed.getD i false = true := by
    intro i j h ⟨o, ho, he⟩
    simp only [directB, ho] at h
    obtain ⟨e, hm, hb⟩ := List.any_eq_true.1 h
    simp only [Bool.and_eq_true] at hb
    have := he e (by simpa using hm) hb.1
    rw [Nat.eq_of_beq_eq_true hb.2] at this
    exact this
  intro f
  induction f with
  | zero => exact hdir
  | succ f ih =>
    intro i j h hj
    simp only [befB, Bool.or_eq_true] at h
    rcases h with h | h
    · exact hdir i j h hj
    · obtain ⟨o, ho, he⟩ := hj
      simp only [ho] at h
      obtain ⟨e, hm, hb⟩ := List.any_eq_true.1 h
      simp only [Bool.and_eq_true] at hb
      have hl := he e (by simpa using hm) hb.1
      refine ih i e.on hb.2 ?_
      have hsz : ∃ o', ops[e.on]? = some o' := by
        cases h' : ops[e.on]? with
        | some o' => exact ⟨o', rfl⟩
        | none =>
          exfalso
          have hf := hb.2
          cases f <;> simp [befB, directB, h'] at hf
      obtain ⟨o', ho'⟩ := hsz
      exact ⟨o', ho', hc e.on o' ho' hl⟩
theorem closed_Bef {listed : Array Bool} (hc : Closed ops listed) {i j : Nat} (h : Bef ops i j) (hj : listed.getD j false = true) (hsz : j < ops.size) : listed.getD i false = true := by
  obtain ⟨f, hf⟩ := h
  exact closed_bef hc f i j hf ⟨ops[j], by simp [hsz], hc j _ (by simp [hsz]) hj⟩

theorem mem_ready' {listed : Array Bool} {i : Nat} (h : i ∈ Region.ready .any ops listed) : i < ops.size ∧ listed.getD i true = false ∧ ∃ o, ops[i]? = some o ∧ ∀ e ∈ o.after, Region.binds .any e = true → listed.getD e.on false = true := by
  unfold Region.ready at h
  obtain ⟨h1, h2⟩ := List.mem_filter.1 h
  have hi := List.mem_range.1 h1
  simp only [Bool.and_eq_true, Bool.not_eq_true'] at h2
  refine ⟨hi, h2.1, ops[i], by simp [hi], ?_⟩
  have h3 := h2.2
  simp only [Array.getElem?_eq_getElem hi, Option.map_some, Option.getD_some, Array.all_eq_true'] at h3
  intro e he hb
  have := h3 e he
  simpa [hb] using this
theorem ready_of {listed : Array Bool} {i : Nat} (hi : i < ops.size) (h1 : listed.getD i true = false) (h2 : ∀ e ∈ ops[i].after, Region.binds .any e = true → listed.getD e.on false = true) : i ∈ Region.ready .any ops listed := by
  unfold Region.ready
  refine List.mem_filter.2 ⟨List.mem_range.2 hi, ?_⟩
  simp only [h1, Bool.not_false, Bool.true_and, Array.getElem?_eq_getElem hi, Option.map_some, Option.getD_some, Array.all_eq_true']
  intro e he
  cases hb : Region.binds .any e with
  | false => rfl
  | true => simpa using h2 e he hb
/-- If one is left then one is ready. -/
theorem some_ready (hedge : edgesOk ops = true) {listed : Array Bool} (hsz : listed.size = ops.size) {i : Nat} (hi : i < ops.size) (hl : listed.getD i true = false) : Region.ready .any ops listed ≠ [] := by
  induction i using Nat.strongRecOn with
  | _ i ih =>
    by_cases h : ∀ e ∈ ops[i].after, Region.binds .any e = true → listed.getD e.on false = true
    · intro h0
      have := ready_of hi hl h
      rw [h0] at this; cases this
    · have : ∃ e, e ∈ ops[i].after ∧ Region.binds .any e = true ∧ ¬ listed.getD e.on false = true := by
        apply Classical.byContradiction
        intro hno
        exact h fun e he hb => Classical.byContradiction fun hn => hno ⟨e, he, hb, hn⟩
      obtain ⟨e, he, hb, hn⟩ := this
      have h1 := List.all_eq_true.1 hedge i (List.mem_range.2 hi)
      simp only [Array.getElem?_eq_getElem hi] at h1
      have h2 := List.all_eq_true.1 h1 e (by simpa using he)
      simp only [hb, Bool.not_true, Bool.false_or] at h2
      have hlt := blt_iff.1 h2
      refine ih e.on hlt (by omega) ?_
      have : e.on < listed.size := by omega
      simp [this] at hn ⊢; exact hn

theorem getD_both' {listed : Array Bool} {i : Nat} (hi : i < listed.size) : listed.getD i true = listed.getD i false := by simp [hi]
theorem set_getD {listed : Array Bool} {i j : Nat} {b : Bool} (hi : i < listed.size) : (listed.setIfInBounds i true).getD j b = if j = i then true else listed.getD j b := by
  by_cases h : j = i
  · subst h; simp [hi]
  · rw [if_neg h]
    simp only [Array.getD_eq_getD_getElem?]
    rw [Array.getElem?_setIfInBounds_ne (Ne.symm h)]
theorem closed_set {listed : Array Bool} (hc : Closed ops listed) {i : Nat} (hi : i ∈ Region.ready .any ops listed) (hsz : listed.size = ops.size) : Closed ops (listed.setIfInBounds i true) := by
  obtain ⟨h1, h2, o, ho, he⟩ := mem_ready' hi
  intro j oj hj hl e hem hb
  rw [set_getD (by omega)] at hl ⊢
  by_cases hje : j = i
  · subst hje
    have : oj = o := Option.some.inj (hj.symm.trans ho)
    subst this
    split
    · rfl
    · exact he e hem hb
  · rw [if_neg hje] at hl
    split
    · rfl
    · exact hc j oj hj hl e hem hb
theorem left_set {listed : Array Bool} {i : Nat} (hi : i ∈ Region.ready .any ops listed) (hsz : listed.size = ops.size) : left ops (listed.setIfInBounds i true) + 1 = left ops listed := by
  obtain ⟨h1, h2, _⟩ := mem_ready' hi
  refine countP_set (List.nodup_range) (List.mem_range.2 h1) (by simp only [h2, Bool.not_false]) (by rw [set_getD (by omega)]; simp) ?_
  intro j hj
  rw [set_getD (by omega), if_neg hj]

/-- The tail, in the order of the text. -/
theorem draw_tail (hedge : edgesOk ops = true) {m : Nat} (ht : tailOk ops m = true) : ∀ (d k : Nat), ops.size - k = d → m ≤ k → k ≤ ops.size → ∀ (listed : Array Bool) (a : Act) (w : World), listed.size = ops.size →
    (∀ j, j < ops.size → (listed.getD j true = true ↔ j < k)) → Closed ops listed → wpList P ops Q (ops.toList.drop k) a w → wpAny P .any ops Q d listed a w := by
  intro d
  induction d with
  | zero =>
    intro k hd hm hk listed a w hsz hl hc h
    have hke : k = ops.size := by omega
    have : ops.toList.drop k = [] := by rw [hke]; simp
    rw [this] at h
    refine ⟨?_, h⟩
    cases hr : Region.ready .any ops listed with
    | nil => rfl
    | cons i r =>
      exfalso
      obtain ⟨h1, h2, _⟩ := mem_ready' (ops := ops) (listed := listed) (i := i) (by rw [hr]; exact List.mem_cons_self ..)
      have := (hl i h1).2 (by omega)
      rw [h2] at this; cases this
  | succ d ih =>
    intro k hd hm hk listed a w hsz hl hc h
    have hklt : k < ops.size := by omega
    have hkl : listed.getD k true = false := by
      cases hx : listed.getD k true with
      | false => rfl
      | true => exact absurd ((hl k hklt).1 hx) (by omega)
    refine ⟨fun h0 => absurd h0 (some_ready hedge hsz hklt hkl), ?_⟩
    intro i hi
    obtain ⟨h1, h2, o, ho, he⟩ := mem_ready' hi
    have hik : i = k := by
      apply Classical.byContradiction
      intro hne
      have hgt : k < i := by
        rcases Nat.lt_or_ge i k with hlt | hge
        · have := (hl i h1).2 hlt; rw [h2] at this; cases this
        · omega
      simp only [tailOk, Bool.and_eq_true] at ht
      have h3 := List.all_eq_true.1 ht.2 i (List.mem_range.2 h1)
      simp only [Bool.or_eq_true] at h3
      rcases h3 with h3 | h3
      · have := Nat.le_of_ble_eq_true h3; omega
      · have := closed_bef hc 0 (i - 1) i h3 ⟨o, ho, he⟩
        rw [← getD_both' (by omega)] at this
        have := (hl (i - 1) (by omega)).1 this
        omega
    subst hik
    have hdrop : ops.toList.drop i = ops[i] :: ops.toList.drop (i + 1) := by
      rw [List.drop_eq_getElem_cons (by simpa using h1)]; simp
    rw [hdrop] at h
    have ho' : ops[i]? = some ops[i] := by simp [h1]
    unfold wpOp
    rw [ho']
    unfold wpList at h
    have next : ∀ a' w', wpList P ops Q (ops.toList.drop (i + 1)) a' w' → wpAny P .any ops Q d (listed.setIfInBounds i true) a' w' := by
      intro a' w' h'
      refine ih (i + 1) (by omega) (by omega) (by omega) _ a' w' (by simpa using hsz) ?_ (closed_set hc hi hsz) h'
      intro j hj
      rw [set_getD (by omega)]
      by_cases hji : j = i
      · subst hji; simp
      · rw [if_neg hji, hl j hj]; omega
    show if Region.wanted ops[i] (yielded ops a.tmps) = true then _ else _
    split
    · rename_i hw
      rw [if_pos hw] at h
      exact h.imp (Oper.wp_mono next) id
    · rename_i hw
      rw [if_neg hw] at h
      exact next _ _ h

theorem mkA_mkK (al : List (Nat × Value)) (B : Nat → Value) : mkA n al B = mkK n (look al) B := rfl

theorem chunks_all {its : List Item} {S : Nat → Bool} {ρ : Rho} (h : ∀ it ∈ its, S it.idx = true) : chunksS its S ρ = chunks its ρ := by
  induction its with
  | nil => rfl
  | cons it r ih => simp only [chunksS, chunks, h it (List.mem_cons_self ..), cond_true]; rw [ih fun x hx => h x (List.mem_cons_of_mem _ hx)]
theorem facts_all {its : List Item} {S : Nat → Bool} {ρ : Rho} (h : ∀ it ∈ its, S it.idx = true) : factsS its S ρ = facts its ρ := by
  induction its with
  | nil => rfl
  | cons it r ih => simp only [factsS, facts, h it (List.mem_cons_self ..), cond_true]; rw [ih fun x hx => h x (List.mem_cons_of_mem _ hx)]
theorem mem_factsS {its : List Item} {S : Nat → Bool} {ρ : Rho} {f : Fact} : f ∈ factsS its S ρ ↔ ∃ it ∈ its, S it.idx = true ∧ f ∈ it.F ρ := by
  induction its with
  | nil => simp [factsS]
  | cons it r ih =>
    simp only [factsS, List.mem_append, ih, List.mem_cons]
    constructor
    · rintro (h | ⟨x, hx, h1, h2⟩)
      · cases hS : S it.idx with
        | false => rw [hS] at h; cases h
        | true => rw [hS] at h; exact ⟨it, .inl rfl, hS, h⟩
      · exact ⟨x, .inr hx, h1, h2⟩
    · rintro ⟨x, hx | hx, h1, h2⟩
      · subst hx; left; rw [h1]; exact h2
      · exact .inr ⟨x, hx, h1, h2⟩
theorem chunksS_congr {its : List Item} {S S' : Nat → Bool} {ρ ρ' : Rho} (h : ∀ it ∈ its, S it.idx = S' it.idx ∧ (S it.idx = true → it.C ρ = it.C ρ')) : chunksS its S ρ = chunksS its S' ρ' := by
  induction its with
  | nil => rfl
  | cons it r ih =>
    simp only [chunksS]
    rw [ih fun x hx => h x (List.mem_cons_of_mem _ hx), ← (h it (List.mem_cons_self ..)).1]
    cases hS : S it.idx with
    | false => rfl
    | true => simp only [cond_true]; rw [(h it (List.mem_cons_self ..)).2 hS]
theorem chunksS_append {a b : List Item} {S : Nat → Bool} {ρ : Rho} : chunksS (a ++ b) S ρ = chunksS a S ρ ++ chunksS b S ρ := by
  induction a with
  | nil => rfl
  | cons it r ih => simp only [List.cons_append, chunksS, ih, List.append_assoc]

/-- **Whatever order is picked.** -/
theorem draw_head (hsh : slotsOk ops = true) (hedge : edgesOk ops = true) {m : Nat} {its : List Item} (hch : Chain P n ops Q Sh R0 al0 m its) (hfin : Fin P n ops Q Sh R0 al0 m its) (hm : m ≤ ops.size) :
    ∀ (fuel : Nat) (listed : Array Bool) (ρ : Rho) (B : Nat → Value) (w : World), listed.size = ops.size → left ops listed = fuel → Closed ops listed → (∀ j, j < ops.size → m ≤ j → listed.getD j true = false) →
      St (Sh ρ (fun j => listed.getD j false) ++ chunksS its (fun j => listed.getD j false) ρ) (factsS its (fun j => listed.getD j false) ρ ++ R0) w →
      wpAny P .any ops Q fuel listed (mkK n (known its al0 ρ (fun j => listed.getD j false)) B) w := by
  intro fuel
  induction fuel with
  | zero =>
    intro listed ρ B w hsz hleft hc htail hst
    have hall : ∀ j, j < ops.size → listed.getD j true = true := by
      intro j hj
      unfold left at hleft
      rw [List.countP_eq_zero] at hleft
      have := hleft j (List.mem_range.2 hj)
      simpa using this
    have hme : m = ops.size := by
      rcases Nat.lt_or_ge m ops.size with h | h
      · have h1 := hall m h
        rw [htail m h (Nat.le_refl _)] at h1; cases h1
      · omega
    refine ⟨?_, ?_⟩
    · cases hr : Region.ready .any ops listed with
      | nil => rfl
      | cons i r =>
        exfalso
        obtain ⟨h1, h2, _⟩ := mem_ready' (ops := ops) (listed := listed) (i := i) (by rw [hr]; exact List.mem_cons_self ..)
        rw [hall i h1] at h2; cases h2
    · have hS : (fun j => listed.getD j false) = (fun j => Nat.blt j m) := by
        funext j
        rcases Nat.lt_or_ge j ops.size with h | h
        · rw [← getD_both' (by omega), hall j h, blt_iff.2 (by omega)]
        · have h1 : Nat.blt j m = false := by
            cases hb : Nat.blt j m with
            | false => rfl
            | true => exact absurd (blt_iff.1 hb) (by omega)
          rw [h1, Array.getD_eq_getD_getElem?, Array.getElem?_eq_none (by omega)]; rfl
      have hi : ∀ it ∈ its, (fun j => Nat.blt j m) it.idx = true := fun it h => blt_iff.2 (hch.lt it h)
      rw [hS] at hst ⊢
      rw [chunks_all hi, facts_all hi] at hst
      rw [known_all hi, ← mkA_mkK]
      rcases hfin with ⟨_, hf⟩ | ⟨hlt, _⟩
      · exact hf ρ B w hst
      · omega
  | succ fuel ih =>
    intro listed ρ B w hsz hleft hc htail hst
    by_cases hhead : ∃ j, j < m ∧ listed.getD j true = false
    · obtain ⟨j0, hj0, hl0⟩ := hhead
      refine ⟨fun h0 => absurd h0 (some_ready hedge hsz (by omega) hl0), ?_⟩
      intro i hi
      obtain ⟨h1, h2, o, ho, he⟩ := mem_ready' hi
      have hbefL : ∀ j, Bef ops j i → listed.getD j false = true := fun j ⟨f, hf⟩ => closed_bef hc f j i hf ⟨o, ho, he⟩
      have him : i < m := by
        rcases Nat.lt_or_ge i m with h | h
        · exact h
        · exfalso
          rcases hfin with ⟨hme, _⟩ | ⟨hlt, ht, _⟩
          · omega
          · simp only [tailOk, Bool.and_eq_true] at ht
            by_cases hm' : i = m
            · subst hm'
              have h3 := List.all_eq_true.1 ht.1 j0 (List.mem_range.2 hj0)
              have := hbefL j0 (clo_bef hj0 h3)
              rw [← getD_both' (by omega), hl0] at this; cases this
            · have h3 := List.all_eq_true.1 ht.2 i (List.mem_range.2 h1)
              simp only [Bool.or_eq_true] at h3
              rcases h3 with h3 | h3
              · have := Nat.le_of_ble_eq_true h3; omega
              · have := hbefL (i - 1) ⟨0, h3⟩
                rw [← getD_both' (by omega), htail (i - 1) (by omega) (by omega)] at this; cases this
      obtain ⟨it, o', below, above, hits, hidx, ho', hdst, hiv, hiF, hiC, htok, hbl, hab⟩ := hch.at him
      have hoo : o' = o := Option.some.inj (ho'.symm.trans ho)
      subst hoo
      have hSi : listed.getD i false = false := by rw [← getD_both' (by omega)]; exact h2
      have hslot := List.all_eq_true.1 hsh i (List.mem_range.2 h1)
      simp only [ho] at hslot
      -- what is known of another item
      have hother : ∀ x ∈ its, x.idx ≠ i → ∀ d, x.dst = some d → o'.dst ≠ some d ∧ (d ∈ o'.looksAt ops → (x.idx < i → Bef ops x.idx i) ∧ (i < x.idx → Bef ops i x.idx)) := by
        intro x hx hne d hd
        obtain ⟨ox, hox, hdx, _⟩ := hch.props x hx
        have hxs : x.idx < ops.size := (Array.getElem?_eq_some_iff.1 hox).1
        have h3 := List.all_eq_true.1 hslot x.idx (List.mem_range.2 hxs)
        simp only [Bool.or_eq_true] at h3
        rcases h3 with h3 | h3
        · exact absurd (Nat.eq_of_beq_eq_true h3).symm hne
        · simp only [hox] at h3
          rw [← hdx, hd] at h3
          simp only [Bool.and_eq_true, Bool.not_eq_true', Bool.or_eq_true] at h3
          refine ⟨by simpa using h3.1, fun hmem => ?_⟩
          have hc1 : (o'.looksAt ops).contains d = true := by simpa using hmem
          have h4 := h3.2.resolve_left (by rw [hc1]; simp)
          constructor
          · intro hlt; rw [blt_iff.2 hlt] at h4; exact ⟨0, h4⟩
          · intro hlt
            have : Nat.blt x.idx i = false := by
              cases hb : Nat.blt x.idx i with
              | false => rfl
              | true => have := blt_iff.1 hb; omega
            rw [this] at h4; exact ⟨0, h4⟩
      have hxsz : ∀ x ∈ its, x.idx < ops.size := fun x hx => Nat.lt_of_lt_of_le (hch.lt x hx) hm
      -- an executed item does not hang on i
      have hnb : ∀ x ∈ its, listed.getD x.idx false = true → ¬ Bef ops i x.idx := by
        intro x hx hl hb
        have := closed_Bef hc hb hl (hxsz x hx)
        rw [hSi] at this; cases this
      have hxne : ∀ x ∈ its, listed.getD x.idx false = true → x.idx ≠ i := by
        intro x hx hl e; rw [e, hSi] at hl; cases hl
      have haftL : ∀ j, Bef ops i j → listed.getD j false = false := by
        intro j hb
        cases h : listed.getD j false with
        | false => rfl
        | true =>
          exfalso
          have hjs : j < ops.size := by
            rcases Nat.lt_or_ge j ops.size with h' | h'
            · exact h'
            · rw [Array.getD_eq_getD_getElem?, Array.getElem?_eq_none (by omega)] at h; cases h
          have := closed_Bef hc hb h hjs
          rw [hSi] at this; cases this
      have hT := htok ρ (fun j => listed.getD j false) (mkK n (known its al0 ρ (fun j => listed.getD j false)) B) (chunksS its (fun j => listed.getD j false) ρ) (factsS its (fun j => listed.getD j false) ρ ++ R0) w (wpAny P .any ops Q fuel (listed.setIfInBounds i true)) hSi hbefL haftL ?_ ?_ ?_ hst ?_
      · unfold wpOp; rw [ho]; exact hT
      · -- the operands
        intro t v ht hv
        have hb : Nat.blt t n = true := by
          simp only [ev] at hv
          cases hb : Nat.blt t n with
          | true => rfl
          | false => rw [hb] at hv; cases hv
        have hlk : look (alOf below al0 ρ) t = some v := by simp only [ev, hb] at hv; exact hv
        have hkn : known its al0 ρ (fun j => listed.getD j false) t = look (alOf below al0 ρ) t := by
          have e1 : known its al0 ρ (fun j => listed.getD j false) t = known its al0 ρ (fun j => Nat.blt j i) t := by
            refine known_ne fun x hx hd => ?_
            by_cases hxi : x.idx = i
            · rw [hxi, hSi]
              cases hb' : Nat.blt i i with
              | false => rfl
              | true => exact absurd (blt_iff.1 hb') (Nat.lt_irrefl _)
            · have h3 := (hother x hx hxi t hd).2 ht
              rcases Nat.lt_or_ge x.idx i with hlt | hge
              · rw [blt_iff.2 hlt]; exact hbefL _ (h3.1 hlt)
              · have hgt : i < x.idx := by omega
                have e2 : Nat.blt x.idx i = false := by
                  cases hb' : Nat.blt x.idx i with
                  | false => rfl
                  | true => have := blt_iff.1 hb'; omega
                rw [e2]
                cases hl : listed.getD x.idx false with
                | false => rfl
                | true => exact absurd (h3.2 hgt) (hnb x hx hl)
          rw [e1, ← known_all (S := fun j => Nat.blt j i) (fun x hx => blt_iff.2 (hbl x hx)), hits]
          have drop : ∀ (ab : List Item), (∀ x ∈ ab, i < x.idx) → known (ab ++ it :: below) al0 ρ (fun j => Nat.blt j i) t = known below al0 ρ (fun j => Nat.blt j i) t := by
            intro ab
            induction ab with
            | nil =>
              intro _
              have : Nat.blt it.idx i = false := by
                rw [hidx]
                cases hb' : Nat.blt i i with
                | false => rfl
                | true => exact absurd (blt_iff.1 hb') (Nat.lt_irrefl _)
              simp [known, this]
            | cons x r ihr =>
              intro h
              have hx := h x (List.mem_cons_self ..)
              have : Nat.blt x.idx i = false := by
                cases hb' : Nat.blt x.idx i with
                | false => rfl
                | true => have := blt_iff.1 hb'; omega
              simp only [List.cons_append, known, this]
              simp only [Bool.false_eq_true, and_false, if_false]
              exact ihr fun y hy => h y (List.mem_cons_of_mem _ hy)
          exact drop above hab
        have hlt := blt_iff.1 hb
        rw [hlk] at hkn
        have e3 : (mkK n (known its al0 ρ (fun j => listed.getD j false)) B).tmps[t]? = some ((known its al0 ρ (fun j => listed.getD j false) t).getD (B t)) := by
          unfold mkK; rw [Array.getElem?_eq_getElem (by simpa using hlt), Array.getElem_ofFn]
        rw [e3, hkn]; rfl
      · -- the facts of those ahead
        intro x hx hb f hf
        refine List.mem_append_left _ (mem_factsS.2 ⟨x, ?_, hbefL _ hb, hf⟩)
        rw [hits]; exact List.mem_append_right _ (List.mem_cons_of_mem _ hx)
      · intro f hf; exact List.mem_append_right _ hf
      · -- what comes then
        intro g w' hst'
        have hup : (fun j => (listed.setIfInBounds i true).getD j false) = upS (fun j => listed.getD j false) i := by
          funext j
          rw [set_getD (by omega)]
          unfold upS
          by_cases h : j = i
          · subst h; simp
          · have : Nat.beq j i = false := by
              cases hb : Nat.beq j i with
              | false => rfl
              | true => exact absurd (Nat.eq_of_beq_eq_true hb) h
            simp [h, this]
        have hact : (mkK n (known its al0 ρ (fun j => listed.getD j false)) B).put o'.dst (it.val (Rho.set ρ i g)) = mkK n (known its al0 (Rho.set ρ i g) (fun j => (listed.setIfInBounds i true).getD j false)) B := by
          have hval : ∀ x ∈ its, listed.getD x.idx false = true → x.val (Rho.set ρ i g) = x.val ρ := by
            intro x hx hl
            obtain ⟨_, _, _, hv, _⟩ := hch.props x hx
            exact hv i g ρ (Ne.symm (hxne x hx hl)) (hnb x hx hl)
          have hk1 : ∀ t, known its al0 (Rho.set ρ i g) (fun j => listed.getD j false) t = known its al0 ρ (fun j => listed.getD j false) t := fun t => known_rho hval t
          have hk2 : known its al0 (Rho.set ρ i g) (fun j => (listed.setIfInBounds i true).getD j false) = fun t => if it.dst = some t then some (it.val (Rho.set ρ i g)) else known its al0 (Rho.set ρ i g) (fun j => listed.getD j false) t := by
            funext t
            have hmem : it ∈ its := by rw [hits]; exact List.mem_append_right _ (List.mem_cons_self ..)
            by_cases hd : it.dst = some t
            · rw [if_pos hd]
              have : ∀ (ab bl : List Item), (∀ x ∈ ab ++ it :: bl, x ∈ its) → (∀ x ∈ ab, x.idx ≠ i) → known (ab ++ it :: bl) al0 (Rho.set ρ i g) (fun j => (listed.setIfInBounds i true).getD j false) t = some (it.val (Rho.set ρ i g)) := by
                intro ab
                induction ab with
                | nil => intro bl _ _; simp only [List.nil_append, known]; rw [if_pos ⟨hd, by rw [hidx, set_getD (by omega)]; simp⟩]
                | cons x r ihr =>
                  intro bl hin hne
                  have hxin := hin x (by simp)
                  have hxi := hne x (List.mem_cons_self ..)
                  have : x.dst ≠ some t := by
                    intro e
                    have := (hother x hxin hxi t e).1
                    exact this (by rw [← hdst]; exact hd)
                  simp only [List.cons_append, known, this, false_and, if_false]
                  exact ihr bl (fun y hy => hin y (by simp at hy ⊢; exact .inr hy)) (fun y hy => hne y (List.mem_cons_of_mem _ hy))
              have h9 := this above below (fun x hx => by rw [hits]; exact hx) (fun x hx => by have := hab x hx; omega)
              rw [← hits] at h9; exact h9
            · rw [if_neg hd]
              refine known_ne fun x hx hdx => ?_
              rw [set_getD (by omega)]
              by_cases hxi : x.idx = i
              · exfalso
                -- then x is 'it'
                obtain ⟨ox, hox, hdo, _⟩ := hch.props x hx
                rw [hxi, ho] at hox
                have := Option.some.inj hox
                subst this
                rw [hdo, ← hdst] at hdx
                exact hd hdx
              · rw [if_neg hxi]
          rw [hk2]
          cases hd : o'.dst with
          | none =>
            rw [hdst, hd]
            simp only [Act.put]
            congr 1
            funext t
            rw [if_neg (by simp), hk1]
          | some d =>
            rw [mkK_put, hdst, hd]
            congr 1
            funext t
            by_cases htd : t = d
            · subst htd; simp
            · rw [if_neg htd, if_neg (by intro e; exact htd (Option.some.inj e).symm), hk1]
        rw [hact]
        refine ih (listed.setIfInBounds i true) (Rho.set ρ i g) B w' (by simpa using hsz) (by have := left_set hi hsz; omega) (closed_set hc hi hsz) ?_ ?_
        · intro j hj hmj
          rw [set_getD (by omega), if_neg (by omega)]; exact htail j hj hmj
        · rw [hup]
          have hCs : ∀ x ∈ its, listed.getD x.idx false = true → x.C (Rho.set ρ i g) = x.C ρ := by
            intro x hx hl
            obtain ⟨_, _, _, _, _, hC⟩ := hch.props x hx
            exact hC i g ρ (Ne.symm (hxne x hx hl)) (hnb x hx hl)
          have hFs : ∀ x ∈ its, listed.getD x.idx false = true → x.F (Rho.set ρ i g) = x.F ρ := by
            intro x hx hl
            obtain ⟨_, _, _, _, hF, _⟩ := hch.props x hx
            exact hF i g ρ (Ne.symm (hxne x hx hl)) (hnb x hx hl)
          have hupne : ∀ j, j ≠ i → upS (fun j => listed.getD j false) i j = listed.getD j false := by
            intro j hj
            unfold upS
            have : Nat.beq j i = false := by
              cases hb : Nat.beq j i with
              | false => rfl
              | true => exact absurd (Nat.eq_of_beq_eq_true hb) hj
            rw [this]; rfl
          have hupi : upS (fun j => listed.getD j false) i i = true := by unfold upS; simp
          have hmem : ∀ x ∈ above ++ below, x ∈ its := by
            intro x hx
            rw [hits]
            rcases List.mem_append.1 hx with h | h
            · exact List.mem_append_left _ h
            · exact List.mem_append_right _ (List.mem_cons_of_mem _ h)
          have hne : ∀ x ∈ above ++ below, x.idx ≠ i := by
            intro x hx
            rcases List.mem_append.1 hx with h | h
            · have := hab x h; omega
            · have := hbl x h; omega
          have hch1 : chunksS its (upS (fun j => listed.getD j false) i) (Rho.set ρ i g) = chunksS above (fun j => listed.getD j false) ρ ++ (it.C (Rho.set ρ i g) ++ chunksS below (fun j => listed.getD j false) ρ) := by
            rw [hits, chunksS_append]
            simp only [chunksS, hidx, hupi, cond_true]
            congr 1
            · exact chunksS_congr fun x hx => ⟨hupne _ (hne x (List.mem_append_left _ hx)), fun h => hCs x (hmem x (List.mem_append_left _ hx)) (by rw [hupne _ (hne x (List.mem_append_left _ hx))] at h; exact h)⟩
            · congr 1
              exact chunksS_congr fun x hx => ⟨hupne _ (hne x (List.mem_append_right _ hx)), fun h => hCs x (hmem x (List.mem_append_right _ hx)) (by rw [hupne _ (hne x (List.mem_append_right _ hx))] at h; exact h)⟩
          have hch0 : chunksS its (fun j => listed.getD j false) ρ = chunksS above (fun j => listed.getD j false) ρ ++ chunksS below (fun j => listed.getD j false) ρ := by
            rw [hits, chunksS_append]
            simp only [chunksS, hidx, hSi, cond_false, List.nil_append]
          rw [hch0] at hst'
          rw [hch1]
          have hperm : (Sh (Rho.set ρ i g) (upS (fun j => listed.getD j false) i) ++ (it.C (Rho.set ρ i g) ++ (chunksS above (fun j => listed.getD j false) ρ ++ chunksS below (fun j => listed.getD j false) ρ))).Perm (Sh (Rho.set ρ i g) (upS (fun j => listed.getD j false) i) ++ (chunksS above (fun j => listed.getD j false) ρ ++ (it.C (Rho.set ρ i g) ++ chunksS below (fun j => listed.getD j false) ρ))) := by
            refine List.Perm.append_left _ ?_
            rw [← List.append_assoc, ← List.append_assoc]
            exact List.Perm.append_right _ List.perm_append_comm
          refine (hst'.perm hperm).facts ?_
          intro f hf
          rcases List.mem_append.1 hf with h | h
          · obtain ⟨x, hx, h3, h4⟩ := mem_factsS.1 h
            by_cases hxi : x.idx = i
            · have hxit : x = it := by
                rw [hits] at hx
                rcases List.mem_append.1 hx with h' | h'
                · have := hab x h'; omega
                · rcases List.mem_cons.1 h' with h'' | h''
                  · exact h''
                  · have := hbl x h''; omega
              subst hxit
              exact List.mem_append_left _ h4
            · rw [hupne _ hxi] at h3
              refine List.mem_append_right _ (List.mem_append_left _ (mem_factsS.2 ⟨x, hx, h3, ?_⟩))
              rw [← hFs x hx h3]; exact h4
          · exact List.mem_append_right _ (List.mem_append_right _ h)
    · -- all ahead of the tail have come
      have hall : ∀ j, j < m → listed.getD j true = true := by
        intro j hj
        cases h : listed.getD j true with
        | true => rfl
        | false => exact absurd ⟨j, hj, h⟩ hhead
      have hiff : ∀ j, j < ops.size → (listed.getD j true = true ↔ j < m) := by
        intro j hj
        constructor
        · intro h
          rcases Nat.lt_or_ge j m with h' | h'
          · exact h'
          · rw [htail j hj h'] at h; cases h
        · exact hall j
      have hleft' : left ops listed = ops.size - m := by
        unfold left
        have : (List.range ops.size).countP (fun i => !listed.getD i true) = (List.range ops.size).countP (fun i => !decide (i < m)) := by
          apply List.countP_congr
          intro j hj
          have := hiff j (List.mem_range.1 hj)
          cases h1 : listed.getD j true <;> by_cases h2 : j < m <;> simp_all
        rw [this]
        clear this hst hiff hall htail hleft hhead hc hfin hch
        have hgen : ∀ k, m ≤ k → (List.range k).countP (fun i => !decide (i < m)) = k - m := by
          intro k
          induction k with
          | zero => intro _; simp
          | succ k ihk =>
            intro hk
            rw [List.range_succ, List.countP_append, List.countP_singleton]
            by_cases hkm : m ≤ k
            · rw [ihk hkm]
              have : ¬ k < m := by omega
              simp [this]; omega
            · have hkm' : k < m := by omega
              have h0 : (List.range k).countP (fun i => !decide (i < m)) = 0 := by
                rw [List.countP_eq_zero]
                intro j hj
                have := List.mem_range.1 hj
                have : j < m := by omega
                simp [this]
              rw [h0]; simp [hkm']; omega
        exact hgen _ hm
      rcases hfin with ⟨hme, _⟩ | ⟨hlt, ht, hj⟩
      · omega
      · have hS : (fun j => listed.getD j false) = (fun j => Nat.blt j m) := by
          funext j
          rcases Nat.lt_or_ge j ops.size with h | h
          · rw [← getD_both' (by omega)]
            by_cases hjm : j < m
            · rw [hall j hjm, blt_iff.2 hjm]
            · rw [htail j h (by omega)]
              cases hb : Nat.blt j m with
              | false => rfl
              | true => exact absurd (blt_iff.1 hb) hjm
          · have h1 : Nat.blt j m = false := by
              cases hb : Nat.blt j m with
              | false => rfl
              | true => exact absurd (blt_iff.1 hb) (by omega)
            rw [h1, Array.getD_eq_getD_getElem?, Array.getElem?_eq_none (by omega)]; rfl
        have hi : ∀ it ∈ its, (fun j => Nat.blt j m) it.idx = true := fun it h => blt_iff.2 (hch.lt it h)
        rw [hS] at hst ⊢
        rw [chunks_all hi, facts_all hi] at hst
        rw [known_all hi, ← mkA_mkK]
        exact draw_tail hedge ht (fuel + 1) m (by omega) (Nat.le_refl _) hm listed _ w hsz hiff hc (hj ρ B w hst)
end
end Go.Proofs.Ythnokijkdobdfaa
