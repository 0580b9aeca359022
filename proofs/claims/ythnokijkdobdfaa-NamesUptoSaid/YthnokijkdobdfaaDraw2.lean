/- This file proves one rule for each kind of operation inside a statement whose order is open. No conditions. -/
import Derived.Test.YthnokijkdobdfaaDraw
set_option linter.unusedVariables false
set_option linter.unusedSimpArgs false
namespace Go.Proofs.Ythnokijkdobdfaa
open Go

section
variable {P : Program} {n : Nat} {Q : Exit → Act → World → Prop} {Sh : Rho → (Nat → Bool) → List Chunk} {R0 : List Fact} {al0 : List (Nat × Value)}

theorem known_none (its : List Item) (al0 : List (Nat × Value)) (ρ : Rho) : known its al0 ρ (fun _ => false) = look al0 := by
  funext t
  induction its with
  | nil => rfl
  | cons it r ih => simp only [known]; simp [ih]
theorem chunks_none (its : List Item) (ρ : Rho) : chunksS its (fun _ => false) ρ = [] := by
  induction its with
  | nil => rfl
  | cons it r ih => simp only [chunksS, cond_false, List.nil_append, ih]
theorem facts_none (its : List Item) (ρ : Rho) : factsS its (fun _ => false) ρ = [] := by
  induction its with
  | nil => rfl
  | cons it r ih => simp only [factsS, cond_false, List.nil_append, ih]
theorem jc_draw {id : Nat} {l : List Oper} {L : List Chunk} (hm : P.follows .mixedOrders = true) (hsl : slotsOk l.toArray = true) (hed : edgesOk l.toArray = true) (Sh : Rho → (Nat → Bool) → List Chunk) (hL : ∀ ρ, Sh ρ (fun _ => false) = L)
    (h : DJ P n l.toArray Q Sh R0 al0 0 l []) : JC P n (.region id l.toArray true) Q L R0 al0 := by
  intro B w hs
  obtain ⟨m, its, hch, hfin⟩ := dj_fin l 0 [] (by simp) (Nat.zero_le _) .nil h
  have hmle : m ≤ l.toArray.size := by
    rcases hfin with ⟨hm, _⟩ | ⟨hm, _⟩ <;> omega
  refine wp_region_any hm ?_
  have hrep : (fun j => (Array.replicate l.toArray.size false).getD j false) = fun _ => false := by
    funext j
    rcases Nat.lt_or_ge j l.length with h | h
    · simp [h]
    · rw [Array.getD_eq_getD_getElem?, Array.getElem?_eq_none (by simpa using h)]; rfl
  have hk := known_none its al0 (fun _ => ⟨undef, undef, undef, undef, 0⟩)
  have hc0 := chunks_none its (fun _ => ⟨undef, undef, undef, undef, 0⟩)
  have hf0 := facts_none its (fun _ => ⟨undef, undef, undef, undef, 0⟩)
  have := draw_head hsl hed hch hfin hmle l.toArray.size (Array.replicate l.toArray.size false) (fun _ => ⟨undef, undef, undef, undef, 0⟩) B { w with drawn := w.drawn + 1 } (by simp) ?_ ?_ ?_ ?_
  · rw [hrep, hk, ← mkA_mkK] at this; exact this
  · unfold left
    have : ∀ k, k ≤ l.toArray.size → (List.range k).countP (fun i => !(Array.replicate l.toArray.size false).getD i true) = k := by
      intro k hk
      induction k with
      | zero => rfl
      | succ k ih =>
        rw [List.range_succ, List.countP_append, ih (by omega), List.countP_singleton]
        have : k < l.length := by have : l.toArray.size = l.length := by simp
                                  omega
        simp [this]
    exact this _ (Nat.le_refl _)
  · intro j o ho hl
    have : (Array.replicate l.toArray.size false).getD j false = false := congrFun hrep j
    rw [this] at hl; cases hl
  · intro j hj _
    have : j < l.length := by simpa using hj
    simp [this]
  · rw [hrep, hc0, hf0, hL, List.append_nil, List.nil_append]
    exact hs.heap rfl rfl rfl

variable {ops : Array Oper} {i : Nat} {rest : List Oper} {its : List Item} {d : Nat} {x y : Operand} {T ty : TypeId} {pos : String} {aft : Array Edge}

theorem agree_ev {al : List (Nat × Value)} {o : Oper} {a : Act} {v : Value} (h : Agree ops n al o a) (hx : x ∈ o.op.operands) (he : ev n al x = some v) : a.eval x = v := by
  cases x with
  | tmp t =>
    have : a.tmps[t]? = some v := h t v (List.mem_append_left _ (List.mem_filterMap.2 ⟨.tmp t, by simpa using hx, rfl⟩)) he
    simp [Act.eval, this]
  | const v' => simp only [ev] at he; cases he; rfl
  | global g => simp only [ev] at he; cases he; rfl
  | func f => simp only [ev] at he; cases he; rfl

theorem Rho.set_same (ρ : Rho) (i : Nat) : Rho.set ρ i (ρ i) = ρ := by
  funext j; unfold Rho.set; split
  · rename_i h; rw [h]
  · rfl

/-- What is the state when an operation comes up. -/
structure Now (ops : Array Oper) (n : Nat) (Sh : Rho → (Nat → Bool) → List Chunk) (R0 : List Fact) (al0 : List (Nat × Value)) (i : Nat) (its : List Item) (o : Oper) (ρ : Rho) (S : Nat → Bool) (a : Act) (L' : List Chunk) (R' : List Fact) (w : World) : Prop where
  hS : S i = false
  agree : Agree ops n (alOf its al0 ρ) o a
  deps : ∀ it' ∈ its, Bef ops it'.idx i → ∀ f ∈ it'.F ρ, f ∈ R'
  base : ∀ f ∈ R0, f ∈ R'
  st : St (Sh ρ S ++ L') R' w

/-- An operation, walked by itself. -/
def DN (P : Program) (n : Nat) (ops : Array Oper) (Q : Exit → Act → World → Prop) (Sh : Rho → (Nat → Bool) → List Chunk) (R0 : List Fact) (al0 : List (Nat × Value)) (i : Nat) (o : Oper) (rest : List Oper) (its : List Item) : Prop :=
  ∃ it : Item, it.idx = i ∧ it.dst = o.dst ∧ Ind ops i it.val ∧ Ind ops i it.F ∧ Ind ops i it.C ∧ Tok P n ops Q Sh R0 al0 i o its it ∧ DJ P n ops Q Sh R0 al0 (i + 1) rest (it :: its)
theorem dj {o : Oper} (h : DN P n ops Q Sh R0 al0 i o rest its) : DJ P n ops Q Sh R0 al0 i (o :: rest) its := .inr h
/-- An operation that yields a value and lets the world alone. -/
theorem d_pure {o : Oper} {v : Rho → Value} (hg : o.guard = none) (hd : o.dst = some d) (hSh : ∀ ρ g S, S i = false → Sh (Rho.set ρ i g) (upS S i) = Sh ρ S) (hi : Ind ops i v)
    (h : ∀ ρ S a L' R' w, Now ops n Sh R0 al0 i its o ρ S a L' R' w → (execOp a.eval o).run P w = .ok (.value (v ρ)) w)
    (k : DJ P n ops Q Sh R0 al0 (i + 1) rest (⟨i, some d, v, fun _ => [], fun _ => []⟩ :: its)) : DN P n ops Q Sh R0 al0 i (o) rest its := by
  refine ⟨⟨i, some d, v, fun _ => [], fun _ => []⟩, rfl, hd.symm, hi, Ind.const _, Ind.const _, ?_, k⟩
  intro ρ S a L' R' w K hS hbef haft hag hdep hbase hst hK
  rw [if_pos (by simp [Region.wanted, hg])]
  left
  unfold Oper.wp
  rw [h ρ S a L' R' w ⟨hS, hag, hdep, hbase, hst⟩, Oper.upon_value]
  have hsh := hSh ρ (ρ i) S hS
  rw [Rho.set_same] at hsh
  have := hK (ρ i) w
  rw [Rho.set_same] at this
  exact this (by rw [hsh]; exact hst)

theorem d_move {v : Rho → Value} (hx : ∀ ρ, ev n (alOf its al0 ρ) x = some (v ρ)) (hi : Ind ops i v) (hSh : ∀ ρ g S, S i = false → Sh (Rho.set ρ i g) (upS S i) = Sh ρ S)
    (k : DJ P n ops Q Sh R0 al0 (i + 1) rest (⟨i, some d, v, fun _ => [], fun _ => []⟩ :: its)) : DN P n ops Q Sh R0 al0 i (⟨some d, .move x, ty, pos, aft, none⟩) rest its :=
  d_pure rfl rfl hSh hi (fun ρ S a L' R' w h => by show Result.ok (Next.value _) w = _; rw [agree_ev h.agree (by simp [Op.operands]) (hx ρ)]) k
theorem d_assign {v : Rho → Value} (hx : ∀ ρ, ev n (alOf its al0 ρ) x = some (v ρ)) (hi : Ind ops i v) (hSh : ∀ ρ g S, S i = false → Sh (Rho.set ρ i g) (upS S i) = Sh ρ S)
    (k : DJ P n ops Q Sh R0 al0 (i + 1) rest (⟨i, some d, v, fun _ => [], fun _ => []⟩ :: its)) : DN P n ops Q Sh R0 al0 i (⟨some d, .assign x, ty, pos, aft, none⟩) rest its :=
  d_pure rfl rfl hSh hi (fun ρ S a L' R' w h => by show Result.ok (Next.value _) w = _; rw [agree_ev h.agree (by simp [Op.operands]) (hx ρ)]) k
theorem d_pickT {c : Operand} {v : Rho → Value} (hc : ∀ ρ, ev n (alOf its al0 ρ) c = some (.bool true)) (hx : ∀ ρ, ev n (alOf its al0 ρ) x = some (v ρ)) (hi : Ind ops i v) (hSh : ∀ ρ g S, S i = false → Sh (Rho.set ρ i g) (upS S i) = Sh ρ S)
    (k : DJ P n ops Q Sh R0 al0 (i + 1) rest (⟨i, some d, v, fun _ => [], fun _ => []⟩ :: its)) : DN P n ops Q Sh R0 al0 i (⟨some d, .pick c x y, ty, pos, aft, none⟩) rest its :=
  d_pure rfl rfl hSh hi (fun ρ S a L' R' w h => by simp [execOp, agree_ev h.agree (x := c) (by simp [Op.operands]) (hc ρ), agree_ev h.agree (x := x) (by simp [Op.operands]) (hx ρ), asBool, bind, pure, Sem.bind, Sem.run]) k
theorem d_pickF {c : Operand} {v : Rho → Value} (hc : ∀ ρ, ev n (alOf its al0 ρ) c = some (.bool false)) (hy : ∀ ρ, ev n (alOf its al0 ρ) y = some (v ρ)) (hi : Ind ops i v) (hSh : ∀ ρ g S, S i = false → Sh (Rho.set ρ i g) (upS S i) = Sh ρ S)
    (k : DJ P n ops Q Sh R0 al0 (i + 1) rest (⟨i, some d, v, fun _ => [], fun _ => []⟩ :: its)) : DN P n ops Q Sh R0 al0 i (⟨some d, .pick c x y, ty, pos, aft, none⟩) rest its :=
  d_pure rfl rfl hSh hi (fun ρ S a L' R' w h => by simp [execOp, agree_ev h.agree (x := c) (by simp [Op.operands]) (hc ρ), agree_ev h.agree (x := y) (by simp [Op.operands]) (hy ρ), asBool, bind, pure, Sem.bind, Sem.run]) k

theorem d_bin {op : BinOp} {kd : IntKind} {a b : Rho → Int} {v : Rho → Value} {U : TypeId} (hx : ∀ ρ, ev n (alOf its al0 ρ) x = some (.int kd (a ρ))) (hy : ∀ ρ, ev n (alOf its al0 ρ) y = some (.int kd (b ρ)))
    (hv : ∀ (ρ : Rho) (w : World), (binOp op T (.int kd (a ρ)) (.int kd (b ρ))).run P w = .ok (v ρ) w) (hi : Ind ops i v) (hSh : ∀ ρ g S, S i = false → Sh (Rho.set ρ i g) (upS S i) = Sh ρ S)
    (k : DJ P n ops Q Sh R0 al0 (i + 1) rest (⟨i, some d, v, fun _ => [], fun _ => []⟩ :: its)) : DN P n ops Q Sh R0 al0 i (⟨some d, .binOp op T x y U, ty, pos, aft, none⟩) rest its :=
  d_pure rfl rfl hSh hi (fun ρ S ac L' R' w h => by
    have e : (execOp ac.eval ⟨some d, .binOp op T x y U, ty, pos, aft, none⟩) = (do let v ← (do eqGuard op T x y (.int kd (a ρ)) (.int kd (b ρ)); binOp op T (.int kd (a ρ)) (.int kd (b ρ))); pure (Next.value v)) := by
      simp only [execOp, agree_ev h.agree (x := x) (by simp [Op.operands]) (hx ρ), agree_ev h.agree (x := y) (by simp [Op.operands]) (hy ρ)]
    rw [e]
    have g : eqGuard op T x y (.int kd (a ρ)) (.int kd (b ρ)) = pure () := by
      unfold eqGuard; cases op <;> rfl
    rw [g]
    show (binOp op T (.int kd (a ρ)) (.int kd (b ρ)) >>= fun v => Sem.pure (Next.value v)).run P w = _
    rw [Sem.run_bind, hv ρ w]; rfl) k

/-! ### Addresses -/
theorem d_fieldAddr {b f : Rho → Nat} {fld off : Nat} (hf : FieldOff P T fld off) (hx : ∀ ρ, ev n (alOf its al0 ρ) x = some (bp (b ρ) (f ρ))) (hi : Ind ops i (fun ρ => bp (b ρ) (f ρ + off))) (hSh : ∀ ρ g S, S i = false → Sh (Rho.set ρ i g) (upS S i) = Sh ρ S)
    (k : DJ P n ops Q Sh R0 al0 (i + 1) rest (⟨i, some d, fun ρ => bp (b ρ) (f ρ + off), fun _ => [], fun _ => []⟩ :: its)) : DN P n ops Q Sh R0 al0 i (⟨some d, .fieldAddr T x fld, ty, pos, aft, none⟩) rest its :=
  d_pure rfl rfl hSh hi (fun ρ S a L' R' w h => exec_fieldAddr (by rw [agree_ev h.agree (x := x) (by simp [Op.operands]) (hx ρ)]; show (Instr.fieldAt T (.pointer (some ⟨b ρ, f ρ, none⟩)) fld).run P w = _; rw [run_fieldAt hf, add_mk]; rfl)) k
theorem Star.fewer {L' : List Chunk} : ∀ {L : List Chunk} {m j : Mem}, Star (L ++ L') m j → Star L m j
  | [], _, _, _ => trivial
  | _ :: _, _, _, ⟨m1, m2, h1, h2, h3, h4, h5⟩ => ⟨m1, m2, h1, h2, h3, h4, Star.fewer h5⟩
theorem St.fewer {L L' : List Chunk} {R R' : List Fact} {w : World} (hR : ∀ f ∈ R, f ∈ R') (hs : St (L ++ L') R' w) : St L R w := by
  obtain ⟨m, j, hd, hm, hj, hst, hr⟩ := hs
  exact ⟨m, j, hd, hm, hj, Star.fewer hst, fun f hf => hr f (hR f hf)⟩
theorem d_fieldAddrE {v : Value} {sz j f fld off len : Nat} (hf : FieldOff P T fld off) (hx : ∀ ρ, ev n (alOf its al0 ρ) x = some (ep v sz j f)) (hl : ∀ ρ S, SliceLen (Sh ρ S) R0 v len) (h0 : 0 < len) (hSh : ∀ ρ g S, S i = false → Sh (Rho.set ρ i g) (upS S i) = Sh ρ S)
    (k : DJ P n ops Q Sh R0 al0 (i + 1) rest (⟨i, some d, fun _ => ep v sz j (f + off), fun _ => [], fun _ => []⟩ :: its)) : DN P n ops Q Sh R0 al0 i (⟨some d, .fieldAddr T x fld, ty, pos, aft, none⟩) rest its :=
  d_pure rfl rfl hSh (Ind.const _) (fun ρ S a L' R' w h => exec_fieldAddr (by
    obtain ⟨base, cap, rfl, hb⟩ := hl ρ S w (h.st.fewer h.base)
    obtain ⟨a', rfl⟩ := hb h0
    rw [agree_ev h.agree (x := x) (by simp [Op.operands]) (hx ρ), ep_eq, run_fieldAt hf, add_add, Nat.add_assoc, ep_eq])) k
theorem d_indexAddr {v : Value} {T e : TypeId} {sz len : Nat} {kd : IntKind} {j : Int} (ht : SliceOf P T e sz) (hx : ∀ ρ, ev n (alOf its al0 ρ) x = some v) (hy : ∀ ρ, ev n (alOf its al0 ρ) y = some (.int kd j)) (hl : ∀ ρ S, SliceLen (Sh ρ S) R0 v len) (h0 : 0 ≤ j) (h1 : j < len) (hSh : ∀ ρ g S, S i = false → Sh (Rho.set ρ i g) (upS S i) = Sh ρ S)
    (k : DJ P n ops Q Sh R0 al0 (i + 1) rest (⟨i, some d, fun _ => ep v sz j.toNat 0, fun _ => [], fun _ => []⟩ :: its)) : DN P n ops Q Sh R0 al0 i (⟨some d, .indexAddr T x y, ty, pos, aft, none⟩) rest its :=
  d_pure rfl rfl hSh (Ind.const _) (fun ρ S a L' R' w h => by
    obtain ⟨base, cap, rfl, hb⟩ := hl ρ S w (h.st.fewer h.base)
    obtain ⟨a', rfl⟩ := hb (by omega)
    show (Instr.indexAt T (a.eval x) (a.eval y) >>= fun v => Pure.pure (Next.value v)).run P w = _
    rw [agree_ev h.agree (x := x) (by simp [Op.operands]) (hx ρ), agree_ev h.agree (x := y) (by simp [Op.operands]) (hy ρ), Sem.run_bind]
    have : (Instr.indexAt T (.slice (some a') len cap) (.int kd j)).run P w = .ok (.pointer (some (a'.add (j.toNat * sz)))) w := by
      simp [Instr.indexAt, asIntOf, run_und ht.1, ht.2, h0, h1]
    rw [this]; rfl) k
theorem d_nilCheckB {b f : Nat} (hx : ∀ ρ, ev n (alOf its al0 ρ) x = some (bp b f)) (hSh : ∀ ρ g S, S i = false → Sh (Rho.set ρ i g) (upS S i) = Sh ρ S)
    (k : DJ P n ops Q Sh R0 al0 (i + 1) rest (⟨i, some d, fun _ => bp b f, fun _ => [], fun _ => []⟩ :: its)) : DN P n ops Q Sh R0 al0 i (⟨some d, .nilCheck x, ty, pos, aft, none⟩) rest its :=
  d_pure rfl rfl hSh (Ind.const _) (fun ρ S a L' R' w h => by simp only [execOp, agree_ev h.agree (x := x) (by simp [Op.operands]) (hx ρ)]; rfl) k
theorem d_nilCheckE {v : Value} {sz j f len : Nat} (hx : ∀ ρ, ev n (alOf its al0 ρ) x = some (ep v sz j f)) (hl : ∀ ρ S, SliceLen (Sh ρ S) R0 v len) (h0 : 0 < len) (hSh : ∀ ρ g S, S i = false → Sh (Rho.set ρ i g) (upS S i) = Sh ρ S)
    (k : DJ P n ops Q Sh R0 al0 (i + 1) rest (⟨i, some d, fun _ => ep v sz j f, fun _ => [], fun _ => []⟩ :: its)) : DN P n ops Q Sh R0 al0 i (⟨some d, .nilCheck x, ty, pos, aft, none⟩) rest its :=
  d_pure rfl rfl hSh (Ind.const _) (fun ρ S a L' R' w h => by
    obtain ⟨base, cap, rfl, hb⟩ := hl ρ S w (h.st.fewer h.base)
    obtain ⟨a', rfl⟩ := hb h0
    simp only [execOp, agree_ev h.agree (x := x) (by simp [Op.operands]) (hx ρ), ep_eq]; rfl) k

/-! ### Loads -/
theorem d_load1 {p c : Value} (hT : ∀ w, (isAgg T).run P w = .ok false w) (hx : ∀ ρ, ev n (alOf its al0 ρ) x = some p) (hc : ∀ ρ S, CellsAt (Sh ρ S) R0 p [c]) (hSh : ∀ ρ g S, S i = false → Sh (Rho.set ρ i g) (upS S i) = Sh ρ S)
    (k : DJ P n ops Q Sh R0 al0 (i + 1) rest (⟨i, some d, fun _ => c, fun _ => [], fun _ => []⟩ :: its)) : DN P n ops Q Sh R0 al0 i (⟨some d, .load T x, ty, pos, aft, none⟩) rest its :=
  d_pure rfl rfl hSh (Ind.const _) (fun ρ S a L' R' w h => by
    obtain ⟨a', rfl, hk⟩ := hc ρ S w (h.st.fewer h.base)
    exact exec_load (by rw [agree_ev h.agree (x := x) (by simp [Op.operands]) (hx ρ)]; exact run_load1 hT (by simpa [Addr.add] using hk 0 c rfl))) k
theorem d_loadN {p : Value} {cs : List Value} {sz : Nat} (hT : ∀ w, (isAgg T).run P w = .ok true w) (hsz : ∀ w, (sizeOf T).run P w = .ok sz w) (hx : ∀ ρ, ev n (alOf its al0 ρ) x = some p) (hc : ∀ ρ S, CellsAt (Sh ρ S) R0 p cs) (hl : cs.length = sz) (hSh : ∀ ρ g S, S i = false → Sh (Rho.set ρ i g) (upS S i) = Sh ρ S)
    (k : DJ P n ops Q Sh R0 al0 (i + 1) rest (⟨i, some d, fun _ => .agg cs.toArray, fun _ => [], fun _ => []⟩ :: its)) : DN P n ops Q Sh R0 al0 i (⟨some d, .load T x, ty, pos, aft, none⟩) rest its :=
  d_pure rfl rfl hSh (Ind.const _) (fun ρ S a L' R' w h => by
    obtain ⟨a', rfl, hk⟩ := hc ρ S w (h.st.fewer h.base)
    exact exec_load (by rw [agree_ev h.agree (x := x) (by simp [Op.operands]) (hx ρ)]; exact run_loadN hT hsz hl hk)) k
theorem d_len {t e : TypeId} {v : Value} {len : Nat} (ht : P.underlying t = some (.slice e)) (hx : ∀ ρ, ev n (alOf its al0 ρ) x = some v) (hl : ∀ ρ S, SliceLen (Sh ρ S) R0 v len) (hSh : ∀ ρ g S, S i = false → Sh (Rho.set ρ i g) (upS S i) = Sh ρ S)
    (k : DJ P n ops Q Sh R0 al0 (i + 1) rest (⟨i, some d, fun _ => vi (len : Int), fun _ => [], fun _ => []⟩ :: its)) : DN P n ops Q Sh R0 al0 i (⟨some d, .call { callee := .builtin .len, args := #[x], argTypes := #[t] }, ty, pos, aft, none⟩) rest its :=
  d_pure rfl rfl hSh (Ind.const _) (fun ρ S a L' R' w h => by
    obtain ⟨base, cap, rfl, _⟩ := hl ρ S w (h.st.fewer h.base)
    exact exec_len (by rw [agree_ev h.agree (x := x) (by simp [Op.operands, Call.operands]) (hx ρ)]; simp [Builtin.len_, run_und ht, goInt])) k
theorem d_extract {vs : Rho → List Value} {e : Nat} {v : Rho → Value} (hx : ∀ ρ, ev n (alOf its al0 ρ) x = some (.tuple (vs ρ).toArray)) (hv : ∀ ρ, (vs ρ)[e]? = some (v ρ)) (hi : Ind ops i v) (hSh : ∀ ρ g S, S i = false → Sh (Rho.set ρ i g) (upS S i) = Sh ρ S)
    (k : DJ P n ops Q Sh R0 al0 (i + 1) rest (⟨i, some d, v, fun _ => [], fun _ => []⟩ :: its)) : DN P n ops Q Sh R0 al0 i (⟨some d, .extract x e, ty, pos, aft, none⟩) rest its :=
  d_pure rfl rfl hSh hi (fun ρ S a L' R' w h => by simp [execOp, agree_ev h.agree (x := x) (by simp [Op.operands]) (hx ρ), Instr.extract, hv ρ]) k

/-! ### Guards -/
theorem d_guardNo {l : List Oper} {op : Go.Op} {q : Nat} {b : Bool} (hv : ∀ ρ, gv n (alOf its al0 ρ) l q = some (!b)) (hSh : ∀ ρ g S, S i = false → Sh (Rho.set ρ i g) (upS S i) = Sh ρ S)
    (k : DJ P n l.toArray Q Sh R0 al0 (i + 1) rest (⟨i, some d, fun _ => undef, fun _ => [], fun _ => []⟩ :: its)) : DN P n l.toArray Q Sh R0 al0 i ⟨some d, op, ty, pos, aft, some (q, b)⟩ rest its := by
  refine ⟨⟨i, some d, fun _ => undef, fun _ => [], fun _ => []⟩, rfl, rfl, Ind.const _, Ind.const _, Ind.const _, ?_, k⟩
  intro ρ S a L' R' w K hS hbef haft hag hdep hbase hst hK
  obtain ⟨oi, t, hq, ht, he⟩ := gv_spec (hv ρ)
  have hl : a.tmps[t]? = some (.bool (!b)) := hag t _ (by unfold Oper.looksAt; refine List.mem_append_right _ ?_; simp only [hq, Option.bind_some, ht]; simp) he
  have hw : Region.wanted (⟨some d, op, ty, pos, aft, some (q, b)⟩ : Oper) (yielded l.toArray a.tmps) = false := by
    simp only [Region.wanted, yielded, hq, Option.bind_some, ht, hl]
    cases b <;> rfl
  rw [if_neg (by simp [hw])]
  have := hK (ρ i) w
  exact this (by rw [hSh _ _ _ hS]; exact hst)
theorem d_guardYes {l : List Oper} {dst : Option Tmp} {op : Go.Op} {q : Nat} {b : Bool} (hv : ∀ ρ, gv n (alOf its al0 ρ) l q = some b)
    (k : DN P n l.toArray Q Sh R0 al0 i ⟨dst, op, ty, pos, aft, none⟩ rest its) : DN P n l.toArray Q Sh R0 al0 i ⟨dst, op, ty, pos, aft, some (q, b)⟩ rest its := by
  obtain ⟨it, h1, h2, h3, h4, h5, h6, h7⟩ := k
  refine ⟨it, h1, h2, h3, h4, h5, ?_, h7⟩
  intro ρ S a L' R' w K hS hbef haft hag hdep hbase hst hK
  obtain ⟨oi, t, hq, ht, he⟩ := gv_spec (hv ρ)
  have hl : a.tmps[t]? = some (.bool b) := hag t _ (by unfold Oper.looksAt; refine List.mem_append_right _ ?_; simp only [hq, Option.bind_some, ht]; simp) he
  have hw : Region.wanted (⟨dst, op, ty, pos, aft, some (q, b)⟩ : Oper) (yielded l.toArray a.tmps) = true := by
    simp only [Region.wanted, yielded, hq, Option.bind_some, ht, hl]
    cases b <;> rfl
  rw [if_pos hw]
  have := h6 ρ S a L' R' w K hS hbef haft (fun t' v' hm he => hag t' v' (by unfold Oper.looksAt at hm ⊢; simp only [List.append_nil] at hm; exact List.mem_append_left _ hm) he) hdep hbase hst hK
  rw [if_pos (by simp [Region.wanted])] at this
  exact this

/-- The end, and the rest in the order of the text. -/
theorem d_nil (h : ∀ ρ, JX n Q .normal (Sh ρ (fun j => Nat.blt j i) ++ chunks its ρ) (facts its ρ ++ R0) (alOf its al0 ρ)) : DJ P n ops Q Sh R0 al0 i [] its := h
theorem d_tail {o : Oper} (ht : tailOk ops i = true) (h : ∀ ρ, J P n ops Q (o :: rest) (Sh ρ (fun j => Nat.blt j i) ++ chunks its ρ) (facts its ρ ++ R0) (alOf its al0 ρ)) : DJ P n ops Q Sh R0 al0 i (o :: rest) its := .inl ⟨ht, h⟩
theorem d_nilC (h : ∀ ρ, JX n Q .normal (chunks its ρ ++ Sh ρ (fun j => Nat.blt j i)) (facts its ρ ++ R0) (alOf its al0 ρ)) : DJ P n ops Q Sh R0 al0 i [] its := d_nil fun ρ => JX.conseq (fun w hs => hs.perm List.perm_append_comm) (h ρ)
theorem d_tailC {o : Oper} (ht : tailOk ops i = true) (h : ∀ ρ, J P n ops Q (o :: rest) (chunks its ρ ++ Sh ρ (fun j => Nat.blt j i)) (facts its ρ ++ R0) (alOf its al0 ρ)) : DJ P n ops Q Sh R0 al0 i (o :: rest) its := d_tail ht fun ρ => J.conseq (fun w hs => hs.perm List.perm_append_comm) (h ρ)
end
end Go.Proofs.Ythnokijkdobdfaa
