/- This file proves the rules for calls and new memory inside a statement whose order is open, and for struct literals. No conditions. -/
import Derived.Test.YthnokijkdobdfaaDraw2
import Derived.Test.YthnokijkdobdfaaPlain
set_option linter.unusedVariables false
set_option linter.unusedSimpArgs false
namespace Go.Proofs.Ythnokijkdobdfaa
open Go

class Gh (γ : Type) where
  dec : G → γ
  enc : γ → G
  ok : ∀ g, dec (enc g) = g
instance instGhUnit : Gh Unit := ⟨fun _ => (), fun _ => ⟨undef, undef, undef, undef, 0⟩, fun _ => rfl⟩
instance instGhV : Gh Value := ⟨fun g => g.a, fun v => ⟨v, undef, undef, undef, 0⟩, fun _ => rfl⟩
instance instGhV2 : Gh (Value × Value) := ⟨fun g => (g.a, g.b), fun v => ⟨v.1, v.2, undef, undef, 0⟩, fun _ => rfl⟩
instance instGhV3 : Gh (Value × Value × Value) := ⟨fun g => (g.a, g.b, g.c), fun v => ⟨v.1, v.2.1, v.2.2, undef, 0⟩, fun _ => rfl⟩
instance instGhV4 : Gh (Value × Value × Value × Value) := ⟨fun g => (g.a, g.b, g.c, g.d), fun v => ⟨v.1, v.2.1, v.2.2.1, v.2.2.2, 0⟩, fun _ => rfl⟩
instance instGhN : Gh Nat := ⟨fun g => g.n, fun n => ⟨undef, undef, undef, undef, n⟩, fun _ => rfl⟩

section
variable {P : Program} {n : Nat} {Q : Exit → Act → World → Prop} {Sh : Rho → (Nat → Bool) → List Chunk} {R0 : List Fact} {al0 : List (Nat × Value)}
variable {ops : Array Oper} {i : Nat} {rest : List Oper} {its : List Item} {d : Nat} {x y : Operand} {T ty : TypeId} {pos : String} {aft : Array Edge}

/-- What the facts of an operation that is ahead are. -/
def Deps (ops : Array Oper) (R0 : List Fact) (its : List Item) (i : Nat) (ρ : Rho) (R' : List Fact) : Prop := (∀ f ∈ R0, f ∈ R') ∧ ∀ it' ∈ its, Bef ops it'.idx i → ∀ f ∈ it'.F ρ, f ∈ R'

theorem Deps.base {ops : Array Oper} {R0 : List Fact} {its : List Item} {i : Nat} {ρ : Rho} {R' : List Fact} {f : Fact} (h : Deps ops R0 its i ρ R') (hf : f ∈ R0) : f ∈ R' := h.1 f hf
theorem Deps.dep {ops : Array Oper} {R0 : List Fact} {its : List Item} {i : Nat} {ρ : Rho} {R' : List Fact} {f : Fact} {it : Item} (h : Deps ops R0 its i ρ R') (hi : it ∈ its) (hb : Bef ops it.idx i) (hf : f ∈ it.F ρ) : f ∈ R' := h.2 it hi hb f hf
theorem d_res {γ : Type} [Gh γ] {o : Oper} {val : γ → Value} {F : γ → List Fact} {C : γ → List Chunk} (hg : o.guard = none) (hd : o.dst = some d) (hSh : ∀ ρ g S, S i = false → Sh (Rho.set ρ i g) (upS S i) = Sh ρ S)
    (h : ∀ ρ S a L' R' w (K : Act → World → Prop), Now ops n Sh R0 al0 i its o ρ S a L' R' w → (∀ g w', St (C g ++ (Sh ρ S ++ L')) (F g ++ R') w' → K (a.put (some d) (val g)) w') → o.wp P a w K Q)
    (k : DJ P n ops Q Sh R0 al0 (i + 1) rest (⟨i, some d, fun ρ => val (Gh.dec (ρ i)), fun ρ => F (Gh.dec (ρ i)), fun ρ => C (Gh.dec (ρ i))⟩ :: its)) : DN P n ops Q Sh R0 al0 i o rest its := by
  refine ⟨⟨i, some d, fun ρ => val (Gh.dec (ρ i)), fun ρ => F (Gh.dec (ρ i)), fun ρ => C (Gh.dec (ρ i))⟩, rfl, hd.symm, Ind.self (h := fun g => val (Gh.dec g)), Ind.self (h := fun g => F (Gh.dec g)), Ind.self (h := fun g => C (Gh.dec g)), ?_, k⟩
  intro ρ S a L' R' w K hS hbef haft hag hdep hbase hst hK
  rw [if_pos (by simp [Region.wanted, hg])]
  left
  refine h ρ S a L' R' w K ⟨hS, hag, hdep, hbase, hst⟩ ?_
  intro g w' hs'
  have e : (Rho.set ρ i (Gh.enc g)) i = Gh.enc g := by simp [Rho.set]
  have := hK (Gh.enc g) w'
  simp only [e, Gh.ok, hd, hSh ρ (Gh.enc g) S hS] at this
  refine this (hs'.perm ?_)
  rw [← List.append_assoc, ← List.append_assoc]
  exact List.Perm.append_right _ List.perm_append_comm

theorem agree_evL {al : List (Nat × Value)} {o : Oper} {a : Act} (h : Agree ops n al o a) : ∀ {l : List Operand} {vs : List Value}, (∀ x ∈ l, x ∈ o.op.operands) → evL n al l = some vs → l.map a.eval = vs
  | [], vs, _, he => by simp only [evL] at he; cases he; rfl
  | x :: r, vs, hm, he => by
    simp only [evL] at he
    cases hx : ev n al x with
    | none => rw [hx] at he; cases he
    | some v =>
      cases hr : evL n al r with
      | none => rw [hx, hr] at he; cases he
      | some us =>
        rw [hx, hr] at he
        simp only [Option.some.injEq] at he
        rw [List.map_cons, agree_ev h (hm x (List.mem_cons_self ..)) hx, agree_evL h (fun y hy => hm y (List.mem_cons_of_mem _ hy)) hr, he]

theorem d_call {γ : Type} [Gh γ] {val : γ → Value} {F : γ → List Fact} {C : γ → List Chunk} {f : FuncId} {args : List Operand} {ts : Array TypeId} {vs : Rho → List Value} (hf : ∀ args w, (callFunc f args).run P w = .ok (.enter f args) w)
    (ha : ∀ ρ, evL n (alOf its al0 ρ) args = some (vs ρ)) (hSh : ∀ ρ g S, S i = false → Sh (Rho.set ρ i g) (upS S i) = Sh ρ S)
    (hc : ∀ ρ L' R' w, Deps ops R0 its i ρ R' → St L' R' w → Calls P f (vs ρ).toArray w (Post val (fun g => C g ++ L') (fun g => F g ++ R')))
    (k : DJ P n ops Q Sh R0 al0 (i + 1) rest (⟨i, some d, fun ρ => val (Gh.dec (ρ i)), fun ρ => F (Gh.dec (ρ i)), fun ρ => C (Gh.dec (ρ i))⟩ :: its)) :
    DN P n ops Q Sh R0 al0 i ⟨some d, .call { callee := .value (.func f), args := args.toArray, argTypes := ts }, ty, pos, aft, none⟩ rest its :=
  d_res rfl rfl hSh (fun ρ S a L' R' w K h hK => by
    unfold Oper.wp
    rw [exec_call hf rfl, Oper.upon_enter, List.map_toArray, agree_evL h.agree (fun x hx => by simp [Op.operands, Call.operands, hx]) (ha ρ)]
    refine (hc ρ _ _ w ⟨h.base, h.deps⟩ h.st).mono ?_
    rintro e w' ⟨g, rfl, hs'⟩
    exact hK g w' hs') k

theorem d_max {t u : TypeId} {a b : Int} (hx : ∀ ρ, ev n (alOf its al0 ρ) x = some (vi a)) (hy : ∀ ρ, ev n (alOf its al0 ρ) y = some (vi b)) (hSh : ∀ ρ g S, S i = false → Sh (Rho.set ρ i g) (upS S i) = Sh ρ S)
    (k : DJ P n ops Q Sh R0 al0 (i + 1) rest (⟨i, some d, fun _ => vi (max a b), fun _ => [], fun _ => []⟩ :: its)) : DN P n ops Q Sh R0 al0 i ⟨some d, .call { callee := .builtin .max, args := #[x, y], argTypes := #[t, u] }, ty, pos, aft, none⟩ rest its :=
  d_pure rfl rfl hSh (Ind.const _) (fun ρ S ac L' R' w h => by
    have hh : (Builtin.max_ #[t, u] ty #[vi a, vi b]).run P w = .ok (vi (max a b)) w := by
      simp [Builtin.max_]
      show Result.ok (Value.int .i64 (if b > a then b else a)) w = _
      congr 2; split <;> omega
    simp [execOp, resolve, invoke, builtin, agree_ev h.agree (x := x) (by simp [Op.operands, Call.operands]) (hx ρ), agree_ev h.agree (x := y) (by simp [Op.operands, Call.operands]) (hy ρ), hh]) k

/-- 'make': data for good at once. -/
theorem d_make {α : Type} [Enc α] {t el : TypeId} {sz bytes : Nat} {z : Value} {zc : List Value} {a : Int} {x0 : α} (he : ElemOf P t el sz z bytes) (hsz : Enc.sz α = sz) (hpos : 0 < sz) (hx : ∀ ρ, ev n (alOf its al0 ρ) x = some (vi a)) (hy : ∀ ρ, ev n (alOf its al0 ρ) y = some (vi a))
    (hzc : z.cells = zc.toArray) (hrd : ∀ j, Enc.rd x0 zc j) (h0 : 0 ≤ a) (hN : a ≤ 16777216) (hSh : ∀ ρ g S, S i = false → Sh (Rho.set ρ i g) (upS S i) = Sh ρ S)
    (k : DJ P n ops Q Sh R0 al0 (i + 1) rest (⟨i, some d, fun ρ => (Gh.dec (ρ i) : Value), fun ρ => [sl (Gh.dec (ρ i) : Value) (List.replicate a.toNat x0)], fun _ => []⟩ :: its)) :
    DN P n ops Q Sh R0 al0 i ⟨some d, .makeSlice t x y, ty, pos, aft, none⟩ rest its :=
  d_res (γ := Value) (val := fun v => v) (F := fun v => [sl v (List.replicate a.toNat x0)]) (C := fun _ => []) rfl rfl hSh (fun ρ S ac L' R' w K h hK => by
    obtain ⟨i', hi, hz, hisz, hiby⟩ := he.info
    have hbytes : (i'.bytes : Int) * a ≤ 281474976710656 := by
      have h1 : (i'.bytes : Int) ≤ 1024 := by have := he.bnd; omega
      have h2 : (i'.bytes : Int) * a ≤ 1024 * 16777216 := Int.mul_le_mul h1 hN h0 (by omega)
      omega
    have hr : (execOp ac.eval ⟨some d, .makeSlice t x y, ty, pos, aft, none⟩).run P w = .ok (.value (.slice (some ⟨w.heap.size, 0, none⟩) a.toNat a.toNat)) (w.alloc (.cells (madeCells z.cells (a.toNat * i'.size)) el)) := by
      show (Instr.makeSlice t (ac.eval x) (ac.eval y) >>= fun v => Pure.pure (Next.value v)).run P w = _
      rw [agree_ev h.agree (x := x) (by simp [Op.operands]) (hx ρ), agree_ev h.agree (x := y) (by simp [Op.operands]) (hy ρ), Sem.run_bind, run_make (P := P) w t el i' z he.und hi hz .i64 .i64 a a h0 (Int.le_refl _) hbytes (by omega)]; rfl
    unfold Oper.wp
    rw [hr, Oper.upon_value]
    refine hK _ _ ?_
    obtain ⟨m, j, hd, hmw, hjw, hst, hr⟩ := h.st
    have hzl : zc.length = sz := by have := he.zsz; rw [hzc] at this; simpa using this
    have hrow : St (row el (.slice (some ⟨w.heap.size, 0, none⟩) a.toNat a.toNat) (List.replicate a.toNat x0) :: (Sh ρ S ++ L')) R' (w.alloc (.cells (madeCells z.cells (a.toNat * i'.size)) el)) := by
      refine St.newC hd hmw hjw hst hr rfl rfl rfl ⟨by rw [List.length_replicate]; have : maxN = 16777216 := rfl; omega, .inr ⟨w.heap.size, a.toNat, _, (List.replicate a.toNat zc).flatten, by rw [List.length_replicate], one_self _ _, by rw [List.length_replicate]; omega, by unfold maxLen; omega, ?_, ?_, RdL.replicate (hrd j) _⟩⟩
      · rw [size_madeCells, hisz, hsz]
      · rw [hzc, hisz, madeCells_list hzl hpos, List.length_replicate, hsz, List.take_of_length_le]
        simp [hzl]
    exact hrow.shut) k
end

/-! ### Struct literals -/
/-- A struct type's zero cells, and its fields' places. -/
def StructOf (P : Program) (T : TypeId) (zc : List Value) (places : List (Nat × Nat)) : Prop :=
  ∃ fs : Array Field, P.underlying T = some (.struct fs) ∧ (∀ w, (zeroValue T).run P w = .ok (.agg zc.toArray) w) ∧ ∀ w, (fs.mapM fun (f : Field) => (do pure (f.offset, ← sizeOf f.type) : Sem (Nat × Nat))).run P w = .ok places.toArray w
def fillL (places : List (Nat × Nat)) (cells : List Value) : List (Nat × Value) → Option (List Value)
  | [] => some cells
  | (i, v) :: rest => match places[i]? with
    | none => none
    | some (off, size) => if v.cells.size ≠ size ∨ off + v.cells.size > cells.length then none else fillL places (cells.take off ++ v.cells.toList ++ cells.drop (off + v.cells.size)) rest
theorem fillL_eq (places : List (Nat × Nat)) : ∀ (parts : List (Nat × Value)) (cells cs : List Value), fillL places cells parts = some cs → Instr.fill (places.toArray[·]?) cells.toArray parts = some cs.toArray
  | [], cells, cs, h => by simp only [fillL, Option.some.injEq] at h; simp [Instr.fill, h]
  | (i, v) :: rest, cells, cs, h => by
    simp only [fillL] at h
    simp only [Instr.fill]
    have hp : places.toArray[i]? = places[i]? := by simp
    rw [hp]
    cases hpi : places[i]? with
    | none => rw [hpi] at h; cases h
    | some p =>
      obtain ⟨off, size⟩ := p
      rw [hpi] at h
      simp only at h ⊢
      split at h
      · cases h
      · rename_i hn
        rw [if_neg (by simp only [not_or, ne_eq, Decidable.not_not] at hn; simp; omega)]
        have hfold : v.cells.zipIdx.foldl (fun cs (x : Value × Nat) => match x with | (c, j) => cs.setIfInBounds (off + j) c) cells.toArray = (cells.take off ++ v.cells.toList ++ cells.drop (off + v.cells.size)).toArray := by
          have := foldl_set off v.cells.toList 0 cells.toArray (by simp only [not_or, Nat.not_lt] at hn; simp; omega)
          simp only [Nat.add_zero] at this
          rw [← Array.foldl_toList, Array.toList_zipIdx]
          refine Eq.trans ?_ (this.trans ?_)
          · rfl
          · simp
        rw [hfold]
        exact fillL_eq places rest _ cs h
theorem run_buildS {P : Program} {T : TypeId} {zc cs : List Value} {places : List (Nat × Nat)} {parts : List (Nat × Value)} (hT : StructOf P T zc places) (h : fillL places zc parts = some cs) (w : World) : (Instr.build T parts.toArray).run P w = .ok (.agg cs.toArray) w := by
  obtain ⟨fs, h1, h2, h3⟩ := hT
  have hf := fillL_eq places parts zc cs h
  have h3' := h3 w
  simp only [Instr.build, Sem.run_bind, h2, Result.andThen_ok, run_und h1, h3', Value.cells, hf]
  rfl
section
variable {P : Program} {n : Nat} {ops : Array Oper} {Q : Exit → Act → World → Prop} {rest : List Oper} {L L' : List Chunk} {R : List Fact} {al : List (Nat × Value)} {d : Nat} {x y : Operand} {T ty : TypeId} {pos : String} {aft : Array Edge}
theorem r_build {zc cs : List Value} {places : List (Nat × Nat)} {parts : List (Nat × Operand)} {vs : List Value} (hT : StructOf P T zc places) (ha : evL n al (parts.map (·.2)) = some vs) (h : fillL places zc ((parts.map (·.1)).zip vs) = some cs)
    (k : J P n ops Q rest L R ((d, .agg cs.toArray) :: al)) : J P n ops Q (⟨some d, .build T parts.toArray, ty, pos, aft, none⟩ :: rest) L R al :=
  J.pure rfl rfl (fun B w hs => by
    show (Instr.build T (parts.toArray.map fun (i, x) => (i, (mkA n al B).eval x)) >>= fun v => Pure.pure (Next.value v)).run P w = _
    have hp : (parts.toArray.map fun (i, x) => (i, (mkA n al B).eval x)) = ((parts.map (·.1)).zip vs).toArray := by
      rw [← evL_map (B := B) ha]
      simp only [List.map_toArray, List.map_map, List.zip_map', Function.comp_def]
    rw [hp, Sem.run_bind, run_buildS hT h w]; rfl) k
theorem r_not {b : Bool} {t : TypeId} (hx : ev n al x = some (.bool b)) (k : J P n ops Q rest L R ((d, .bool (!b)) :: al)) : J P n ops Q (⟨some d, .unOp .not t x, ty, pos, aft, none⟩ :: rest) L R al :=
  J.pure rfl rfl (fun B w _ => by simp [execOp, ev_eval hx, Op.unary]) k
end
section
variable {P : Program} {n : Nat} {Q : Exit → Act → World → Prop} {Sh : Rho → (Nat → Bool) → List Chunk} {R0 : List Fact} {al0 : List (Nat × Value)}
variable {ops : Array Oper} {i : Nat} {rest : List Oper} {its : List Item} {d : Nat} {x y : Operand} {T ty : TypeId} {pos : String} {aft : Array Edge}
theorem d_build {zc : List Value} {cs vs : Rho → List Value} {places : List (Nat × Nat)} {parts : List (Nat × Operand)} (hT : StructOf P T zc places) (ha : ∀ ρ, evL n (alOf its al0 ρ) (parts.map (·.2)) = some (vs ρ)) (h : ∀ ρ, fillL places zc ((parts.map (·.1)).zip (vs ρ)) = some (cs ρ)) (hi : Ind ops i (fun ρ => Value.agg (cs ρ).toArray)) (hSh : ∀ ρ g S, S i = false → Sh (Rho.set ρ i g) (upS S i) = Sh ρ S)
    (k : DJ P n ops Q Sh R0 al0 (i + 1) rest (⟨i, some d, fun ρ => .agg (cs ρ).toArray, fun _ => [], fun _ => []⟩ :: its)) : DN P n ops Q Sh R0 al0 i ⟨some d, .build T parts.toArray, ty, pos, aft, none⟩ rest its :=
  d_pure rfl rfl hSh hi (fun ρ S a L' R' w hn => by
    show (Instr.build T (parts.toArray.map fun (i, x) => (i, a.eval x)) >>= fun v => Pure.pure (Next.value v)).run P w = _
    have hp : (parts.toArray.map fun (i, x) => (i, a.eval x)) = ((parts.map (·.1)).zip (vs ρ)).toArray := by
      rw [← agree_evL hn.agree (fun x hx => by
        obtain ⟨p, hp, rfl⟩ := List.mem_map.1 hx
        simp [Op.operands]; exact ⟨p.1, hp⟩) (ha ρ)]
      simp only [List.map_toArray, List.map_map, List.zip_map', Function.comp_def]
    rw [hp, Sem.run_bind, run_buildS hT (h ρ) w]; rfl) k
theorem d_not {b : Rho → Bool} {t : TypeId} (hx : ∀ ρ, ev n (alOf its al0 ρ) x = some (.bool (b ρ))) (hi : Ind ops i (fun ρ => Value.bool (!b ρ))) (hSh : ∀ ρ g S, S i = false → Sh (Rho.set ρ i g) (upS S i) = Sh ρ S)
    (k : DJ P n ops Q Sh R0 al0 (i + 1) rest (⟨i, some d, fun ρ => .bool (!b ρ), fun _ => [], fun _ => []⟩ :: its)) : DN P n ops Q Sh R0 al0 i ⟨some d, .unOp .not t x, ty, pos, aft, none⟩ rest its :=
  d_pure rfl rfl hSh hi (fun ρ S a L' R' w h => by simp [execOp, agree_ev h.agree (x := x) (by simp [Op.operands]) (hx ρ), Op.unary]) k
end
end Go.Proofs.Ythnokijkdobdfaa
