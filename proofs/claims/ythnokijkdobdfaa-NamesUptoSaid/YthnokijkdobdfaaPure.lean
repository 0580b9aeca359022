/- This file proves rules for operations that change nothing, for ordered statements and for those whose order is open alike. No conditions. -/
import Derived.Test.YthnokijkdobdfaaSumL
set_option linter.unusedVariables false
set_option linter.unusedSimpArgs false
namespace Go.Proofs.Ythnokijkdobdfaa
open Go

/-! ### Parts put into their places, one behind the other -/
def putHead : List Value → List Value → Option (List Value)
  | cs, [] => some cs
  | _ :: cs, v :: seg => (putHead cs seg).map (v :: ·)
  | [], _ :: _ => none
def putSeg : List Value → Nat → List Value → Option (List Value)
  | cs, 0, seg => putHead cs seg
  | c :: cs, k + 1, seg => (putSeg cs k seg).map (c :: ·)
  | [], _ + 1, _ => none
theorem putHead_eq : ∀ {cs seg r : List Value}, putHead cs seg = some r → seg.length ≤ cs.length ∧ r = seg ++ cs.drop seg.length
  | cs, [], r, h => by cases cs <;> (simp only [putHead, Option.some.injEq] at h; subst h; simp)
  | c :: cs, v :: seg, r, h => by
    simp only [putHead, Option.map_eq_some_iff] at h
    obtain ⟨r', h1, rfl⟩ := h
    obtain ⟨h2, h3⟩ := putHead_eq h1
    exact ⟨by simp only [List.length_cons]; omega, by rw [h3]; simp⟩
  | [], _ :: _, r, h => by cases h
theorem putSeg_eq : ∀ {k : Nat} {cs seg r : List Value}, putSeg cs k seg = some r → k + seg.length ≤ cs.length ∧ r = cs.take k ++ seg ++ cs.drop (k + seg.length)
  | 0, cs, seg, r, h => by
    have h' : putHead cs seg = some r := by cases cs <;> exact h
    obtain ⟨h1, h2⟩ := putHead_eq h'
    exact ⟨by omega, by rw [h2]; simp⟩
  | k + 1, c :: cs, seg, r, h => by
    simp only [putSeg, Option.map_eq_some_iff] at h
    obtain ⟨r', h1, rfl⟩ := h
    obtain ⟨h2, h3⟩ := putSeg_eq h1
    refine ⟨by simp only [List.length_cons]; omega, ?_⟩
    rw [h3, show k + 1 + seg.length = (k + seg.length) + 1 by omega]; simp
  | k + 1, [], seg, r, h => by cases h
def fillQ (places : List (Nat × Nat)) : List Value → List (Nat × Value) → Option (List Value)
  | cells, [] => some cells
  | cells, (i, v) :: rest => match places[i]? with
    | none => none
    | some (off, size) => match Nat.beq v.cells.size size with
      | false => none
      | true => match putSeg cells off v.cells.toList with
        | none => none
        | some cells' => fillQ places cells' rest
theorem fillQ_eq (places : List (Nat × Nat)) : ∀ (parts : List (Nat × Value)) (cells cs : List Value), fillQ places cells parts = some cs → fillL places cells parts = some cs
  | [], cells, cs, h => h
  | (i, v) :: rest, cells, cs, h => by
    simp only [fillQ] at h
    simp only [fillL]
    cases hp : places[i]? with
    | none => rw [hp] at h; cases h
    | some q =>
      obtain ⟨off, size⟩ := q
      rw [hp] at h
      simp only at h ⊢
      cases hb : Nat.beq v.cells.size size with
      | false => rw [hb] at h; cases h
      | true =>
        rw [hb] at h
        simp only at h
        have hsz : v.cells.size = size := Nat.eq_of_beq_eq_true hb
        cases hq : putSeg cells off v.cells.toList with
        | none => rw [hq] at h; cases h
        | some c' =>
          rw [hq] at h
          simp only at h
          obtain ⟨h1, h2⟩ := putSeg_eq hq
          rw [Array.length_toList] at h1 h2
          rw [if_neg (by omega), ← h2]
          exact fillQ_eq places rest c' cs h
/-- An operation that yields a value, whatever reads its operands so. -/
def PureOp (P : Program) (n : Nat) (al : List (Nat × Value)) (L : List Chunk) (R : List Fact) (o : Oper) (v : Value) : Prop :=
  o.guard = none ∧ ∀ (ρ : Operand → Value) (w : World), (∀ x ∈ o.op.operands, ∀ u, ev n al x = some u → ρ x = u) → St L R w → (execOp ρ o).run P w = .ok (.value v) w
section
variable {P : Program} {n : Nat} {ops : Array Oper} {Q : Exit → Act → World → Prop} {rest : List Oper} {L L' : List Chunk} {R : List Fact} {al : List (Nat × Value)} {d : Nat} {x y : Operand} {T ty : TypeId} {pos : String} {aft : Array Edge}
theorem r_p {o : Oper} {v : Value} (hp : PureOp P n al L R o v) (hd : o.dst = some d) (k : J P n ops Q rest L R ((d, v) :: al)) : J P n ops Q (o :: rest) L R al :=
  J.pure hp.1 hd (fun B w hs => hp.2 _ w (fun x hx u hu => ev_eval hu) hs) k
theorem d_p {Sh : Rho → (Nat → Bool) → List Chunk} {R0 : List Fact} {al0 : List (Nat × Value)} {i : Nat} {its : List Item} {o : Oper} {v : Rho → Value} (hp : ∀ ρ S, PureOp P n (alOf its al0 ρ) (Sh ρ S) R0 o (v ρ)) (hd : o.dst = some d) (hi : Ind ops i v) (hSh : ∀ ρ g S, S i = false → Sh (Rho.set ρ i g) (upS S i) = Sh ρ S)
    (k : DJ P n ops Q Sh R0 al0 (i + 1) rest (⟨i, some d, v, fun _ => [], fun _ => []⟩ :: its)) : DN P n ops Q Sh R0 al0 i o rest its :=
  d_pure (hp (fun _ => ⟨undef, undef, undef, undef, 0⟩) (fun _ => false)).1 hd hSh hi (fun ρ S a L' R' w h => (hp ρ S).2 _ w (fun x hx u hu => agree_ev h.agree hx hu) (h.st.fewer h.base)) k

theorem d_pc {Sh : Rho → (Nat → Bool) → List Chunk} {R0 : List Fact} {al0 : List (Nat × Value)} {i : Nat} {its : List Item} {o : Oper} {v : Value} (hp : ∀ ρ S, PureOp P n (alOf its al0 ρ) (Sh ρ S) R0 o v) (hd : o.dst = some d) (hSh : ∀ ρ g S, S i = false → Sh (Rho.set ρ i g) (upS S i) = Sh ρ S)
    (k : DJ P n ops Q Sh R0 al0 (i + 1) rest (⟨i, some d, fun _ => v, fun _ => [], fun _ => []⟩ :: its)) : DN P n ops Q Sh R0 al0 i o rest its := d_p hp hd (Ind.const _) hSh k
theorem p_build {zc cs : List Value} {places : List (Nat × Nat)} {parts : List (Nat × Operand)} {vs : List Value} (hT : StructOf P T zc places) (ha : evL n al (parts.map (·.2)) = some vs) (h' : fillQ places zc ((parts.map (·.1)).zip vs) = some cs) : PureOp P n al L R ⟨some d, .build T parts.toArray, ty, pos, aft, none⟩ (.agg cs.toArray) :=
  ⟨rfl, fun ρ w hρ _ => by
    have h := fillQ_eq _ _ _ _ h'
    show (Instr.build T (parts.toArray.map fun (i, x) => (i, ρ x)) >>= fun v => Pure.pure (Next.value v)).run P w = _
    have key : ∀ (l : List (Nat × Operand)) (us : List Value), (∀ x ∈ l.map (·.2), ∀ u, ev n al x = some u → ρ x = u) → evL n al (l.map (·.2)) = some us → l.map (fun (i, x) => (i, ρ x)) = (l.map (·.1)).zip us := by
      intro l
      induction l with
      | nil => intro us _ he; simp only [List.map_nil, evL] at he; cases he; rfl
      | cons p l ih =>
        intro us hx he
        simp only [List.map_cons, evL] at he
        cases h1 : ev n al p.2 with
        | none => rw [h1] at he; cases he
        | some v =>
          cases h2 : evL n al (l.map (·.2)) with
          | none => rw [h1, h2] at he; cases he
          | some us' =>
            rw [h1, h2] at he
            cases he
            simp only [List.map_cons, List.zip_cons_cons]
            rw [hx p.2 (by simp) v h1, ih us' (fun x hm => hx x (by simp only [List.map_cons]; exact List.mem_cons_of_mem _ hm)) h2]
    have hp : (parts.toArray.map fun (i, x) => (i, ρ x)) = ((parts.map (·.1)).zip vs).toArray := by
      rw [List.map_toArray, key parts vs (fun x hx u hu => hρ x (by simpa [Op.operands] using hx) u hu) ha]
    rw [hp, Sem.run_bind, run_buildS hT h w]; rfl⟩
theorem p_binG {op : BinOp} {v1 v2 v : Value} {U : TypeId} (hx : ev n al x = some v1) (hy : ev n al y = some v2) (hg : ∀ w : World, (eqGuard op T x y v1 v2).run P w = .ok () w) (hv : ∀ w : World, (binOp op T v1 v2).run P w = .ok v w) : PureOp P n al L R ⟨some d, .binOp op T x y U, ty, pos, aft, none⟩ v :=
  ⟨rfl, fun ρ w h _ => by
    have e : (execOp ρ ⟨some d, .binOp op T x y U, ty, pos, aft, none⟩) = (do let v ← (do eqGuard op T x y v1 v2; binOp op T v1 v2); pure (Next.value v)) := by
      simp only [execOp, h x (by simp [Op.operands]) _ hx, h y (by simp [Op.operands]) _ hy]
    rw [e]
    simp [hg w, hv w]⟩
theorem p_int {op : BinOp} {k k' : IntKind} {a b : Int} {v : Value} {U : TypeId} (hx : ev n al x = some (.int k a)) (hy : ev n al y = some (.int k' b)) (hv : ∀ w : World, (binOp op T (.int k a) (.int k' b)).run P w = .ok v w) : PureOp P n al L R ⟨some d, .binOp op T x y U, ty, pos, aft, none⟩ v := p_binG hx hy guard_int hv
theorem p_str {op : BinOp} {a b : ByteArray} {v : Value} {U : TypeId} (hx : ev n al x = some (.string a)) (hy : ev n al y = some (.string b)) (hv : ∀ w : World, (binOp op T (.string a) (.string b)).run P w = .ok v w) : PureOp P n al L R ⟨some d, .binOp op T x y U, ty, pos, aft, none⟩ v := p_binG hx hy guard_str hv
theorem p_bool {op : BinOp} {a b : Bool} {v : Value} {U : TypeId} (hx : ev n al x = some (.bool a)) (hy : ev n al y = some (.bool b)) (hv : ∀ w : World, (binOp op T (.bool a) (.bool b)).run P w = .ok v w) : PureOp P n al L R ⟨some d, .binOp op T x y U, ty, pos, aft, none⟩ v := p_binG hx hy guard_bool hv
theorem p_convInt {src dst : TypeId} {k k' : IntKind} {a : Int} {v : Value} (hs : P.underlying src = some (.int k')) (hd : P.underlying dst = some (.int k)) (hx : ev n al x = some (.int k' a)) (hv : Value.int k (k.wrap a) = v) : PureOp P n al L R ⟨some d, .convert src dst x, ty, pos, aft, none⟩ v :=
  ⟨rfl, fun ρ w h _ => by
    show (convert src dst (ρ x) >>= fun v => Pure.pure (Next.value v)).run P w = _
    have e : (convert src dst (.int k' a)).run P w = .ok v w := by
      unfold convert
      rw [Sem.run_bind, run_und hs]; simp only [Result.andThen]
      rw [Sem.run_bind, run_und hd]; simp only [Result.andThen]
      rw [← hv]; rfl
    rw [h x (by simp [Op.operands]) _ hx, Sem.run_bind, e]; rfl⟩
theorem p_convStr {src dst e : TypeId} {bs : List UInt8} {v : Value} (hs : P.underlying src = some (.slice e)) (he : P.underlying e = some (.int .u8)) (hd : P.underlying dst = some .string) (hx : ev n al x = some v) (hm : sl v bs ∈ R) : PureOp P n al L R ⟨some d, .convert src dst x, ty, pos, aft, none⟩ (.string (bstr bs)) :=
  ⟨rfl, fun ρ w h hst => by
    show (convert src dst (ρ x) >>= fun v => Pure.pure (Next.value v)).run P w = _
    obtain ⟨i, hi, hr⟩ := hst.ex
    have hsl := hr _ hm
    have hc := conv_bytes (P := P) hi hsl
    obtain ⟨base, cap, rfl, _, _⟩ := hsl
    rw [h x (by simp [Op.operands]) _ hx, Sem.run_bind]
    simp [convert, run_und hs, run_und hd, run_und he, hc]⟩
theorem p_indexAddrN {v : Value} {T e : TypeId} {sz len i : Nat} (ht : SliceOf P T e sz) (hx : ev n al x = some v) (hy : ev n al y = some (vi (i : Int))) (hl : SliceLen L R v len) (h1 : i < len) : PureOp P n al L R ⟨some d, .indexAddr T x y, ty, pos, aft, none⟩ (ep v sz i 0) :=
  ⟨rfl, fun ρ w h hs => by
    obtain ⟨base, cap, rfl, hb⟩ := hl w hs
    obtain ⟨a, rfl⟩ := hb (by omega)
    show (Instr.indexAt T (ρ x) (ρ y) >>= fun v => Pure.pure (Next.value v)).run P w = _
    rw [h x (by simp [Op.operands]) _ hx, h y (by simp [Op.operands]) _ hy, Sem.run_bind]
    have : (Instr.indexAt T (.slice (some a) len cap) (vi (i : Int))).run P w = .ok (.pointer (some (a.add (i * sz)))) w := by
      simp [Instr.indexAt, asIntOf, run_und ht.1, ht.2, h1]
    rw [this]; rfl⟩
/-- A place in an array behind a pointer. -/
theorem p_indexAddrA {b f i len sz : Nat} {T e : TypeId} (ht : P.underlying T = some (.array len e)) (hsz : ∀ w, (sizeOf e).run P w = .ok sz w) (hx : ev n al x = some (bp b f)) (hy : ev n al y = some (vi (i : Int))) (h1 : Nat.blt i len = true) : PureOp P n al L R ⟨some d, .indexAddr T x y, ty, pos, aft, none⟩ (bp b (f + i * sz)) :=
  ⟨rfl, fun ρ w h hs => by
    have h1' := blt_iff.1 h1
    show (Instr.indexAt T (ρ x) (ρ y) >>= fun v => Pure.pure (Next.value v)).run P w = _
    rw [h x (by simp [Op.operands]) _ hx, h y (by simp [Op.operands]) _ hy, Sem.run_bind]
    have : (Instr.indexAt T (bp b f) (vi (i : Int))).run P w = .ok (bp b (f + i * sz)) w := by
      simp [Instr.indexAt, asIntOf, run_und ht, hsz, bp, Instr.sureAddr, h1', add_mk]
    rw [this]; rfl⟩
/-- A pair of numbers. -/
theorem p_buildP {T e : TypeId} {p q : Operand} {a b : Int} (ht : P.underlying T = some (.array 2 e)) (hsz : ∀ w, (sizeOf e).run P w = .ok 1 w) (hz : ∀ w, (zeroValue T).run P w = .ok (.agg #[vi 0, vi 0]) w) (ha : ev n al p = some (vi a)) (hb : ev n al q = some (vi b)) :
    PureOp P n al L R ⟨some d, .build T #[(0, p), (1, q)], ty, pos, aft, none⟩ (.agg [vi a, vi b].toArray) :=
  ⟨rfl, fun ρ w h hs => by
    show (Instr.build T (#[(0, p), (1, q)].map fun (i, x) => (i, ρ x)) >>= fun v => Pure.pure (Next.value v)).run P w = _
    have e1 := h p (by simp [Op.operands]) _ ha
    have e2 := h q (by simp [Op.operands]) _ hb
    rw [Sem.run_bind]
    have : (Instr.build T (#[(0, p), (1, q)].map fun (i, x) => (i, ρ x))).run P w = .ok (.agg [vi a, vi b].toArray) w := by
      simp [Instr.build, hz, run_und ht, hsz, Instr.fill, e1, e2, Value.cells]
    rw [this]; rfl⟩
theorem at_Pair {v : Value} {i : Nat} {e : Int × Int} {xs : List (Int × Int)} (hm : sl v xs ∈ R) (hi : xs[i]? = some e) : CellsAt L R (ep v 2 i 0) [vi e.1, vi e.2] := at_slN (α := Int × Int) (f := 0) hm hi (fun cs m hr k c hk => by rw [hr.1, Nat.zero_add]; exact hk)
theorem at_Pairrow {v : Value} {i : Nat} {e : Int × Int} {xs : List (Int × Int)} {T : TypeId} (hp : Pick L (row T v xs) L') (hi : xs[i]? = some e) : CellsAt L R (ep v 2 i 0) [vi e.1, vi e.2] := at_rowN (α := Int × Int) (f := 0) hp hi (fun cs m hr k c hk => by rw [hr.1, Nat.zero_add]; exact hk)
end

/-! ### Numbers put together -/
section
variable {P : Program} {T : TypeId} {k : IntKind}
theorem b_shl4 {x : Int} (h0 : 0 ≤ x) (h1 : x ≤ 1000000000) (w : World) : (binOp .shl T (vi x) (.int k 4)).run P w = .ok (vi (16 * x)) w := by
  rw [b_shl (by omega) (by omega)]
  have : x * 2 ^ (4 : Int).toNat = 16 * x := by show x * 16 = _; omega
  rw [this, IntKind.wrap_i64, show (16 * x + 9223372036854775808) % 18446744073709551616 - 9223372036854775808 = 16 * x by omega]
theorem b_shl256 {x : Int} (h0 : 0 ≤ x) (h1 : x ≤ 1000000000) (w : World) : (binOp .shl T (vi x) (.int k 8)).run P w = .ok (vi (256 * x)) w := by
  rw [b_shl (by omega) (by omega)]
  have : x * 2 ^ (8 : Int).toNat = 256 * x := by show x * 256 = _; omega
  rw [this, IntKind.wrap_i64, show (256 * x + 9223372036854775808) % 18446744073709551616 - 9223372036854775808 = 256 * x by omega]
theorem b_shr256 {x : Int} (w : World) : (binOp .shr T (vi x) (.int k 8)).run P w = .ok (vi (x / 256)) w := b_shr (by omega) (by omega) w
theorem b_shr16 {x : UInt8} (w : World) : (binOp .shr T (vb x) (.int k 4)).run P w = .ok (vb (u8 ((x.toNat : Int) / 16))) w := b_shr8 (by omega) (by omega) w
theorem b_and15 {a : Int} (w : World) : (binOp .and T (vi a) (vi 15)).run P w = .ok (vi (a % 16)) w := by
  show Result.ok (Value.int .i64 (IntKind.i64.wrap ((BitVec.ofInt 64 a &&& BitVec.ofInt 64 15).toNat : Int))) w = _
  have h : (BitVec.ofInt 64 a &&& BitVec.ofInt 64 15).toNat = (a % 16).toNat := by
    rw [BitVec.toNat_and]
    have h1 : (BitVec.ofInt 64 15).toNat = 2 ^ 4 - 1 := by rw [BitVec.toNat_ofInt]; rfl
    rw [h1, Nat.and_two_pow_sub_one_eq_mod, BitVec.toNat_ofInt]
    omega
  rw [h, IntKind.wrap_i64]
  have : ((((a % 16).toNat : Nat) : Int) + 9223372036854775808) % 18446744073709551616 - 9223372036854775808 = a % 16 := by omega
  rw [this]
theorem b_and15b {x : UInt8} (w : World) : (binOp .and T (vb x) (.int .u8 15)).run P w = .ok (vb (u8 ((x.toNat : Int) % 16))) w := by
  have h := b_and8 (P := P) (T := T) (a := x) (b := 15) w
  have e : x &&& 15 = u8 ((x.toNat : Int) % 16) := by
    apply UInt8.toNat.inj
    have h1 : ((u8 ((x.toNat : Int) % 16)).toNat : Int) = (x.toNat : Int) % 16 := u8_in (by omega) (by omega)
    have h2 : (x &&& 15).toNat = x.toNat % 16 := by rw [UInt8.toNat_and]; exact Nat.and_two_pow_sub_one_eq_mod x.toNat 4
    omega
  rw [e] at h; exact h
theorem or_add {a b i : Nat} (h : b < 2 ^ i) : (2 ^ i * a) ||| b = 2 ^ i * a + b := by
  rw [Nat.mul_comm, ← Nat.shiftLeft_eq]
  exact (Nat.shiftLeft_add_eq_or_of_lt h a).symm
theorem b_or16 {a b : Int} (h0 : 0 ≤ a) (h1 : a ≤ 1000000000) (h2 : 0 ≤ b) (h3 : b < 16) (w : World) : (binOp .or T (vi (16 * a)) (vi b)).run P w = .ok (vi (16 * a + b)) w := by
  obtain ⟨x, rfl⟩ := Int.eq_ofNat_of_zero_le h0
  obtain ⟨y, rfl⟩ := Int.eq_ofNat_of_zero_le h2
  have e : (16 : Int) * (x : Int) = ((16 * x : Nat) : Int) := by omega
  rw [e, b_orN (by omega) (by omega), show 16 * x = 2 ^ 4 * x from rfl, or_add (by omega)]
  rw [show ((2 ^ 4 * x + y : Nat) : Int) = ((16 * x : Nat) : Int) + (y : Int) by omega]
theorem b_or256 {a b : Int} (h0 : 0 ≤ a) (h1 : a ≤ 1000000000) (h2 : 0 ≤ b) (h3 : b < 256) (w : World) : (binOp .or T (vi (256 * a)) (vi b)).run P w = .ok (vi (256 * a + b)) w := by
  obtain ⟨x, rfl⟩ := Int.eq_ofNat_of_zero_le h0
  obtain ⟨y, rfl⟩ := Int.eq_ofNat_of_zero_le h2
  have e : (256 : Int) * (x : Int) = ((256 * x : Nat) : Int) := by omega
  rw [e, b_orN (by omega) (by omega), show 256 * x = 2 ^ 8 * x from rfl, or_add (by omega)]
  rw [show ((2 ^ 8 * x + y : Nat) : Int) = ((256 * x : Nat) : Int) + (y : Int) by omega]
end
/-! ### Blocks and parts of slices, where the order is open -/
section
variable {P : Program} {n : Nat} {Q : Exit → Act → World → Prop} {Sh : Rho → (Nat → Bool) → List Chunk} {R0 : List Fact} {al0 : List (Nat × Value)}
variable {ops : Array Oper} {i : Nat} {rest : List Oper} {its : List Item} {d : Nat} {x y : Operand} {T ty : TypeId} {pos : String} {aft : Array Edge}
theorem d_alloc {z : Value} {cs : List Value} (hz : ∀ w, (zeroValue T).run P w = .ok z w) (hv : z.cells = cs.toArray) (hSh : ∀ ρ g S, S i = false → Sh (Rho.set ρ i g) (upS S i) = Sh ρ S)
    (k : DJ P n ops Q Sh R0 al0 (i + 1) rest (⟨i, some d, fun ρ => bp (Gh.dec (γ := Nat) (ρ i)) 0, fun _ => [], fun ρ => [blk (Gh.dec (γ := Nat) (ρ i)) T cs]⟩ :: its)) : DN P n ops Q Sh R0 al0 i ⟨some d, .alloc T, ty, pos, aft, none⟩ rest its :=
  d_res (γ := Nat) (val := fun b => bp b 0) (F := fun _ => []) (C := fun b => [blk b T cs]) rfl rfl hSh (fun ρ S a L' R' w K h hK => by
    unfold Oper.wp
    have e : (execOp a.eval ⟨some d, .alloc T, ty, pos, aft, none⟩).run P w = .ok (.value (bp w.heap.size 0)) { w with heap := w.heap.push (.cells cs.toArray T (0, 0)) } := by
      show (Instr.alloc T true (.tuple #[]) >>= fun v => Pure.pure (Next.value v)).run P w = _
      simp [Instr.alloc, hz, hv, newVar, newRow, bp]
    rw [e, Oper.upon_value]
    exact hK w.heap.size _ (h.st.new (.cells cs.toArray T (0, 0)))) k
theorem sh_add {α : Type} {l : List α} {x : α} : (l ++ [x]).Perm (x :: (l ++ [])) := by rw [List.append_nil]; exact (List.perm_append_comm (l₁ := l) (l₂ := [x]))
/-- New memory that a later operation of the same statement writes. -/
theorem d_allocSh {z : Value} {cs : List Value} (hz : ∀ w, (zeroValue T).run P w = .ok z w) (hv : z.cells = cs.toArray) (hSh : ∀ ρ (b : Nat) S, S i = false → (∀ j, Bef ops i j → S j = false) → (Sh (Rho.set ρ i (Gh.enc b)) (upS S i)).Perm (blk b T cs :: Sh ρ S))
    (k : DJ P n ops Q Sh R0 al0 (i + 1) rest (⟨i, some d, fun ρ => bp (Gh.dec (γ := Nat) (ρ i)) 0, fun _ => [], fun _ => []⟩ :: its)) : DN P n ops Q Sh R0 al0 i ⟨some d, .alloc T, ty, pos, aft, none⟩ rest its := by
  refine ⟨⟨i, some d, fun ρ => bp (Gh.dec (γ := Nat) (ρ i)) 0, fun _ => [], fun _ => []⟩, rfl, rfl, Ind.self (h := fun g => bp (Gh.dec (γ := Nat) g) 0), Ind.const _, Ind.const _, ?_, k⟩
  intro ρ S a L' R' w K hS hbef haft hag hdep hbase hst hK
  rw [if_pos (by simp [Region.wanted])]
  left
  unfold Oper.wp
  have e : (execOp a.eval ⟨some d, .alloc T, ty, pos, aft, none⟩).run P w = .ok (.value (bp w.heap.size 0)) { w with heap := w.heap.push (.cells cs.toArray T (0, 0)) } := by
    show (Instr.alloc T true (.tuple #[]) >>= fun v => Pure.pure (Next.value v)).run P w = _
    simp [Instr.alloc, hz, hv, newVar, newRow, bp]
  rw [e, Oper.upon_value]
  have e2 : (Rho.set ρ i (Gh.enc w.heap.size)) i = Gh.enc w.heap.size := by simp [Rho.set]
  have := hK (Gh.enc w.heap.size) _ (((hst.new (.cells cs.toArray T (0, 0)))).perm ?_)
  · simp only [e2, Gh.ok] at this; exact this
  · refine List.Perm.trans ?_ ((hSh ρ w.heap.size S hS haft).symm.append_right _)
    exact List.Perm.refl _
/-- The whole of it is written. -/
theorem d_storeSh {b : Rho → Nat} {vs cs : Rho → List Value} {sz : Nat} {T0 : TypeId} (hsz : ∀ w, (sizeOf T).run P w = .ok sz w) (hx : ∀ ρ, ev n (alOf its al0 ρ) x = some (bp (b ρ) 0)) (hy : ∀ ρ, ev n (alOf its al0 ρ) y = some (.agg (cs ρ).toArray)) (hl : ∀ ρ, (cs ρ).length = sz) (h1 : ∀ ρ, ∀ u ∈ cs ρ, u.oneCell' = true) (hvl : ∀ ρ, (vs ρ).length = sz)
    (hSh : ∀ ρ g S, S i = false → (∀ j, Bef ops j i → S j = true) → ∃ L1, (Sh ρ S).Perm (blk (b ρ) T0 (vs ρ) :: L1) ∧ (Sh (Rho.set ρ i g) (upS S i)).Perm (blk (b ρ) T0 (cs ρ) :: L1))
    (k : DJ P n ops Q Sh R0 al0 (i + 1) rest (⟨i, none, fun _ => undef, fun _ => [], fun _ => []⟩ :: its)) : DN P n ops Q Sh R0 al0 i ⟨none, .store T x y, ty, pos, aft, none⟩ rest its := by
  refine ⟨⟨i, none, fun _ => undef, fun _ => [], fun _ => []⟩, rfl, rfl, Ind.const _, Ind.const _, Ind.const _, ?_, k⟩
  intro ρ S a L' R' w K hS hbef haft hag hdep hbase hst hK
  rw [if_pos (by simp [Region.wanted])]
  left
  unfold Oper.wp
  obtain ⟨L1, p1, p2⟩ := hSh ρ (ρ i) S hS hbef
  have hs' : St (blk (b ρ) T0 (vs ρ) :: (L1 ++ L')) R' w := hst.perm (p1.append_right L')
  have e : (execOp a.eval ⟨none, .store T x y, ty, pos, aft, none⟩).run P w = .ok .skip (w.setRow (b ρ) (cs ρ).toArray) := by
    refine exec_store ?_
    rw [agree_ev hag (by simp [Op.operands]) (hx ρ), agree_ev hag (by simp [Op.operands]) (hy ρ)]
    have := run_storeN (P := P) (T := T) (b := b ρ) (f := 0) (vs := vs ρ) (cs := cs ρ) (w := w) (by rw [hl]; exact hsz) (h1 ρ) hs'.blk_get (by rw [hl, hvl]; omega)
    rw [this, hl, ← hvl ρ]
    simp
  rw [e, Oper.upon_skip]
  refine hK (ρ i) _ ?_
  have hnew : St (blk (b ρ) T0 (cs ρ) :: (L1 ++ L')) R' (w.setRow (b ρ) (cs ρ).toArray) := hs'.blk_set (setRow_heap' hs'.blk_get).1 (setRow_heap' hs'.blk_get).2 rfl rfl
  exact hnew.perm (p2.symm.append_right L')
theorem d_convStr {src dst e : TypeId} {bs : List UInt8} {v : Rho → Value} (hs : P.underlying src = some (.slice e)) (he : P.underlying e = some (.int .u8)) (hd : P.underlying dst = some .string) (hx : ∀ ρ, ev n (alOf its al0 ρ) x = some (v ρ)) (hm : ∀ ρ R', Deps ops R0 its i ρ R' → sl (v ρ) bs ∈ R') (hSh : ∀ ρ g S, S i = false → Sh (Rho.set ρ i g) (upS S i) = Sh ρ S)
    (k : DJ P n ops Q Sh R0 al0 (i + 1) rest (⟨i, some d, fun _ => .string (bstr bs), fun _ => [], fun _ => []⟩ :: its)) : DN P n ops Q Sh R0 al0 i ⟨some d, .convert src dst x, ty, pos, aft, none⟩ rest its :=
  d_pure rfl rfl hSh (Ind.const _) (fun ρ S a L' R' w h => by
    show (convert src dst (a.eval x) >>= fun v => Pure.pure (Next.value v)).run P w = _
    obtain ⟨j, hj, hr⟩ := h.st.ex
    have hsl := hr _ (hm ρ R' ⟨h.base, h.deps⟩)
    have hc := conv_bytes (P := P) hj hsl
    obtain ⟨base, cap, hv, _, _⟩ := hsl
    have hev := agree_ev h.agree (by simp [Op.operands]) (hx ρ)
    rw [hev, Sem.run_bind]
    rw [hv] at hc ⊢
    simp [convert, run_und hs, run_und hd, run_und he, hc]) k
theorem d_sliceP {α : Type} [Enc α] {v : Value} {xs : List α} {t e : TypeId} {low high : Option Operand} {lo hi : Nat} (ht : SliceOf P t e (Enc.sz α)) (hx : ∀ ρ, ev n (alOf its al0 ρ) x = some v) (hm : sl v xs ∈ R0)
    (hlo : ∀ ρ, match low with | none => lo = 0 | some y => ev n (alOf its al0 ρ) y = some (vi (lo : Int))) (hhi : ∀ ρ, match high with | none => hi = xs.length | some y => ev n (alOf its al0 ρ) y = some (vi (hi : Int))) (h1 : lo ≤ hi) (h2 : hi ≤ xs.length) (hSh : ∀ ρ g S, S i = false → Sh (Rho.set ρ i g) (upS S i) = Sh ρ S)
    (k : DJ P n ops Q Sh R0 al0 (i + 1) rest (⟨i, some d, fun ρ => Gh.dec (γ := Value) (ρ i), fun ρ => [sl (Gh.dec (γ := Value) (ρ i)) ((xs.take hi).drop lo)], fun _ => []⟩ :: its)) : DN P n ops Q Sh R0 al0 i ⟨some d, .slice t x low high none, ty, pos, aft, none⟩ rest its :=
  d_res (γ := Value) (val := fun u => u) (F := fun u => [sl u ((xs.take hi).drop lo)]) (C := fun _ => []) rfl rfl hSh (fun ρ S a L' R' w K h hK => by
    obtain ⟨j, hj, hr⟩ := h.st.ex
    have hsl := hr _ (h.base _ hm)
    have hsl0 := hsl
    obtain ⟨base, cap, rfl, ⟨hn1, hn2⟩, hc⟩ := hsl0
    unfold Oper.wp
    have e : (execOp a.eval ⟨some d, .slice t x low high none, ty, pos, aft, none⟩).run P w = .ok (.value (.slice (if cap = lo then base else base.map (·.add (lo * Enc.sz α))) (hi - lo) (cap - lo))) w := by
      show (Instr.sliceAt t (a.eval x) (low.map a.eval) (high.map a.eval) none >>= fun v => Pure.pure (Next.value v)).run P w = _
      rw [agree_ev h.agree (by simp [Op.operands]) (hx ρ), Sem.run_bind]
      have hlo' : (low.map a.eval = none ∧ lo = 0) ∨ low.map a.eval = some (vi (lo : Int)) := by
        have hl := hlo ρ
        cases low with
        | none => exact .inl ⟨rfl, hl⟩
        | some y => right; simp only [Option.map_some]; rw [agree_ev h.agree (by simp [Op.operands]) hl]
      have hhi' : (high.map a.eval = none ∧ hi = xs.length) ∨ high.map a.eval = some (vi (hi : Int)) := by
        have hl := hhi ρ
        cases high with
        | none => exact .inl ⟨rfl, hl⟩
        | some y => right; simp only [Option.map_some]; rw [agree_ev h.agree (by simp [Op.operands]) hl]
      have e1 : (0 : Int) ≤ (lo : Int) ∧ (lo : Int) ≤ (hi : Int) := by omega
      have e2 : (0 : Int) ≤ (hi : Int) ∧ (hi : Int) ≤ (cap : Int) := by omega
      rcases hlo' with ⟨a1, a2⟩ | a1 <;> rcases hhi' with ⟨b1, b2⟩ | b1 <;> rw [a1, b1] <;>
        simp [Instr.sliceAt, Instr.slice, Instr.sliceBounds, Instr.sliceBound, run_und ht.1, ht.2, asIntOf, e1, e2, h1, h2, hn2] <;> (try subst a2) <;> (try subst b2) <;> (try simp) <;> (try omega)
    rw [e, Oper.upon_value]
    exact hK _ w (h.st.addFact fun i' h' => part_sl (h' _ (h.base _ hm)) h1 h2)) k
end
/-! ### What hangs on an operation that was left out -/
def gu (n : Nat) (al : List (Nat × Value)) (ops : List Oper) (i : Nat) : Bool := match nthO ops i with
  | some o => match o.dst with
    | some t => match ev n al (.tmp t) with
      | some (.tuple _) => true
      | _ => false
    | none => false
  | none => false
theorem gu_spec {n : Nat} {al : List (Nat × Value)} {l : List Oper} {i : Nat} (h : gu n al l i = true) : ∃ o t c, l.toArray[i]? = some o ∧ o.dst = some t ∧ ev n al (.tmp t) = some (.tuple c) := by
  unfold gu at h
  rw [nthO_eq] at h
  cases ho : l[i]? with
  | none => rw [ho] at h; cases h
  | some o =>
    rw [ho] at h
    simp only at h
    cases hd : o.dst with
    | none => rw [hd] at h; cases h
    | some t =>
      rw [hd] at h
      simp only at h
      split at h
      · rename_i c he; exact ⟨o, t, c, by simpa using ho, hd, he⟩
      · cases h
section
variable {P : Program} {n : Nat} {Q : Exit → Act → World → Prop} {rest : List Oper} {L : List Chunk} {R : List Fact} {al : List (Nat × Value)} {d : Nat} {ty : TypeId} {pos : String} {aft : Array Edge}
theorem J.guardUndef {l : List Oper} {op : Go.Op} {i : Nat} {b : Bool} (hv : gu n al l i = true)
    (k : J P n l.toArray Q rest L R ((d, undef) :: al)) : J P n l.toArray Q (⟨some d, op, ty, pos, aft, some (i, b)⟩ :: rest) L R al := by
  obtain ⟨oi, t, c, hi, ht, he⟩ := gu_spec hv
  intro B w hs
  unfold wpList
  have hw : Region.wanted ⟨some d, op, ty, pos, aft, some (i, b)⟩ (yielded l.toArray (mkA n al B).tmps) = false := by
    simp only [Region.wanted, yielded, hi, Option.bind_some, ht, look_tmps he]
    rfl
  rw [if_neg (by simp [hw]), mkA_put]
  exact k B w hs
end
section
variable {P : Program} {n : Nat} {Q : Exit → Act → World → Prop} {Sh : Rho → (Nat → Bool) → List Chunk} {R0 : List Fact} {al0 : List (Nat × Value)}
variable {i : Nat} {rest : List Oper} {its : List Item} {d : Nat} {ty : TypeId} {pos : String} {aft : Array Edge}
theorem d_guardUndef {l : List Oper} {op : Go.Op} {q : Nat} {b : Bool} (hv : ∀ ρ, gu n (alOf its al0 ρ) l q = true) (hSh : ∀ ρ g S, S i = false → Sh (Rho.set ρ i g) (upS S i) = Sh ρ S)
    (k : DJ P n l.toArray Q Sh R0 al0 (i + 1) rest (⟨i, some d, fun _ => undef, fun _ => [], fun _ => []⟩ :: its)) : DN P n l.toArray Q Sh R0 al0 i ⟨some d, op, ty, pos, aft, some (q, b)⟩ rest its := by
  refine ⟨⟨i, some d, fun _ => undef, fun _ => [], fun _ => []⟩, rfl, rfl, Ind.const _, Ind.const _, Ind.const _, ?_, k⟩
  intro ρ S a L' R' w K hS hbef haft hag hdep hbase hst hK
  obtain ⟨oi, t, c, hq, ht, he⟩ := gu_spec (hv ρ)
  have hl : a.tmps[t]? = some (.tuple c) := hag t _ (by unfold Oper.looksAt; refine List.mem_append_right _ ?_; simp only [hq, Option.bind_some, ht]; simp) he
  have hw : Region.wanted (⟨some d, op, ty, pos, aft, some (q, b)⟩ : Oper) (yielded l.toArray a.tmps) = false := by
    simp only [Region.wanted, yielded, hq, Option.bind_some, ht, hl]
    rfl
  rw [if_neg (by simp [hw])]
  have := hK (ρ i) w
  exact this (by rw [hSh _ _ _ hS]; exact hst)
end
theorem beq_iff2 {a b c d : Int} : ((a == b) = (c == d)) ↔ (a = b ↔ c = d) := by
  by_cases h1 : a = b
  · by_cases h2 : c = d
    · simp [h1, h2]
    · have : (c == d) = false := beq_eq_false_iff_ne.2 h2
      rw [this]; simp [h1, h2]
  · have e1 : (a == b) = false := beq_eq_false_iff_ne.2 h1
    by_cases h2 : c = d
    · rw [e1]; simp [h1, h2]
    · have : (c == d) = false := beq_eq_false_iff_ne.2 h2
      rw [e1, this]; simp [h1, h2]
/-! ### What is owned, lent to a call that leaves all as it was -/
def memC (m : Mem) : Chunk := ⟨fun m' _ => Mem.le m m', fun _ _ _ _ h => h⟩
def memF (m : Mem) : Fact := ⟨fun m' => Mem.le m m', fun _ _ h h' => Mem.le_trans h' h⟩
theorem borrow {P : Program} {γ : Type} {val : γ → Value} {f : FuncId} {args : Array Value} {c : Chunk} {F : Fact} {L : List Chunk} {R : List Fact} {w : World} (hcF : ∀ m i, Mem.disj m i → c.p m i → F.p (Mem.join m i))
    (hc : ∀ L' R' w, St L' R' w → F ∈ R' → (∀ f ∈ R, f ∈ R') → Calls P f args w (Post val (fun _ => L') (fun _ => R'))) (hs : St (c :: L) R w) : Calls P f args w (Post val (fun _ => c :: L) (fun _ => R)) := by
  obtain ⟨m, i, hd, hm, hi, ⟨m1, m2, hd', h1, h2, hcp, hst⟩, hr⟩ := hs
  have d1 : Mem.disj m1 i := Mem.disj_le hd h1 (Mem.le_refl _)
  have d2 : Mem.disj m2 i := Mem.disj_le hd h2 (Mem.le_refl _)
  have hs' : St [memC m2] (F :: memF m1 :: memF i :: R) w := by
    refine ⟨m2, Mem.join m1 i, Mem.disj_symm (Mem.disj_join hd' (Mem.disj_symm d2)), Mem.le_trans h2 hm, Mem.join_le (Mem.le_trans h1 hm) hi, ⟨m2, fun _ => none, fun _ => .inr rfl, Mem.le_refl _, (fun _ _ e => by cases e), Mem.le_refl _, trivial⟩, ?_⟩
    intro g hg
    rcases List.mem_cons.1 hg with e | hg
    · rw [e]; exact hcF m1 i d1 hcp
    rcases List.mem_cons.1 hg with e | hg
    · rw [e]; exact Mem.le_joinL _ _
    rcases List.mem_cons.1 hg with e | hg
    · rw [e]; exact Mem.le_joinR d1
    · exact g.mono _ _ (Mem.le_joinR d1) (hr g hg)
  refine (hc _ _ _ hs' (List.Mem.head _) (fun g hg => .tail _ (.tail _ (.tail _ hg)))).mono ?_
  rintro e w' ⟨g, rfl, n, j, k1, k2, k3, ⟨n1, n2, k4, k5, k6, k7, k8⟩, k9⟩
  refine ⟨g, rfl, Mem.join m1 m2, i, Mem.disj_join d1 d2, ?_, ?_, ⟨m1, m2, hd', Mem.le_joinL _ _, Mem.le_joinR hd', hcp, hst⟩, hr⟩
  · exact Mem.join_le (Mem.le_trans (k9 (memF m1) (.tail _ (.head _))) k3) (Mem.le_trans (Mem.le_trans k7 k5) k2)
  · exact Mem.le_trans (k9 (memF i) (.tail _ (.tail _ (.head _)))) k3
theorem lend {P : Program} {γ : Type} {val : γ → Value} {f : FuncId} {args : Array Value} {α : Type} [Enc α] {T : TypeId} {v : Value} {xs : List α} {L L' : List Chunk} {R : List Fact} {w : World} (hp : Pick L (row T v xs) L')
    (hc : ∀ L' R' w, St L' R' w → sl v xs ∈ R' → (∀ f ∈ R, f ∈ R') → Calls P f args w (Post val (fun _ => L') (fun _ => R'))) (hs : St L R w) : Calls P f args w (Post val (fun _ => row T v xs :: L') (fun _ => R)) :=
  borrow (F := sl v xs) (fun m i hd h => row_isSlice hd h) hc (hs.pick hp)
/-! ### More arithmetic -/
section
variable {P : Program} {T : TypeId} {k : IntKind}
theorem b_quoP {a b : Int} (h0 : 0 ≤ a) (h1 : a ≤ 9223372036854775807) (hb : 0 < b) (w : World) : (binOp .quo T (vi a) (vi b)).run P w = .ok (vi (a / b)) w := by
  have e : a.tdiv b = a / b := Int.tdiv_eq_ediv_of_nonneg h0
  have h2 : 0 ≤ a / b := Int.ediv_nonneg h0 (by omega)
  have h3 : a / b ≤ a := Int.ediv_le_self _ h0
  rw [← e]
  exact b_quo (by omega) (by rw [e]; omega) (by rw [e]; omega) w
theorem b_remP {a b : Int} (h0 : 0 ≤ a) (hb : 0 < b) (hb2 : b ≤ 9223372036854775807) (w : World) : (binOp .rem T (vi a) (vi b)).run P w = .ok (vi (a % b)) w := by
  have e : a.tmod b = a % b := Int.tmod_eq_emod_of_nonneg h0
  have h2 : 0 ≤ a % b := Int.emod_nonneg _ (by omega)
  have h3 : a % b < b := Int.emod_lt_of_pos _ hb
  rw [← e]
  exact b_rem (by omega) (by rw [e]; omega) (by rw [e]; omega) w
theorem b_quoN {a b : Nat} (h1 : a ≤ 9223372036854775807) (hb : 0 < b) (w : World) : (binOp .quo T (vi (a : Int)) (vi (b : Int))).run P w = .ok (vi ((a / b : Nat) : Int)) w := by
  rw [b_quoP (by omega) (by omega) (by omega), Int.natCast_ediv]
theorem b_remN {a b : Nat} (hb : 0 < b) (hb2 : b ≤ 9223372036854775807) (w : World) : (binOp .rem T (vi (a : Int)) (vi (b : Int))).run P w = .ok (vi ((a % b : Nat) : Int)) w := by
  rw [b_remP (by omega) (by omega) (by omega), Int.natCast_emod]
theorem b_addN {a b : Nat} (h : a + b ≤ 9223372036854775807) (w : World) : (binOp .add T (vi (a : Int)) (vi (b : Int))).run P w = .ok (vi ((a + b : Nat) : Int)) w := by
  rw [b_add (by omega) (by omega), Int.natCast_add]
theorem mask_eq : ∀ k : _root_.Fin 8, u8 (((1 : UInt8).toNat : Int) * 2 ^ k.val) = (1 : UInt8) <<< UInt8.ofNat k.val := by decide
theorem mask_pow : ∀ k : _root_.Fin 8, ((1 : UInt8) <<< UInt8.ofNat k.val).toNat = 2 ^ k.val := by decide
theorem xor_mask (c : UInt8) (k : Nat) (hk : k < 8) : u8 ((c.toNat ^^^ 2 ^ k : Nat) : Int) = c ^^^ ((1 : UInt8) <<< UInt8.ofNat k) := by
  apply UInt8.toNat.inj
  have h := u8_mod ((c.toNat ^^^ 2 ^ k : Nat) : Int)
  have h1 := mask_pow ⟨k, hk⟩
  simp only at h1
  have h2 : c.toNat ^^^ 2 ^ k < 256 := Nat.xor_lt_two_pow (n := 8) c.toNat_lt (Nat.pow_lt_pow_right (by omega) hk)
  rw [UInt8.toNat_xor, h1]
  omega
theorem conv_div16 (x : UInt8) : Value.int .i64 (IntKind.i64.wrap ((u8 ((x.toNat : Int) / 16)).toNat : Int)) = vi ((x.toNat : Int) / 16) := by
  have := x.toNat_lt
  rw [wrap_byte, u8_in (by omega) (by omega)]
theorem conv_mod16 (x : UInt8) : Value.int .i64 (IntKind.i64.wrap ((u8 ((x.toNat : Int) % 16)).toNat : Int)) = vi ((x.toNat : Int) % 16) := by
  rw [wrap_byte, u8_in (by omega) (by omega)]
end
/-- Fields that fit into a frame's bytes. -/
def MsgIn (m : Msg) : Prop := (0 ≤ m.kind ∧ m.kind ≤ 255) ∧ (0 ≤ m.src ∧ m.src ≤ 15) ∧ (0 ≤ m.dst ∧ m.dst ≤ 15) ∧ (0 ≤ m.line ∧ m.line ≤ 255) ∧ (0 ≤ m.serial ∧ m.serial ≤ 65535) ∧ (0 ≤ m.turn ∧ m.turn ≤ 65535) ∧ (0 ≤ m.value ∧ m.value ≤ 255)
theorem MsgIn.wf {m : Msg} (h : MsgIn m) : m.wf := by unfold MsgIn at h; unfold Msg.wf In64; omega
theorem msgIn_of {c : Config} {m : Msg} (h : msgWrong c m = 0) (h1 : c.cores ≤ 15) (h2 : c.lines ≤ 256) : MsgIn m := by
  obtain ⟨g1, g2, g3, g4, g5, g6, g7⟩ := wrong_ok h
  unfold MsgIn; omega
theorem at8_in (b : List UInt8) (i : Nat) : 0 ≤ at8 b i ∧ at8 b i ≤ 255 := by unfold at8; have := (b.getD i 0).toNat_lt; omega
theorem msgOf_wf (b : List UInt8) : (msgOf b).wf := by
  have h0 := at8_in b 0; have h1 := at8_in b 1; have h2 := at8_in b 2; have h3 := at8_in b 3; have h4 := at8_in b 4; have h5 := at8_in b 5; have h6 := at8_in b 6; have h7 := at8_in b 7
  unfold Msg.wf In64 msgOf; simp only; omega
theorem b_streq_T {P : Program} {T : TypeId} {a b : List UInt8} (h : a = b) (w : World) : (binOp .eql T (.string (bstr a)) (.string (bstr b))).run P w = .ok (.bool true) w := by rw [b_streq, decide_eq_true h]
theorem b_streq_F {P : Program} {T : TypeId} {a b : List UInt8} (h : a ≠ b) (w : World) : (binOp .eql T (.string (bstr a)) (.string (bstr b))).run P w = .ok (.bool false) w := by rw [b_streq, decide_eq_false h]
theorem b_strne_T {P : Program} {T : TypeId} {a b : List UInt8} (h : a ≠ b) (w : World) : (binOp .neq T (.string (bstr a)) (.string (bstr b))).run P w = .ok (.bool true) w := by rw [b_strne, decide_eq_false h]; rfl
theorem b_strne_F {P : Program} {T : TypeId} {a b : List UInt8} (h : a = b) (w : World) : (binOp .neq T (.string (bstr a)) (.string (bstr b))).run P w = .ok (.bool false) w := by rw [b_strne, decide_eq_true h]; rfl
end Go.Proofs.Ythnokijkdobdfaa
