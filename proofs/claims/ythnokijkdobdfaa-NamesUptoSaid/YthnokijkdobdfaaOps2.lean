/- This file proves the rules for bits, conversions, texts of bytes, closures, and parts of slices. No conditions. -/
import Derived.Test.YthnokijkdobdfaaDraw3
import Derived.Test.YthnokijkdobdfaaFrame
import Derived.Laws.BytesString
set_option linter.unusedVariables false
set_option linter.unusedSimpArgs false
namespace Go.Proofs.Ythnokijkdobdfaa
open Go

/-! ### Bits of numbers -/
theorem wrap64_nat {a : Nat} (h : a < 9223372036854775808) : IntKind.i64.wrap (a : Int) = (a : Int) := by rw [IntKind.wrap_i64]; omega
theorem ofInt_nat (a : Nat) (h : a < 18446744073709551616) : (BitVec.ofInt 64 (a : Int)).toNat = a := by
  rw [BitVec.toNat_ofInt]; omega
section
variable {P : Program} {T : TypeId} {a b : Nat}
theorem and_lt64 (ha : a < 9223372036854775808) : a &&& b < 9223372036854775808 := Nat.lt_of_le_of_lt Nat.and_le_left ha
theorem or_lt64 (ha : a < 9223372036854775808) (hb : b < 9223372036854775808) : a ||| b < 9223372036854775808 := Nat.or_lt_two_pow (n := 63) ha hb
theorem xor_lt64 (ha : a < 9223372036854775808) (hb : b < 9223372036854775808) : a ^^^ b < 9223372036854775808 := Nat.xor_lt_two_pow (n := 63) ha hb
theorem b_andN (ha : a < 9223372036854775808) (hb : b < 9223372036854775808) (w : World) : (binOp .and T (vi (a : Int)) (vi (b : Int))).run P w = .ok (vi ((a &&& b : Nat) : Int)) w := by
  show Result.ok (Value.int .i64 (IntKind.i64.wrap ((BitVec.ofInt 64 (a : Int) &&& BitVec.ofInt 64 (b : Int)).toNat : Int))) w = _
  rw [BitVec.toNat_and, ofInt_nat a (by omega), ofInt_nat b (by omega), wrap64_nat (and_lt64 ha)]
theorem b_orN (ha : a < 9223372036854775808) (hb : b < 9223372036854775808) (w : World) : (binOp .or T (vi (a : Int)) (vi (b : Int))).run P w = .ok (vi ((a ||| b : Nat) : Int)) w := by
  show Result.ok (Value.int .i64 (IntKind.i64.wrap ((BitVec.ofInt 64 (a : Int) ||| BitVec.ofInt 64 (b : Int)).toNat : Int))) w = _
  rw [BitVec.toNat_or, ofInt_nat a (by omega), ofInt_nat b (by omega), wrap64_nat (or_lt64 ha hb)]
theorem b_xorN (ha : a < 9223372036854775808) (hb : b < 9223372036854775808) (w : World) : (binOp .xor T (vi (a : Int)) (vi (b : Int))).run P w = .ok (vi ((a ^^^ b : Nat) : Int)) w := by
  show Result.ok (Value.int .i64 (IntKind.i64.wrap ((BitVec.ofInt 64 (a : Int) ^^^ BitVec.ofInt 64 (b : Int)).toNat : Int))) w = _
  rw [BitVec.toNat_xor, ofInt_nat a (by omega), ofInt_nat b (by omega), wrap64_nat (xor_lt64 ha hb)]
theorem b_xor8 {a b : UInt8} (w : World) : (binOp .xor T (vb a) (vb b)).run P w = .ok (vb (a ^^^ b)) w := by
  show Result.ok (Value.int .u8 (IntKind.u8.wrap ((BitVec.ofInt 8 (a.toNat : Int) ^^^ BitVec.ofInt 8 (b.toNat : Int)).toNat : Int))) w = _
  have h1 : (BitVec.ofInt 8 (a.toNat : Int)).toNat = a.toNat := by rw [BitVec.toNat_ofInt]; have := a.toNat_lt; omega
  have h2 : (BitVec.ofInt 8 (b.toNat : Int)).toNat = b.toNat := by rw [BitVec.toNat_ofInt]; have := b.toNat_lt; omega
  have : a.toNat ^^^ b.toNat < 256 := Nat.xor_lt_two_pow (n := 8) a.toNat_lt b.toNat_lt
  rw [BitVec.toNat_xor, h1, h2, IntKind.wrap_u8]
  simp only [vb, UInt8.toNat_xor]
  congr 2; omega
/-- Shifts. -/
theorem b_shl {k : IntKind} {x s : Int} (h0 : 0 ≤ s) (h1 : s ≤ 63) (w : World) : (binOp .shl T (vi x) (.int k s)).run P w = .ok (vi (IntKind.i64.wrap (x * 2 ^ s.toNat))) w := by
  have : ¬ s < 0 := by omega
  have h2 : min s.toNat IntKind.i64.bits = s.toNat := by show min s.toNat 64 = _; omega
  simp [binOp, Op.shift, this, h2]
theorem b_shr {k : IntKind} {x s : Int} (h0 : 0 ≤ s) (h1 : s ≤ 63) (w : World) : (binOp .shr T (vi x) (.int k s)).run P w = .ok (vi (x / 2 ^ s.toNat)) w := by
  have : ¬ s < 0 := by omega
  have h2 : min s.toNat IntKind.i64.bits = s.toNat := by show min s.toNat 64 = _; omega
  simp [binOp, Op.shift, this, h2]
theorem b_shr8 {k : IntKind} {x : UInt8} {s : Int} (h0 : 0 ≤ s) (h1 : s ≤ 7) (w : World) : (binOp .shr T (vb x) (.int k s)).run P w = .ok (vb (u8 ((x.toNat : Int) / 2 ^ s.toNat))) w := by
  have : ¬ s < 0 := by omega
  have h2 : min s.toNat IntKind.u8.bits = s.toNat := by show min s.toNat 8 = _; omega
  have hx := x.toNat_lt
  have h4 : ((x.toNat : Int)).fdiv (2 ^ s.toNat) = (x.toNat : Int) / 2 ^ s.toNat := Int.fdiv_eq_ediv_of_nonneg _ (Int.pow_nonneg (by omega))
  have h3 : ((u8 ((x.toNat : Int) / 2 ^ s.toNat)).toNat : Int) = (x.toNat : Int) / 2 ^ s.toNat := by
    apply u8_in
    · exact Int.ediv_nonneg (by omega) (Int.pow_nonneg (by omega))
    · exact Int.le_trans (Int.ediv_le_self _ (by omega)) (by omega)
  simp only [binOp, Op.shift, this, h2, if_false]
  rw [h4, vb, h3]; rfl
theorem b_shl8 {k : IntKind} {x : UInt8} {s : Int} (h0 : 0 ≤ s) (h1 : s ≤ 7) (w : World) : (binOp .shl T (vb x) (.int k s)).run P w = .ok (vb (u8 ((x.toNat : Int) * 2 ^ s.toNat))) w := by
  have : ¬ s < 0 := by omega
  have h2 : min s.toNat IntKind.u8.bits = s.toNat := by show min s.toNat 8 = _; omega
  simp only [binOp, Op.shift, this, h2, if_false]
  rw [vb, u8_mod, IntKind.wrap_u8]; rfl
theorem b_and8 {a b : UInt8} (w : World) : (binOp .and T (vb a) (vb b)).run P w = .ok (vb (a &&& b)) w := by
  show Result.ok (Value.int .u8 (IntKind.u8.wrap ((BitVec.ofInt 8 (a.toNat : Int) &&& BitVec.ofInt 8 (b.toNat : Int)).toNat : Int))) w = _
  have h1 : (BitVec.ofInt 8 (a.toNat : Int)).toNat = a.toNat := by rw [BitVec.toNat_ofInt]; have := a.toNat_lt; omega
  have h2 : (BitVec.ofInt 8 (b.toNat : Int)).toNat = b.toNat := by rw [BitVec.toNat_ofInt]; have := b.toNat_lt; omega
  have : a.toNat &&& b.toNat < 256 := Nat.lt_of_le_of_lt Nat.and_le_left a.toNat_lt
  rw [BitVec.toNat_and, h1, h2, IntKind.wrap_u8]
  simp only [vb, UInt8.toNat_and]
  congr 2; omega
end

/-! ### Texts of bytes -/
def bstr (l : List UInt8) : ByteArray := ⟨l.toArray⟩
theorem bstr_toList (l : List UInt8) : (bstr l).toList = l := by
  have key : ∀ (k i : Nat) (r : List UInt8), k = l.length - i → ByteArray.toList.loop (bstr l) i r = r.reverse ++ l.drop i := by
    intro k
    induction k with
    | zero =>
      intro i r hk
      unfold ByteArray.toList.loop
      have : ¬ i < (bstr l).size := by show ¬ i < l.toArray.size; simp; omega
      rw [if_neg this, List.drop_of_length_le (by omega)]; simp
    | succ k ih =>
      intro i r hk
      unfold ByteArray.toList.loop
      have : i < (bstr l).size := by show i < l.toArray.size; simp; omega
      rw [if_pos this, ih (i + 1) _ (by omega)]
      have hi : i < l.length := by omega
      have hg : (bstr l).get! i = l[i] := by show (bstr l).data.get!Internal i = _; simp [bstr, Array.get!Internal, hi]
      rw [hg, List.reverse_cons, List.append_assoc, List.singleton_append, List.drop_eq_getElem_cons hi]
  have := key l.length 0 [] rfl
  simpa [ByteArray.toList] using this
theorem b_streq {P : Program} {T : TypeId} {a b : List UInt8} (w : World) : (binOp .eql T (.string (bstr a)) (.string (bstr b))).run P w = .ok (.bool (decide (a = b))) w := by
  have : (a == b) = decide (a = b) := by cases h : decide (a = b) <;> simp_all
  simp [binOp, Op.stringOp, bstr_toList, this]
theorem b_strne {P : Program} {T : TypeId} {a b : List UInt8} (w : World) : (binOp .neq T (.string (bstr a)) (.string (bstr b))).run P w = .ok (.bool (!decide (a = b))) w := by
  have : (a == b) = decide (a = b) := by cases h : decide (a = b) <;> simp_all
  simp [binOp, Op.stringOp, bstr_toList, this]
theorem push_all : ∀ (l : List UInt8) (s : ByteArray), (l.map (fun b => (b.toNat : Int))).foldl (fun r n => r.push (UInt8.ofNat n.toNat)) s = ⟨s.data ++ l.toArray⟩
  | [], s => by cases s; simp
  | b :: l, s => by
    rw [List.map_cons, List.foldl_cons, push_all l]
    have : UInt8.ofNat ((b.toNat : Int)).toNat = b := by simp
    rw [this]
    simp [ByteArray.push]

section
variable {P : Program} {n : Nat} {ops : Array Oper} {Q : Exit → Act → World → Prop} {rest : List Oper} {L L' : List Chunk} {R : List Fact} {al : List (Nat × Value)} {d : Nat} {x y : Operand} {T ty : TypeId} {pos : String} {aft : Array Edge}

theorem RdL.bytes {m : Mem} : ∀ {bs : List UInt8} {cs : List Value}, RdL bs cs m → cs = bs.map vb
  | [], _, h => h
  | b :: bs, _, ⟨c1, c2, h1, h2, h3⟩ => by rw [h1, RdL.bytes h3, show c1 = [vb b] from h2]; rfl
/-- A binary operation on any values. -/
theorem r_binG {op : BinOp} {v1 v2 v : Value} {U : TypeId} (hx : ev n al x = some v1) (hy : ev n al y = some v2)
    (hg : ∀ w : World, (eqGuard op T x y v1 v2).run P w = .ok () w) (hv : ∀ w : World, (binOp op T v1 v2).run P w = .ok v w)
    (h : J P n ops Q rest L R ((d, v) :: al)) : J P n ops Q (⟨some d, .binOp op T x y U, ty, pos, aft, none⟩ :: rest) L R al :=
  J.pure rfl rfl (fun B w _ => by
    have e : (execOp (mkA n al B).eval ⟨some d, .binOp op T x y U, ty, pos, aft, none⟩) = (do let v ← (do eqGuard op T x y v1 v2; binOp op T v1 v2); pure (Next.value v)) := by
      simp only [execOp, ev_eval hx, ev_eval hy]
    rw [e]
    simp [hg w, hv w]) h
theorem guard_int {op : BinOp} {k k' : IntKind} {a b : Int} (w : World) : (eqGuard op T x y (.int k a) (.int k' b)).run P w = .ok () w := by unfold eqGuard; cases op <;> rfl
theorem guard_str {op : BinOp} {a b : ByteArray} (w : World) : (eqGuard op T x y (.string a) (.string b)).run P w = .ok () w := by unfold eqGuard; cases op <;> rfl
theorem guard_bool {op : BinOp} {a b : Bool} (w : World) : (eqGuard op T x y (.bool a) (.bool b)).run P w = .ok () w := by unfold eqGuard; cases op <;> rfl
theorem r_shift {op : BinOp} {k k' : IntKind} {a b : Int} {v : Value} {U : TypeId} (hx : ev n al x = some (.int k a)) (hy : ev n al y = some (.int k' b)) (hv : ∀ w : World, (binOp op T (.int k a) (.int k' b)).run P w = .ok v w)
    (h : J P n ops Q rest L R ((d, v) :: al)) : J P n ops Q (⟨some d, .binOp op T x y U, ty, pos, aft, none⟩ :: rest) L R al := r_binG hx hy guard_int hv h
theorem r_strop {op : BinOp} {a b : ByteArray} {v : Value} {U : TypeId} (hx : ev n al x = some (.string a)) (hy : ev n al y = some (.string b)) (hv : ∀ w : World, (binOp op T (.string a) (.string b)).run P w = .ok v w)
    (h : J P n ops Q rest L R ((d, v) :: al)) : J P n ops Q (⟨some d, .binOp op T x y U, ty, pos, aft, none⟩ :: rest) L R al := r_binG hx hy guard_str hv h
theorem run_booleq {t : TypeId} {a b : Bool} (ht : P.underlying t = some .bool) (w : World) : (Op.equal t (.bool a) (.bool b)).run P w = .ok (a == b) w := by
  show (Op.equalIn (9999 + 1) t (.bool a) (.bool b)).run P w = _
  unfold Op.equalIn
  simp [run_und ht]
theorem b_booleq {t : TypeId} {a b : Bool} (ht : P.underlying t = some .bool) (w : World) : (binOp .eql t (.bool a) (.bool b)).run P w = .ok (.bool (a == b)) w := by
  show (Op.equal t (.bool a) (.bool b) >>= fun r => Pure.pure (Value.bool r)).run P w = _
  rw [Sem.run_bind, run_booleq ht]; rfl
theorem b_boolne {t : TypeId} {a b : Bool} (ht : P.underlying t = some .bool) (w : World) : (binOp .neq t (.bool a) (.bool b)).run P w = .ok (.bool (!(a == b))) w := by
  show (Op.equal t (.bool a) (.bool b) >>= fun r => Pure.pure (Value.bool (!r))).run P w = _
  rw [Sem.run_bind, run_booleq ht]; rfl
theorem r_boolop {op : BinOp} {a b : Bool} {v : Value} {U : TypeId} (hx : ev n al x = some (.bool a)) (hy : ev n al y = some (.bool b)) (hv : ∀ w : World, (binOp op T (.bool a) (.bool b)).run P w = .ok v w)
    (h : J P n ops Q rest L R ((d, v) :: al)) : J P n ops Q (⟨some d, .binOp op T x y U, ty, pos, aft, none⟩ :: rest) L R al := r_binG hx hy guard_bool hv h

/-! ### Conversions -/
theorem r_convInt {src dst : TypeId} {k k' : IntKind} {a : Int} {v : Value} (hs : P.underlying src = some (.int k')) (hd : P.underlying dst = some (.int k)) (hx : ev n al x = some (.int k' a)) (hv : Value.int k (k.wrap a) = v)
    (h : J P n ops Q rest L R ((d, v) :: al)) : J P n ops Q (⟨some d, .convert src dst x, ty, pos, aft, none⟩ :: rest) L R al :=
  J.pure rfl rfl (fun B w _ => by
    show (convert src dst ((mkA n al B).eval x) >>= fun v => Pure.pure (Next.value v)).run P w = _
    have e : (convert src dst (.int k' a)).run P w = .ok v w := by
      unfold convert
      rw [Sem.run_bind, run_und hs]; simp only [Result.andThen]
      rw [Sem.run_bind, run_und hd]; simp only [Result.andThen]
      rw [← hv]; rfl
    rw [ev_eval hx, Sem.run_bind, e]; rfl) h
theorem wrap_byte (b : UInt8) : Value.int .i64 (IntKind.i64.wrap (b.toNat : Int)) = vi (b.toNat : Int) := by
  have := b.toNat_lt
  have e : ((b.toNat : Int) + 9223372036854775808) % 18446744073709551616 - 9223372036854775808 = (b.toNat : Int) := by omega
  rw [IntKind.wrap_i64, e]
theorem wrap_u8' (x : Int) : Value.int .u8 (IntKind.u8.wrap x) = vb (u8 x) := by rw [vb, u8_mod, IntKind.wrap_u8]
theorem conv_bytes {w : World} {v : Value} {bs : List UInt8} {m : Mem} (hm : Mem.le m (memOf w)) (h : isSlice v bs m) : (Conv.bytesToString v).run P w = .ok (.string (bstr bs)) w := by
  by_cases hne : bs = []
  · subst hne
    obtain ⟨base, cap, hv, _, _⟩ := h
    subst hv
    cases base with
    | none => rfl
    | some a =>
      exact run_bytesToString (P := P) w a 0 cap [] (by simp [loadCells, loadCellsFrom])
  · obtain ⟨a, cap, cs, hv, hl, hrd, hget⟩ := sl_list hm h hne
    subst hv
    have hcs := hrd.bytes
    have hld : (loadCells a bs.length).run P w = .ok ((bs.map (fun b => (b.toNat : Int))).map (Value.int .u8)).toArray w := by
      have h1 : cs = (bs.map (fun b => (b.toNat : Int))).map (Value.int .u8) := by rw [hcs]; simp [vb]
      have h2 := run_loadCells_list (P := P) (w := w) a cs hget
      rw [h1] at h2
      simpa using h2
    have := run_bytesToString (P := P) w a bs.length cap _ hld
    rw [push_all] at this
    simpa [bstr] using this
theorem r_convStr {src dst e : TypeId} {bs : List UInt8} {v : Value} (hs : P.underlying src = some (.slice e)) (he : P.underlying e = some (.int .u8)) (hd : P.underlying dst = some .string) (hx : ev n al x = some v) (hm : sl v bs ∈ R)
    (h : J P n ops Q rest L R ((d, .string (bstr bs)) :: al)) : J P n ops Q (⟨some d, .convert src dst x, ty, pos, aft, none⟩ :: rest) L R al :=
  J.pure rfl rfl (fun B w hst => by
    show (convert src dst ((mkA n al B).eval x) >>= fun v => Pure.pure (Next.value v)).run P w = _
    obtain ⟨i, hi, hr⟩ := hst.ex
    have hsl := hr _ hm
    have hc := conv_bytes (P := P) hi hsl
    obtain ⟨base, cap, rfl, _, _⟩ := hsl
    rw [ev_eval hx, Sem.run_bind]
    simp [convert, run_und hs, run_und hd, run_und he, hc]) h

/-! ### Closures -/
theorem r_makeFunc {f : FuncId} {caps : List Operand} {vs : List Value} (hc : evL n al caps = some vs)
    (h : J P n ops Q rest L R ((d, .func (.func f) #[] vs.toArray) :: al)) : J P n ops Q (⟨some d, .makeFunc (.func f) #[] caps.toArray, ty, pos, aft, none⟩ :: rest) L R al :=
  J.pure rfl rfl (fun B w _ => by
    show (Instr.makeFunc (.func f) (#[].map (mkA n al B).eval) (caps.toArray.map (mkA n al B).eval) >>= fun v => Pure.pure (Next.value v)).run P w = _
    have e : caps.toArray.map (mkA n al B).eval = vs.toArray := by rw [List.map_toArray, evL_map hc]
    rw [e]; simp [Instr.makeFunc]) h
theorem exec_callv {ρ : Operand → Value} {g : Option (Nat × Bool)} {dst : Option Tmp} {w : World} {f : FuncId} {args : Array Operand} {ts : Array TypeId} {caps : Array Value} (hf : ∀ args w, (callFunc f args).run P w = .ok (.enter f args) w) (hρ : ρ x = .func (.func f) #[] caps) :
    (execOp ρ ⟨dst, .call { callee := .value x, args, argTypes := ts }, ty, pos, aft, g⟩).run P w = .ok (.enter f (args.map ρ ++ caps)) w := by
  simp [execOp, resolve, hρ, Deferred.ofValue, invoke, hf]
theorem r_callv {γ : Type} {val : γ → Value} {Lf : γ → List Chunk} {Rf : γ → List Fact} {f : FuncId} {args : List Operand} {ts : Array TypeId} {vs caps : List Value} (hx : ev n al x = some (.func (.func f) #[] caps.toArray)) (hf : ∀ args w, (callFunc f args).run P w = .ok (.enter f args) w)
    (ha : evL n al args = some vs) (hc : ∀ w, St L R w → Calls P f (vs ++ caps).toArray w (Post val Lf Rf))
    (k : ∀ g, J P n ops Q rest (Lf g) (Rf g) ((d, val g) :: al)) : J P n ops Q (⟨some d, .call { callee := .value x, args := args.toArray, argTypes := ts }, ty, pos, aft, none⟩ :: rest) L R al :=
  J.step rfl fun B w hs => .inl <| by
    unfold Oper.wp
    rw [exec_callv hf (ev_eval hx), Oper.upon_enter, List.map_toArray, evL_map ha, List.append_toArray]
    refine (hc w hs).mono ?_
    rintro e w' ⟨g, rfl, hs'⟩
    show wpList P ops Q rest ((mkA n al B).put (some d) (val g)) w'
    rw [mkA_put]
    exact k g B w' hs'

/-! ### Parts of slices -/
section
variable {α : Type} [Enc α] {v : Value} {xs : List α}
theorem part_sl {m : Mem} {base : Option Addr} {cap lo hi : Nat} (h : isSlice (.slice base xs.length cap) xs m) (h1 : lo ≤ hi) (h2 : hi ≤ xs.length) :
    isSlice (.slice (if cap = lo then base else base.map (·.add (lo * Enc.sz α))) (hi - lo) (cap - lo)) ((xs.take hi).drop lo) m := by
  obtain ⟨base', cap', hv, ⟨hn1, hn2⟩, hc⟩ := h
  cases hv
  have hlen : ((xs.take hi).drop lo).length = hi - lo := by rw [List.length_drop, List.length_take]; omega
  refine ⟨_, _, by rw [hlen], ⟨by rw [hlen]; omega, by rw [hlen]; omega⟩, fun hne => ?_⟩
  have hpos : lo < hi := by
    rcases Nat.lt_or_ge lo hi with h | h
    · exact h
    · exact absurd (List.length_eq_zero_iff.1 (by rw [hlen]; omega)) hne
  obtain ⟨a, cells, T, fz, cs, e1, e2, e3, e4, e5⟩ := hc (by intro h; rw [h] at h2; simp at h2; omega)
  rw [if_neg (by omega), e1]
  have hsp : xs = xs.take lo ++ ((xs.take hi).drop lo ++ xs.drop hi) := by
    have : xs = xs.take hi ++ xs.drop hi := (List.take_append_drop hi xs).symm
    have h3 : xs.take hi = (xs.take hi).take lo ++ (xs.take hi).drop lo := (List.take_append_drop lo _).symm
    rw [List.take_take, show min lo hi = lo by omega] at h3
    rw [← List.append_assoc, ← h3, ← this]
  rw [hsp] at e5
  obtain ⟨c1, c2, f1, f2, f3⟩ := e5.split
  obtain ⟨c3, c4, f4, f5, f6⟩ := f3.split
  have l1 : c1.length = lo * Enc.sz α := by rw [f2.len, List.length_take]; congr 1; omega
  have l3 : c3.length = (hi - lo) * Enc.sz α := by rw [f5.len, hlen]
  refine ⟨_, cells, T, fz, c3, rfl, ?_, ?_, ?_, f5⟩
  · show (a.add _).spot = none; rw [add_none e2]
  · show m ((a.add _).block + 1) = _; rw [add_none e2]; exact e3
  · show (cells.toList.drop (a.add _).off).take _ = _; rw [add_none e2, hlen]
    have e4' : (cells.toList.drop a.off).take (xs.length * Enc.sz α) = c1 ++ (c3 ++ c4) := by rw [e4, f1, f4]
    have g : ((cells.toList.drop a.off).take (xs.length * Enc.sz α)).drop (lo * Enc.sz α) = c3 ++ c4 := by rw [e4', ← l1, List.drop_left]
    rw [List.drop_take, List.drop_drop] at g
    have g2 := congrArg (List.take ((hi - lo) * Enc.sz α)) g
    rw [List.take_take, ← l3, List.take_left] at g2
    have hle : (hi - lo) * Enc.sz α ≤ xs.length * Enc.sz α - lo * Enc.sz α := by rw [← Nat.sub_mul]; exact Nat.mul_le_mul_right _ (by omega)
    rw [l3, Nat.min_eq_left hle] at g2
    rw [show a.off + lo * Enc.sz α = a.off + lo * Enc.sz α from rfl, ← l3] at g2 ⊢
    rw [l3] at g2 ⊢
    exact g2
theorem r_sliceP {t e : TypeId} {low high : Option Operand} {lo hi : Nat} (ht : SliceOf P t e (Enc.sz α)) (hx : ev n al x = some v) (hm : sl v xs ∈ R)
    (hlo : match low with | none => lo = 0 | some y => ev n al y = some (vi (lo : Int))) (hhi : match high with | none => hi = xs.length | some y => ev n al y = some (vi (hi : Int))) (h1 : lo ≤ hi) (h2 : hi ≤ xs.length)
    (k : ∀ u, J P n ops Q rest L (sl u ((xs.take hi).drop lo) :: R) ((d, u) :: al)) : J P n ops Q (⟨some d, .slice t x low high none, ty, pos, aft, none⟩ :: rest) L R al :=
  J.yieldEx (v := fun u => u) (L' := fun _ => L) (R' := fun u => sl u ((xs.take hi).drop lo) :: R) rfl rfl (fun B w hs => by
    obtain ⟨i, hi', hr⟩ := hs.ex
    have hsl := hr _ hm
    have hsl0 := hsl
    obtain ⟨base, cap, rfl, ⟨hn1, hn2⟩, hc⟩ := hsl0
    refine ⟨.slice (if cap = lo then base else base.map (·.add (lo * Enc.sz α))) (hi - lo) (cap - lo), w, ?_, hs.addFact fun i' h' => ?_⟩
    · show (Instr.sliceAt t ((mkA n al B).eval x) (low.map (mkA n al B).eval) (high.map (mkA n al B).eval) none >>= fun v => Pure.pure (Next.value v)).run P w = _
      rw [ev_eval hx, Sem.run_bind]
      have hlo' : (low.map (mkA n al B).eval = none ∧ lo = 0) ∨ low.map (mkA n al B).eval = some (vi (lo : Int)) := by
        cases low with
        | none => exact .inl ⟨rfl, hlo⟩
        | some y => right; simp only [Option.map_some]; rw [ev_eval hlo]
      have hhi' : (high.map (mkA n al B).eval = none ∧ hi = xs.length) ∨ high.map (mkA n al B).eval = some (vi (hi : Int)) := by
        cases high with
        | none => exact .inl ⟨rfl, hhi⟩
        | some y => right; simp only [Option.map_some]; rw [ev_eval hhi]
      have e1 : (0 : Int) ≤ (lo : Int) ∧ (lo : Int) ≤ (hi : Int) := by omega
      have e2 : (0 : Int) ≤ (hi : Int) ∧ (hi : Int) ≤ (cap : Int) := by omega
      have e3 : ((lo : Int)).toNat = lo := Int.toNat_natCast _
      have e4 : ((hi : Int)).toNat = hi := Int.toNat_natCast _
      rcases hlo' with ⟨a1, a2⟩ | a1 <;> rcases hhi' with ⟨b1, b2⟩ | b1 <;> rw [a1, b1] <;>
        simp [Instr.sliceAt, Instr.slice, Instr.sliceBounds, Instr.sliceBound, run_und ht.1, ht.2, asIntOf, e1, e2, h1, h2, hn2] <;> (try subst a2) <;> (try subst b2) <;> (try simp) <;> (try omega)
    · exact part_sl (h' _ hm) h1 h2) k
end
end
end Go.Proofs.Ythnokijkdobdfaa
