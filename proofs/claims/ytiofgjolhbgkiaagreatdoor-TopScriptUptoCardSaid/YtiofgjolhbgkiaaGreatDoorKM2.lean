/- This file proves parts of what its law needs: each part is told ahead of it. No conditions. -/
import Derived.Test.YtiofgjolhbgkiaaGreatDoorKM1
import Derived.Lib.AppendStr
import Derived.Laws.Strings3
import Derived.Below
import Derived.Sort.Grow
import Derived.Deep.Draws
import Derived.Lib.AtoiErrMem
import Derived.Lib.AtoiAll
import Derived.Lib.ItoaNum
import Derived.Lib.ItoaLen
import Derived.Lib.Split
import Derived.Lib.SplitLaws
import Derived.Lib.IndexMore
import Derived.Lib.Join
set_option linter.unusedVariables false
set_option linter.unusedSimpArgs false
set_option linter.unusedSectionVars false
namespace Go.Proofs.YtiofgjolhbgkiaaGreatDoor
open Go
def Ji : List Value → List Value → Option (List Value)
 | cs, [] => some cs
 | _ :: cs, v :: seg => (Ji cs seg).map (v :: ·)
 | [], _ :: _ => none
def Kt : List Value → Nat → List Value → Option (List Value)
 | cs, 0, seg => Ji cs seg
 | c :: cs, k + 1, seg => (Kt cs k seg).map (c :: ·)
 | [], _ + 1, _ => none
theorem L4 : ∀ {cs seg r : List Value}, Ji cs seg = some r → seg.length ≤ cs.length ∧ r = seg ++ cs.drop seg.length
 | cs, [], r, h => by cases cs <;> (simp only [Ji, Option.some.injEq] at h; subst h; simp)
 | c :: cs, v :: seg, r, h => by
  simp only [Ji, Option.map_eq_some_iff] at h
  obtain ⟨r', h1, rfl⟩ := h
  obtain ⟨h2, h3⟩ := L4 h1
  exact ⟨by simp only [List.length_cons]; omega, by rw [h3]; simp⟩
 | [], _ :: _, r, h => by cases h
theorem N9 : ∀ {k : Nat} {cs seg r : List Value}, Kt cs k seg = some r → k + seg.length ≤ cs.length ∧ r = cs.take k ++ seg ++ cs.drop (k + seg.length)
 | 0, cs, seg, r, h => by
  have h' : Ji cs seg = some r := by cases cs <;> exact h
  obtain ⟨h1, h2⟩ := L4 h'
  exact ⟨by omega, by rw [h2]; simp⟩
 | k + 1, c :: cs, seg, r, h => by
  simp only [Kt, Option.map_eq_some_iff] at h
  obtain ⟨r', h1, rfl⟩ := h
  obtain ⟨h2, h3⟩ := N9 h1
  refine ⟨by simp only [List.length_cons]; omega, ?_⟩
  rw [h3, show k + 1 + seg.length = (k + seg.length) + 1 by omega]; simp
 | k + 1, [], seg, r, h => by cases h
def M6 (places : List (Nat × Nat)) : List Value → List (Nat × Value) → Option (List Value)
 | cells, [] => some cells
 | cells, (i, v) :: rest => match places[i]? with
  | none => none
  | some (off, size) => match Nat.beq v.cells.size size with
   | false => none
   | true => match Kt cells off v.cells.toList with
    | none => none
    | some cells' => M6 places cells' rest
theorem Rq (places : List (Nat × Nat)) : ∀ (parts : List (Nat × Value)) (cells cs : List Value), M6 places cells parts = some cs → Qa places cells parts = some cs
 | [], cells, cs, h => h
 | (i, v) :: rest, cells, cs, h => by
  simp only [M6] at h
  simp only [Qa]
  cases hp : places[i]? with
  | none => rw [hp] at h; cases h
  | some q =>
   obtain ⟨off, size⟩ := q
   rw [hp] at h
   simp only at h ⊢
   cases hb : Nat.beq v.cells.size size with
   | false => rw [hb] at h; cases h
   | true =>
    rw [hb] at h
    simp only at h
    have hsz : v.cells.size = size := Nat.eq_of_beq_eq_true hb
    cases hq : Kt cells off v.cells.toList with
    | none => rw [hq] at h; cases h
    | some c' =>
     rw [hq] at h
     simp only at h
     obtain ⟨h1, h2⟩ := N9 hq
     rw [Array.length_toList] at h1 h2
     rw [if_neg (by omega), ← h2]
     exact Rq places rest c' cs h
def Ao (P : Program) (n : Nat) (al : List (Nat × Value)) (L : List Chunk) (R : List Fact) (o : Oper) (v : Value) : Prop :=
 o.guard = none ∧ ∀ (ρ : Operand → Value) (w : World), (∀ x ∈ o.op.operands, ∀ u, ev n al x = some u → ρ x = u) → St L R w → (execOp ρ o).run P w = .ok (.value v) w
section
variable {P : Program} {n : Nat} {ops : Array Oper} {Q : Exit → Act → World → Prop} {rest : List Oper} {L L' : List Chunk} {R : List Fact} {al : List (Nat × Value)} {d : Nat} {x y : Operand} {T ty : TypeId} {pos : String} {aft : Array Edge}
theorem r_p {o : Oper} {v : Value} (hp : Ao P n al L R o v) (hd : o.dst = some d) (k : J P n ops Q rest L R ((d, v) :: al)) : J P n ops Q (o :: rest) L R al :=
 J.pure hp.1 hd (fun B w hs => hp.2 _ w (fun x hx u hu => A5 hu) hs) k
theorem d_p {Sh : Rho → (Nat → Bool) → List Chunk} {R0 : List Fact} {al0 : List (Nat × Value)} {i : Nat} {its : List Item} {o : Oper} {v : Rho → Value} (hp : ∀ ρ S, Ao P n (Dt its al0 ρ) (Sh ρ S) R0 o (v ρ)) (hd : o.dst = some d) (hi : Ind ops i v) (hSh : ∀ ρ g S, S i = false → Sh (Rho.set ρ i g) (upS S i) = Sh ρ S)
  (k : DJ P n ops Q Sh R0 al0 (i + 1) rest (⟨i, some d, v, fun _ => [], fun _ => []⟩ :: its)) : DN P n ops Q Sh R0 al0 i o rest its :=
 Wc (hp (fun _ => ⟨undef, undef, undef, undef, 0⟩) (fun _ => false)).1 hd hSh hi (fun ρ S a L' R' w h => (hp ρ S).2 _ w (fun x hx u hu => Ca h.agree hx hu) (h.st.fewer h.base)) k
theorem d_pc {Sh : Rho → (Nat → Bool) → List Chunk} {R0 : List Fact} {al0 : List (Nat × Value)} {i : Nat} {its : List Item} {o : Oper} {v : Value} (hp : ∀ ρ S, Ao P n (Dt its al0 ρ) (Sh ρ S) R0 o v) (hd : o.dst = some d) (hSh : ∀ ρ g S, S i = false → Sh (Rho.set ρ i g) (upS S i) = Sh ρ S)
 (k : DJ P n ops Q Sh R0 al0 (i + 1) rest (⟨i, some d, fun _ => v, fun _ => [], fun _ => []⟩ :: its)) : DN P n ops Q Sh R0 al0 i o rest its := d_p hp hd (Ind.const _) hSh k
theorem U6 {zc cs : List Value} {places : List (Nat × Nat)} {parts : List (Nat × Operand)} {vs : List Value} (hT : Cz P T zc places) (ha : evL n al (parts.map (·.2)) = some vs) (h' : M6 places zc ((parts.map (·.1)).zip vs) = some cs) : Ao P n al L R ⟨some d, .build T parts.toArray, ty, pos, aft, none⟩ (.agg cs.toArray) :=
 ⟨rfl, fun ρ w hρ _ => by
  have h := Rq _ _ _ _ h'
  show (Instr.build T (parts.toArray.map fun (i, x) => (i, ρ x)) >>= fun v => Pure.pure (Next.value v)).run P w = _
  have key : ∀ (l : List (Nat × Operand)) (us : List Value), (∀ x ∈ l.map (·.2), ∀ u, ev n al x = some u → ρ x = u) → evL n al (l.map (·.2)) = some us → l.map (fun (i, x) => (i, ρ x)) = (l.map (·.1)).zip us := by
   intro l
   induction l with
   | nil => intro us _ he; simp only [List.map_nil, evL] at he; cases he; rfl
   | cons p l ih =>
    intro us hx he
    simp only [List.map_cons, evL] at he
    cases h1 : ev n al p.2 with
    | none => rw [h1] at he; cases he
    | some v =>
     cases h2 : evL n al (l.map (·.2)) with
     | none => rw [h1, h2] at he; cases he
     | some us' =>
      rw [h1, h2] at he
      cases he
      simp only [List.map_cons, List.zip_cons_cons]
      rw [hx p.2 (by simp) v h1, ih us' (fun x hm => hx x (by simp only [List.map_cons]; exact List.mem_cons_of_mem _ hm)) h2]
  have hp : (parts.toArray.map fun (i, x) => (i, ρ x)) = ((parts.map (·.1)).zip vs).toArray := by
   rw [List.map_toArray, key parts vs (fun x hx u hu => hρ x (by simpa [Op.operands] using hx) u hu) ha]
  rw [hp, Sem.run_bind, Sk hT h w]; rfl⟩
theorem I1 {op : BinOp} {v1 v2 v : Value} {U : TypeId} (hx : ev n al x = some v1) (hy : ev n al y = some v2) (hg : ∀ w : World, (eqGuard op T x y v1 v2).run P w = .ok () w) (hv : ∀ w : World, (binOp op T v1 v2).run P w = .ok v w) : Ao P n al L R ⟨some d, .binOp op T x y U, ty, pos, aft, none⟩ v :=
 ⟨rfl, fun ρ w h _ => by
  have e : (execOp ρ ⟨some d, .binOp op T x y U, ty, pos, aft, none⟩) = (do let v ← (do eqGuard op T x y v1 v2; binOp op T v1 v2); pure (Next.value v)) := by
   simp only [execOp, h x (by simp [Op.operands]) _ hx, h y (by simp [Op.operands]) _ hy]
  rw [e]
  simp [hg w, hv w]⟩
theorem Ai {op : BinOp} {k k' : IntKind} {a b : Int} {v : Value} {U : TypeId} (hx : ev n al x = some (.int k a)) (hy : ev n al y = some (.int k' b)) (hv : ∀ w : World, (binOp op T (.int k a) (.int k' b)).run P w = .ok v w) : Ao P n al L R ⟨some d, .binOp op T x y U, ty, pos, aft, none⟩ v := I1 hx hy Ou hv
theorem Adr {op : BinOp} {a b : ByteArray} {v : Value} {U : TypeId} (hx : ev n al x = some (.string a)) (hy : ev n al y = some (.string b)) (hv : ∀ w : World, (binOp op T (.string a) (.string b)).run P w = .ok v w) : Ao P n al L R ⟨some d, .binOp op T x y U, ty, pos, aft, none⟩ v := I1 hx hy Vv hv
theorem p_bool {op : BinOp} {a b : Bool} {v : Value} {U : TypeId} (hx : ev n al x = some (.bool a)) (hy : ev n al y = some (.bool b)) (hv : ∀ w : World, (binOp op T (.bool a) (.bool b)).run P w = .ok v w) : Ao P n al L R ⟨some d, .binOp op T x y U, ty, pos, aft, none⟩ v := I1 hx hy Tc hv
theorem Au {src dst : TypeId} {k k' : IntKind} {a : Int} {v : Value} (hs : P.underlying src = some (.int k')) (hd : P.underlying dst = some (.int k)) (hx : ev n al x = some (.int k' a)) (hv : Value.int k (k.wrap a) = v) : Ao P n al L R ⟨some d, .convert src dst x, ty, pos, aft, none⟩ v :=
 ⟨rfl, fun ρ w h _ => by
  show (convert src dst (ρ x) >>= fun v => Pure.pure (Next.value v)).run P w = _
  have e : (convert src dst (.int k' a)).run P w = .ok v w := by
   unfold convert
   rw [Sem.run_bind, Ci hs]; simp only [Result.andThen]
   rw [Sem.run_bind, Ci hd]; simp only [Result.andThen]
   rw [← hv]; rfl
  rw [h x (by simp [Op.operands]) _ hx, Sem.run_bind, e]; rfl⟩
theorem G6 {v : Value} {T e : TypeId} {sz len i : Nat} (ht : Cu P T e sz) (hx : ev n al x = some v) (hy : ev n al y = some (vi (i : Int))) (hl : Dm L R v len) (h1 : i < len) : Ao P n al L R ⟨some d, .indexAddr T x y, ty, pos, aft, none⟩ (ep v sz i 0) :=
 ⟨rfl, fun ρ w h hs => by
  obtain ⟨base, cap, rfl, hb⟩ := hl w hs
  obtain ⟨a, rfl⟩ := hb (by omega)
  show (Instr.indexAt T (ρ x) (ρ y) >>= fun v => Pure.pure (Next.value v)).run P w = _
  rw [h x (by simp [Op.operands]) _ hx, h y (by simp [Op.operands]) _ hy, Sem.run_bind]
  have : (Instr.indexAt T (.slice (some a) len cap) (vi (i : Int))).run P w = .ok (.pointer (some (a.add (i * sz)))) w := by
   simp [Instr.indexAt, asIntOf, Ci ht.1, ht.2, h1]
  rw [this]; rfl⟩
end
section
variable {P : Program} {T : TypeId} {k : IntKind}
theorem Acg {x : Int} (h0 : 0 ≤ x) (h1 : x ≤ 1000000000) (w : World) : (binOp .shl T (vi x) (.int k 4)).run P w = .ok (vi (16 * x)) w := by
 rw [Agm (by omega) (by omega)]
 have : x * 2 ^ (4 : Int).toNat = 16 * x := by show x * 16 = _; omega
 rw [this, IntKind.wrap_i64, show (16 * x + 9223372036854775808) % 18446744073709551616 - 9223372036854775808 = 16 * x by omega]
theorem Nk {x : Int} (h0 : 0 ≤ x) (h1 : x ≤ 1000000000) (w : World) : (binOp .shl T (vi x) (.int k 8)).run P w = .ok (vi (256 * x)) w := by
 rw [Agm (by omega) (by omega)]
 have : x * 2 ^ (8 : Int).toNat = 256 * x := by show x * 256 = _; omega
 rw [this, IntKind.wrap_i64, show (256 * x + 9223372036854775808) % 18446744073709551616 - 9223372036854775808 = 256 * x by omega]
theorem Hu {x : Int} (w : World) : (binOp .shr T (vi x) (.int k 8)).run P w = .ok (vi (x / 256)) w := b_shr (by omega) (by omega) w
theorem Agl {x : UInt8} (w : World) : (binOp .shr T (vb x) (.int k 4)).run P w = .ok (vb (u8 ((x.toNat : Int) / 16))) w := b_shr8 (by omega) (by omega) w
theorem W7 {a : Int} (w : World) : (binOp .and T (vi a) (vi 15)).run P w = .ok (vi (a % 16)) w := by
 show Result.ok (Value.int .i64 (IntKind.i64.wrap ((BitVec.ofInt 64 a &&& BitVec.ofInt 64 15).toNat : Int))) w = _
 have h : (BitVec.ofInt 64 a &&& BitVec.ofInt 64 15).toNat = (a % 16).toNat := by
  rw [BitVec.toNat_and]
  have h1 : (BitVec.ofInt 64 15).toNat = 2 ^ 4 - 1 := by rw [BitVec.toNat_ofInt]; rfl
  rw [h1, Nat.and_two_pow_sub_one_eq_mod, BitVec.toNat_ofInt]
  omega
 rw [h, IntKind.wrap_i64]
 have : ((((a % 16).toNat : Nat) : Int) + 9223372036854775808) % 18446744073709551616 - 9223372036854775808 = a % 16 := by omega
 rw [this]
theorem Abb {x : UInt8} (w : World) : (binOp .and T (vb x) (.int .u8 15)).run P w = .ok (vb (u8 ((x.toNat : Int) % 16))) w := by
 have h := b_and8 (P := P) (T := T) (a := x) (b := 15) w
 have e : x &&& 15 = u8 ((x.toNat : Int) % 16) := by
  apply UInt8.toNat.inj
  have h1 : ((u8 ((x.toNat : Int) % 16)).toNat : Int) = (x.toNat : Int) % 16 := Kj (by omega) (by omega)
  have h2 : (x &&& 15).toNat = x.toNat % 16 := by rw [UInt8.toNat_and]; exact Nat.and_two_pow_sub_one_eq_mod x.toNat 4
  omega
 rw [e] at h; exact h
theorem Abt {a b i : Nat} (h : b < 2 ^ i) : (2 ^ i * a) ||| b = 2 ^ i * a + b := by
 rw [Nat.mul_comm, ← Nat.shiftLeft_eq]
 exact (Nat.shiftLeft_add_eq_or_of_lt h a).symm
theorem Ach {a b : Int} (h0 : 0 ≤ a) (h1 : a ≤ 1000000000) (h2 : 0 ≤ b) (h3 : b < 16) (w : World) : (binOp .or T (vi (16 * a)) (vi b)).run P w = .ok (vi (16 * a + b)) w := by
 obtain ⟨x, rfl⟩ := Int.eq_ofNat_of_zero_le h0
 obtain ⟨y, rfl⟩ := Int.eq_ofNat_of_zero_le h2
 have e : (16 : Int) * (x : Int) = ((16 * x : Nat) : Int) := by omega
 rw [e, b_orN (by omega) (by omega), show 16 * x = 2 ^ 4 * x from rfl, Abt (by omega)]
 rw [show ((2 ^ 4 * x + y : Nat) : Int) = ((16 * x : Nat) : Int) + (y : Int) by omega]
theorem Qm {a b : Int} (h0 : 0 ≤ a) (h1 : a ≤ 1000000000) (h2 : 0 ≤ b) (h3 : b < 256) (w : World) : (binOp .or T (vi (256 * a)) (vi b)).run P w = .ok (vi (256 * a + b)) w := by
 obtain ⟨x, rfl⟩ := Int.eq_ofNat_of_zero_le h0
 obtain ⟨y, rfl⟩ := Int.eq_ofNat_of_zero_le h2
 have e : (256 : Int) * (x : Int) = ((256 * x : Nat) : Int) := by omega
 rw [e, b_orN (by omega) (by omega), show 256 * x = 2 ^ 8 * x from rfl, Abt (by omega)]
 rw [show ((2 ^ 8 * x + y : Nat) : Int) = ((256 * x : Nat) : Int) + (y : Int) by omega]
end
section
variable {P : Program} {n : Nat} {Q : Exit → Act → World → Prop} {Sh : Rho → (Nat → Bool) → List Chunk} {R0 : List Fact} {al0 : List (Nat × Value)}
variable {ops : Array Oper} {i : Nat} {rest : List Oper} {its : List Item} {d : Nat} {x y : Operand} {T ty : TypeId} {pos : String} {aft : Array Edge}
theorem Wg {z : Value} {cs : List Value} (hz : ∀ w, (zeroValue T).run P w = .ok z w) (hv : z.cells = cs.toArray) (hSh : ∀ ρ (b : Nat) S, S i = false → (∀ j, Bef ops i j → S j = false) → (Sh (Rho.set ρ i (Gh.enc b)) (upS S i)).Perm (blk b T cs :: Sh ρ S))
  (k : DJ P n ops Q Sh R0 al0 (i + 1) rest (⟨i, some d, fun ρ => bp (Gh.dec (γ := Nat) (ρ i)) 0, fun _ => [], fun _ => []⟩ :: its)) : DN P n ops Q Sh R0 al0 i ⟨some d, .alloc T, ty, pos, aft, none⟩ rest its := by
 refine ⟨⟨i, some d, fun ρ => bp (Gh.dec (γ := Nat) (ρ i)) 0, fun _ => [], fun _ => []⟩, rfl, rfl, Ind.self (h := fun g => bp (Gh.dec (γ := Nat) g) 0), Ind.const _, Ind.const _, ?_, k⟩
 intro ρ S a L' R' w K hS hbef haft hag hdep hbase hst hK
 rw [if_pos (by simp [Region.wanted])]
 left
 unfold Oper.wp
 have e : (execOp a.eval ⟨some d, .alloc T, ty, pos, aft, none⟩).run P w = .ok (.value (bp w.heap.size 0)) { w with heap := w.heap.push (.cells cs.toArray T (0, 0)) } := by
  show (Instr.alloc T true (.tuple #[]) >>= fun v => Pure.pure (Next.value v)).run P w = _
  simp [Instr.alloc, hz, hv, newVar, newRow, bp]
 rw [e, Oper.upon_value]
 have e2 : (Rho.set ρ i (Gh.enc w.heap.size)) i = Gh.enc w.heap.size := by simp [Rho.set]
 have := hK (Gh.enc w.heap.size) _ (((hst.new (.cells cs.toArray T (0, 0)))).perm ?_)
 ·simp only [e2, Gh.ok] at this; exact this
 ·refine List.Perm.trans ?_ ((hSh ρ w.heap.size S hS haft).symm.append_right _)
  exact List.Perm.refl _
theorem Z6 {α : Type} [Enc α] {v : Value} {xs : List α} {t e : TypeId} {low high : Option Operand} {lo hi : Nat} (ht : Cu P t e (Enc.sz α)) (hx : ∀ ρ, ev n (Dt its al0 ρ) x = some v) (hm : sl v xs ∈ R0)
  (hlo : ∀ ρ, match low with | none => lo = 0 | some y => ev n (Dt its al0 ρ) y = some (vi (lo : Int))) (hhi : ∀ ρ, match high with | none => hi = xs.length | some y => ev n (Dt its al0 ρ) y = some (vi (hi : Int))) (h1 : lo ≤ hi) (h2 : hi ≤ xs.length) (hSh : ∀ ρ g S, S i = false → Sh (Rho.set ρ i g) (upS S i) = Sh ρ S)
  (k : DJ P n ops Q Sh R0 al0 (i + 1) rest (⟨i, some d, fun ρ => Gh.dec (γ := Value) (ρ i), fun ρ => [sl (Gh.dec (γ := Value) (ρ i)) ((xs.take hi).drop lo)], fun _ => []⟩ :: its)) : DN P n ops Q Sh R0 al0 i ⟨some d, .slice t x low high none, ty, pos, aft, none⟩ rest its :=
 d_res (γ := Value) (val := fun u => u) (F := fun u => [sl u ((xs.take hi).drop lo)]) (C := fun _ => []) rfl rfl hSh (fun ρ S a L' R' w K h hK => by
  obtain ⟨j, hj, hr⟩ := h.st.ex
  have hsl := hr _ (h.base _ hm)
  have hsl0 := hsl
  obtain ⟨base, cap, rfl, ⟨hn1, hn2⟩, hc⟩ := hsl0
  unfold Oper.wp
  have e : (execOp a.eval ⟨some d, .slice t x low high none, ty, pos, aft, none⟩).run P w = .ok (.value (.slice (if cap = lo then base else base.map (·.add (lo * Enc.sz α))) (hi - lo) (cap - lo))) w := by
   show (Instr.sliceAt t (a.eval x) (low.map a.eval) (high.map a.eval) none >>= fun v => Pure.pure (Next.value v)).run P w = _
   rw [Ca h.agree (by simp [Op.operands]) (hx ρ), Sem.run_bind]
   have hlo' : (low.map a.eval = none ∧ lo = 0) ∨ low.map a.eval = some (vi (lo : Int)) := by
    have hl := hlo ρ
    cases low with
    | none => exact .inl ⟨rfl, hl⟩
    | some y => right; simp only [Option.map_some]; rw [Ca h.agree (by simp [Op.operands]) hl]
   have hhi' : (high.map a.eval = none ∧ hi = xs.length) ∨ high.map a.eval = some (vi (hi : Int)) := by
    have hl := hhi ρ
    cases high with
    | none => exact .inl ⟨rfl, hl⟩
    | some y => right; simp only [Option.map_some]; rw [Ca h.agree (by simp [Op.operands]) hl]
   have e1 : (0 : Int) ≤ (lo : Int) ∧ (lo : Int) ≤ (hi : Int) := by omega
   have e2 : (0 : Int) ≤ (hi : Int) ∧ (hi : Int) ≤ (cap : Int) := by omega
   rcases hlo' with ⟨a1, a2⟩ | a1 <;> rcases hhi' with ⟨b1, b2⟩ | b1 <;> rw [a1, b1] <;>
    simp [Instr.sliceAt, Instr.slice, Instr.sliceBounds, Instr.sliceBound, Ci ht.1, ht.2, asIntOf, e1, e2, h1, h2, hn2] <;> (try subst a2) <;> (try subst b2) <;> (try simp) <;> (try omega)
  rw [e, Oper.upon_value]
  exact hK _ w (h.st.addFact fun i' h' => Adq (h' _ (h.base _ hm)) h1 h2)) k
end
def gu (n : Nat) (al : List (Nat × Value)) (ops : List Oper) (i : Nat) : Bool := match nthO ops i with
 | some o => match o.dst with
  | some t => match ev n al (.tmp t) with
   | some (.tuple _) => true
   | _ => false
  | none => false
 | none => false
theorem Vw {n : Nat} {al : List (Nat × Value)} {l : List Oper} {i : Nat} (h : gu n al l i = true) : ∃ o t c, l.toArray[i]? = some o ∧ o.dst = some t ∧ ev n al (.tmp t) = some (.tuple c) := by
 unfold gu at h
 rw [Px] at h
 cases ho : l[i]? with
 | none => rw [ho] at h; cases h
 | some o =>
  rw [ho] at h
  simp only at h
  cases hd : o.dst with
  | none => rw [hd] at h; cases h
  | some t =>
   rw [hd] at h
   simp only at h
   split at h
   ·rename_i c he; exact ⟨o, t, c, by simpa using ho, hd, he⟩
   ·cases h
section
variable {P : Program} {n : Nat} {Q : Exit → Act → World → Prop} {rest : List Oper} {L : List Chunk} {R : List Fact} {al : List (Nat × Value)} {d : Nat} {ty : TypeId} {pos : String} {aft : Array Edge}
theorem J.guardUndef {l : List Oper} {op : Go.Op} {i : Nat} {b : Bool} (hv : gu n al l i = true)
  (k : J P n l.toArray Q rest L R ((d, undef) :: al)) : J P n l.toArray Q (⟨some d, op, ty, pos, aft, some (i, b)⟩ :: rest) L R al := by
 obtain ⟨oi, t, c, hi, ht, he⟩ := Vw hv
 intro B w hs
 unfold wpList
 have hw : Region.wanted ⟨some d, op, ty, pos, aft, some (i, b)⟩ (yielded l.toArray (mkA n al B).tmps) = false := by
  simp only [Region.wanted, yielded, hi, Option.bind_some, ht, Bp he]
  rfl
 rw [if_neg (by simp [hw]), G8]
 exact k B w hs
end
section
variable {P : Program} {n : Nat} {Q : Exit → Act → World → Prop} {Sh : Rho → (Nat → Bool) → List Chunk} {R0 : List Fact} {al0 : List (Nat × Value)}
variable {i : Nat} {rest : List Oper} {its : List Item} {d : Nat} {ty : TypeId} {pos : String} {aft : Array Edge}
theorem O3 {l : List Oper} {op : Go.Op} {q : Nat} {b : Bool} (hv : ∀ ρ, gu n (Dt its al0 ρ) l q = true) (hSh : ∀ ρ g S, S i = false → Sh (Rho.set ρ i g) (upS S i) = Sh ρ S)
  (k : DJ P n l.toArray Q Sh R0 al0 (i + 1) rest (⟨i, some d, fun _ => undef, fun _ => [], fun _ => []⟩ :: its)) : DN P n l.toArray Q Sh R0 al0 i ⟨some d, op, ty, pos, aft, some (q, b)⟩ rest its := by
 refine ⟨⟨i, some d, fun _ => undef, fun _ => [], fun _ => []⟩, rfl, rfl, Ind.const _, Ind.const _, Ind.const _, ?_, k⟩
 intro ρ S a L' R' w K hS hbef haft hag hdep hbase hst hK
 obtain ⟨oi, t, c, hq, ht, he⟩ := Vw (hv ρ)
 have hl : a.tmps[t]? = some (.tuple c) := hag t _ (by unfold Oper.looksAt; refine List.mem_append_right _ ?_; simp only [hq, Option.bind_some, ht]; simp) he
 have hw : Region.wanted (⟨some d, op, ty, pos, aft, some (q, b)⟩ : Oper) (yielded l.toArray a.tmps) = false := by
  simp only [Region.wanted, yielded, hq, Option.bind_some, ht, hl]
  rfl
 rw [if_neg (by simp [hw])]
 have := hK (ρ i) w
 exact this (by rw [hSh _ _ _ hS]; exact hst)
end
def memC (m : Mem) : Chunk := ⟨fun m' _ => Mem.le m m', fun _ _ _ _ h => h⟩
def memF (m : Mem) : Fact := ⟨fun m' => Mem.le m m', fun _ _ h h' => Mem.le_trans h' h⟩
theorem borrow {P : Program} {γ : Type} {val : γ → Value} {f : FuncId} {args : Array Value} {c : Chunk} {F : Fact} {L : List Chunk} {R : List Fact} {w : World} (hcF : ∀ m i, Mem.disj m i → c.p m i → F.p (Mem.join m i))
  (hc : ∀ L' R' w, St L' R' w → F ∈ R' → (∀ f ∈ R, f ∈ R') → Calls P f args w (Bh val (fun _ => L') (fun _ => R'))) (hs : St (c :: L) R w) : Calls P f args w (Bh val (fun _ => c :: L) (fun _ => R)) := by
 obtain ⟨m, i, hd, hm, hi, ⟨m1, m2, hd', h1, h2, hcp, hst⟩, hr⟩ := hs
 have d1 : Mem.disj m1 i := Mem.disj_le hd h1 (Mem.le_refl _)
 have d2 : Mem.disj m2 i := Mem.disj_le hd h2 (Mem.le_refl _)
 have hs' : St [memC m2] (F :: memF m1 :: memF i :: R) w := by
  refine ⟨m2, Mem.join m1 i, Mem.disj_symm (Mem.disj_join hd' (Mem.disj_symm d2)), Mem.le_trans h2 hm, Mem.join_le (Mem.le_trans h1 hm) hi, ⟨m2, fun _ => none, fun _ => .inr rfl, Mem.le_refl _, (fun _ _ e => by cases e), Mem.le_refl _, trivial⟩, ?_⟩
  intro g hg
  rcases List.mem_cons.1 hg with e | hg
  ·rw [e]; exact hcF m1 i d1 hcp
  rcases List.mem_cons.1 hg with e | hg
  ·rw [e]; exact Mem.le_joinL _ _
  rcases List.mem_cons.1 hg with e | hg
  ·rw [e]; exact Mem.le_joinR d1
  ·exact g.mono _ _ (Mem.le_joinR d1) (hr g hg)
 refine (hc _ _ _ hs' (List.Mem.head _) (fun g hg => .tail _ (.tail _ (.tail _ hg)))).mono ?_
 rintro e w' ⟨g, rfl, n, j, k1, k2, k3, ⟨n1, n2, k4, k5, k6, k7, k8⟩, k9⟩
 refine ⟨g, rfl, Mem.join m1 m2, i, Mem.disj_join d1 d2, ?_, ?_, ⟨m1, m2, hd', Mem.le_joinL _ _, Mem.le_joinR hd', hcp, hst⟩, hr⟩
 ·exact Mem.join_le (Mem.le_trans (k9 (memF m1) (.tail _ (.head _))) k3) (Mem.le_trans (Mem.le_trans k7 k5) k2)
 ·exact Mem.le_trans (k9 (memF i) (.tail _ (.tail _ (.head _)))) k3
theorem lend {P : Program} {γ : Type} {val : γ → Value} {f : FuncId} {args : Array Value} {α : Type} [Enc α] {T : TypeId} {v : Value} {xs : List α} {L L' : List Chunk} {R : List Fact} {w : World} (hp : Pick L (row T v xs) L')
  (hc : ∀ L' R' w, St L' R' w → sl v xs ∈ R' → (∀ f ∈ R, f ∈ R') → Calls P f args w (Bh val (fun _ => L') (fun _ => R'))) (hs : St L R w) : Calls P f args w (Bh val (fun _ => row T v xs :: L') (fun _ => R)) :=
 borrow (F := sl v xs) (fun m i hd h => Kr hd h) hc (hs.pick hp)
section
variable {P : Program} {T : TypeId} {k : IntKind}
theorem b_quoP {a b : Int} (h0 : 0 ≤ a) (h1 : a ≤ 9223372036854775807) (hb : 0 < b) (w : World) : (binOp .quo T (vi a) (vi b)).run P w = .ok (vi (a / b)) w := by
 have e : a.tdiv b = a / b := Int.tdiv_eq_ediv_of_nonneg h0
 have h2 : 0 ≤ a / b := Int.ediv_nonneg h0 (by omega)
 have h3 : a / b ≤ a := Int.ediv_le_self _ h0
 rw [← e]
 exact b_quo (by omega) (by rw [e]; omega) (by rw [e]; omega) w
theorem b_remP {a b : Int} (h0 : 0 ≤ a) (hb : 0 < b) (hb2 : b ≤ 9223372036854775807) (w : World) : (binOp .rem T (vi a) (vi b)).run P w = .ok (vi (a % b)) w := by
 have e : a.tmod b = a % b := Int.tmod_eq_emod_of_nonneg h0
 have h2 : 0 ≤ a % b := Int.emod_nonneg _ (by omega)
 have h3 : a % b < b := Int.emod_lt_of_pos _ hb
 rw [← e]
 exact b_rem (by omega) (by rw [e]; omega) (by rw [e]; omega) w
theorem b_quoN {a b : Nat} (h1 : a ≤ 9223372036854775807) (hb : 0 < b) (w : World) : (binOp .quo T (vi (a : Int)) (vi (b : Int))).run P w = .ok (vi ((a / b : Nat) : Int)) w := by
 rw [b_quoP (by omega) (by omega) (by omega), Int.natCast_ediv]
theorem b_remN {a b : Nat} (hb : 0 < b) (hb2 : b ≤ 9223372036854775807) (w : World) : (binOp .rem T (vi (a : Int)) (vi (b : Int))).run P w = .ok (vi ((a % b : Nat) : Int)) w := by
 rw [b_remP (by omega) (by omega) (by omega), Int.natCast_emod]
theorem b_addN {a b : Nat} (h : a + b ≤ 9223372036854775807) (w : World) : (binOp .add T (vi (a : Int)) (vi (b : Int))).run P w = .ok (vi ((a + b : Nat) : Int)) w := by
 rw [W8 (by omega) (by omega), Int.natCast_add]
theorem Ady : ∀ k : _root_.Fin 8, u8 (((1 : UInt8).toNat : Int) * 2 ^ k.val) = (1 : UInt8) <<< UInt8.ofNat k.val := by decide
theorem Ts (x : UInt8) : Value.int .i64 (IntKind.i64.wrap ((u8 ((x.toNat : Int) / 16)).toNat : Int)) = vi ((x.toNat : Int) / 16) := by
 have := x.toNat_lt
 rw [Bo, Kj (by omega) (by omega)]
theorem Tr (x : UInt8) : Value.int .i64 (IntKind.i64.wrap ((u8 ((x.toNat : Int) % 16)).toNat : Int)) = vi ((x.toNat : Int) % 16) := by
 rw [Bo, Kj (by omega) (by omega)]
end
def MsgIn (m : Msg) : Prop := (0 ≤ m.kind ∧ m.kind ≤ 255) ∧ (0 ≤ m.src ∧ m.src ≤ 15) ∧ (0 ≤ m.dst ∧ m.dst ≤ 15) ∧ (0 ≤ m.line ∧ m.line ≤ 255) ∧ (0 ≤ m.serial ∧ m.serial ≤ 65535) ∧ (0 ≤ m.turn ∧ m.turn ≤ 65535) ∧ (0 ≤ m.value ∧ m.value ≤ 255)
theorem MsgIn.wf {m : Msg} (h : MsgIn m) : m.wf := by unfold MsgIn at h; unfold Msg.wf An; omega
theorem Yf {c : Config} {m : Msg} (h : Bi c m = 0) (h1 : c.cores ≤ 15) (h2 : c.lines ≤ 256) : MsgIn m := by
 obtain ⟨g1, g2, g3, g4, g5, g6, g7⟩ := Hg h
 unfold MsgIn; omega
theorem J2 (b : List UInt8) (i : Nat) : 0 ≤ at8 b i ∧ at8 b i ≤ 255 := by unfold at8; have := (b.getD i 0).toNat_lt; omega
theorem Ye (b : List UInt8) : (Hx b).wf := by
 have h0 := J2 b 0; have h1 := J2 b 1; have h2 := J2 b 2; have h3 := J2 b 3; have h4 := J2 b 4; have h5 := J2 b 5; have h6 := J2 b 6; have h7 := J2 b 7
 unfold Msg.wf An Hx; simp only; omega
theorem W0 {P : Program} {T : TypeId} {a b : List UInt8} (h : a ≠ b) (w : World) : (binOp .neq T (.string (Ba a)) (.string (Ba b))).run P w = .ok (.bool true) w := by rw [Ql, decide_eq_false h]; rfl
theorem W1 {P : Program} {T : TypeId} {a b : List UInt8} (h : a = b) (w : World) : (binOp .neq T (.string (Ba a)) (.string (Ba b))).run P w = .ok (.bool false) w := by rw [Ql, decide_eq_true h]; rfl
end Go.Proofs.YtiofgjolhbgkiaaGreatDoor
namespace Go.Proofs.YtiofgjolhbgkiaaGreatDoor
open Go
def cF (v : Value) (sz i : Nat) (cs : List Value) : Fact :=
 ⟨fun m => ∃ a cells T fz, ep v sz i 0 = .pointer (some a) ∧ (∀ f, ep v sz i f = .pointer (some (a.add f))) ∧ a.spot = none ∧ m (a.block + 1) = some (.ob (.cells cells T fz)) ∧ ∀ (k : Nat) c, cs[k]? = some c → cells[a.off + k]? = some c,
  fun m m' h ⟨a, cells, T, fz, h1, h2, h3, h4, h5⟩ => ⟨a, cells, T, fz, h1, h2, h3, h _ _ h4, h5⟩⟩
section
variable {P : Program} {n : Nat} {ops : Array Oper} {Q : Exit → Act → World → Prop} {rest : List Oper} {L L' : List Chunk} {R : List Fact} {al : List (Nat × Value)} {d : Nat} {x y : Operand} {T ty : TypeId} {pos : String} {aft : Array Edge}
theorem cF_at {v : Value} {sz i f : Nat} {cs ds : List Value} (hm : cF v sz i cs ∈ R) (hd : ∀ (k : Nat) c, ds[k]? = some c → cs[f + k]? = some c) : Cj L R (ep v sz i f) ds := by
 intro w hs
 obtain ⟨m, hle, hr⟩ := hs.ex
 obtain ⟨a, cells, T, fz, h1, h2, h3, h4, h5⟩ := hr _ hm
 refine ⟨a.add f, h2 f, fun k c hk => ?_⟩
 rw [F6, D1 h3, Eg (Ge (hle _ _ h4))]
 exact h5 _ _ (hd k c hk)
theorem Abc {v : Value} {sz i f : Nat} {cs : List Value} {c : Value} (hm : cF v sz i cs ∈ R) (hc : cs[f]? = some c) : Cj L R (ep v sz i f) [c] :=
 cF_at hm fun k c' hk => by
  match k, hk with
  | 0, hk => simp at hk; subst hk; exact hc
  | k + 1, hk => simp at hk
theorem Xf {v : Value} {sz i : Nat} {cs : List Value} (hm : cF v sz i cs ∈ R) : Cj L R (ep v sz i 0) cs := cF_at hm fun k c hk => by rw [Nat.zero_add]; exact hk
variable {α : Type} [Enc α] {v : Value} {xs : List α} {i : Nat} {e : α}
theorem Uo {m : Mem} (h : isSlice v xs m) (hi : xs[i]? = some e) : ∃ cs, Enc.rd e cs m ∧ (cF v (Enc.sz α) i cs).p m := by
 obtain ⟨base, cap, hv, hn, hc⟩ := h
 have hne : xs ≠ [] := by intro h0; rw [h0] at hi; simp at hi
 obtain ⟨a, cells, T, fz, cs, h1, h2, h3, h4, h5⟩ := hc hne
 obtain ⟨p, c, q, e1, e2, e3, _⟩ := h5.get hi
 subst h1
 refine ⟨c, e3, a.add (i * Enc.sz α), cells, T, fz, by rw [hv, Lu, Nat.add_zero], fun f => by rw [hv, Lu, F6], by rw [D1 h2], by rw [D1 h2]; exact h3, fun k u hk => ?_⟩
 rw [D1 h2]
 have hcs : cs[i * Enc.sz α + k]? = some u := by
  rw [e1, List.append_assoc, List.getElem?_append_right (by omega), show i * Enc.sz α + k - p.length = k by omega, List.getElem?_append_left]
  ·exact hk
  ·exact (List.getElem?_eq_some_iff.1 hk).1
 rw [← h4, List.getElem?_take] at hcs
 split at hcs
 ·rw [List.getElem?_drop] at hcs
  rw [← Array.getElem?_toList, ← hcs, Nat.add_assoc]
 ·cases hcs
end
class El0 (α : Type) [Enc α] where
 cs : α → List Value
 wf : α → Prop
 df : α
 ok : ∀ (x : α) ds m, Enc.rd x ds m → ds = cs x ∧ wf x
class El1 (α : Type) (β : outParam Type) [Enc α] [Enc β] where
 cs : Value → α → List Value
 wf : α → Prop
 df : α
 sub : α → List β
 ok : ∀ (x : α) ds m, Enc.rd x ds m → ∃ u, ds = cs u x ∧ isSlice u (sub x) m ∧ wf x
instance e0Int : El0 Int := ⟨fun x => [vi x], An, 0, fun _ _ _ h => h⟩
instance e0Byte : El0 UInt8 := ⟨fun x => [vb x], fun _ => True, 0, fun _ _ _ h => ⟨h, trivial⟩⟩
instance e0Msg : El0 Msg := ⟨Msg.cells, Msg.wf, zMsg, fun _ _ _ h => h⟩
instance e0Line : El0 Line := ⟨Line.cells, Line.wf, zLine, fun _ _ _ h => h⟩
instance e0Done : El0 Done := ⟨Done.cells, Done.wf, zDone, fun _ _ _ h => h⟩
instance e0Step : El0 Step := ⟨Step.cells, Step.wf, zStep, fun _ _ _ h => h⟩
instance e0Answer : El0 Answer := ⟨Answer.cells, Answer.wf, Acl, fun _ _ _ h => h⟩
instance e1List {β : Type} [Enc β] : El1 (List β) β := ⟨fun u _ => [u], fun _ => True, [], fun x => x, fun _ _ _ h => by obtain ⟨u, h1, h2⟩ := h; exact ⟨u, h1, h2, trivial⟩⟩
instance e1Core : El1 Core Line := ⟨fun u x => x.cells u, fun x => x.wait.wf, Fw, fun x => x.lines, fun _ _ _ h => h⟩
instance e1Entry : El1 Entry Int := ⟨fun u x => x.cells u, fun x => x.wf, A3, fun x => x.last, fun _ _ _ h => h⟩
section
variable {P : Program} {n : Nat} {ops : Array Oper} {Q : Exit → Act → World → Prop} {L L' : List Chunk} {R : List Fact} {al : List (Nat × Value)}
variable {α β : Type} [Enc α] [Enc β] {v : Value} {xs : List α}
theorem St.open0 [El0 α] {w : World} (i : Nat) (hm : sl v xs ∈ R) (hi : i < xs.length) (hs : St L R w) : El0.wf (xs.getD i El0.df) ∧ St L (cF v (Enc.sz α) i (El0.cs (xs.getD i El0.df)) :: R) w := by
 obtain ⟨m, j, hd, hmw, hjw, hst, hr⟩ := hs
 obtain ⟨cs, h1, h2⟩ := Uo (hr _ hm) (getD_some El0.df hi)
 obtain ⟨rfl, h4⟩ := El0.ok _ _ _ h1
 refine ⟨h4, m, j, hd, hmw, hjw, hst, fun g hg => ?_⟩
 cases List.mem_cons.1 hg with
 | inl e => rw [e]; exact h2
 | inr e => exact hr g e
theorem St.open1 [El1 α β] {w : World} (i : Nat) (hm : sl v xs ∈ R) (hi : i < xs.length) (hs : St L R w) : El1.wf (xs.getD i El1.df) ∧ ∃ u, St L (cF v (Enc.sz α) i (El1.cs u (xs.getD i El1.df)) :: sl u (El1.sub (xs.getD i El1.df)) :: R) w := by
 obtain ⟨m, j, hd, hmw, hjw, hst, hr⟩ := hs
 obtain ⟨cs, h1, h2⟩ := Uo (hr _ hm) (getD_some El1.df hi)
 obtain ⟨u, rfl, h3, h4⟩ := El1.ok _ _ _ h1
 refine ⟨h4, u, m, j, hd, hmw, hjw, hst, fun g hg => ?_⟩
 cases List.mem_cons.1 hg with
 | inl e => rw [e]; exact h2
 | inr e => cases List.mem_cons.1 e with
  | inl e => rw [e]; exact h3
  | inr e => exact hr g e
theorem JC.open0 [El0 α] {c : Code} (i : Nat) (hm : sl v xs ∈ R) (hi : i < xs.length) (k : El0.wf (xs.getD i El0.df) → JC P n c Q L (cF v (Enc.sz α) i (El0.cs (xs.getD i El0.df)) :: R) al) : JC P n c Q L R al :=
 fun B w hs => let h := hs.open0 i hm hi; k h.1 B w h.2
theorem J.open0 [El0 α] {l : List Oper} (i : Nat) (hm : sl v xs ∈ R) (hi : i < xs.length) (k : El0.wf (xs.getD i El0.df) → J P n ops Q l L (cF v (Enc.sz α) i (El0.cs (xs.getD i El0.df)) :: R) al) : J P n ops Q l L R al :=
 fun B w hs => let h := hs.open0 i hm hi; k h.1 B w h.2
theorem JC.open1 [El1 α β] {c : Code} (i : Nat) (hm : sl v xs ∈ R) (hi : i < xs.length) (k : El1.wf (xs.getD i El1.df) → ∀ u, JC P n c Q L (cF v (Enc.sz α) i (El1.cs u (xs.getD i El1.df)) :: sl u (El1.sub (xs.getD i El1.df)) :: R) al) : JC P n c Q L R al :=
 fun B w hs => let ⟨h, u, h'⟩ := hs.open1 i hm hi; k h u B w h'
theorem J.open1 [El1 α β] {l : List Oper} (i : Nat) (hm : sl v xs ∈ R) (hi : i < xs.length) (k : El1.wf (xs.getD i El1.df) → ∀ u, J P n ops Q l L (cF v (Enc.sz α) i (El1.cs u (xs.getD i El1.df)) :: sl u (El1.sub (xs.getD i El1.df)) :: R) al) : J P n ops Q l L R al :=
 fun B w hs => let ⟨h, u, h'⟩ := hs.open1 i hm hi; k h u B w h'
end
def Raw (k : Nat) : Type := { l : List Value // l.length = k ∧ ∀ u ∈ l, u.oneCell' = true }
instance instEncRaw {k : Nat} : Enc (Raw k) where
 sz := k
 rd x cs _ := cs = x.1
 mono _ _ _ _ _ h := h
 len x cs _ h := by rw [h]; exact x.2.1
 one x cs _ h := by rw [h]; exact x.2.2
def foc {α : Type} [Enc α] (T : TypeId) (v : Value) (xs : List α) (i : Nat) (cs : List Value) : Chunk :=
 ⟨fun m j => ∃ rs : List (Raw (Enc.sz α)), (row T v rs).p m j ∧ rs.length = xs.length ∧ (∃ r, rs[i]? = some r ∧ r.1 = cs) ∧ ∀ (k : Nat) e r, k ≠ i → xs[k]? = some e → rs[k]? = some r → Enc.rd e r.1 j,
  fun m j j' h ⟨rs, h1, h2, h3, h4⟩ => ⟨rs, (row T v rs).mono _ _ _ h h1, h2, h3, fun k e r hk he hr => Enc.mono _ _ _ _ h (h4 k e r hk he hr)⟩⟩
section
variable {α : Type} [Enc α]
theorem RdL.raw {m : Mem} : ∀ {xs : List α} {cs : List Value}, RdL xs cs m → ∃ rs : List (Raw (Enc.sz α)), RdL rs cs m ∧ rs.length = xs.length ∧ ∀ (k : Nat) e r, xs[k]? = some e → rs[k]? = some r → Enc.rd e r.1 m
 | [], cs, h => ⟨[], h, rfl, fun k e r h' => by simp at h'⟩
 | x :: xs, cs, ⟨c1, c2, h1, h2, h3⟩ => by
  obtain ⟨rs, e1, e2, e3⟩ := RdL.raw h3
  obtain ⟨r0, hr0⟩ : ∃ r0 : Raw (Enc.sz α), r0.1 = c1 := ⟨⟨c1, Enc.len _ _ _ h2, Enc.one _ _ _ h2⟩, rfl⟩
  refine ⟨r0 :: rs, ⟨c1, c2, h1, hr0.symm, e1⟩, by simp [e2], fun k e r hx hr => ?_⟩
  cases k with
  | zero =>
   have ex : x = e := by simpa using hx
   have er : r0 = r := by simpa using hr
   rw [← ex, ← er, hr0]; exact h2
  | succ k => exact e3 k e r (by simpa using hx) (by simpa using hr)
theorem RdL.typed {m : Mem} : ∀ {xs : List α} {rs : List (Raw (Enc.sz α))} {cs : List Value}, RdL rs cs m → rs.length = xs.length → (∀ (k : Nat) e r, xs[k]? = some e → rs[k]? = some r → Enc.rd e r.1 m) → RdL xs cs m
 | [], [], cs, h, _, _ => h
 | [], _ :: _, _, _, hl, _ => by simp at hl
 | _ :: _, [], _, _, hl, _ => by simp at hl
 | x :: xs, r :: rs, cs, ⟨c1, c2, h1, h2, h3⟩, hl, hr => by
  refine ⟨c1, c2, h1, ?_, RdL.typed h3 (by simpa using hl) (fun k e r' hx hr' => hr (k + 1) e r' (by simpa using hx) (by simpa using hr'))⟩
  have := hr 0 x r rfl rfl
  rw [show c1 = r.1 from h2]; exact this
theorem Jf {T : TypeId} {v : Value} {xs : List α} {m j : Mem} (h : (row T v xs).p m j) : ∃ rs : List (Raw (Enc.sz α)), (row T v rs).p m j ∧ rs.length = xs.length ∧ ∀ (k : Nat) e r, xs[k]? = some e → rs[k]? = some r → Enc.rd e r.1 j := by
 obtain ⟨h0, hv | ⟨g, cap, cur, cs, hv, hg, hcap, hml, hsz, htk, hrd⟩⟩ := h
 ·exact ⟨[], ⟨Nat.zero_le _, .inl ⟨hv.1, rfl⟩⟩, by rw [hv.2]; rfl, fun k e r hx => by rw [hv.2] at hx; simp at hx⟩
 ·obtain ⟨rs, e1, e2, e3⟩ := hrd.raw
  exact ⟨rs, ⟨by rw [e2]; exact h0, .inr ⟨g, cap, cur, cs, by rw [e2]; exact hv, hg, by rw [e2]; exact hcap, hml, hsz, by rw [e2]; exact htk, e1⟩⟩, e2, e3⟩
theorem Pq {T : TypeId} {v : Value} {xs : List α} {rs : List (Raw (Enc.sz α))} {m j : Mem} (h : (row T v rs).p m j) (hl : rs.length = xs.length) (hr : ∀ (k : Nat) e r, xs[k]? = some e → rs[k]? = some r → Enc.rd e r.1 j) : (row T v xs).p m j := by
 obtain ⟨h0, hv | ⟨g, cap, cur, cs, hv, hg, hcap, hml, hsz, htk, hrd⟩⟩ := h
 ·have : xs = [] := by rw [hv.2] at hl; exact List.length_eq_zero_iff.1 hl.symm
  exact ⟨by rw [← hl]; exact h0, .inl ⟨hv.1, this⟩⟩
 ·exact ⟨by rw [← hl]; exact h0, .inr ⟨g, cap, cur, cs, by rw [← hl]; exact hv, hg, by rw [← hl]; exact hcap, hml, hsz, by rw [← hl]; exact htk, hrd.typed hl hr⟩⟩
end
section
variable {P : Program} {n : Nat} {ops : Array Oper} {Q : Exit → Act → World → Prop} {rest : List Oper} {L L' : List Chunk} {R : List Fact} {al : List (Nat × Value)} {d : Nat} {x y : Operand} {T ty : TypeId} {pos : String} {aft : Array Edge}
variable {α β : Type} [Enc α] [Enc β] {v : Value} {xs : List α} {i : Nat}
theorem St.focus {w : World} (hi : i < xs.length) (hs : St (row T v xs :: L) R w) : ∃ cs, St (foc T v xs i cs :: L) R w ∧ cs.length = Enc.sz α ∧ ∃ j e, xs[i]? = some e ∧ Enc.rd e cs j ∧ Mem.le j (Bf w) ∧ ∀ f ∈ R, f.p j := by
 obtain ⟨m, j, hd, hm, hj, ⟨m1, m2, hd', h1, h2, hc, hst⟩, hr⟩ := hs
 obtain ⟨rs, e1, e2, e3⟩ := Jf hc
 have hi' : i < rs.length := by omega
 refine ⟨(rs[i]'hi').1, ⟨m, j, hd, hm, hj, ⟨m1, m2, hd', h1, h2, ⟨rs, e1, e2, ⟨_, List.getElem?_eq_getElem hi', rfl⟩, fun k e r _ => e3 k e r⟩, hst⟩, hr⟩, (rs[i]'hi').2.1, j, xs[i], List.getElem?_eq_getElem hi, e3 i _ _ (List.getElem?_eq_getElem hi) (List.getElem?_eq_getElem hi'), hj, hr⟩
theorem St.focus0 [El0 α] {w : World} (hi : i < xs.length) (hs : St (row T v xs :: L) R w) : El0.wf (xs.getD i El0.df) ∧ St (foc T v xs i (El0.cs (xs.getD i El0.df)) :: L) R w := by
 obtain ⟨cs, h1, h2, j, e, h3, h4, h5, h6⟩ := hs.focus hi
 have : xs.getD i El0.df = e := by simp [List.getD_eq_getElem?_getD, h3]
 rw [this]
 obtain ⟨rfl, hw⟩ := El0.ok _ _ _ h4
 exact ⟨hw, h1⟩
theorem St.focus1 [El1 α β] {w : World} (hi : i < xs.length) (hs : St (row T v xs :: L) R w) : El1.wf (xs.getD i El1.df) ∧ ∃ u, St (foc T v xs i (El1.cs u (xs.getD i El1.df)) :: L) (sl u (El1.sub (xs.getD i El1.df)) :: R) w := by
 obtain ⟨m, j, hd, hm, hj, ⟨m1, m2, hd', h1, h2, hc, hst⟩, hr⟩ := hs
 obtain ⟨rs, e1, e2, e3⟩ := Jf hc
 have hi' : i < rs.length := by omega
 have hx : xs.getD i El1.df = xs[i] := by simp [List.getD_eq_getElem?_getD, hi]
 rw [hx]
 obtain ⟨u, g1, g2, g3⟩ := El1.ok _ _ _ (e3 i _ _ (List.getElem?_eq_getElem hi) (List.getElem?_eq_getElem hi'))
 refine ⟨g3, u, m, j, hd, hm, hj, ⟨m1, m2, hd', h1, h2, ⟨rs, e1, e2, ⟨_, List.getElem?_eq_getElem hi', g1⟩, fun k e r _ => e3 k e r⟩, hst⟩, fun f hf => ?_⟩
 cases List.mem_cons.1 hf with
 | inl e => rw [e]; exact g2
 | inr e => exact hr f e
theorem St.unfocus {w : World} {cs : List Value} {e : α} (he : ∀ j, (∀ f ∈ R, f.p j) → Enc.rd e cs j) (hs : St (foc T v xs i cs :: L) R w) : St (row T v (xs.set i e) :: L) R w := by
 obtain ⟨m, j, hd, hm, hj, ⟨m1, m2, hd', h1, h2, ⟨rs, e1, e2, ⟨r0, e3, e4⟩, e5⟩, hst⟩, hr⟩ := hs
 refine ⟨m, j, hd, hm, hj, ⟨m1, m2, hd', h1, h2, Pq e1 (by simpa using e2) (fun k e' r hx hk => ?_), hst⟩, hr⟩
 by_cases h : k = i
 ·subst h
  have hlt : k < xs.length := by
   have := (List.getElem?_eq_some_iff.1 e3).1; omega
  rw [List.getElem?_set_self hlt] at hx
  cases hx
  rw [e3] at hk; cases hk
  rw [e4]; exact he j hr
 ·rw [List.getElem?_set_ne (Ne.symm h)] at hx
  exact e5 k e' r h hx hk
theorem V1 {w : World} {cs : List Value} (hs : St (foc T v xs i cs :: L) R w) : ∃ rs : List (Raw (Enc.sz α)), St (row T v rs :: L) R w ∧ ∃ r, rs[i]? = some r ∧ r.1 = cs := by
 obtain ⟨m, j, hd, hm, hj, ⟨m1, m2, hd', h1, h2, ⟨rs, e1, e2, e3, e5⟩, hst⟩, hr⟩ := hs
 exact ⟨rs, ⟨m, j, hd, hm, hj, ⟨m1, m2, hd', h1, h2, e1, hst⟩, hr⟩, e3⟩
theorem Abx {f sz : Nat} {cs ds : List Value} (hp : Pick L (foc T v xs i cs) L') (hsz : Enc.sz α = sz) (hd : ∀ (k : Nat) c, ds[k]? = some c → cs[f + k]? = some c) : Cj L R (ep v sz i f) ds := by
 subst hsz
 intro w hs
 obtain ⟨rs, h1, r, h2, h3⟩ := V1 (hs.pick hp)
 exact Agp (α := Raw (Enc.sz α)) (L := row T v rs :: L') (f := f) .hd h2 (fun cs' m hr k c hk => by rw [show cs' = r.1 from hr, h3]; exact hd k c hk) w h1
theorem at_f1 {f sz : Nat} {cs : List Value} {c : Value} (hp : Pick L (foc T v xs i cs) L') (hsz : Enc.sz α = sz) (hc : cs[f]? = some c) : Cj L R (ep v sz i f) [c] :=
 Abx hp hsz fun k c' hk => by
  match k, hk with
  | 0, hk => simp at hk; subst hk; exact hc
  | k + 1, hk => simp at hk
theorem Ll {sz : Nat} {cs : List Value} (hp : Pick L (foc T v xs i cs) L') (hsz : Enc.sz α = sz) : Cj L R (ep v sz i 0) cs := Abx hp hsz fun k c hk => by rw [Nat.zero_add]; exact hk
theorem Ow {w : World} {f : Nat} {cs us : List Value} (hs : St (foc T v xs i cs :: L) R w) (h1 : ∀ u ∈ us, u.oneCell' = true) (hf : f + us.length ≤ cs.length) :
  ∃ g cap cur, v = .slice (some ⟨g, 0, none⟩) xs.length cap ∧ w.heap[g]? = some (.cells cur T (0, 0)) ∧ i * Enc.sz α + f + us.length ≤ cur.size ∧
   St (foc T v xs i (cs.take f ++ us ++ cs.drop (f + us.length)) :: L) R (w.setRow g (cur.toList.take (i * Enc.sz α + f) ++ us ++ cur.toList.drop (i * Enc.sz α + f + us.length)).toArray) := by
 obtain ⟨m, j, hd, hm, hj, ⟨m1, m2, hd', g1, g2, ⟨rs, e1, e2, ⟨r0, e3, e4⟩, e5⟩, hst⟩, hr⟩ := hs
 have hlen : (cs.take f ++ us ++ cs.drop (f + us.length)).length = cs.length := by simp; omega
 have hcs : cs.length = Enc.sz α := by rw [← e4]; exact r0.2.1
 let r1 : Raw (Enc.sz α) := ⟨cs.take f ++ us ++ cs.drop (f + us.length), by rw [hlen]; exact hcs, fun u hu => by
  rcases List.mem_append.1 hu with h | h
  ·rcases List.mem_append.1 h with h | h
   ·exact r0.2.2 u (by rw [e4]; exact List.mem_of_mem_take h)
   ·exact h1 u h
  ·exact r0.2.2 u (by rw [e4]; exact List.mem_of_mem_drop h)⟩
 -- one piece for all others, with what is D4 of them
 have hK : St (row T v rs :: L) (⟨fun m => ∀ (k : Nat) e r, k ≠ i → xs[k]? = some e → rs[k]? = some r → Enc.rd e r.1 m, fun m m' h hp k e r hk he hr' => Enc.mono _ _ _ _ h (hp k e r hk he hr')⟩ :: R) w :=
  ⟨m, j, hd, hm, hj, ⟨m1, m2, hd', g1, g2, e1, hst⟩, fun q hq => by
   cases List.mem_cons.1 hq with
   | inl e => rw [e]; exact e5
   | inr e => exact hr q e⟩
 obtain ⟨g, cap, cur, hv, hg, hfit, hst'⟩ := N4 (w' := w) (e := r0) (e' := r1) (f := f) (cs := us) hK e3 (fun ds m hr => by rw [show ds = r0.1 from hr, e4]; exact hf) (fun j _ ds hr => by
  rw [show ds = r0.1 from hr, e4]; rfl)
 refine ⟨g, cap, cur, by rw [hv, e2], hg, hfit, ?_⟩
 obtain ⟨m', j', hd2, hm', hj', ⟨n1, n2, hd3, k1, k2, hc', hst2⟩, hr'⟩ := hst'
 have hilt : i < rs.length := (List.getElem?_eq_some_iff.1 e3).1
 refine ⟨m', j', hd2, hm', hj', ⟨n1, n2, hd3, k1, k2, ⟨rs.set i r1, hc', by simpa using e2, ⟨r1, List.getElem?_set_self hilt, rfl⟩, fun k e r hk he hrk => ?_⟩, hst2⟩, fun q hq => hr' q (List.mem_cons_of_mem _ hq)⟩
 rw [List.getElem?_set_ne (Ne.symm hk)] at hrk
 exact hr' _ (List.mem_cons_self ..) k e r hk he hrk
theorem X0 {f sz k : Nat} {c : Value} {cs us : List Value} {T' : TypeId} (hsz : ∀ w, (sizeOf T).run P w = .ok k w) (hx : ev n al x = some (ep v sz i f)) (hy : ev n al y = some c) (hc : c.cells = us.toArray) (hl : us.length = k) (h1 : ∀ u ∈ us, u.oneCell' = true)
  (hp : Pick L (foc T' v xs i cs) L') (hes : Enc.sz α = sz) (hf : Nat.ble (f + us.length) cs.length = true) {cs' : List Value} (hcs : cs.take f ++ us ++ cs.drop (f + us.length) = cs')
  (kk : J P n ops Q rest (foc T' v xs i cs' :: L') R al) : J P n ops Q (⟨none, .store T x y, ty, pos, aft, none⟩ :: rest) L R al :=
 J.skip rfl rfl (fun B w hs => by
  subst hes
  obtain ⟨g, cap, cur, hv, hg, hfit, hst⟩ := Ow (hs.pick hp) h1 (Nat.le_of_ble_eq_true hf)
  refine ⟨_, E0 ?_, by rw [← hcs]; exact hst⟩
  rw [A5 hx, A5 hy, hv, Lu, Gi]
  have := run_storeCells_at P g (i * Enc.sz α + f) T' us 0 cur w hg (by simpa using hfit) h1
  simp only [Nat.add_zero, Nat.zero_add] at this ⊢
  subst hl
  simp [Instr.storeAt, Instr.sureAddr, storeVar, hsz, hc, this]) kk
theorem J.focus0 [El0 α] {l : List Oper} (i : Nat) (hp : Pick L (row T v xs) L') (hi : i < xs.length) (k : El0.wf (xs.getD i El0.df) → J P n ops Q l (foc T v xs i (El0.cs (xs.getD i El0.df)) :: L') R al) : J P n ops Q l L R al :=
 fun B w hs => let h := (hs.pick hp).focus0 hi; k h.1 B w h.2
theorem JC.focus0 [El0 α] {c : Code} (i : Nat) (hp : Pick L (row T v xs) L') (hi : i < xs.length) (k : El0.wf (xs.getD i El0.df) → JC P n c Q (foc T v xs i (El0.cs (xs.getD i El0.df)) :: L') R al) : JC P n c Q L R al :=
 fun B w hs => let h := (hs.pick hp).focus0 hi; k h.1 B w h.2
theorem JC.focus1 [El1 α β] {c : Code} (i : Nat) (hp : Pick L (row T v xs) L') (hi : i < xs.length) (k : El1.wf (xs.getD i El1.df) → ∀ u, JC P n c Q (foc T v xs i (El1.cs u (xs.getD i El1.df)) :: L') (sl u (El1.sub (xs.getD i El1.df)) :: R) al) : JC P n c Q L R al :=
 fun B w hs => let ⟨h, u, h'⟩ := (hs.pick hp).focus1 hi; k h u B w h'
theorem J.unfocus {l : List Oper} {cs : List Value} (e : α) (hp : Pick L (foc T v xs i cs) L') (he : ∀ j, (∀ f ∈ R, f.p j) → Enc.rd e cs j) (k : J P n ops Q l (row T v (xs.set i e) :: L') R al) : J P n ops Q l L R al :=
 fun B w hs => k B w ((hs.pick hp).unfocus he)
theorem JC.unfocus {c : Code} {cs : List Value} (e : α) (hp : Pick L (foc T v xs i cs) L') (he : ∀ j, (∀ f ∈ R, f.p j) → Enc.rd e cs j) (k : JC P n c Q (row T v (xs.set i e) :: L') R al) : JC P n c Q L R al :=
 fun B w hs => k B w ((hs.pick hp).unfocus he)
end
end Go.Proofs.YtiofgjolhbgkiaaGreatDoor
namespace Go.Proofs.YtiofgjolhbgkiaaGreatDoor
open Go
section
variable {P : Program} {n : Nat} {ops : Array Oper} {Q : Exit → Act → World → Prop} {rest : List Oper} {L L' : List Chunk} {R : List Fact} {al : List (Nat × Value)} {d : Nat} {x y : Operand} {T ty : TypeId} {pos : String} {aft : Array Edge}
theorem mm {f : Fact} (h : f ∈ R := by first | assumption | exact .head _ | (refine .tail _ ?_; first | assumption | exact .head _ | (refine .tail _ ?_; first | assumption | exact .head _ | (refine .tail _ ?_; first | assumption | exact .head _ | (refine .tail _ ?_; first | assumption | exact .head _ | (refine .tail _ ?_; first | assumption | exact .head _ | (refine .tail _ ?_; first | assumption | exact .head _ | (refine .tail _ ?_; first | assumption | exact .head _ | (refine .tail _ ?_; first | assumption | exact .head _ | (refine .tail _ ?_; first | assumption | exact .head _ | (refine .tail _ ?_; first | assumption | exact .head _ | (refine .tail _ ?_; first | assumption | exact .head _ | (refine .tail _ ?_; first | assumption | exact .head _ | (refine .tail _ ?_; first | assumption | exact .head _ | (refine .tail _ ?_; first | assumption | exact .head _ | (refine .tail _ ?_; first | assumption | exact .head _ | (refine .tail _ ?_; first | assumption | exact .head _ | (refine .tail _ ?_; first | assumption | exact .head _ | (refine .tail _ ?_; first | assumption | exact .head _ | (refine .tail _ ?_; first | assumption | exact .head _ | (refine .tail _ ?_; first | assumption | exact .head _ | (refine .tail _ ?_; first | assumption | exact .head _ | (refine .tail _ ?_; first | assumption | exact .head _ | (refine .tail _ ?_; first | assumption | exact .head _ | (refine .tail _ ?_; first | assumption | exact .head _ | (refine .tail _ ?_; first | assumption | exact .head _ | (refine .tail _ ?_; first | assumption | exact .head _))))))))))))))))))))))))))) : f ∈ R := h
theorem pkk {c : Chunk} (h : Pick L c L' := by first | exact .hd | (apply Pick.tl; first | exact .hd | (apply Pick.tl; first | exact .hd | (apply Pick.tl; first | exact .hd | (apply Pick.tl; first | exact .hd | (apply Pick.tl; first | exact .hd | (apply Pick.tl; first | exact .hd | (apply Pick.tl; first | exact .hd | (apply Pick.tl; first | exact .hd | (apply Pick.tl; first | exact .hd | (apply Pick.tl; first | exact .hd | (apply Pick.tl; first | exact .hd | (apply Pick.tl; exact .hd))))))))))))) : Pick L c L' := h
theorem Af {R' : List Fact} {w : World} (hs : St L R w) (hl : LSub L L' := by repeat (first | exact .refl | exact .nil | (apply LSub.cons; focus (exact pkk)) | apply LSub.drop)) (hf : FSub R R' := by repeat (first | exact FSub.refl | exact FSub.nil | (apply FSub.cons; focus (exact mm)) | apply FSub.drop)) : St L' R' w := hs.sub hl hf
theorem Acn {w : World} (hs : St L R w) (hl : LSub L L' := by repeat (first | exact .refl | (apply LSub.cons; focus (exact pkk)) | exact .nil)) : St L' R w := hs.sub hl (fun f h => h)
theorem Ie : ∀ u ∈ ([] : List Value), u.oneCell' = true := fun _ h => by cases h
theorem Ec {c : Value} {l : List Value} (hc : c.oneCell' = true) (hl : ∀ u ∈ l, u.oneCell' = true) : ∀ u ∈ c :: l, u.oneCell' = true := fun u h => by
 cases List.mem_cons.1 h with
 | inl e => rw [e]; exact hc
 | inr e => exact hl u e
theorem Ss {v : Value} (hx : ev n al x = some v := by exact rfl) : Ao P n al L R ⟨some d, .move x, ty, pos, aft, none⟩ v :=
 ⟨rfl, fun ρ w h _ => by show Result.ok (Next.value _) w = _; rw [h x (by simp [Op.operands]) _ hx]⟩
theorem C6 {v : Value} (hx : ev n al x = some v := by exact rfl) : Ao P n al L R ⟨some d, .assign x, ty, pos, aft, none⟩ v :=
 ⟨rfl, fun ρ w h _ => by show Result.ok (Next.value _) w = _; rw [h x (by simp [Op.operands]) _ hx]⟩
theorem Fd {c : Operand} {v : Value} (hc : ev n al c = some (.bool true) := by exact rfl) (hx : ev n al x = some v := by exact rfl) : Ao P n al L R ⟨some d, .pick c x y, ty, pos, aft, none⟩ v :=
 ⟨rfl, fun ρ w h _ => by simp [execOp, h c (by simp [Op.operands]) _ hc, h x (by simp [Op.operands]) _ hx, asBool, bind, pure, Sem.bind, Sem.run]⟩
theorem Adk {c : Operand} {v : Value} (hc : ev n al c = some (.bool false) := by exact rfl) (hy : ev n al y = some v := by exact rfl) : Ao P n al L R ⟨some d, .pick c x y, ty, pos, aft, none⟩ v :=
 ⟨rfl, fun ρ w h _ => by simp [execOp, h c (by simp [Op.operands]) _ hc, h y (by simp [Op.operands]) _ hy, asBool, bind, pure, Sem.bind, Sem.run]⟩
theorem Ew {b : Bool} (hx : ev n al x = some (.bool b) := by exact rfl) : Ao P n al L R ⟨some d, .unOp .not T x, ty, pos, aft, none⟩ (.bool (!b)) :=
 ⟨rfl, fun ρ w h _ => by simp [execOp, h x (by simp [Op.operands]) _ hx, Op.unary]⟩
theorem En {b : Bool} (hx : ev n al x = some (.bool b)) (hb : b = true) : Ao P n al L R ⟨some d, .unOp .not T x, ty, pos, aft, none⟩ (.bool false) := by
 have := Ew (P := P) (L := L) (R := R) (T := T) (d := d) (ty := ty) (pos := pos) (aft := aft) hx
 rw [hb] at this; exact this
theorem Abr {b : Bool} (hx : ev n al x = some (.bool b)) (hb : b = false) : Ao P n al L R ⟨some d, .unOp .not T x, ty, pos, aft, none⟩ (.bool true) := by
 have := Ew (P := P) (L := L) (R := R) (T := T) (d := d) (ty := ty) (pos := pos) (aft := aft) hx
 rw [hb] at this; exact this
theorem T6 {k : IntKind} {a b : Int} (w : World) : (binOp .eql T (.int k a) (.int k b)).run P w = .ok (.bool (decide (a = b))) w := by rw [Agn]; by_cases h : a = b <;> simp [h]
theorem T4 {k : IntKind} {a b : Int} (w : World) : (binOp .neq T (.int k a) (.int k b)).run P w = .ok (.bool (decide (a ≠ b))) w := by rw [Aaw]; by_cases h : a = b <;> simp [h]
theorem b_seD {a b : List UInt8} (w : World) : (binOp .eql T (.string (Ba a)) (.string (Ba b))).run P w = .ok (.bool (decide (a = b))) w := Agk w
theorem b_snD {a b : List UInt8} (w : World) : (binOp .neq T (.string (Ba a)) (.string (Ba b))).run P w = .ok (.bool (decide (a ≠ b))) w := by rw [Ql, decide_not]
theorem Fl {op : BinOp} {k k' : IntKind} {a b : Int} {v : Value} {U : TypeId} (hv : ∀ w : World, (binOp op T (.int k a) (.int k' b)).run P w = .ok v w) (hx : ev n al x = some (.int k a) := by exact rfl) (hy : ev n al y = some (.int k' b) := by exact rfl) : Ao P n al L R ⟨some d, .binOp op T x y U, ty, pos, aft, none⟩ v := Ai hx hy hv
theorem q_s {op : BinOp} {a b : ByteArray} {v : Value} {U : TypeId} (hv : ∀ w : World, (binOp op T (.string a) (.string b)).run P w = .ok v w) (hx : ev n al x = some (.string a) := by exact rfl) (hy : ev n al y = some (.string b) := by exact rfl) : Ao P n al L R ⟨some d, .binOp op T x y U, ty, pos, aft, none⟩ v := Adr hx hy hv
theorem Su {a b : Int} {U : TypeId} (hx : ev n al x = some (vi a) := by exact rfl) (hy : ev n al y = some (vi b) := by exact rfl) (h1 : -9223372036854775808 ≤ a + b := by omega) (h2 : a + b ≤ 9223372036854775807 := by omega) : Ao P n al L R ⟨some d, .binOp .add T x y U, ty, pos, aft, none⟩ (vi (a + b)) := Ai hx hy (W8 h1 h2)
theorem X3 {a b : Int} {U : TypeId} (hx : ev n al x = some (vi a) := by exact rfl) (hy : ev n al y = some (vi b) := by exact rfl) (h1 : -9223372036854775808 ≤ a - b := by omega) (h2 : a - b ≤ 9223372036854775807 := by omega) : Ao P n al L R ⟨some d, .binOp .sub T x y U, ty, pos, aft, none⟩ (vi (a - b)) := Ai hx hy (b_sub h1 h2)
theorem X4 {a b : Int} {U : TypeId} (hx : ev n al x = some (vi a) := by exact rfl) (hy : ev n al y = some (vi b) := by exact rfl) (h1 : -9223372036854775808 ≤ a * b := by omega) (h2 : a * b ≤ 9223372036854775807 := by omega) : Ao P n al L R ⟨some d, .binOp .mul T x y U, ty, pos, aft, none⟩ (vi (a * b)) := Ai hx hy (Aax h1 h2)
def EpOk (L : List Chunk) (R : List Fact) (v : Value) (sz i : Nat) : Prop := ∀ w, St L R w → ∃ a : Addr, ∀ f, ep v sz i f = .pointer (some (a.add f))
theorem ok_c {v : Value} {sz i : Nat} {cs : List Value} (hm : cF v sz i cs ∈ R) : EpOk L R v sz i := fun w hs => by
 obtain ⟨m, hle, hr⟩ := hs.ex
 obtain ⟨a, cells, T, fz, h1, h2, h3, h4, h5⟩ := hr _ hm
 exact ⟨a, h2⟩
theorem ok_l {v : Value} {sz i len : Nat} (hl : Dm L R v len) (h0 : 0 < len) : EpOk L R v sz i := fun w hs => by
 obtain ⟨base, cap, rfl, hb⟩ := hl w hs
 obtain ⟨a, rfl⟩ := hb h0
 exact ⟨a.add (i * sz), fun f => by rw [Lu, F6]⟩
theorem Xj {α : Type} [Enc α] {v : Value} {sz i : Nat} {xs : List α} {cs : List Value} (hp : Pick L (foc T v xs i cs) L') : EpOk L R v sz i := fun w hs => by
 obtain ⟨rs, h1, r, h2, h3⟩ := V1 (hs.pick hp)
 have hlt : i < rs.length := (List.getElem?_eq_some_iff.1 h2).1
 exact ok_l (Ef .hd) (by omega) w h1
def EpAll (v : Value) (sz i : Nat) : Prop := ∃ a : Addr, ∀ f, ep v sz i f = .pointer (some (a.add f))
theorem ok_a {v : Value} {sz i : Nat} (h : EpAll v sz i) : EpOk L R v sz i := fun _ _ => h
theorem EpAll.one {v : Value} {sz i f : Nat} (h : EpAll v sz i) : (ep v sz i f).oneCell' = true := by
 obtain ⟨a, ha⟩ := h
 rw [ha]; rfl
theorem at_a1 {L0 : List Chunk} {R0 : List Fact} {v : Value} {sz i f : Nat} {cs : List Value} {c : Value} (h : Cj L0 R0 (ep v sz i 0) cs) (he : EpAll v sz i) (hl : LSub L L0) (hf : FSub R R0) (hc : cs[f]? = some c) : Cj L R (ep v sz i f) [c] := by
 intro w hs
 obtain ⟨a, ha⟩ := he
 obtain ⟨b, hb, hk⟩ := h w (hs.sub hl hf)
 rw [ha, show a.add 0 = a by simp [Addr.add]] at hb
 cases hb
 refine ⟨a.add f, ha f, fun k c' hk' => ?_⟩
 match k, hk' with
 | 0, hk' =>
  have e : c = c' := by simpa using hk'
  rw [F6, ← e]; exact hk f c hc
 | k + 1, hk' => simp at hk'
theorem q_fa {b f fld off : Nat} (hf : Ap P T fld off) (hx : ev n al x = some (bp b f) := by exact rfl) : Ao P n al L R ⟨some d, .fieldAddr T x fld, ty, pos, aft, none⟩ (bp b (f + off)) :=
 ⟨rfl, fun ρ w h _ => H4 (by rw [h x (by simp [Op.operands]) _ hx]; show (Instr.fieldAt T (.pointer (some ⟨b, f, none⟩)) fld).run P w = _; rw [Kq hf, Gi]; rfl)⟩
theorem q_fe {v : Value} {sz i f fld off : Nat} (hf : Ap P T fld off) (hx : ev n al x = some (ep v sz i f) := by exact rfl) (hok : EpOk L R v sz i := by first | exact ok_c mm | exact Xj pkk | exact ok_a (by assumption) | exact ok_l (Ef pkk) (by omega) | exact ok_l (D8 mm) (by omega)) : Ao P n al L R ⟨some d, .fieldAddr T x fld, ty, pos, aft, none⟩ (ep v sz i (f + off)) :=
 ⟨rfl, fun ρ w h hs => H4 (by
  obtain ⟨a, ha⟩ := hok w hs
  rw [h x (by simp [Op.operands]) _ hx, ha, Kq hf, F6, ha])⟩
theorem q_nb {b f : Nat} (hx : ev n al x = some (bp b f) := by exact rfl) : Ao P n al L R ⟨some d, .nilCheck x, ty, pos, aft, none⟩ (bp b f) :=
 ⟨rfl, fun ρ w h _ => by simp only [execOp, h x (by simp [Op.operands]) _ hx]; rfl⟩
theorem q_ne {v : Value} {sz i f : Nat} (hx : ev n al x = some (ep v sz i f) := by exact rfl) (hok : EpOk L R v sz i := by first | exact ok_c mm | exact Xj pkk | exact ok_a (by assumption) | exact ok_l (Ef pkk) (by omega) | exact ok_l (D8 mm) (by omega)) : Ao P n al L R ⟨some d, .nilCheck x, ty, pos, aft, none⟩ (ep v sz i f) :=
 ⟨rfl, fun ρ w h hs => by
  obtain ⟨a, ha⟩ := hok w hs
  simp only [execOp, h x (by simp [Op.operands]) _ hx, ha]; rfl⟩
theorem Cs {α : Type} [Enc α] {v : Value} {i : Nat} {xs : List α} {cs : List Value} (hp : Pick L (foc T v xs i cs) L') : Dm L R v xs.length := fun w hs => by
 obtain ⟨m, j, hd, hm, hj, ⟨m1, m2, hd', h1, h2, ⟨rs, e1, e2, e3, e5⟩, hst⟩, hr⟩ := hs.pick hp
 have h : Dm (row T v rs :: L') R v rs.length := Ef .hd
 rw [e2] at h
 exact h w ⟨m, j, hd, hm, hj, ⟨m1, m2, hd', h1, h2, e1, hst⟩, hr⟩
theorem I0 {v : Value} {e : TypeId} {sz len i : Nat} (ht : Cu P T e sz) (hx : ev n al x = some v := by exact rfl) (hy : ev n al y = some (vi (i : Int)) := by exact rfl) (hl : Dm L R v len := by first | exact Ef pkk | exact Cs pkk | exact D8 mm) (h1 : i < len := by first | assumption | omega | (simp only [List.length_nil, List.length_cons, List.length_append, List.length_take, List.length_drop, List.length_set, List.length_replicate, Int.toNat_natCast]; omega) | decide) : Ao P n al L R ⟨some d, .indexAddr T x y, ty, pos, aft, none⟩ (ep v sz i 0) := G6 ht hx hy hl h1
theorem Ip {v : Value} {e : TypeId} {sz len : Nat} {i : Int} (ht : Cu P T e sz) (hx : ev n al x = some v := by exact rfl) (hy : ev n al y = some (vi i) := by exact rfl) (hl : Dm L R v len := by first | exact Ef pkk | exact Cs pkk | exact D8 mm) (h0 : 0 ≤ i := by first | assumption | omega | (simp only [List.length_nil, List.length_cons, List.length_append, List.length_take, List.length_drop, List.length_set, List.length_replicate, Int.toNat_natCast]; omega) | decide) (h1 : i < len := by first | assumption | omega | (simp only [List.length_nil, List.length_cons, List.length_append, List.length_take, List.length_drop, List.length_set, List.length_replicate, Int.toNat_natCast]; omega) | decide) : Ao P n al L R ⟨some d, .indexAddr T x y, ty, pos, aft, none⟩ (ep v sz i.toNat 0) :=
 G6 ht hx (by rw [hy, Int.toNat_of_nonneg h0]) hl (by omega)
theorem Mq {t e : TypeId} {v : Value} {len : Nat} (ht : P.underlying t = some (.slice e)) (hx : ev n al x = some v := by exact rfl) (hl : Dm L R v len := by first | exact Ef pkk | exact Cs pkk | exact D8 mm) : Ao P n al L R ⟨some d, .call { callee := .builtin .len, args := #[x], argTypes := #[t] }, ty, pos, aft, none⟩ (vi (len : Int)) :=
 ⟨rfl, fun ρ w h hs => by
  obtain ⟨base, cap, rfl, _⟩ := hl w hs
  have hx' := h x (by simp [Op.operands, Call.operands]) _ hx
  have e1 : (Builtin.len_ #[t] ty #[ρ x]).run P w = .ok (vi (len : Int)) w := by
   rw [hx']; simp [Builtin.len_, Ci ht, goInt]
  exact M7 e1⟩
theorem q_x {vs : List Value} {i : Nat} {v : Value} (hx : ev n al x = some (.tuple vs.toArray) := by exact rfl) (hv : vs[i]? = some v := by exact rfl) : Ao P n al L R ⟨some d, .extract x i, ty, pos, aft, none⟩ v :=
 ⟨rfl, fun ρ w h _ => by simp [execOp, h x (by simp [Op.operands]) _ hx, Instr.extract, hv]⟩
theorem Cp {p c : Value} (hT : ∀ w, (isAgg T).run P w = .ok false w) (hx : ev n al x = some p := by exact rfl) (hc : Cj L R p [c] := by first | exact Bg pkk (by exact rfl) | exact Abc mm (by exact rfl) | exact at_f1 pkk rfl (by exact rfl) | exact at_a1 (by assumption) (by assumption) (by repeat (first | exact .refl | exact .nil | (apply LSub.cons; focus (exact pkk)) | apply LSub.drop)) (by repeat (first | exact FSub.refl | exact FSub.nil | (apply FSub.cons; focus (exact mm)) | apply FSub.drop)) (by exact rfl)) : Ao P n al L R ⟨some d, .load T x, ty, pos, aft, none⟩ c :=
 ⟨rfl, fun ρ w h hs => by
  obtain ⟨a, rfl, hk⟩ := hc w hs
  exact He (by rw [h x (by simp [Op.operands]) _ hx]; exact Iy hT (by simpa [Addr.add] using hk 0 c rfl))⟩
theorem Adm {p : Value} {cs : List Value} {sz : Nat} (hT : ∀ w, (isAgg T).run P w = .ok true w) (hsz : ∀ w, (sizeOf T).run P w = .ok sz w) (hx : ev n al x = some p := by exact rfl) (hc : Cj L R p cs := by first | exact Pe pkk | exact Xf mm | exact Ll pkk rfl) (hl : cs.length = sz := by exact rfl) : Ao P n al L R ⟨some d, .load T x, ty, pos, aft, none⟩ (.agg cs.toArray) :=
 ⟨rfl, fun ρ w h hs => by
  obtain ⟨a, rfl, hk⟩ := hc w hs
  exact He (by rw [h x (by simp [Op.operands]) _ hx]; exact N3 hT hsz hl hk)⟩
theorem E9 {b f : Nat} {vs : List Value} {T0 : TypeId} (sz : Nat) (hT : ∀ w, (isAgg T).run P w = .ok true w) (hsz : ∀ w, (sizeOf T).run P w = .ok sz w) (hx : ev n al x = some (bp b f) := by exact rfl) (hp : Pick L (blk b T0 vs) L' := by exact pkk) (hl : ((vs.drop f).take sz).length = sz := by exact rfl) : Ao P n al L R ⟨some d, .load T x, ty, pos, aft, none⟩ (.agg ((vs.drop f).take sz).toArray) := Adm hT hsz hx (Agq hp) hl
def Tf (places : List (Nat × Nat)) : List Value → List (Nat × List Value) → Option (List Value)
 | cells, [] => some cells
 | cells, (i, c) :: rest => match places[i]? with
  | none => none
  | some (off, size) => match Nat.beq c.length size with
   | false => none
   | true => match Kt cells off c with
    | none => none
    | some cells' => Tf places cells' rest
def Mj : List Value → List (List Value) → Prop
 | [], [] => True
 | v :: vs, c :: cs => v.cells.toList = c ∧ Mj vs cs
 | _, _ => False
theorem O8 {v : Value} (h : v.oneCell' = true) : v.cells.toList = [v] := by
 cases v <;> first | rfl | (simp [Value.oneCell'] at h)
theorem V3 (places : List (Nat × Nat)) : ∀ (idx : List Nat) (vs : List Value) (css : List (List Value)) (cells cs : List Value), Mj vs css → Tf places cells (idx.zip css) = some cs → M6 places cells (idx.zip vs) = some cs
 | [], _, _, cells, cs, _, h => by simpa [Tf, M6] using h
 | _ :: _, [], [], cells, cs, _, h => by simpa [Tf, M6] using h
 | _ :: _, [], _ :: _, _, _, hc, _ => by cases hc
 | _ :: _, _ :: _, [], _, _, hc, _ => by cases hc
 | i :: idx, v :: vs, c :: css, cells, cs, hc, h => by
  obtain ⟨hv, hc⟩ := hc
  have hsz : v.cells.size = c.length := by rw [← hv, Array.length_toList]
  simp only [List.zip_cons_cons, Tf, M6] at h ⊢
  rw [hsz, hv]
  cases hp : places[i]? with
  | none => rw [hp] at h; cases h
  | some q =>
   obtain ⟨off, size⟩ := q
   rw [hp] at h
   simp only at h ⊢
   cases hb : Nat.beq c.length size with
   | false => rw [hb] at h; cases h
   | true =>
    rw [hb] at h
    simp only at h ⊢
    cases hq : Kt cells off c with
    | none => rw [hq] at h; cases h
    | some c' => rw [hq] at h; exact V3 places idx vs css c' cs hc h
theorem cl_nil : Mj [] [] := trivial
theorem Afy {v : Value} {c : List Value} {vs : List Value} {cs : List (List Value)} (h : v.cells.toList = c) (h' : Mj vs cs) : Mj (v :: vs) (c :: cs) := ⟨h, h'⟩
theorem E6 {zc cs : List Value} {places : List (Nat × Nat)} {parts : List (Nat × Operand)} {vs : List Value} {css : List (List Value)} (hT : Cz P T zc places) (ha : evL n al (parts.map (·.2)) = some vs := by exact rfl) (hc : Mj vs css := by repeat (first | exact cl_nil | apply Afy (by first | exact O8 (by assumption) | exact rfl))) (h' : Tf places zc ((parts.map (·.1)).zip css) = some cs := by exact rfl) : Ao P n al L R ⟨some d, .build T parts.toArray, ty, pos, aft, none⟩ (.agg cs.toArray) := U6 hT ha (V3 _ _ _ _ _ _ hc h')
theorem Du {zc cs : List Value} {places : List (Nat × Nat)} {parts : List (Nat × Operand)} {vs : List Value} (hT : Cz P T zc places) (ha : evL n al (parts.map (·.2)) = some vs := by exact rfl) (h' : M6 places zc ((parts.map (·.1)).zip vs) = some cs := by exact rfl) : Ao P n al L R ⟨some d, .build T parts.toArray, ty, pos, aft, none⟩ (.agg cs.toArray) := U6 hT ha h'
theorem ob {op : Oper} {v : Value} (hp : Ao P n al L R op v) (k : J P n ops Q rest L R ((d, v) :: al)) (hd : op.dst = some d := by exact rfl) : J P n ops Q (op :: rest) L R al := r_p hp hd k
theorem dc {Sh : Rho → (Nat → Bool) → List Chunk} {R0 : List Fact} {al0 : List (Nat × Value)} {i : Nat} {its : List Item} {op : Oper} {v : Value} (hp : ∀ ρ S, Ao P n (Dt its al0 ρ) (Sh ρ S) R0 op v)
 (k : DJ P n ops Q Sh R0 al0 (i + 1) rest (⟨i, some d, fun _ => v, fun _ => [], fun _ => []⟩ :: its)) (hd : op.dst = some d := by exact rfl) (hSh : ∀ ρ g S, S i = false → Sh (Rho.set ρ i g) (upS S i) = Sh ρ S := by exact fun _ _ _ _ => rfl) : DN P n ops Q Sh R0 al0 i op rest its := d_pc hp hd hSh k
theorem s_b {b f : Nat} {vs : List Value} {T0 : TypeId} {c : Value} (hsz : ∀ w, (sizeOf T).run P w = .ok 1 w) (k : ∀ cs', vs.set f c = cs' → J P n ops Q rest (blk b T0 cs' :: L') R al) (hx : ev n al x = some (bp b f) := by exact rfl) (hy : ev n al y = some c := by exact rfl) (hp : Pick L (blk b T0 vs) L' := by exact pkk) (h1 : c.oneCell' = true := by first | exact rfl | assumption | simp [*]) (hf : Nat.blt f vs.length = true := by exact rfl) : J P n ops Q (⟨none, .store T x y, ty, pos, aft, none⟩ :: rest) L R al :=
 X1 hsz hx hy h1 hp hf (k _ rfl)
theorem Lg {v : Value} (h : v.oneCell' = true) : v.cells = #[v] := Array.toList_inj.1 (O8 h)
theorem s_f {α : Type} [Enc α] {v : Value} {xs : List α} {i f sz : Nat} {cs : List Value} {T0 : TypeId} {c : Value} (hsz : ∀ w, (sizeOf T).run P w = .ok 1 w) (k : ∀ cs', cs.set f c = cs' → J P n ops Q rest (foc T0 v xs i cs' :: L') R al) (hx : ev n al x = some (ep v sz i f) := by exact rfl) (hy : ev n al y = some c := by exact rfl) (hp : Pick L (foc T0 v xs i cs) L' := by exact pkk) (hes : Enc.sz α = sz := by exact rfl) (hc : c.cells = #[c] := by first | exact rfl | exact Lg (by assumption)) (h1 : c.oneCell' = true := by first | exact rfl | assumption | simp [*]) (hf : Nat.blt f cs.length = true := by exact rfl) : J P n ops Q (⟨none, .store T x y, ty, pos, aft, none⟩ :: rest) L R al :=
 X0 (us := [c]) hsz hx hy hc rfl (by intro u hu; cases List.mem_singleton.1 hu; exact h1) hp hes (Nat.ble_eq_true_of_le (blt_iff.1 hf)) (by rw [List.set_eq_take_append_cons_drop, if_pos (blt_iff.1 hf)]; simp) (k _ rfl)
theorem s_N {b f : Nat} {vs cs : List Value} {T0 : TypeId} {sz : Nat} (new : List Value) (hsz : ∀ w, (sizeOf T).run P w = .ok sz w) (k : J P n ops Q rest (blk b T0 new :: L') R al) (hx : ev n al x = some (bp b f) := by exact rfl) (hy : ev n al y = some (.agg cs.toArray) := by exact rfl) (hp : Pick L (blk b T0 vs) L' := by exact pkk) (hl : cs.length = sz := by exact rfl) (h1 : ∀ u ∈ cs, u.oneCell' = true := by repeat (first | exact Ie | refine Ec (by first | exact rfl | assumption) ?_)) (hf : Nat.ble (f + sz) vs.length = true := by exact rfl) (hn : vs.take f ++ cs ++ vs.drop (f + sz) = new := by exact rfl) : J P n ops Q (⟨none, .store T x y, ty, pos, aft, none⟩ :: rest) L R al :=
 Q2 hsz hx hy hl h1 hp hf (by rw [hn]; exact k)
theorem s_B {b : Nat} {vs cs : List Value} {T0 : TypeId} {sz : Nat} (hsz : ∀ w, (sizeOf T).run P w = .ok sz w) (k : J P n ops Q rest (blk b T0 cs :: L') R al) (hx : ev n al x = some (bp b 0) := by exact rfl) (hy : ev n al y = some (.agg cs.toArray) := by exact rfl) (hp : Pick L (blk b T0 vs) L' := by exact pkk) (hl : cs.length = sz := by exact rfl) (h1 : ∀ u ∈ cs, u.oneCell' = true := by repeat (first | exact Ie | refine Ec (by first | exact rfl | assumption) ?_)) (hf : vs.length = sz := by exact rfl) : J P n ops Q (⟨none, .store T x y, ty, pos, aft, none⟩ :: rest) L R al :=
 Sq hsz hx hy hl h1 hp hf k
theorem bx {v : Value} {cs : List Value} (k : ∀ b, J P n ops Q rest (blk b T cs :: L) R ((d, bp b 0) :: al)) (hx : ev n al x = some v := by exact rfl) (hv : v.cells = cs.toArray := by exact rfl) : J P n ops Q (⟨some d, .box T x, ty, pos, aft, none⟩ :: rest) L R al := r_box hx hv k
theorem al_ {z : Value} {cs : List Value} (hz : ∀ w, (zeroValue T).run P w = .ok z w) (k : ∀ b, J P n ops Q rest (blk b T cs :: L) R ((d, bp b 0) :: al)) (hv : z.cells = cs.toArray := by exact rfl) : J P n ops Q (⟨some d, .alloc T, ty, pos, aft, none⟩ :: rest) L R al := Adi hz hv k
theorem ap {α : Type} [Enc α] {t e : TypeId} {sz bytes : Nat} {z : Value} {xs ys : List α} {v u : Value} (he : ElemOf P t e sz z bytes) (hx : ev n al x = some v := by exact rfl) (hy : ev n al y = some u := by exact rfl) (hp : Pick L (row e v xs) L' := by exact pkk) (hm : sl u ys ∈ R := by exact mm) (hsz : Enc.sz α = sz := by exact rfl) (hpos : 0 < sz := by decide) (hb : ∀ w, St L R w → xs.length + ys.length ≤ maxN) (k : ∀ v', J P n ops Q rest (row e v' (xs ++ ys) :: L') R ((d, v') :: al)) : J P n ops Q (⟨some d, .call { callee := .builtin .append, args := #[x, y], argTypes := #[t, t] }, ty, pos, aft, none⟩ :: rest) L R al := Q3 he hx hy hsz hpos hp hm hb k
theorem li {α : Type} [Enc α] {t el : TypeId} {sz bytes len : Nat} {z : Value} {parts : List (Nat × Operand)} {vs : List Value} (xs : List α) (he : ElemOf P t el sz z bytes) (ha : evL n al (parts.map (·.2)) = some vs) (hrd : ∀ j, (∀ q ∈ R, q.p j) → RdV xs vs j) (k : ∀ v, J P n ops Q rest L (sl v xs :: R) ((d, v) :: al)) (hsz : Enc.sz α = sz := by exact rfl) (hidx : parts.map (·.1) = List.range' 0 len := by exact rfl) (hlv : vs.length = len := by exact rfl) (hsmall : Nat.ble (len * sz) 1000 = true := by exact rfl) (hsm2 : Nat.ble len 1000 = true := by exact rfl) : J P n ops Q (⟨some d, .buildSlice t len parts.toArray, ty, pos, aft, none⟩ :: rest) L R al :=
 r_lit xs he hsz ha hidx hlv hsmall hsm2 hrd fun v => J.shut .hd (k v)
theorem liO {α : Type} [Enc α] {t el : TypeId} {sz bytes len : Nat} {z : Value} {parts : List (Nat × Operand)} {vs : List Value} (xs : List α) (he : ElemOf P t el sz z bytes) (ha : evL n al (parts.map (·.2)) = some vs) (hrd : ∀ j, (∀ q ∈ R, q.p j) → RdV xs vs j) (k : ∀ v, J P n ops Q rest (row el v xs :: L) R ((d, v) :: al)) (hsz : Enc.sz α = sz := by exact rfl) (hidx : parts.map (·.1) = List.range' 0 len := by exact rfl) (hlv : vs.length = len := by exact rfl) (hsmall : Nat.ble (len * sz) 1000 = true := by exact rfl) (hsm2 : Nat.ble len 1000 = true := by exact rfl) : J P n ops Q (⟨some d, .buildSlice t len parts.toArray, ty, pos, aft, none⟩ :: rest) L R al := r_lit xs he hsz ha hidx hlv hsmall hsm2 hrd k
theorem Ux {α : Type} [Enc α] {j : Mem} : RdV ([] : List α) [] j := trivial
theorem rd_sl {α : Type} [Enc α] {u : Value} {ys : List α} (hm : sl u ys ∈ R := by exact mm) : ∀ j, (∀ q ∈ R, q.p j) → RdV [ys] [u] j := fun j h => by
 have hs := h _ hm
 obtain ⟨base, cap, hv, _⟩ := id hs
 exact ⟨⟨[u], by rw [hv]; rfl, u, rfl, hs⟩, trivial⟩
theorem cd {t : Nat} {a b : Code} {p : Prop} {hd : Decidable p} (hT : p → JC P n a Q L R ((t, .bool true) :: al)) (hF : ¬ p → JC P n b Q L R ((t, .bool false) :: al)) (hc : ev n al (.tmp t) = some (.bool (decide p)) := by exact rfl) : JC P n (.cond (.tmp t) a b) Q L R al :=
 Cb hc (fun h => hT (of_decide_eq_true h)) (fun h => hF (of_decide_eq_false h))
theorem cT {c : Operand} {a b : Code} (h : JC P n a Q L R al) (hc : ev n al c = some (.bool true) := by exact rfl) : JC P n (.cond c a b) Q L R al := Yn hc h
theorem cF_ {c : Operand} {a b : Code} (h : JC P n b Q L R al) (hc : ev n al c = some (.bool false) := by exact rfl) : JC P n (.cond c a b) Q L R al := Rg hc h
theorem jg {t : Nat} {p : Prop} {hd : Decidable p} {l : List Oper} (hT : p → J P n ops Q l L R ((t, .bool true) :: al)) (hF : ¬ p → J P n ops Q l L R ((t, .bool false) :: al)) (hc : ev n al (.tmp t) = some (.bool (decide p)) := by exact rfl) : J P n ops Q l L R al :=
 P6 hc (fun h => hT (of_decide_eq_true h)) (fun h => hF (of_decide_eq_false h))
theorem jgx {t : Nat} {p : Prop} {hd : Decidable p} {l : List Oper} (hc : ev n al (.tmp t) = some (.bool (decide p))) (hT : p → J P n ops Q l L R ((t, .bool true) :: al)) (hF : ¬ p → J P n ops Q l L R ((t, .bool false) :: al)) : J P n ops Q l L R al := jg hT hF hc
theorem cdx {t : Nat} {a b : Code} {p : Prop} {hd : Decidable p} (hc : ev n al (.tmp t) = some (.bool (decide p))) (hT : p → JC P n a Q L R ((t, .bool true) :: al)) (hF : ¬ p → JC P n b Q L R ((t, .bool false) :: al)) : JC P n (.cond (.tmp t) a b) Q L R al := cd hT hF hc
theorem Ff {a : Code} {K : Act → World → Prop} (t : Nat) (v : Value) (hx : JC P n a (Exit.then (fun a' w => ∃ B, a' = mkA n ((t, v) :: al) B ∧ St L R w) Q) L R al) (hy : JX n (Exit.then K Q) .normal L R ((t, v) :: al)) : JC P n a (Exit.then K Q) L R al := by
 intro B w hs
 refine wp_mono (hx B w hs) ?_
 intro e a' w' hq
 cases e with
 | normal => obtain ⟨B1, rfl, hs1⟩ := hq; exact hy B1 w' hs1
 | exit id => exact hq
 | goto l => exact hq
 | ret => exact hq
 | panic c => exact hq
 | outgrown => exact hq
theorem A2 {L1 : List Chunk} {R1 : List Fact} {al2 : List (Nat × Value)} (hal : Pf al n al2) (hst : ∀ w, St L R w → St L1 R1 w) : JX n (Exit.then (fun a' w => ∃ B, a' = mkA n al2 B ∧ St L1 R1 w) Q) .normal L R al := by
 intro B w hs
 obtain ⟨B', hB⟩ := P0 hal B
 exact ⟨B', hB, hst w hs⟩
inductive Keep : List Nat → List (Nat × Value) → List (Nat × Value) → List (Nat × Value) → Prop
 | nil {ts acc} : Keep ts [] acc acc
 | yes {ts ts' : List Nat} {t v r acc out} : ts.contains t = true → ts.erase t = ts' → Keep ts' r ((t, v) :: acc) out → Keep ts ((t, v) :: r) acc out
 | no {ts t v r acc out} : ts.contains t = false → Keep ts r acc out → Keep ts ((t, v) :: r) acc out
theorem P2 {d t : Nat} {u : Value} {r : List (Nat × Value)} (h : d ≠ t) : Hn ((d, u) :: r) t = Hn r t := by
 simp only [Hn]
 cases hb : Nat.beq d t with
 | true => exact absurd (Nat.eq_of_beq_eq_true hb) h
 | false => rfl
theorem Vf {d : Nat} {u : Value} {r : List (Nat × Value)} : Hn ((d, u) :: r) d = some u := by simp [Hn]
theorem Keep.sub_aux {ts : List Nat} {al acc out : List (Nat × Value)} (h : Keep ts al acc out) : ∀ t v, Hn out t = some v → (∀ t, ts.count t ≤ 1) → Hn acc t = some v ∨ (Hn al t = some v ∧ t ∈ ts) := by
 induction h with
 | nil => intro t v h _; exact .inl h
 | @yes ts ts' d u r acc out h1 h2 h3 ih =>
  intro t v h hn
  subst h2
  have hd : d ∈ ts := by simpa using h1
  rcases ih t v h (fun s => Nat.le_trans (List.Sublist.count_le _ List.erase_sublist) (hn s)) with e | ⟨e1, e2⟩
  ·by_cases hdt : d = t
   ·subst hdt
    rw [Vf] at e
    right; rw [Vf]; exact ⟨e, hd⟩
   ·rw [P2 hdt] at e; exact .inl e
  ·by_cases hdt : d = t
   ·subst hdt
    exfalso
    have h4 := List.count_erase_self (a := d) (l := ts)
    have h5 := hn d
    have h6 : 0 < (ts.erase d).count d := List.count_pos_iff.2 e2
    omega
   ·right; rw [P2 hdt]; exact ⟨e1, List.mem_of_mem_erase e2⟩
 | @no ts d u r acc out h1 h3 ih =>
  intro t v h hn
  rcases ih t v h hn with e | ⟨e1, e2⟩
  ·exact .inl e
  ·right
   have hdt : d ≠ t := by intro e; subst e; simp at h1; exact h1 e2
   rw [P2 hdt]; exact ⟨e1, e2⟩
def Oe : List Nat → Bool
 | [] => true
 | x :: r => !(r.contains x) && Oe r
theorem Jz : ∀ {l : List Nat}, Oe l = true → ∀ t, l.count t ≤ 1
 | [], _, t => by simp
 | x :: r, h, t => by
  simp only [Oe, Bool.and_eq_true, Bool.not_eq_true', List.contains_eq_mem, decide_eq_false_iff_not] at h
  rw [List.count_cons]
  have := Jz h.2 t
  by_cases hx : x = t
  ·subst hx; rw [List.count_eq_zero_of_not_mem h.1]; simp
  ·simp [hx]; exact this
theorem Yg {ts : List Nat} {al al' : List (Nat × Value)} (h : Keep ts al [] al') (hn : Oe ts = true) (B : Nat → Value) : ∃ B', mkA n al B = mkA n al' B' := by
 refine ⟨fun t => (Hn al t).getD (B t), ?_⟩
 unfold mkA
 simp only [Act.mk.injEq, and_true]
 congr 1
 funext i
 cases hl : Hn al' i with
 | none => simp
 | some v =>
  rcases h.sub_aux i v hl (Jz hn) with e | e
  ·cases e
  ·simp [e.1]
theorem kp {c : Code} (ts : List Nat) {al' : List (Nat × Value)} (k : JC P n c Q L R al') (h : Keep ts al [] al' := by repeat (first | exact .nil | apply Keep.yes rfl rfl | apply Keep.no rfl)) (hn : Oe ts = true := by exact rfl) : JC P n c Q L R al := by
 intro B w hs
 obtain ⟨B', hB⟩ := Yg h hn B
 rw [hB]; exact k B' w hs
theorem alT {al' : List (Nat × Value)} (h : Pf al n al' := by repeat (first | exact trivial | refine ⟨rfl, ?_⟩)) : Pf al n al' := h
end
section
variable {P : Program} {n : Nat} {Q : Exit → Act → World → Prop} {rest : List Oper} {L L' : List Chunk} {R : List Fact} {al : List (Nat × Value)} {d : Nat} {ty : TypeId} {pos : String} {aft : Array Edge}
theorem gy {l : List Oper} {dst : Option Tmp} {op : Go.Op} {i : Nat} {b : Bool} (k : J P n l.toArray Q (⟨dst, op, ty, pos, aft, none⟩ :: rest) L R al) (hv : gv n al l i = some b := by exact rfl) : J P n l.toArray Q (⟨dst, op, ty, pos, aft, some (i, b)⟩ :: rest) L R al := J.guardYes hv k
variable {Sh : Rho → (Nat → Bool) → List Chunk} {R0 : List Fact} {al0 : List (Nat × Value)} {its : List Item} {i : Nat}
theorem dgy {l : List Oper} {dst : Option Tmp} {op : Go.Op} {q : Nat} {b : Bool} (k : DN P n l.toArray Q Sh R0 al0 i ⟨dst, op, ty, pos, aft, none⟩ rest its) (hv : ∀ ρ, gv n (Dt its al0 ρ) l q = some b := by exact fun _ => rfl) : DN P n l.toArray Q Sh R0 al0 i ⟨dst, op, ty, pos, aft, some (q, b)⟩ rest its := Tk hv k
theorem dgn {l : List Oper} {op : Go.Op} {q : Nat} {b : Bool} (k : DJ P n l.toArray Q Sh R0 al0 (i + 1) rest (⟨i, some d, fun _ => undef, fun _ => [], fun _ => []⟩ :: its)) (hv : ∀ ρ, gv n (Dt its al0 ρ) l q = some (!b) := by exact fun _ => rfl) (hSh : ∀ ρ g S, S i = false → Sh (Rho.set ρ i g) (upS S i) = Sh ρ S := by exact fun _ _ _ _ => rfl) : DN P n l.toArray Q Sh R0 al0 i ⟨some d, op, ty, pos, aft, some (q, b)⟩ rest its := Wf hv hSh k
theorem dgu {l : List Oper} {op : Go.Op} {q : Nat} {b : Bool} (k : DJ P n l.toArray Q Sh R0 al0 (i + 1) rest (⟨i, some d, fun _ => undef, fun _ => [], fun _ => []⟩ :: its)) (hv : ∀ ρ, gu n (Dt its al0 ρ) l q = true := by exact fun _ => rfl) (hSh : ∀ ρ g S, S i = false → Sh (Rho.set ρ i g) (upS S i) = Sh ρ S := by exact fun _ _ _ _ => rfl) : DN P n l.toArray Q Sh R0 al0 i ⟨some d, op, ty, pos, aft, some (q, b)⟩ rest its := O3 hv hSh k
end
end Go.Proofs.YtiofgjolhbgkiaaGreatDoor
namespace Go.Proofs.YtiofgjolhbgkiaaGreatDoor
open Go
def K1 : Value → Bool
 | .slice none _ _ => true
 | _ => false
theorem Z1 {P : Program} {T e : TypeId} {k : Nat} {b : Option Addr} {l c : Nat} (ht : P.underlying T = some (.slice e)) (w : World) : (Op.equalIn (k + 1) T (.slice b l c) (.slice none 0 0)).run P w = .ok (K1 (.slice b l c)) w := by
 unfold Op.equalIn
 cases b <;> simp [Ci ht, K1]
section
variable {P : Program} {n : Nat} {ops : Array Oper} {Q : Exit → Act → World → Prop} {rest : List Oper} {L L' : List Chunk} {R : List Fact} {al : List (Nat × Value)} {d : Nat} {x y : Operand} {T ty : TypeId} {pos : String} {aft : Array Edge}
theorem Adl {e U : TypeId} {v : Value} {len : Nat} (ht : P.underlying T = some (.slice e)) (hl : Dm L R v len) (hx : ev n al x = some v := by exact rfl) : Ao P n al L R ⟨some d, .binOp .eql T x (.const (.slice none 0 0)) U, ty, pos, aft, none⟩ (.bool (K1 v)) :=
 ⟨rfl, fun ρ w h hs => by
  obtain ⟨base, cap, rfl, _⟩ := hl w hs
  have e1 : ρ (.const (.slice none 0 0)) = .slice none 0 0 := h _ (by simp [Op.operands]) _ rfl
  have e2 := h x (by simp [Op.operands]) _ hx
  have g : (eqGuard .eql T x (.const (.slice none 0 0)) (.slice base len cap) (.slice none 0 0)).run P w = .ok () w := by
   unfold eqGuard; rfl
  have e : (binOp .eql T (.slice base len cap) (.slice none 0 0)).run P w = .ok (.bool (K1 (.slice base len cap))) w := by
   show (Op.equal T (.slice base len cap) (.slice none 0 0) >>= fun r => Pure.pure (Value.bool r)).run P w = _
   rw [Sem.run_bind]
   have : (Op.equal T (.slice base len cap) (.slice none 0 0)).run P w = .ok (K1 (.slice base len cap)) w := by
    rw [show Op.equal T (.slice base len cap) (.slice none 0 0) = Op.equalIn (9999 + 1) T (.slice base len cap) (.slice none 0 0) from rfl, Z1 ht w]
   rw [this]; rfl
  have : (execOp ρ ⟨some d, .binOp .eql T x (.const (.slice none 0 0)) U, ty, pos, aft, none⟩) = (do let v ← (do eqGuard .eql T x (.const (.slice none 0 0)) (.slice base len cap) (.slice none 0 0); binOp .eql T (.slice base len cap) (.slice none 0 0)); pure (Next.value v)) := by
   simp only [execOp, e1, e2]
  rw [this]
  simp [g, e]⟩
theorem nil_of {α : Type} [Enc α] {v : Value} {xs : List α} {w : World} (hm : sl v xs ∈ R) (hs : St L R w) (h : K1 v = true) : xs = [] := by
 obtain ⟨base, cap, rfl, _, hc⟩ := hs.fact hm
 cases base with
 | none =>
  apply Classical.byContradiction
  intro hne
  obtain ⟨a, _, _, _, _, h1, _⟩ := hc hne
  cases h1
 | some a => cases h
theorem JC.nilOf {α : Type} [Enc α] {c : Code} {v : Value} {xs : List α} (h : K1 v = true) (hm : sl v xs ∈ R) (k : xs = [] → JC P n c Q L R al) : JC P n c Q L R al := JC.know (fun w hs => nil_of hm hs h) k
theorem q_sl {e : TypeId} {sz len cap lo hi : Nat} {a : Addr} {low high : Option Operand} (ht : Cu P T e sz) (hx : ev n al x = some (.slice (some a) len cap) := by exact rfl)
  (hlo : (match low with | none => lo = 0 | some y => ev n al y = some (vi (lo : Int))) := by exact rfl) (hhi : (match high with | none => hi = len | some y => ev n al y = some (vi (hi : Int))) := by exact rfl) (h1 : lo ≤ hi := by omega) (h2 : hi ≤ cap := by omega) : Ao P n al L R ⟨some d, .slice T x low high none, ty, pos, aft, none⟩ (.slice (if cap = lo then some a else some (a.add (lo * sz))) (hi - lo) (cap - lo)) :=
 ⟨rfl, fun ρ w h hs => by
  show (Instr.sliceAt T (ρ x) (low.map ρ) (high.map ρ) none >>= fun v => Pure.pure (Next.value v)).run P w = _
  rw [h x (by simp [Op.operands]) _ hx, Sem.run_bind]
  have hlo' : (low.map ρ = none ∧ lo = 0) ∨ low.map ρ = some (vi (lo : Int)) := by
   cases low with
   | none => exact .inl ⟨rfl, hlo⟩
   | some y => right; simp only [Option.map_some]; rw [h y (by simp [Op.operands]) _ hlo]
  have hhi' : (high.map ρ = none ∧ hi = len) ∨ high.map ρ = some (vi (hi : Int)) := by
   cases high with
   | none => exact .inl ⟨rfl, hhi⟩
   | some y => right; simp only [Option.map_some]; rw [h y (by simp [Op.operands]) _ hhi]
  have e1 : (0 : Int) ≤ (lo : Int) ∧ (lo : Int) ≤ (hi : Int) := by omega
  have e2 : (0 : Int) ≤ (hi : Int) ∧ (hi : Int) ≤ (cap : Int) := by omega
  have : (Instr.sliceAt T (.slice (some a) len cap) (low.map ρ) (high.map ρ) none).run P w = .ok (.slice (if cap = lo then some a else some (a.add (lo * sz))) (hi - lo) (cap - lo)) w := by
   rcases hlo' with ⟨a1, a2⟩ | a1 <;> rcases hhi' with ⟨b1, b2⟩ | b1 <;> rw [a1, b1] <;>
    simp [Instr.sliceAt, Instr.slice, Instr.sliceBounds, Instr.sliceBound, Ci ht.1, ht.2, asIntOf, e1, e2, h1, h2] <;> (try subst a2) <;> (try subst b2) <;> (try simp) <;> (try omega)
  rw [this]; rfl⟩
end
section
variable {P : Program} {n : Nat} {L : List Chunk} {R : List Fact} {al : List (Nat × Value)} {d : Nat} {x y : Operand} {T ty : TypeId} {pos : String} {aft : Array Edge}
theorem Yp {α : Type} {c : Prop} [Decidable c] {a b : α} : (if c then some a else some b) = some (if c then a else b) := by split <;> rfl
theorem q_sl0 {e : TypeId} {sz len cap hi : Nat} {a : Addr} {high : Option Operand} (ht : Cu P T e sz) (hx : ev n al x = some (.slice (some a) len cap)) (hhi : match high with | none => hi = len | some y => ev n al y = some (vi (hi : Int))) (h2 : hi ≤ cap) : Ao P n al L R ⟨some d, .slice T x none high none, ty, pos, aft, none⟩ (.slice (some a) hi cap) := by
 have := q_sl (P := P) (L := L) (R := R) (d := d) (ty := ty) (pos := pos) (aft := aft) (lo := 0) (low := none) ht hx rfl hhi (Nat.zero_le _) h2
 simpa [Addr.add] using this
theorem q_slN {e : TypeId} {sz len cap lo hi : Nat} {a : Addr} {low high : Option Operand} (ht : Cu P T e sz) (hx : ev n al x = some (.slice (some a) len cap)) (hlo : match low with | none => lo = 0 | some y => ev n al y = some (vi (lo : Int))) (hhi : match high with | none => hi = len | some y => ev n al y = some (vi (hi : Int))) (h1 : lo ≤ hi) (h2 : hi ≤ cap) : Ao P n al L R ⟨some d, .slice T x low high none, ty, pos, aft, none⟩ (.slice (some (if cap = lo then a else a.add (lo * sz))) (hi - lo) (cap - lo)) := by
 have := q_sl (P := P) (L := L) (R := R) (d := d) (ty := ty) (pos := pos) (aft := aft) ht hx hlo hhi h1 h2
 rw [Yp] at this; exact this
end
def rdL {α : Type} [Enc α] (xs : List α) (cs : List Value) : Fact := ⟨RdL xs cs, fun _ _ h hr => hr.mono h⟩
section
variable {P : Program} {n : Nat} {ops : Array Oper} {Q : Exit → Act → World → Prop} {rest : List Oper} {L L' : List Chunk} {R : List Fact} {al : List (Nat × Value)} {d : Nat} {x y : Operand} {T ty : TypeId} {pos : String} {aft : Array Edge}
variable {α : Type} [Enc α] {v : Value} {xs : List α}
theorem Adb {w : World} (hne : xs ≠ []) (hs : St (row T v xs :: L) R w) : ∃ g cap cs, v = .slice (some ⟨g, 0, none⟩) xs.length cap ∧ xs.length ≤ cap ∧ cap ≤ maxLen ∧ xs.length ≤ maxN ∧ cs.length = cap * Enc.sz α ∧ St (blk g T cs :: L) (rdL xs (cs.take (xs.length * Enc.sz α)) :: R) w ∧ (∀ u ∈ cs.take (xs.length * Enc.sz α), u.oneCell' = true) := by
 obtain ⟨m, j, hd, hm, hj, ⟨m1, m2, hd', h1, h2, hc, hst⟩, hr⟩ := hs
 obtain ⟨h0, hv | ⟨g, cap, cur, cs, hv, hg, hcap, hml, hsz, htk, hrd⟩⟩ := hc
 ·exact absurd hv.2 hne
 ·subst htk
  refine ⟨g, cap, cur.toList, hv, hcap, hml, h0, by simpa using hsz, ⟨m, j, hd, hm, hj, ⟨m1, m2, hd', h1, h2, by simpa [blk, blkO] using hg, hst⟩, fun f hf => ?_⟩, hrd.one⟩
  cases List.mem_cons.1 hf with
  | inl e => rw [e]; exact hrd
  | inr e => exact hr f e
theorem Agh {w : World} {g cap : Nat} {cs : List Value} (hN : xs.length ≤ maxN) (hcap : xs.length ≤ cap) (hml : cap ≤ maxLen) (hcl : cs.length = cap * Enc.sz α) (hrd : ∀ j, (∀ f ∈ R, f.p j) → RdL xs (cs.take (xs.length * Enc.sz α)) j) (hs : St (blk g T cs :: L) R w) : St (row T (.slice (some ⟨g, 0, none⟩) xs.length cap) xs :: L) R w := by
 obtain ⟨m, j, hd, hm, hj, ⟨m1, m2, hd', h1, h2, hc, hst⟩, hr⟩ := hs
 exact ⟨m, j, hd, hm, hj, ⟨m1, m2, hd', h1, h2, ⟨hN, .inr ⟨g, cap, cs.toArray, _, rfl, hc, hcap, hml, by simpa using hcl, rfl, hrd j hr⟩⟩, hst⟩, hr⟩
theorem ap_in {t e : TypeId} {bytes g i j m cap c2 : Nat} {a : Addr} {z : Value} {cs : List Value} (he : ElemOf P t e 1 z bytes) (hx : ev n al x = some (.slice (some ⟨g, 0, none⟩) i cap)) (hy : ev n al y = some (.slice (some a) m c2)) (ha : m ≠ 0 → a = ⟨g, j, none⟩)
  (hp : Pick L (blk g e cs) L') (hcl : cs.length = cap) (hj : j + m ≤ cap) (hroom : i + m ≤ cap) (h1 : ∀ u ∈ (cs.drop j).take m, u.oneCell' = true)
  (k : J P n ops Q rest (blk g e (cs.take i ++ (cs.drop j).take m ++ cs.drop (i + m)) :: L') R ((d, .slice (some ⟨g, 0, none⟩) (i + m) cap) :: al)) :
  J P n ops Q (⟨some d, .call { callee := .builtin .append, args := #[x, y], argTypes := #[t, t] }, ty, pos, aft, none⟩ :: rest) L R al :=
 J.yield (L' := blk g e (cs.take i ++ (cs.drop j).take m ++ cs.drop (i + m)) :: L') (R' := R) rfl rfl (fun B w hs => by
  obtain ⟨ti, hi, hz, hisz, hiby⟩ := he.info
  have hs' := hs.pick hp
  have hgw : w.heap[g]? = some (.cells cs.toArray e (0, 0)) := hs'.blk_get
  by_cases hm : m = 0
  ·subst hm
   refine ⟨w, E1 ?_, ?_⟩
   ·rw [A5 hx, A5 hy]
    have hfirst : (Builtin.firstCells 1 0 (.slice (some a) 0 c2)).run P w = .ok #[] w := by simp [Builtin.firstCells, loadCells, loadCellsFrom]
    simp [Builtin.append_, Ci he.und, sizeOf, typeInfo, hi, hisz, Builtin.lenOf, hfirst, show i ≤ cap by omega, storeCells]
   ·simpa using hs'
  ·have ha' := ha hm
   subst ha'
   have hnl : ((cs.drop j).take m).length = m * 1 := by simp; omega
   have hnc : ∀ (k : Nat) c, ((cs.drop j).take m)[k]? = some c → w.cell? ((⟨g, j, none⟩ : Addr).add k) = some c := by
    intro k c hk
    rw [Gi, Eg hgw]
    rw [List.getElem?_take] at hk
    split at hk
    ·rw [List.getElem?_drop] at hk; simpa using hk
    ·cases hk
   have hrun := run_append_room (P := P) (w := w) t ty e ti he.und hi g i cap cs.toArray hgw ⟨g, j, none⟩ m c2 ((cs.drop j).take m) (by rw [hisz]; exact hnl) hnc h1 hroom (by rw [hisz, hnl]; simp; omega)
   refine ⟨_, E1 (by rw [A5 hx, A5 hy]; exact hrun), ?_⟩
   rw [hisz, hnl]
   simp only [Nat.mul_one]
   exact hs'.blk_set (Ck hgw).1 (Ck hgw).2 rfl rfl) k
theorem clr {t e : TypeId} {bytes g o c2 : Nat} {z : Value} {cs : List Value} (he : ElemOf P t e 1 z bytes) (hz : ∀ w, (zeroValue e).run P w = .ok z w) (hzc : z.cells = #[z]) (hz1 : z.oneCell' = true) (hx : ev n al x = some (.slice (some ⟨g, o, none⟩) 1 c2))
  (hp : Pick L (blk g e cs) L') (hcl : o + 1 ≤ cs.length)
  (k : ∀ cs', cs' = cs.take o ++ [z] ++ cs.drop (o + 1) → J P n ops Q rest (blk g e cs' :: L') R al) :
  J P n ops Q (⟨none, .call { callee := .builtin .clear, args := #[x], argTypes := #[t] }, ty, pos, aft, none⟩ :: rest) L R al := by
 refine J.step rfl fun B w hs => .inl ?_
 have hs' := hs.pick hp
 have hgw : w.heap[g]? = some (.cells cs.toArray e (0, 0)) := hs'.blk_get
 have hzl : (Builtin.zeroCells z.cells 1).toList = [z] := by
  rw [hzc]; unfold Builtin.zeroCells; simp [List.range_succ]
 have hst := run_storeCells_at P g o e ([z]) 0 cs.toArray w hgw (by simpa using hcl) (fun u hu => by cases List.mem_singleton.1 hu; exact hz1)
 have e1 : (Builtin.clear_ #[t] ty #[(mkA n al B).eval x]).run P w = .ok (.tuple #[]) (w.setRow g (cs.take o ++ [z] ++ cs.drop (o + 1)).toArray) := by
  rw [A5 hx]
  simp [Builtin.clear_, Ci he.und, hz, hzl] at hst ⊢
  rw [hst]; rfl
 have e2 : (execOp (mkA n al B).eval ⟨none, .call { callee := .builtin .clear, args := #[x], argTypes := #[t] }, ty, pos, aft, none⟩).run P w = .ok (.value (.tuple #[])) (w.setRow g (cs.take o ++ [z] ++ cs.drop (o + 1)).toArray) := by
  simp [execOp, resolve, invoke, builtin, e1]
 unfold Oper.wp
 rw [e2, Oper.upon_value, Kx]
 exact k _ rfl B _ (hs'.blk_set (Ck hgw).1 (Ck hgw).2 rfl rfl)
end
theorem frz {P : Program} {γ : Type} {f : FuncId} {args : Array Value} {w : World} {α : Type} [Enc α] {T : TypeId} {xs : List α} {val p : γ → Value} {L : γ → List Chunk} {R : γ → List Fact} (h : Calls P f args w (Bh val (fun g => row T (p g) xs :: L g) R)) : Calls P f args w (Bh val L (fun g => sl (p g) xs :: R g)) :=
 h.mono fun e w' ⟨g, h1, h2⟩ => ⟨g, h1, h2.shut⟩
section
variable {P : Program} {n : Nat} {ops : Array Oper} {Q : Exit → Act → World → Prop} {rest : List Oper} {L L' : List Chunk} {R : List Fact} {al : List (Nat × Value)} {d : Nat} {x y : Operand} {T ty : TypeId} {pos : String} {aft : Array Edge}
theorem J4 {α : Type} {l : List α} {k : Nat} (d : α) (h : k < l.length) : l.take (k + 1) = l.take k ++ [l.getD k d] := by
 rw [List.take_add_one, getD_some d h]; rfl
theorem l_Sr {β : Type} [Enc β] {T' : TypeId} {v : Value} {xs : List (List β)} {i : Nat} (hT : ∀ w, (isAgg T).run P w = .ok false w) (hx : ev n al x = some (ep v 1 i 0)) (hp : Pick L (row T' v xs) L') (hi : i < xs.length)
  (k : ∀ u, J P n ops Q rest L (sl u (xs.getD i []) :: R) ((d, u) :: al)) : J P n ops Q (⟨some d, .load T x, ty, pos, aft, none⟩ :: rest) L R al :=
 Sr (α := List β) (f := 0) hT hx hp (getD_some [] hi) (fun cs m h => by obtain ⟨u, h1, h2⟩ := h; exact ⟨u, by rw [h1]; rfl, h2⟩) k
theorem s_Sr {β : Type} [Enc β] {T' : TypeId} {v c : Value} {xs : List (List β)} {ys : List β} {i : Nat} (hsz : ∀ w, (sizeOf T).run P w = .ok 1 w) (hx : ev n al x = some (ep v 1 i 0)) (hy : ev n al y = some c) (hm : sl c ys ∈ R) (hp : Pick L (row T' v xs) L') (hi : i < xs.length)
  (k : J P n ops Q rest (row T' v (xs.set i ys) :: L') R al) : J P n ops Q (⟨none, .store T x y, ty, pos, aft, none⟩ :: rest) L R al :=
 fun B w hs => by
  have hc : c.cells = #[c] ∧ c.oneCell' = true := by obtain ⟨base, cap, rfl, _⟩ := hs.fact hm; exact ⟨rfl, rfl⟩
  exact Hj (α := List β) (f := 0) (cs := [c]) (e := xs.getD i []) (e' := ys) hsz hx hy hc.1 rfl (by intro u hu; cases List.mem_singleton.1 hu; exact hc.2) hp (getD_some [] hi)
   (fun ds m hr => by obtain ⟨u, h1, _⟩ := hr; rw [h1]; exact Nat.le_refl _) (fun j hj ds hr => by obtain ⟨u, h1, _⟩ := hr; rw [h1]; exact ⟨c, rfl, hj _ hm⟩) k B w hs
end
end Go.Proofs.YtiofgjolhbgkiaaGreatDoor
namespace Go.Proofs.YtiofgjolhbgkiaaGreatDoor
open Go
def Wd := List UInt8
instance instEncWd : Enc Wd where
 sz := 1
 rd x cs _ := cs = [.string (Ba x)]
 mono _ _ _ _ _ h := h
 len _ _ _ h := by rw [h]; rfl
 one _ _ _ h := by rw [h]; intro u hu; rw [List.mem_singleton.1 hu]; rfl
instance e0Wd : El0 Wd := ⟨fun x => [.string (Ba x)], fun _ => True, ([] : List UInt8), fun _ _ _ h => ⟨h, trivial⟩⟩
theorem Hf (l : List UInt8) : (Ba l).size = l.length := by show l.toArray.size = _; simp
theorem Mo (l : List UInt8) : Go.Lib.strCells (Ba l) = l.map vb := by unfold Go.Lib.strCells Ba; rfl
theorem rd_vb : ∀ (l : List UInt8) (m : Mem), RdL l (l.map vb) m
 | [], _ => rfl
 | b :: l, m => ⟨[vb b], l.map vb, rfl, rfl, rd_vb l m⟩
section
variable {P : Program} {n : Nat} {ops : Array Oper} {Q : Exit → Act → World → Prop} {rest : List Oper} {L L' : List Chunk} {R : List Fact} {al : List (Nat × Value)} {d : Nat} {x y : Operand} {T ty : TypeId} {pos : String} {aft : Array Edge}
theorem T8 {t u e : TypeId} {bytes : Nat} {z : Value} {v : Value} {xs ys : List UInt8} {w : World} (he : ElemOf P t e 1 z bytes) (hu : P.underlying u = some .string)
  (hs : St (row e v xs :: L) R w) (hb : xs.length + ys.length ≤ maxN) :
  ∃ v' w', (Builtin.append_ #[t, u] ty #[v, .string (Ba ys)]).run P w = .ok v' w' ∧ St (row e v' (xs ++ ys) :: L) R w' := by
 obtain ⟨i, hi, hz, hisz, hiby⟩ := he.info
 have hN : maxN = 16777216 := rfl
 have hsz : (Ba ys).size = ys.length := Hf ys
 have hlen : (xs ++ ys).length = xs.length + ys.length := List.length_append
 have hcl : (Go.Lib.strCells (Ba ys)).length = ys.length := by rw [Go.Lib.strCells_length, hsz]
 have hys : ∀ m, RdL ys (Go.Lib.strCells (Ba ys)) m := fun m => by rw [Mo]; exact rd_vb ys m
 by_cases hne : ys = []
 ·subst hne
  refine ⟨v, w, ?_, by simpa using hs⟩
  obtain ⟨m, j, _, hle, _, hr, _⟩ := hs.head
  have hfirst : ∀ sz, (Builtin.firstCells sz 0 (.string (Ba []))).run P w = .ok #[] w := fun sz => by
   have := Go.Lib.run_firstCells_string (P := P) w sz (Ba [])
   exact this
  have h0 : (Ba []).size = 0 := rfl
  rcases N5 hr with ⟨hv, _⟩ | ⟨g, c, cur, cs, hv, _, hc, _⟩
  ·rw [hv]; simp [Builtin.append_, Ci he.und, Ci hu, sizeOf, typeInfo, hi, hisz, Builtin.lenOf, hfirst, h0]
  ·rw [hv]; simp [Builtin.append_, Ci he.und, Ci hu, sizeOf, typeInfo, hi, hisz, Builtin.lenOf, hfirst, h0, hc, storeCells]
 have hmpos : 0 < ys.length := List.length_pos_iff.2 hne
 obtain ⟨m, j, hd, hmw, hjw, ⟨m1, m2, hd', h1, h2, hc, hst⟩, hr⟩ := hs
 have mk : ∀ (w' : World) (cells : Array Value) (cap : Nat) (cs : List Value), w'.heap = w.heap.push (.cells cells e (0, 0)) → w'.os = w.os → w'.output = w.output → RdL (xs ++ ys) cs j → (xs ++ ys).length ≤ cap → cap ≤ maxLen → cells.size = cap * 1 → cells.toList.take ((xs ++ ys).length * 1) = cs →
   St (row e (.slice (some ⟨w.heap.size, 0, none⟩) (xs ++ ys).length cap) (xs ++ ys) :: L) R w' := by
  intro w' cells cap cs hw ho hu hrd hcap hml hcl' htk
  exact St.newC (Mem.disj_le hd h2 (Mem.le_refl _)) (Mem.le_trans h2 hmw) hjw hst hr hw ho hu ⟨by rw [hlen]; exact hb, .inr ⟨w.heap.size, cap, cells, cs, rfl, Dv _ _, hcap, hml, hcl', htk, hrd⟩⟩
 have hcapge : ∀ (w1 : World) need old, need ≤ maxN → need ≤ grownCap w1 need old e ∧ grownCap w1 need old e ≤ maxLen := by
  intro w1 need old hn
  exact ⟨grownCap_ge _ _ _ _, grownCap_le_maxLen _ _ _ _ (by rw [hN] at hn; unfold maxLen; omega)⟩
 have hbnd : ∀ k, k ≤ maxN → k * i.bytes ≤ 140737488355328 := by
  intro k hk
  have : k * i.bytes ≤ 16777216 * 1024 := Nat.mul_le_mul (by omega) (by rw [hiby]; exact he.bnd)
  omega
 have hzc : ∀ k, (Builtin.zeroCells z.cells k).size = k := by intro k; rw [size_zeroCells, he.zsz, Nat.mul_one]
 rcases hc with ⟨h0, ⟨hv, hx⟩ | ⟨g, cap, cur, cs, hv, hg, hcap, hml, hcsz, htk, hrd⟩⟩
 ·subst hx
  have hyl : ys.length ≤ maxN := by simpa using hb
  have hgc := hcapge w (Ba ys).size 0 (by omega)
  refine ⟨_, _, by rw [hv]; exact run_append_nil_string (P := P) (w := w) t u ty e i z he.und hu hi hz (Ba ys) (by omega) (by omega) (by have := hbnd _ hyl; rw [hsz]; omega), ?_⟩
  have he2 : (Ba ys).data.map (fun b => Value.int .u8 b.toNat) = (Go.Lib.strCells (Ba ys)).toArray := by apply Array.ext'; simp [Go.Lib.strCells]
  have := mk (w.drew.alloc (.cells ((Ba ys).data.map (fun b => Value.int .u8 b.toNat) ++ Builtin.zeroCells z.cells (grownCap w (Ba ys).size 0 e - (Ba ys).size)) e)) _ (grownCap w (Ba ys).size 0 e) (Go.Lib.strCells (Ba ys)) rfl rfl rfl (hys j) (by rw [hlen, List.length_nil]; omega) hgc.2
   (by rw [he2, Array.size_append, hzc, List.size_toArray, hcl]; omega) (by rw [he2, hlen, List.length_nil]; simp only [Array.toList_append]; rw [List.take_append_of_le_length (by simp [hcl]), List.take_of_length_le (by simp [hcl])])
  rw [hlen, List.length_nil, Nat.zero_add, ← hsz] at this
  exact this
 have hgw : w.heap[g]? = some (.cells cur e (0, 0)) := Ge (hmw _ _ (h1 _ _ hg))
 have hcsl : cs.length = xs.length * 1 := hrd.len
 have htk' : cur.toList.take xs.length = cs := by rw [← htk]; show _ = cur.toList.take (xs.length * 1); rw [Nat.mul_one]
 have hcsz' : cur.size = cap := by rw [hcsz]; show cap * 1 = cap; omega
 by_cases hroom : xs.length + (Ba ys).size ≤ cap
 ·refine ⟨_, _, by rw [hv]; exact Go.Lib.run_append_room_string (P := P) (w := w) t u ty e i he.und hu hi hisz g xs.length cap cur hgw (Ba ys) hroom (by omega), ?_⟩
  rw [htk']
  have hb1 : (w.setRow g (cs ++ Go.Lib.strCells (Ba ys) ++ cur.toList.drop (xs.length + (Ba ys).size)).toArray).heap[g]? = some (.cells (cs ++ Go.Lib.strCells (Ba ys) ++ cur.toList.drop (xs.length + (Ba ys).size)).toArray e (0, 0)) := by simp [World.setRow, Array.getElem?_modify, hgw]
  have hb2 : ∀ x, x ≠ g → (w.setRow g (cs ++ Go.Lib.strCells (Ba ys) ++ cur.toList.drop (xs.length + (Ba ys).size)).toArray).heap[x]? = w.heap[x]? := by intro x hx; simp [World.setRow, Array.getElem?_modify, Ne.symm hx]
  refine St.put hd hmw hjw hd' h1 h2 hst hr hg hb1 hb2 rfl rfl ⟨by rw [hlen]; exact hb, .inr ⟨g, cap, _, cs ++ Go.Lib.strCells (Ba ys), by rw [hlen, hsz], Dv _ _, by omega, hml, ?_, ?_, RdL.append (hys j) hrd⟩⟩
  ·show _ = cap * 1
   simp only [List.size_toArray, List.length_append, List.length_drop, Array.length_toList]; omega
  ·show ((_ : List Value).toArray.toList).take ((xs ++ ys).length * 1) = _
   rw [List.take_append_of_le_length (by simp only [List.length_append, hlen]; omega), List.take_of_length_le (by simp only [List.length_append, hlen]; omega)]
 ·have hgc := hcapge w (xs.length + (Ba ys).size) cap (by omega)
  have holds : ∀ (k : Nat) c, cs[k]? = some c → w.cell? ((⟨g, 0, none⟩ : Addr).add k) = some c := by
   intro k c hk
   rw [Gi, Eg hgw, Nat.zero_add]
   rw [← htk', List.getElem?_take] at hk
   split at hk
   ·rw [← Array.getElem?_toList]; exact hk
   ·cases hk
  refine ⟨_, _, by rw [hv]; exact Go.Lib.run_append_grow_string (P := P) (w := w) t u ty e i z he.und hu hi hz ⟨g, 0, none⟩ xs.length cap cs (by rw [hisz]; exact hcsl) holds (Ba ys) (by omega) (by omega) (growslice_fits (by omega) (hbnd _ (by omega))), ?_⟩
  have := mk (w.drew.alloc (.cells (cs.toArray ++ (Go.Lib.strCells (Ba ys)).toArray ++ Builtin.zeroCells z.cells (grownCap w (xs.length + (Ba ys).size) cap e - (xs.length + (Ba ys).size))) e)) _ (grownCap w (xs.length + (Ba ys).size) cap e) (cs ++ Go.Lib.strCells (Ba ys)) rfl rfl rfl (RdL.append (hys j) hrd) (by rw [hlen]; omega) hgc.2
   (by rw [Array.size_append, Array.size_append, hzc, List.size_toArray, List.size_toArray, hcl, hcsl]; omega)
   (by simp only [Array.toList_append]; rw [List.take_append_of_le_length (by simp [hcl, hcsl]), List.take_of_length_le (by simp [hcl, hcsl])])
  rw [hlen, ← hsz] at this
  exact this
theorem U1 {t u e : TypeId} {bytes : Nat} {z : Value} {v : Value} {xs ys : List UInt8} (he : ElemOf P t e 1 z bytes) (hu : P.underlying u = some .string) (hx : ev n al x = some v) (hy : ev n al y = some (.string (Ba ys)))
  (hp : Pick L (row e v xs) L') (hb : xs.length + ys.length ≤ maxN)
  (k : ∀ v', J P n ops Q rest (row e v' (xs ++ ys) :: L') R ((d, v') :: al)) : J P n ops Q (⟨some d, .call { callee := .builtin .append, args := #[x, y], argTypes := #[t, u] }, ty, pos, aft, none⟩ :: rest) L R al :=
 J.yieldEx (v := fun v' => v') (L' := fun v' => row e v' (xs ++ ys) :: L') (R' := fun _ => R) rfl rfl (fun B w hs => by
  obtain ⟨v', w', h1, h2⟩ := T8 (ty := ty) he hu (hs.pick hp) hb
  exact ⟨v', w', E1 (by rw [A5 hx, A5 hy]; exact h1), h2⟩) k
theorem q_slen {l : List UInt8} (ht : P.underlying T = some .string) (hx : ev n al x = some (.string (Ba l)) := by exact rfl) : Ao P n al L R ⟨some d, .call { callee := .builtin .len, args := #[x], argTypes := #[T] }, ty, pos, aft, none⟩ (vi (l.length : Int)) :=
 ⟨rfl, fun ρ w h hs => by
  have hx' := h x (by simp [Op.operands, Call.operands]) _ hx
  have e1 : (Builtin.len_ #[T] ty #[ρ x]).run P w = .ok (vi (l.length : Int)) w := by
   rw [hx', run_len_string w T ty (Ba l) ht, Hf]; rfl
  exact M7 e1⟩
end
end Go.Proofs.YtiofgjolhbgkiaaGreatDoor
namespace Go.Proofs.YtiofgjolhbgkiaaGreatDoor
open Go Go.RowKit Go.Lib
theorem Ky {w w' : World} (ho : w'.os = w.os) (hu : w'.output = w.output) (hb : ∀ k, k < w.heap.size → w'.heap[k]? = w.heap[k]?) : Mem.le (Bf w) (Bf w') := by
 intro b o e
 cases b with
 | zero => simp only [Bf] at e ⊢; rw [ho, hu]; exact e
 | succ b =>
  simp only [Bf] at e ⊢
  have hlt : b < w.heap.size := by
   rcases Nat.lt_or_ge b w.heap.size with h | h
   ·exact h
   ·rw [Array.getElem?_eq_none h] at e; cases e
  rw [hb b hlt]; exact e
theorem St.grows {L : List Chunk} {R : List Fact} {w w' : World} (h : Mem.le (Bf w) (Bf w')) (hs : St L R w) : St L R w' := by
 obtain ⟨m, i, hd, hm, hi, hst, hr⟩ := hs
 exact ⟨m, i, hd, Mem.le_trans hm h, Mem.le_trans hi h, hst, hr⟩
theorem Gs {w w' : World} (h : Below w.heap.size w w') : Mem.le (Bf w) (Bf w') := Ky h.os h.output h.block
theorem P9 {w : World} (n : Nat) : Mem.le (Bf w) (Bf (w.drewN n)) := Ky rfl rfl fun _ _ => rfl
theorem Td {w : World} (n : Nat) (os : Array Obj) : Mem.le (Bf w) (Bf (Go.Sort.grow (w.drewN n) os)) := Ky rfl rfl fun k hk => by
 show (w.heap ++ os)[k]? = _
 rw [Array.getElem?_append_left hk]
theorem Im {P : Program} {f : FuncId} {args : Array Value} {w : World} {L : List Chunk} {R : List Fact} {v : Value} {p : World → Prop} (hs : St L R w) (hp : ∀ w', p w' → Mem.le (Bf w) (Bf w')) (h : Calls P f args w fun e w' => e = .returned v ∧ p w') :
  Calls P f args w (Bh (fun _ : Unit => v) (fun _ => L) (fun _ => R)) :=
 h.mono fun e w' ⟨h1, h2⟩ => ⟨(), h1, hs.grows (hp w' h2)⟩
def Abl (g : Nat) (cs : List Value) : Fact := ⟨fun m => ∃ T fz, m (g + 1) = some (.ob (.cells cs.toArray T fz)), fun m m' h ⟨T, fz, e⟩ => ⟨T, fz, h _ _ e⟩⟩
theorem Uc {P : Program} {L : List Chunk} {R : List Fact} {w : World} {g : Nat} {cs : List Value} {name : String} (hg : P.globalNamed name = some g) (hm : Abl g cs ∈ R) (hs : St L R w) : w.var? P name = some cs.toArray := by
 obtain ⟨T, fz, e⟩ := hs.fact hm
 unfold World.var?
 rw [hg]
 show (match w.heap[g]? with | some (.cells cs _ _) => some cs | _ => none) = _
 rw [Ge e]
theorem sl_new {L : List Chunk} {R : List Fact} {w : World} {T : TypeId} {ws : List Wd} (hs : St L R w) (hn : ws.length ≤ maxN) :
  St L (sl (α := Wd) (.slice (some ⟨w.heap.size, 0, none⟩) ws.length ws.length) ws :: R) (w.alloc (.cells ((ws.map fun x => Value.string (Ba x)).toArray) T)) := by
 have hr : ∀ (l : List Wd) (m : Mem), RdL (α := Wd) l (l.map fun x => Value.string (Ba x)) m := by
  intro l m
  induction l with
  | nil => rfl
  | cons a l ih => exact ⟨[.string (Ba a)], _, rfl, rfl, ih⟩
 obtain ⟨m, i, hd, hm, hi, hst, hrr⟩ := hs
 have h1 : St (row (α := Wd) T (.slice (some ⟨w.heap.size, 0, none⟩) ws.length ws.length) ws :: L) R (w.alloc (.cells ((ws.map fun x => Value.string (Ba x)).toArray) T)) :=
  St.newC (o := .cells ((ws.map fun x => Value.string (Ba x)).toArray) T (0, 0)) hd hm hi hst hrr rfl rfl rfl ⟨hn, .inr ⟨w.heap.size, ws.length, _, _, rfl, Dv _ _, Nat.le_refl _, by have : maxN = 16777216 := rfl; unfold maxLen; omega, (by show _ = ws.length * 1; rw [List.size_toArray, Nat.mul_one]; exact List.length_map _), rfl, by
   have e : ((ws.map fun x => Value.string (Ba x)).toArray.toList).take (ws.length * Enc.sz Wd) = ws.map fun x => Value.string (Ba x) := by
    show List.take (ws.length * 1) _ = _
    rw [List.take_of_length_le (by rw [Nat.mul_one]; exact Nat.le_of_eq (List.length_map _))]
   rw [e]; exact hr ws i⟩⟩
 exact h1.shut
end Go.Proofs.YtiofgjolhbgkiaaGreatDoor
namespace Go.Proofs.YtiofgjolhbgkiaaGreatDoor
abbrev Bs := List UInt8
def E7 : List Bs → Bs
 | [] => []
 | [x] => x
 | x :: y :: r => x ++ 32 :: E7 (y :: r)
def Av (c : UInt8) : Bs → List Bs
 | [] => [[]]
 | b :: r => if b = c then [] :: Av c r else match Av c r with
  | [] => [[b]]
  | w :: ws => (b :: w) :: ws
theorem Ki (c : UInt8) : ∀ s, Av c s ≠ []
 | [] => by simp [Av]
 | b :: r => by
  unfold Av
  split
  ·simp
  ·split <;> simp
theorem Hq {c b : UInt8} {r : Bs} (h : b ≠ c) : ∃ w ws, Av c r = w :: ws ∧ Av c (b :: r) = (b :: w) :: ws := by
 cases e : Av c r with
 | nil => exact absurd e (Ki c r)
 | cons w ws => exact ⟨w, ws, rfl, by rw [Av, if_neg h, e]⟩
theorem Nd {c : UInt8} {r : Bs} : Av c (c :: r) = [] :: Av c r := by rw [Av, if_pos rfl]
theorem Hp {c : UInt8} : ∀ {w : Bs}, c ∉ w → Av c w = [w]
 | [], _ => rfl
 | b :: r, h => by
  obtain ⟨w, ws, h1, h2⟩ := Hq (c := c) (b := b) (r := r) (fun e => h (by rw [e]; exact List.mem_cons_self ..))
  rw [Hp (fun hm => h (List.mem_cons_of_mem _ hm))] at h1
  injection h1 with e1 e2
  rw [h2, ← e1, ← e2]
theorem I9 {c : UInt8} : ∀ {w : Bs} {s : Bs}, c ∉ w → Av c (w ++ c :: s) = w :: Av c s
 | [], s, _ => Nd
 | b :: r, s, h => by
  obtain ⟨w, ws, h1, h2⟩ := Hq (c := c) (b := b) (r := r ++ c :: s) (fun e => h (by rw [e]; exact List.mem_cons_self ..))
  rw [I9 (fun hm => h (List.mem_cons_of_mem _ hm))] at h1
  injection h1 with e1 e2
  rw [List.cons_append, h2, ← e1, ← e2]
theorem Rv : ∀ {l : List Bs}, l ≠ [] → (∀ w ∈ l, (32 : UInt8) ∉ w) → Av 32 (E7 l) = l
 | [], h, _ => absurd rfl h
 | [x], _, h => Hp (h x (List.mem_cons_self ..))
 | x :: y :: r, _, h => by
  rw [E7, I9 (h x (List.mem_cons_self ..)), Rv (by simp) (fun w hw => h w (List.mem_cons_of_mem _ hw))]
theorem S1 {x : Bs} {l : List Bs} (h : l ≠ []) : E7 (x :: l) = x ++ 32 :: E7 l := by
 cases l with
 | nil => exact absurd rfl h
 | cons y r => rfl
theorem Mu : ∀ (s : Bs), E7 (Av 32 s) = s
 | [] => rfl
 | b :: r => by
  by_cases e : b = 32
  ·subst e; rw [Nd, S1 (Ki _ _), Mu r]; rfl
  ·obtain ⟨w, ws, h1, h2⟩ := Hq (r := r) e
   have h3 := Mu r
   rw [h1] at h3
   rw [h2]
   cases ws with
   | nil => rw [E7] at h3 ⊢; rw [h3]
   | cons y t => rw [E7] at h3 ⊢; rw [List.cons_append, h3]
open Go.Lib in
theorem Od : ∀ {a b : Bs} {k : Nat}, parseUint10 k (a ++ b) = match parseUint10 k a with | .ok v => parseUint10 v b | e => e
 | [], b, k => rfl
 | c :: r, b, k => by
  simp only [List.cons_append, parseUint10]
  split
  ·split
   ·rfl
   ·split
    ·rfl
    ·exact Od
  ·rfl
theorem I8 {d : Nat} (h : d < 10) : (UInt8.ofNat (48 + d)).toNat = 48 + d := by
 rw [UInt8.toNat_ofNat']; omega
open Go.Lib in
theorem Jy (u : Nat) : u < 18446744073709551616 → parseUint10 0 (decDigits u) = .ok u := by
 induction u using Nat.strongRecOn with
 | _ u ih =>
  intro hu
  by_cases h : u < 10
  ·rw [decDigits, dif_pos h]
   simp only [parseUint10, I8 h]
   rw [if_pos (by omega), if_neg (by omega), if_neg (by omega)]; congr 1; omega
  ·rw [decDigits, dif_neg h, Od, ih (u / 10) (by omega) (by omega)]
   simp only [parseUint10, I8 (show u % 10 < 10 by omega)]
   rw [if_pos (by omega), if_neg (by omega), if_neg (by omega)]; congr 1; omega
open Go.Lib in
theorem Md (u : Nat) : ∀ b ∈ decDigits u, 48 ≤ b.toNat ∧ b.toNat ≤ 57 := by
 induction u using Nat.strongRecOn with
 | _ u ih =>
  intro b hb
  by_cases h : u < 10
  ·rw [decDigits, dif_pos h] at hb
   rw [List.mem_singleton.1 hb, I8 h]; omega
  ·rw [decDigits, dif_neg h] at hb
   cases List.mem_append.1 hb with
   | inl e => exact ih (u / 10) (by omega) b e
   | inr e => rw [List.mem_singleton.1 e, I8 (show u % 10 < 10 by omega)]; omega
open Go.Lib in
theorem O2 (u : Nat) : decDigits u ≠ [] := by
 rw [decDigits]; split <;> simp
open Go.Lib in
theorem Xb {n : Int} (h : An n) : atoiAll (itoa n) = .ok n := by
 obtain ⟨h1, h2⟩ := h
 unfold itoa
 by_cases h0 : n < 0
 ·rw [if_pos h0]
  unfold atoiAll
  have e := Jy n.natAbs (by omega)
  simp only [show (45 : UInt8).toNat = 45 from rfl, or_true, if_true, parseMag, O2, if_false, e]
  rw [if_neg (by simp), if_neg (by omega)]
  congr 1; omega
 ·rw [if_neg h0]
  have e := Jy n.toNat (by omega)
  have hm := Md n.toNat
  cases hd : decDigits n.toNat with
  | nil => exact absurd hd (O2 _)
  | cons c r =>
   rw [hd] at e hm
   have hc := hm c (List.mem_cons_self ..)
   unfold atoiAll
   simp only
   rw [if_neg (by omega)]
   simp only [parseMag, e]
   rw [if_neg (by simp)]
   simp only
   rw [if_neg (by omega), if_neg (by omega), if_neg (by omega)]
   congr 1; omega
open Go.Lib in
theorem Xc {w : Bs} {v : Int} (h : atoiAll w = .ok v) : An v := by
 unfold atoiAll at h
 split at h
 ·cases h
 ·simp only at h
  split at h
  ·cases h
  ·cases h
  ·rename_i u hu
   split at h
   ·cases h
   split at h
   ·cases h
   injection h with h
   subst h
   unfold An
   split <;> omega
def Gd (w : Bs) : Option Int := match Go.Lib.atoiAll w with
 | .ok v => if Go.Lib.itoa v = w then some v else none
 | _ => none
theorem Ej {n : Int} (h : An n) : Gd (Go.Lib.itoa n) = some n := by unfold Gd; rw [Xb h]; simp
theorem Gn {w : Bs} {v : Int} (h : Gd w = some v) : Go.Lib.itoa v = w ∧ An v := by
 unfold Gd at h
 split at h
 ·rename_i u hu
  split at h
  ·injection h with h; subst h; exact ⟨by assumption, Xc hu⟩
  ·cases h
 ·cases h
open Go.Lib in
theorem Yo {n : Int} : ∀ b ∈ itoa n, b ≠ 32 ∧ b ≠ 10 := by
 intro b hb
 unfold itoa at hb
 have hd : ∀ u, b ∈ decDigits u → b ≠ 32 ∧ b ≠ 10 := fun u hu => by
  have := Md u b hu
  exact ⟨fun e => by rw [e] at this; exact absurd this.1 (by decide), fun e => by rw [e] at this; exact absurd this.1 (by decide)⟩
 split at hb
 ·cases List.mem_cons.1 hb with
  | inl e => rw [e]; decide
  | inr e => exact hd _ e
 ·exact hd _ hb
end Go.Proofs.YtiofgjolhbgkiaaGreatDoor
namespace Go.Proofs.YtiofgjolhbgkiaaGreatDoor
open Go.Lib (itoa)
def kinds : List Bs := [[111, 112], [103, 111], [100, 114, 111, 112], [116, 119, 105, 99, 101], [115, 112, 111, 105, 108], [116, 105, 109, 101, 114]]
def opns : List Bs := [[108, 111, 97, 100], [115, 116, 111, 114, 101], [97, 100, 100], [101, 118, 105, 99, 116]]
def A4 : List Bs → Bs → Nat
 | [], _ => 0
 | x :: r, w => if x = w then 1 else match A4 r w with
  | 0 => 0
  | k + 1 => k + 2
def Bw (k : Int) : Bs := kinds.getD (k - 1).toNat []
def D7 (k : Int) : Bs := opns.getD (k - 1).toNat []
def A0 (s : Step) : Prop := s.kind < 1 ∨ 6 < s.kind ∨ (s.kind = 1 ∧ (s.op.kind < 1 ∨ 4 < s.op.kind))
instance (s : Step) : Decidable (A0 s) := by unfold A0; exact inferInstance
def Dj (s : Step) : List Bs :=
 if s.kind = 1 then itoa s.node :: D7 s.op.kind :: itoa s.op.line :: (if s.op.kind = 2 ∨ s.op.kind = 3 then [itoa s.op.value] else [])
 else if s.kind = 6 then [itoa s.node]
 else if s.kind = 5 then [itoa s.n, itoa s.bit]
 else [itoa s.n]
def Az (s : Step) : List Bs := Bw s.kind :: Dj s
def Q4 (s : Step) : Bs × Int := if A0 s then ([], 1) else (E7 (Az s), 0)
def Dw (s : Step) : Step :=
 if s.kind = 1 then ⟨1, s.node, 0, 0, ⟨s.op.kind, s.op.line, if s.op.kind = 2 ∨ s.op.kind = 3 then s.op.value else 0⟩⟩
 else if s.kind = 6 then ⟨6, s.node, 0, 0, zOp⟩
 else if s.kind = 5 then ⟨5, 0, s.n, s.bit, zOp⟩
 else ⟨s.kind, 0, s.n, 0, zOp⟩
def L8 : List Bs → Step × Int
 | a :: o :: t => match Gd a with
  | none => (zStep, 2)
  | some n =>
   if A4 opns o = 0 then (zStep, 1)
   else if A4 opns o = 2 ∨ A4 opns o = 3 then match t with
    | [x, y] => match Gd x, Gd y with
     | some p, some q => (⟨1, n, 0, 0, ⟨(A4 opns o : Nat), p, q⟩⟩, 0)
     | _, _ => (zStep, 2)
    | _ => (zStep, 2)
   else match t with
    | [x] => match Gd x with
     | some p => (⟨1, n, 0, 0, ⟨(A4 opns o : Nat), p, 0⟩⟩, 0)
     | none => (zStep, 2)
    | _ => (zStep, 2)
 | _ => (zStep, 2)
def Kz : List Bs → Step × Int
 | [] => (zStep, 1)
 | w :: r =>
  if A4 kinds w = 0 then (zStep, 1)
  else if A4 kinds w = 1 then L8 r
  else if A4 kinds w = 5 then match r with
   | [x, y] => match Gd x, Gd y with
    | some p, some q => (⟨5, 0, p, q, zOp⟩, 0)
    | _, _ => (zStep, 2)
   | _ => (zStep, 2)
  else match r with
   | [x] => match Gd x with
    | some p => (if A4 kinds w = 6 then ⟨6, p, 0, 0, zOp⟩ else ⟨(A4 kinds w : Nat), 0, p, 0, zOp⟩, 0)
    | none => (zStep, 2)
   | _ => (zStep, 2)
theorem Mr : ∀ {l : List Bs} {w : Bs} {k : Nat}, A4 l w = k + 1 → k < l.length ∧ l.getD k [] = w
 | [], w, k, h => by simp [A4] at h
 | x :: r, w, k, h => by
  unfold A4 at h
  split at h
  ·rename_i e
   obtain rfl : k = 0 := by omega
   exact ⟨by simp, by simpa using e⟩
  ·split at h
   ·cases h
   ·rename_i j hj
    obtain rfl : k = j + 1 := by omega
    obtain ⟨h1, h2⟩ := Mr hj
    exact ⟨by simpa using h1, by simpa using h2⟩
theorem Sv : ∀ k, k < 6 → A4 kinds (kinds.getD k []) = k + 1 := by decide
theorem U4 : ∀ k, k < 4 → A4 opns (opns.getD k []) = k + 1 := by decide
theorem Pu {k : Int} (h : 1 ≤ k) (h6 : k ≤ 6) : ((A4 kinds (Bw k) : Nat) : Int) = k := by
 unfold Bw; rw [Sv _ (by omega)]; omega
theorem Pt {k : Int} (h : 1 ≤ k) (h6 : k ≤ 4) : ((A4 opns (D7 k) : Nat) : Int) = k := by
 unfold D7; rw [U4 _ (by omega)]; omega
theorem Pz {w : Bs} (h : A4 kinds w ≠ 0) : Bw (A4 kinds w : Nat) = w ∧ 1 ≤ A4 kinds w ∧ A4 kinds w ≤ 6 := by
 obtain ⟨k, hk⟩ : ∃ k, A4 kinds w = k + 1 := ⟨A4 kinds w - 1, by omega⟩
 obtain ⟨h1, h2⟩ := Mr hk
 have h1' : k < 6 := h1
 unfold Bw; rw [hk, show (((k + 1 : Nat) : Int) - 1).toNat = k by omega]
 exact ⟨h2, by omega, by omega⟩
theorem Py {w : Bs} (h : A4 opns w ≠ 0) : D7 (A4 opns w : Nat) = w ∧ 1 ≤ A4 opns w ∧ A4 opns w ≤ 4 := by
 obtain ⟨k, hk⟩ : ∃ k, A4 opns w = k + 1 := ⟨A4 opns w - 1, by omega⟩
 obtain ⟨h1, h2⟩ := Mr hk
 have h1' : k < 4 := h1
 unfold D7; rw [hk, show (((k + 1 : Nat) : Int) - 1).toNat = k by omega]
 exact ⟨h2, by omega, by omega⟩
theorem names_mem : (∀ w ∈ kinds, ∀ b ∈ w, b ≠ 32 ∧ b ≠ 10) ∧ (∀ w ∈ opns, ∀ b ∈ w, b ≠ 32 ∧ b ≠ 10) := by decide
theorem Q9 {l : List Bs} {k : Nat} {b : UInt8} (h : b ∈ l.getD k []) : ∃ w ∈ l, b ∈ w := by
 rw [List.getD_eq_getElem?_getD] at h
 cases e : l[k]? with
 | none => rw [e] at h; simp at h
 | some w => rw [e] at h; exact ⟨w, List.mem_of_getElem? e, h⟩
theorem Nq {s : Step} : ∀ w ∈ Az s, ∀ b ∈ w, b ≠ 32 ∧ b ≠ 10 := by
 intro w hw b hb
 have hK : ∀ k, b ∈ Bw k → b ≠ 32 ∧ b ≠ 10 := fun k h => by obtain ⟨w, h1, h2⟩ := Q9 h; exact names_mem.1 w h1 b h2
 have hO : ∀ k, b ∈ D7 k → b ≠ 32 ∧ b ≠ 10 := fun k h => by obtain ⟨w, h1, h2⟩ := Q9 h; exact names_mem.2 w h1 b h2
 have hI : ∀ n, b ∈ itoa n → b ≠ 32 ∧ b ≠ 10 := fun n h => Yo b h
 unfold Az Dj at hw
 rcases List.mem_cons.1 hw with e | hw
 ·rw [e] at hb; exact hK _ hb
 split at hw
 ·rcases List.mem_cons.1 hw with e | hw
  ·rw [e] at hb; exact hI _ hb
  rcases List.mem_cons.1 hw with e | hw
  ·rw [e] at hb; exact hO _ hb
  rcases List.mem_cons.1 hw with e | hw
  ·rw [e] at hb; exact hI _ hb
  split at hw
  ·rw [List.mem_singleton.1 hw] at hb; exact hI _ hb
  ·cases hw
 split at hw
 ·rw [List.mem_singleton.1 hw] at hb; exact hI _ hb
 split at hw
 ·rcases List.mem_cons.1 hw with e | hw
  ·rw [e] at hb; exact hI _ hb
  ·rw [List.mem_singleton.1 hw] at hb; exact hI _ hb
 ·rw [List.mem_singleton.1 hw] at hb; exact hI _ hb
theorem Sy {s : Step} (hb : ¬ A0 s) (hw : s.wf) : Kz (Az s) = (Dw s, 0) := by
 obtain ⟨w1, w2, w3, w4, w5, w6, w7⟩ := hw
 unfold A0 at hb
 have hk := Pu (k := s.kind) (by omega) (by omega)
 have k0 : A4 kinds (Bw s.kind) ≠ 0 := by omega
 unfold Az Kz
 simp only
 rw [if_neg k0]
 unfold Dj Dw
 by_cases h1 : s.kind = 1
 ·rw [if_pos (by omega), if_pos h1, if_pos h1]
  have ho := Pt (k := s.op.kind) (by omega) (by omega)
  have o0 : A4 opns (D7 s.op.kind) ≠ 0 := by omega
  unfold L8
  simp only [Ej w2]
  rw [if_neg o0]
  by_cases h2 : s.op.kind = 2 ∨ s.op.kind = 3
  ·rw [if_pos (by omega), if_pos h2, if_pos h2]
   simp only [Ej w6, Ej w7, ho]
  ·rw [if_neg (by omega), if_neg h2, if_neg h2]
   simp only [Ej w6, ho]
 rw [if_neg (by omega), if_neg h1, if_neg h1]
 by_cases h6 : s.kind = 6
 ·rw [if_neg (by omega), if_pos h6, if_pos h6]
  simp only [Ej w2]
  rw [if_pos (by omega)]
 rw [if_neg h6, if_neg h6]
 by_cases h5 : s.kind = 5
 ·rw [if_pos (by omega), if_pos h5, if_pos h5]
  simp only [Ej w3, Ej w4]
 ·rw [if_neg (by omega), if_neg h5, if_neg h5]
  simp only [Ej w3]
  rw [if_neg (by omega), hk]
theorem R6 {W : List Bs} {s : Step} (h : Kz W = (s, 0)) : ¬ A0 s ∧ Az s = W ∧ Dw s = s ∧ s.wf := by
 have z20 : ∀ {a : Step}, (a, (2 : Int)) = (s, 0) → False := fun h => by injection h with _ h; exact absurd h (by decide)
 have z10 : ∀ {a : Step}, (a, (1 : Int)) = (s, 0) → False := fun h => by injection h with _ h; exact absurd h (by decide)
 have i0 : An 0 := by unfold An; decide
 unfold Kz at h
 split at h
 ·exact (z10 h).elim
 rename_i w r
 split at h
 ·exact (z10 h).elim
 rename_i k0
 obtain ⟨nk, k1, k6⟩ := Pz k0
 split at h
 ·rename_i hk
  unfold L8 at h
  split at h
  ·rename_i a o t
   split at h
   ·exact (z20 h).elim
   rename_i n hn
   obtain ⟨en, wn⟩ := Gn hn
   split at h
   ·exact (z10 h).elim
   rename_i o0
   obtain ⟨no, o1, o4⟩ := Py o0
   rw [hk] at nk
   split at h
   ·rename_i o23
    split at h
    ·split at h
     ·rename_i p q hp hq
      obtain ⟨ep, wp⟩ := Gn hp
      obtain ⟨eq, wq⟩ := Gn hq
      injection h with h _
      subst h
      refine ⟨by unfold A0; simp only; omega, ?_, ?_, ?_⟩
      ·unfold Az Dj; simp only [if_true]
       rw [if_pos (by omega), en, ep, eq, no]; rw [← nk]; rfl
      ·unfold Dw; simp only [if_true]; rw [if_pos (by omega)]
      ·exact ⟨by unfold An; simp only; omega, wn, i0, i0, by unfold An; simp only; omega, wp, wq⟩
     ·exact (z20 h).elim
    ·exact (z20 h).elim
   ·rename_i o23
    split at h
    ·split at h
     ·rename_i p hp
      obtain ⟨ep, wp⟩ := Gn hp
      injection h with h _
      subst h
      refine ⟨by unfold A0; simp only; omega, ?_, ?_, ?_⟩
      ·unfold Az Dj; simp only [if_true]
       rw [if_neg (by omega), en, ep, no]; rw [← nk]; rfl
      ·unfold Dw; simp only [if_true]; rw [if_neg (by omega)]
      ·exact ⟨by unfold An; simp only; omega, wn, i0, i0, by unfold An; simp only; omega, wp, i0⟩
     ·exact (z20 h).elim
    ·exact (z20 h).elim
  ·exact (z20 h).elim
 rename_i hk1
 split at h
 ·rename_i hk
  split at h
  ·split at h
   ·rename_i p q hp hq
    obtain ⟨ep, wp⟩ := Gn hp
    obtain ⟨eq, wq⟩ := Gn hq
    injection h with h _
    subst h
    rw [hk] at nk
    refine ⟨by unfold A0; simp only; omega, ?_, rfl, ⟨by unfold An; simp only; omega, i0, wp, wq, i0, i0, i0⟩⟩
    unfold Az Dj; simp only
    rw [if_neg (by omega), if_neg (by omega), if_pos trivial, ep, eq, ← nk]; rfl
   ·exact (z20 h).elim
  ·exact (z20 h).elim
 rename_i hk5
 split at h
 ·split at h
  ·rename_i p hp
   obtain ⟨ep, wp⟩ := Gn hp
   injection h with h _
   subst h
   split
   ·rename_i hk
    rw [hk] at nk
    refine ⟨by unfold A0; simp only; omega, ?_, rfl, ⟨by unfold An; simp only; omega, wp, i0, i0, i0, i0, i0⟩⟩
    unfold Az Dj; simp only
    rw [if_neg (by omega), if_pos trivial, ep, ← nk]; rfl
   ·rename_i hk
    refine ⟨by unfold A0; simp only; omega, ?_, ?_, ⟨by unfold An; simp only; omega, i0, wp, i0, i0, i0, i0⟩⟩
    ·unfold Az Dj; simp only
     rw [if_neg (by omega), if_neg (by omega), if_neg (by omega), ep, nk]
    ·unfold Dw; simp only
     rw [if_neg (by omega), if_neg (by omega), if_neg (by omega)]
  ·exact (z20 h).elim
 ·exact (z20 h).elim
end Go.Proofs.YtiofgjolhbgkiaaGreatDoor
namespace Go.Proofs.YtiofgjolhbgkiaaGreatDoor
open Go.Lib (itoa)
def Db (b : Bs) : Step × Int := Kz (Av 32 b)
def G9 (s : Step) : Bs := E7 (Az s)
theorem Dn (s : Step) : Az s ≠ [] := by unfold Az; simp
theorem Vg {s : Step} (hb : ¬ A0 s) (hw : s.wf) : Db (G9 s) = (Dw s, 0) := by
 unfold Db G9
 rw [Rv (Dn s) (fun w hw' hm => (Nq w hw' 32 hm).1 rfl)]
 exact Sy hb hw
theorem Ug {b : Bs} {s : Step} (h : Db b = (s, 0)) : ¬ A0 s ∧ G9 s = b ∧ Dw s = s ∧ s.wf := by
 obtain ⟨h1, h2, h3, h4⟩ := R6 h
 exact ⟨h1, by unfold G9; rw [h2, Mu], h3, h4⟩
theorem Ok : ∀ {l : List Bs} {b : UInt8}, b ∈ E7 l → b = 32 ∨ ∃ w ∈ l, b ∈ w
 | [], b, h => by simp [E7] at h
 | [x], b, h => .inr ⟨x, List.mem_cons_self .., h⟩
 | x :: y :: r, b, h => by
  rw [E7] at h
  rcases List.mem_append.1 h with h | h
  ·exact .inr ⟨x, List.mem_cons_self .., h⟩
  ·rcases List.mem_cons.1 h with h | h
   ·exact .inl h
   ·rcases Ok h with h | ⟨w, hw, hb⟩
    ·exact .inl h
    ·exact .inr ⟨w, List.mem_cons_of_mem _ hw, hb⟩
theorem Sz (s : Step) : (10 : UInt8) ∉ G9 s := by
 intro h
 rcases Ok h with h | ⟨w, hw, hb⟩
 ·exact absurd h (by decide)
 ·exact (Nq w hw 10 hb).2 rfl
theorem Sw (s : Step) : Az (Dw s) = Az s := by
 unfold Az Dj Dw
 by_cases h1 : s.kind = 1
 ·rw [if_pos h1]; simp only [if_true]; rw [if_pos h1, h1]
  by_cases h2 : s.op.kind = 2 ∨ s.op.kind = 3
  ·rw [if_pos h2, if_pos h2, if_pos h2]
  ·rw [if_neg h2, if_neg h2]
 rw [if_neg h1]
 by_cases h6 : s.kind = 6
 ·rw [if_pos h6]; simp only; rw [if_neg (by omega), if_pos trivial, if_neg h1, if_pos h6, h6]
 rw [if_neg h6]
 by_cases h5 : s.kind = 5
 ·rw [if_pos h5]; simp only; rw [if_neg (by omega), if_neg (by omega), if_pos trivial, if_neg h1, if_neg h6, if_pos h5, h5]
 ·rw [if_neg h5]; simp only; rw [if_neg h1, if_neg h6, if_neg h5, if_neg h1, if_neg h6, if_neg h5]
theorem U9 (s : Step) : G9 (Dw s) = G9 s := by unfold G9; rw [Sw]
theorem Yc {s : Step} (h : ¬ A0 s) : ¬ A0 (Dw s) := by
 unfold A0 at h ⊢
 unfold Dw
 split
 ·simp only; omega
 split
 ·simp only; omega
 split
 ·simp only; omega
 ·simp only; omega
def Et (l : List Step) : Bs := l.flatMap fun s => G9 s ++ [10]
def Gz : List Step → Bs × Int
 | [] => ([], 0)
 | s :: r => if A0 s then ([], 1) else if (Gz r).2 = 0 then (G9 s ++ 10 :: (Gz r).1, 0) else ([], (Gz r).2)
theorem F8 (s : Step) (r : List Step) : Et (s :: r) = G9 s ++ 10 :: Et r := by unfold Et; simp
theorem Nv (a b : List Step) : Et (a ++ b) = Et a ++ Et b := by unfold Et; rw [List.flatMap_append]
theorem Hi : ∀ {l : List Step}, (∀ s ∈ l, ¬ A0 s) → Gz l = (Et l, 0)
 | [], _ => rfl
 | s :: r, h => by
  have ih := Hi (l := r) (fun x hx => h x (List.mem_cons_of_mem _ hx))
  rw [Gz, if_neg (h s (List.mem_cons_self ..)), ih, if_pos rfl, F8]
theorem Is : ∀ {l : List Step}, (∃ s ∈ l, A0 s) → Gz l = ([], 1)
 | [], ⟨_, h, _⟩ => by cases h
 | s :: r, ⟨x, hx, hb⟩ => by
  rw [Gz]
  by_cases h : A0 s
  ·rw [if_pos h]
  ·rw [if_neg h]
   have : Gz r = ([], 1) := Is ⟨x, (List.mem_cons.1 hx).resolve_left (fun e => h (by rw [← e]; exact hb)), hb⟩
   rw [this, if_neg (by decide)]
theorem Kl (l : List Step) : ((∀ s ∈ l, ¬ A0 s) ∧ Gz l = (Et l, 0)) ∨ ((∃ s ∈ l, A0 s) ∧ Gz l = ([], 1)) := by
 by_cases h : ∃ s ∈ l, A0 s
 ·exact .inr ⟨h, Is h⟩
 ·have h' : ∀ s ∈ l, ¬ A0 s := fun s hs hb => h ⟨s, hs, hb⟩
  exact .inl ⟨h', Hi h'⟩
def Nh (a : List Step) (r : List Step × Int) : List Step × Int := if r.2 = 0 then (a ++ r.1, 0) else ([], r.2)
theorem Wr (a b : List Step) (r : List Step × Int) : Nh a (Nh b r) = Nh (a ++ b) r := by
 unfold Nh
 by_cases h : r.2 = 0
 ·rw [if_pos h, if_pos rfl, if_pos h, List.append_assoc]
 ·rw [if_neg h, if_neg h, if_neg h]
theorem Afv (a b : List Step) : Nh a (b, 0) = (a ++ b, 0) := rfl
theorem Rw {a b : List Step} {e : Int} (h : e ≠ 0) : Nh a (b, e) = ([], e) := by unfold Nh; rw [if_neg h]
def Ade : List Bs → List Step × Int
 | [] => ([], 0)
 | [b] => if b = [] then ([], 0) else ([], 2)
 | b :: c :: r => if (Db b).2 = 0 then Nh [(Db b).1] (Ade (c :: r)) else ([], (Db b).2)
def Cm (t : Bs) : List Step × Int := Ade (Av 10 t)
theorem Acv : Cm [] = ([], 0) := rfl
theorem Qz {s : Bs} (h : (10 : UInt8) ∉ s) (h0 : s ≠ []) : Cm s = ([], 2) := by
 unfold Cm; rw [Hp h, Ade, if_neg h0]
theorem Kd {b r : Bs} (h : (10 : UInt8) ∉ b) : Cm (b ++ 10 :: r) = if (Db b).2 = 0 then Nh [(Db b).1] (Cm r) else ([], (Db b).2) := by
 unfold Cm
 rw [I9 h]
 cases e : Av 10 r with
 | nil => exact absurd e (Ki _ _)
 | cons c t => rfl
theorem Qy : ∀ {l : List Step}, (∀ s ∈ l, ¬ A0 s ∧ s.wf) → Cm (Et l) = (l.map Dw, 0)
 | [], _ => rfl
 | s :: r, h => by
  obtain ⟨h1, h2⟩ := h s (List.mem_cons_self ..)
  rw [F8, Kd (Sz s), Vg h1 h2, if_pos rfl, Qy (fun x hx => h x (List.mem_cons_of_mem _ hx))]
  rfl
theorem N1 (t : Bs) : t = [] ∨ (t ≠ [] ∧ (10 : UInt8) ∉ t) ∨ ∃ b r, t = b ++ 10 :: r ∧ (10 : UInt8) ∉ b := by
 by_cases h : (10 : UInt8) ∈ t
 ·obtain ⟨b, r, h1, h2⟩ := List.eq_append_cons_of_mem h
  exact .inr (.inr ⟨b, r, h1, h2⟩)
 ·by_cases h0 : t = []
  ·exact .inl h0
  ·exact .inr (.inl ⟨h0, h⟩)
theorem Acw : ∀ (n : Nat) {t : Bs}, t.length ≤ n → (Cm t).2 ≠ 0 → (Cm t).1 = [] := by
 intro n t hl h
 rcases N1 t with rfl | ⟨h0, hf⟩ | ⟨b, r, rfl, hf⟩
 ·exact rfl
 ·rw [Qz hf h0]
 ·rw [Kd hf] at h ⊢
  split
  ·rename_i e0
   rw [if_pos e0] at h
   unfold Nh at h ⊢
   split
   ·rename_i e1
    rw [if_pos e1] at h; exact absurd rfl h
   ·rfl
  ·rfl
theorem turns {l : List Step} {s : Bs} (hw : ∀ x ∈ l, x.wf) (h : Gz l = (s, 0)) : Cm s = (l.map Dw, 0) ∧ Gz (l.map Dw) = (s, 0) := by
 rcases Kl l with ⟨h1, h2⟩ | ⟨_, h2⟩
 ·rw [h2] at h
  injection h with h _
  subst h
  refine ⟨Qy fun x hx => ⟨h1 x hx, hw x hx⟩, ?_⟩
  rw [Hi (fun x hx => by obtain ⟨y, hy, e⟩ := List.mem_map.1 hx; rw [← e]; exact Yc (h1 y hy))]
  congr 1
  unfold Et
  rw [List.flatMap_map]
  simp only [U9]
 ·rw [h2] at h
  injection h with _ h
  exact absurd h (by decide)
end Go.Proofs.YtiofgjolhbgkiaaGreatDoor
namespace Go.Proofs.YtiofgjolhbgkiaaGreatDoor
abbrev RSt := List Bs × Bool
def hdW (st : RSt) : Bs := match st.1 with
 | [] => []
 | w :: _ => w
def rdW (st : RSt) : RSt := match st.1 with
 | [] => ([], false)
 | _ :: r => (r, st.2)
def vOf (w : Bs) : Int := match Go.Lib.atoiAll w with
 | .ok v => v
 | .range => Go.Lib.atoiSat w
 | _ => 0
def Ls (w : Bs) : Bool := (Gd w).isSome
def vN (st : RSt) : Int := vOf (hdW st)
def rdN (st : RSt) : RSt := ((rdW st).1, (rdW st).2 && Ls (hdW st))
def fin (s : Step) (st : RSt) : Step × Int := if st.2 = false ∨ 0 < st.1.length then (zStep, 2) else (s, 0)
def H2 (st : RSt) : Step × Int :=
 if A4 opns (hdW (rdN st)) = 0 ∧ (rdW (rdN st)).2 = true then (zStep, 1)
 else if A4 opns (hdW (rdN st)) = 2 ∨ A4 opns (hdW (rdN st)) = 3 then fin ⟨1, vN st, 0, 0, ⟨(A4 opns (hdW (rdN st)) : Nat), vN (rdW (rdN st)), vN (rdN (rdW (rdN st)))⟩⟩ (rdN (rdN (rdW (rdN st))))
 else fin ⟨1, vN st, 0, 0, ⟨(A4 opns (hdW (rdN st)) : Nat), vN (rdW (rdN st)), 0⟩⟩ (rdN (rdW (rdN st)))
def Eb (W : List Bs) : Step × Int :=
 if A4 kinds (hdW (W, true)) = 0 then (zStep, 1)
 else if A4 kinds (hdW (W, true)) = 1 then H2 (rdW (W, true))
 else if A4 kinds (hdW (W, true)) = 6 then fin ⟨6, vN (rdW (W, true)), 0, 0, zOp⟩ (rdN (rdW (W, true)))
 else if A4 kinds (hdW (W, true)) = 5 then fin ⟨5, 0, vN (rdW (W, true)), vN (rdN (rdW (W, true))), zOp⟩ (rdN (rdN (rdW (W, true))))
 else fin ⟨(A4 kinds (hdW (W, true)) : Nat), 0, vN (rdW (W, true)), 0, zOp⟩ (rdN (rdW (W, true)))
theorem Fn (w : Bs) : (Gd w = none ∧ Ls w = false) ∨ ∃ v, Gd w = some v ∧ Ls w = true ∧ vOf w = v := by
 cases h : Gd w with
 | none => exact .inl ⟨rfl, by unfold Ls; rw [h]; rfl⟩
 | some v =>
  refine .inr ⟨v, rfl, by unfold Ls; rw [h]; rfl, ?_⟩
  unfold Gd at h
  unfold vOf
  split at h
  ·rename_i u hu
   split at h
   ·injection h with h; simp only [hu, h]
   ·cases h
  ·cases h
theorem F0 {s : Step} {l : List Bs} : fin s (l, false) = (zStep, 2) := by unfold fin; rw [if_pos (.inl rfl)]
theorem Kh {s : Step} {w : Bs} {l : List Bs} {b : Bool} : fin s (w :: l, b) = (zStep, 2) := by unfold fin; rw [if_pos (.inr (by simp))]
theorem Ro {s : Step} : fin s ([], true) = (s, 0) := rfl
theorem Abp (l : List Bs) : ∃ l', rdN (l, false) = (l', false) := by
 cases l <;> exact ⟨_, rfl⟩
theorem Adp : ∀ (W : List Bs), H2 (W, true) = L8 W
 | [] => rfl
 | [a] => by
  unfold H2 L8
  have e1 : rdN ([a], true) = ([], Ls a) := rfl
  have e2 : ∀ b, rdW ([], b) = ([], false) := fun _ => rfl
  have e3 : ∀ b, rdN ([], b) = ([], false) := fun _ => rfl
  simp only [e1, e2, e3]
  rw [if_neg (by simp)]
  split <;> exact F0
 | a :: o :: t => by
  have e1 : rdN (a :: o :: t, true) = (o :: t, Ls a) := rfl
  have e2 : ∀ b, rdW (o :: t, b) = (t, b) := fun _ => rfl
  have e3 : ∀ b, hdW (o :: t, b) = o := fun _ => rfl
  have e4 : vN (a :: o :: t, true) = vOf a := rfl
  unfold H2 L8
  simp only [e1, e2, e3, e4]
  rcases Fn a with ⟨h1, h2⟩ | ⟨n, h1, h2, h3⟩
  ·rw [h1, h2, if_neg (by simp)]
   obtain ⟨l3, e3⟩ := Abp t
   obtain ⟨l4, e4⟩ := Abp l3
   rw [e3, e4]
   simp only
   split <;> exact F0
  rw [h1, h2, h3]
  simp only
  by_cases h0 : A4 opns o = 0
  ·rw [if_pos ⟨h0, by trivial⟩, if_pos h0]
  rw [if_neg (fun a => h0 a.1), if_neg h0]
  by_cases h23 : A4 opns o = 2 ∨ A4 opns o = 3
  ·rw [if_pos h23, if_pos h23]
   match t with
   | [] => exact F0
   | [x] =>
    have e5 : rdN (rdN ([x], true)) = ([], false) := rfl
    rw [e5]; exact F0
   | [x, y] =>
    have e5 : rdN (rdN ([x, y], true)) = ([], (Ls x && Ls y)) := rfl
    have e6 : vN ([x, y], true) = vOf x := rfl
    have e7 : vN (rdN ([x, y], true)) = vOf y := rfl
    rw [e5, e6, e7]
    simp only
    rcases Fn x with ⟨g1, g2⟩ | ⟨p, g1, g2, g3⟩
    ·rw [g1, g2]; exact F0
    rcases Fn y with ⟨k1, k2⟩ | ⟨q, k1, k2, k3⟩
    ·rw [g1, g2, k1, k2]; exact F0
    ·rw [g1, g2, k1, k2, g3, k3]; exact Ro
   | x :: y :: z :: r =>
    have e5 : ∃ b, rdN (rdN (x :: y :: z :: r, true)) = (z :: r, b) := ⟨_, rfl⟩
    obtain ⟨b, e5⟩ := e5
    rw [e5]; exact Kh
  ·rw [if_neg h23, if_neg h23]
   match t with
   | [] => exact F0
   | [x] =>
    have e5 : rdN ([x], true) = ([], Ls x) := by unfold rdN; rfl
    have e6 : vN ([x], true) = vOf x := rfl
    rw [e5, e6]
    simp only
    rcases Fn x with ⟨g1, g2⟩ | ⟨p, g1, g2, g3⟩
    ·rw [g1, g2]; exact F0
    ·rw [g1, g2, g3]; exact Ro
   | x :: y :: r =>
    have e5 : ∃ b, rdN (x :: y :: r, true) = (y :: r, b) := ⟨_, rfl⟩
    obtain ⟨b, e5⟩ := e5
    rw [e5]; exact Kh
theorem U8 {f : Int → Step} (r : List Bs) : fin (f (vN (r, true))) (rdN (r, true)) = match r with
  | [x] => match Gd x with
   | some p => (f p, 0)
   | none => (zStep, 2)
  | _ => (zStep, 2) := by
 match r with
 | [] => exact F0
 | [x] =>
  have e5 : rdN ([x], true) = ([], Ls x) := by unfold rdN; rfl
  have e6 : vN ([x], true) = vOf x := rfl
  rw [e5, e6]
  simp only
  rcases Fn x with ⟨g1, g2⟩ | ⟨p, g1, g2, g3⟩
  ·rw [g1, g2]; exact F0
  ·rw [g1, g2, g3]; exact Ro
 | x :: y :: t =>
  have e5 : ∃ b, rdN (x :: y :: t, true) = (y :: t, b) := ⟨_, rfl⟩
  obtain ⟨b, e5⟩ := e5
  rw [e5]; exact Kh
theorem Acm {f : Int → Int → Step} (r : List Bs) : fin (f (vN (r, true)) (vN (rdN (r, true)))) (rdN (rdN (r, true))) = match r with
  | [x, y] => match Gd x, Gd y with
   | some p, some q => (f p q, 0)
   | _, _ => (zStep, 2)
  | _ => (zStep, 2) := by
 match r with
 | [] => exact F0
 | [x] =>
  have e5 : rdN (rdN ([x], true)) = ([], false) := rfl
  rw [e5]; exact F0
 | [x, y] =>
  have e5 : rdN (rdN ([x, y], true)) = ([], (Ls x && Ls y)) := rfl
  have e6 : vN ([x, y], true) = vOf x := rfl
  have e7 : vN (rdN ([x, y], true)) = vOf y := rfl
  rw [e5, e6, e7]
  simp only
  rcases Fn x with ⟨g1, g2⟩ | ⟨p, g1, g2, g3⟩
  ·rw [g1, g2]; exact F0
  rcases Fn y with ⟨k1, k2⟩ | ⟨q, k1, k2, k3⟩
  ·rw [g1, g2, k1, k2]; exact F0
  ·rw [g1, g2, k1, k2, g3, k3]; exact Ro
 | x :: y :: z :: t =>
  have e5 : ∃ b, rdN (rdN (x :: y :: z :: t, true)) = (z :: t, b) := ⟨_, rfl⟩
  obtain ⟨b, e5⟩ := e5
  rw [e5]; exact Kh
theorem U2 : ∀ (W : List Bs), W ≠ [] → Eb W = Kz W
 | [], h => absurd rfl h
 | w :: r, _ => by
  have e1 : hdW (w :: r, true) = w := rfl
  have e2 : rdW (w :: r, true) = (r, true) := rfl
  unfold Eb Kz
  rw [e1, e2]
  simp only
  by_cases h0 : A4 kinds w = 0
  ·rw [if_pos h0, if_pos h0]
  rw [if_neg h0, if_neg h0]
  by_cases h1 : A4 kinds w = 1
  ·rw [if_pos h1, if_pos h1, Adp]
  rw [if_neg h1, if_neg h1]
  by_cases h6 : A4 kinds w = 6
  ·rw [if_pos h6, if_neg (by omega)]
   simp only [if_pos h6]
   exact U8 (f := fun p => ⟨6, p, 0, 0, zOp⟩) r
  rw [if_neg h6]
  by_cases h5 : A4 kinds w = 5
  ·rw [if_pos h5, if_pos h5]
   exact Acm (f := fun p q => ⟨5, 0, p, q, zOp⟩) r
  ·rw [if_neg h5, if_neg h5]
   simp only [if_neg h6]
   exact U8 (f := fun p => ⟨(A4 kinds w : Nat), 0, p, 0, zOp⟩) r
end Go.Proofs.YtiofgjolhbgkiaaGreatDoor
namespace Go.Proofs.YtiofgjolhbgkiaaGreatDoor
open Go
section
variable {P : Program} {n : Nat} {Q : Exit → Act → World → Prop} {Sh : Rho → (Nat → Bool) → List Chunk} {R0 : List Fact} {al0 : List (Nat × Value)}
variable {ops : Array Oper} {i : Nat} {rest : List Oper} {its : List Item} {d : Nat} {x y : Operand} {T ty : TypeId} {pos : String} {aft : Array Edge}
def Hz (ops : Array Oper) (Sh : Rho → (Nat → Bool) → List Chunk) (i : Nat) : Prop := ∀ ρ g S, S i = false → (∀ j, Bef ops i j → S j = false) → Sh (Rho.set ρ i g) (upS S i) = Sh ρ S
theorem Z4 {γ : Type} [Gh γ] {o : Oper} {val : γ → Value} {F : γ → List Fact} {C : γ → List Chunk} (hg : o.guard = none) (hd : o.dst = some d) (hSh : Hz ops Sh i)
  (h : ∀ ρ S a L' R' w (K : Act → World → Prop), Now ops n Sh R0 al0 i its o ρ S a L' R' w → (∀ g w', St (C g ++ (Sh ρ S ++ L')) (F g ++ R') w' → K (a.put (some d) (val g)) w') → o.wp P a w K Q)
  (k : DJ P n ops Q Sh R0 al0 (i + 1) rest (⟨i, some d, fun ρ => val (Gh.dec (ρ i)), fun ρ => F (Gh.dec (ρ i)), fun ρ => C (Gh.dec (ρ i))⟩ :: its)) : DJ P n ops Q Sh R0 al0 i (o :: rest) its := by
 refine dj ⟨⟨i, some d, fun ρ => val (Gh.dec (ρ i)), fun ρ => F (Gh.dec (ρ i)), fun ρ => C (Gh.dec (ρ i))⟩, rfl, hd.symm, Ind.self (h := fun g => val (Gh.dec g)), Ind.self (h := fun g => F (Gh.dec g)), Ind.self (h := fun g => C (Gh.dec g)), ?_, k⟩
 intro ρ S a L' R' w K hS hbef haft hag hdep hbase hst hK
 rw [if_pos (by simp [Region.wanted, hg])]
 left
 refine h ρ S a L' R' w K ⟨hS, hag, hdep, hbase, hst⟩ ?_
 intro g w' hs'
 have e : (Rho.set ρ i (Gh.enc g)) i = Gh.enc g := by simp [Rho.set]
 have := hK (Gh.enc g) w'
 simp only [e, Gh.ok, hd, hSh ρ (Gh.enc g) S hS haft] at this
 refine this (hs'.perm ?_)
 rw [← List.append_assoc, ← List.append_assoc]
 exact List.Perm.append_right _ List.perm_append_comm
theorem e_p {op : Oper} {v : Rho → Value} (hp : ∀ ρ S, Ao P n (Dt its al0 ρ) (Sh ρ S) R0 op (v ρ)) (hi : Ind ops i v) (hSh : Hz ops Sh i)
  (k : DJ P n ops Q Sh R0 al0 (i + 1) rest (⟨i, some d, v, fun _ => [], fun _ => []⟩ :: its)) (hd : op.dst = some d := by exact rfl) : DJ P n ops Q Sh R0 al0 i (op :: rest) its := by
 refine dj ⟨⟨i, some d, v, fun _ => [], fun _ => []⟩, rfl, hd.symm, hi, Ind.const _, Ind.const _, ?_, k⟩
 intro ρ S a L' R' w K hS hbef haft hag hdep hbase hst hK
 have hp0 := hp ρ S
 rw [if_pos (by simp [Region.wanted, hp0.1])]
 left
 unfold Oper.wp
 have h : Now ops n Sh R0 al0 i its op ρ S a L' R' w := ⟨hS, hag, hdep, hbase, hst⟩
 rw [hp0.2 _ w (fun x hx u hu => Ca h.agree hx hu) (h.st.fewer h.base), Oper.upon_value]
 have hsh := hSh ρ (ρ i) S hS haft
 rw [Rho.set_same] at hsh
 have := hK (ρ i) w
 rw [Rho.set_same] at this
 exact this (by rw [hsh]; exact hst)
theorem H6 {op : Oper} {v : Value} (hp : ∀ ρ S, S i = false → (∀ j, Bef ops j i → S j = true) → (∀ j, Bef ops i j → S j = false) → Ao P n (Dt its al0 ρ) (Sh ρ S) R0 op v) (hSh : Hz ops Sh i)
  (k : DJ P n ops Q Sh R0 al0 (i + 1) rest (⟨i, some d, fun _ => v, fun _ => [], fun _ => []⟩ :: its)) (hpure : op.guard = none := by exact rfl) (hd : op.dst = some d := by exact rfl) : DJ P n ops Q Sh R0 al0 i (op :: rest) its := by
 refine dj ⟨⟨i, some d, fun _ => v, fun _ => [], fun _ => []⟩, rfl, hd.symm, Ind.const _, Ind.const _, Ind.const _, ?_, k⟩
 intro ρ S a L' R' w K hS hbef haft hag hdep hbase hst hK
 have hp0 := hp ρ S hS hbef haft
 rw [if_pos (by simp [Region.wanted, hp0.1])]
 left
 unfold Oper.wp
 have h : Now ops n Sh R0 al0 i its op ρ S a L' R' w := ⟨hS, hag, hdep, hbase, hst⟩
 rw [hp0.2 _ w (fun x hx u hu => Ca h.agree hx hu) (h.st.fewer h.base), Oper.upon_value]
 have hsh := hSh ρ (ρ i) S hS haft
 rw [Rho.set_same] at hsh
 have := hK (ρ i) w
 rw [Rho.set_same] at this
 exact this (by rw [hsh]; exact hst)
theorem Cr {s : Bool} {x y : List Value} {f : Nat} {c : Value} (hx : x[f]? = some c) (hy : y[f]? = some c) : (bif s then x else y)[f]? = some c := by cases s <;> assumption
theorem Kb {op : Oper} {v : Value} (hp : ∀ ρ S, Ao P n (Dt its al0 ρ) (Sh ρ S) R0 op v) (hSh : Hz ops Sh i)
 (k : DJ P n ops Q Sh R0 al0 (i + 1) rest (⟨i, some d, fun _ => v, fun _ => [], fun _ => []⟩ :: its)) (hd : op.dst = some d := by exact rfl) : DJ P n ops Q Sh R0 al0 i (op :: rest) its := e_p hp (Ind.const _) hSh k hd
theorem Fr {γ : Type} [Gh γ] {val : γ → Value} {F : γ → List Fact} {f : FuncId} {args : List Operand} {ts : Array TypeId} {vs : Rho → List Value} (hf : ∀ args w, (callFunc f args).run P w = .ok (.enter f args) w)
  (ha : ∀ ρ, evL n (Dt its al0 ρ) args = some (vs ρ)) (hc : ∀ ρ L' R' w, Deps ops R0 its i ρ R' → St L' R' w → Calls P f (vs ρ).toArray w (Bh val (fun _ => L') (fun g => F g ++ R'))) (hSh : Hz ops Sh i)
  (k : DJ P n ops Q Sh R0 al0 (i + 1) rest (⟨i, some d, fun ρ => val (Gh.dec (ρ i)), fun ρ => F (Gh.dec (ρ i)), fun ρ => []⟩ :: its)) :
  DJ P n ops Q Sh R0 al0 i (⟨some d, .call { callee := .value (.func f), args := args.toArray, argTypes := ts }, ty, pos, aft, none⟩ :: rest) its :=
 Z4 (C := fun _ => []) rfl rfl hSh (fun ρ S a L' R' w K h hK => by
  unfold Oper.wp
  rw [I5 hf rfl, Oper.upon_enter, List.map_toArray, Ft h.agree (fun x hx => by simp [Op.operands, Call.operands, hx]) (ha ρ)]
  refine (hc ρ _ _ w ⟨h.base, h.deps⟩ h.st).mono ?_
  rintro e w' ⟨g, rfl, hs'⟩
  exact hK g w' hs') k
theorem Jq {α : Type} [Enc α] {t el : TypeId} {sz bytes len : Nat} {z : Value} {parts : List (Nat × Operand)} {vs : Rho → List Value} (xs : List α) (he : ElemOf P t el sz z bytes) (hsz : Enc.sz α = sz)
  (ha : ∀ ρ, evL n (Dt its al0 ρ) (parts.map (·.2)) = some (vs ρ)) (hidx : parts.map (·.1) = List.range' 0 len) (hlv : ∀ ρ, (vs ρ).length = len) (hsmall : Nat.ble (len * sz) 1000 = true) (hsm2 : Nat.ble len 1000 = true)
  (hrd : ∀ ρ R', Deps ops R0 its i ρ R' → ∀ j, (∀ q ∈ R', q.p j) → RdV xs (vs ρ) j) (hSh : Hz ops Sh i)
  (k : DJ P n ops Q Sh R0 al0 (i + 1) rest (⟨i, some d, fun ρ => (Gh.dec (ρ i) : Value), fun ρ => [sl (Gh.dec (ρ i) : Value) xs], fun _ => []⟩ :: its)) :
  DJ P n ops Q Sh R0 al0 i (⟨some d, .buildSlice t len parts.toArray, ty, pos, aft, none⟩ :: rest) its :=
 Z4 (γ := Value) (val := fun v => v) (F := fun v => [sl v xs]) (C := fun _ => []) rfl rfl hSh (fun ρ S ac L' R' w K h hK => by
  obtain ⟨j, hj, hrj⟩ := h.st.ex
  have hrd' := hrd ρ R' ⟨h.base, h.deps⟩
  obtain ⟨h1, h2, h3⟩ := (hrd' j hrj).list
  have hlen := hlv ρ
  have hb := Nat.le_of_ble_eq_true hsmall
  have hb2 := Nat.le_of_ble_eq_true hsm2
  have hrun := E4 (vs := vs ρ) he (fun v hv => by rw [h2 v hv, hsz]) (by rw [hlen]; exact hb) w
  have e : (execOp ac.eval ⟨some d, .buildSlice t len parts.toArray, ty, pos, aft, none⟩).run P w = .ok (.value (.slice (some ⟨w.heap.size, 0, none⟩) len len)) (w.alloc (.cells ((vs ρ).flatMap fun v => v.cells.toList).toArray el)) := by
   show (Instr.buildSlice t len (parts.toArray.map fun (i, x) => (i, ac.eval x)) >>= fun v => Pure.pure (Next.value v)).run P w = _
   have hp : (parts.toArray.map fun (i, x) => (i, ac.eval x)) = ((parts.map (·.1)).zip (vs ρ)).toArray := by
    rw [← Ft h.agree (fun x hx => by simpa [Op.operands] using hx) (ha ρ)]
    simp only [List.map_toArray, List.map_map, List.zip_map', Function.comp_def]
   rw [hp, hidx, Sem.run_bind, ← hlen, hrun]; rfl
  unfold Oper.wp
  rw [e, Oper.upon_value]
  refine hK _ _ ?_
  obtain ⟨m, j', hd, hmw, hjw, hst, hr⟩ := h.st
  have hnew : St (row el (.slice (some ⟨w.heap.size, 0, none⟩) len len) xs :: (Sh ρ S ++ L')) R' (w.alloc (.cells ((vs ρ).flatMap fun v => v.cells.toList).toArray el)) := by
   obtain ⟨g1, g2, g3⟩ := (hrd' j' hr).list
   have hcl : ((vs ρ).flatMap fun v => v.cells.toList).length = len * sz := by rw [g3.len, g1, hlen, hsz]
   exact St.newC hd hmw hjw hst hr rfl rfl rfl ⟨by rw [g1, hlen]; have : maxN = 16777216 := rfl; omega, .inr ⟨w.heap.size, len, _, _, by rw [g1, hlen], Dv _ _, by rw [g1, hlen]; exact Nat.le_refl _, by unfold maxLen; omega, by rw [hsz]; simpa using hcl, rfl, by
    rw [g1, hlen, hsz, ← hcl, List.toList_toArray, List.take_length]; exact g3⟩⟩
  exact hnew.shut) k
theorem Jr {z : Value} {cs : List Value} (hz : ∀ w, (zeroValue T).run P w = .ok z w) (hv : z.cells = cs.toArray) (hSh : ∀ ρ (b : Nat) S, S i = false → (∀ j, Bef ops i j → S j = false) → (Sh (Rho.set ρ i (Gh.enc b)) (upS S i)).Perm (blk b T cs :: Sh ρ S))
 (k : DJ P n ops Q Sh R0 al0 (i + 1) rest (⟨i, some d, fun ρ => bp (Gh.dec (γ := Nat) (ρ i)) 0, fun _ => [], fun _ => []⟩ :: its)) : DJ P n ops Q Sh R0 al0 i (⟨some d, .alloc T, ty, pos, aft, none⟩ :: rest) its := dj (Wg hz hv hSh k)
theorem Afp {f : Nat} {vs us : Rho → List Value} {v : Rho → Value} {sz : Nat} {T0 : TypeId} (bb : Rho → Nat) (hsz : ∀ w, (sizeOf T).run P w = .ok sz w) (hx : ∀ ρ, ev n (Dt its al0 ρ) x = some (bp (bb ρ) f)) (hy : ∀ ρ, ev n (Dt its al0 ρ) y = some (v ρ)) (hv : ∀ ρ, (v ρ).cells = (us ρ).toArray) (hl : ∀ ρ, (us ρ).length = sz)
  (h1 : ∀ ρ R' w L', Deps ops R0 its i ρ R' → St L' R' w → ∀ u ∈ us ρ, u.oneCell' = true) (hf : ∀ ρ, Nat.ble (f + sz) (vs ρ).length = true)
  (hSh : ∀ ρ g S, S i = false → (∀ j, Bef ops j i → S j = true) → (∀ j, Bef ops i j → S j = false) → ∃ L1, (Sh ρ S).Perm (blk (bb ρ) T0 (vs ρ) :: L1) ∧ (Sh (Rho.set ρ i g) (upS S i)).Perm (blk (bb ρ) T0 ((vs ρ).take f ++ us ρ ++ (vs ρ).drop (f + sz)) :: L1))
  (k : DJ P n ops Q Sh R0 al0 (i + 1) rest (⟨i, none, fun _ => undef, fun _ => [], fun _ => []⟩ :: its)) : DJ P n ops Q Sh R0 al0 i (⟨none, .store T x y, ty, pos, aft, none⟩ :: rest) its := by
 refine dj ⟨⟨i, none, fun _ => undef, fun _ => [], fun _ => []⟩, rfl, rfl, Ind.const _, Ind.const _, Ind.const _, ?_, k⟩
 intro ρ S a L' R' w K hS hbef haft hag hdep hbase hst hK
 rw [if_pos (by simp [Region.wanted])]
 left
 unfold Oper.wp
 obtain ⟨L1, p1, p2⟩ := hSh ρ (ρ i) S hS hbef haft
 have hs' : St (blk (bb ρ) T0 (vs ρ) :: (L1 ++ L')) R' w := hst.perm (p1.append_right L')
 have hone := h1 ρ R' w _ ⟨hbase, hdep⟩ hst
 have hfit : f + (us ρ).length ≤ (vs ρ).length := by rw [hl]; exact Nat.le_of_ble_eq_true (hf ρ)
 have e : (execOp a.eval ⟨none, .store T x y, ty, pos, aft, none⟩).run P w = .ok .skip (w.setRow (bb ρ) ((vs ρ).take f ++ us ρ ++ (vs ρ).drop (f + (us ρ).length)).toArray) := by
  refine E0 ?_
  rw [Ca hag (by simp [Op.operands]) (hx ρ), Ca hag (by simp [Op.operands]) (hy ρ)]
  have := run_storeCells_at P (bb ρ) f T0 (us ρ) 0 (vs ρ).toArray w hs'.blk_get (by simpa using hfit) hone
  simp only [Nat.add_zero] at this
  have hl' := hl ρ
  simp [Instr.storeAt, Instr.sureAddr, storeVar, hsz, hv, bp, hl', this]
 rw [e, Oper.upon_skip]
 refine hK (ρ i) _ ?_
 have hnew := hs'.blk_set (Ck (us := (vs ρ).take f ++ us ρ ++ (vs ρ).drop (f + (us ρ).length)) hs'.blk_get).1 (Ck hs'.blk_get).2 rfl rfl
 rw [hl] at hnew ⊢
 exact hnew.perm (p2.symm.append_right L')
end
inductive Ins : List Chunk → List Chunk → Chunk → Prop
 | hd {r x} : Ins ([x] ++ r) r x
 | hc {r x} : Ins (x :: r) r x
 | tl {r r' x c} : Ins r' r x → Ins (c :: r') (c :: r) x
 | ap {r r' x P} : Ins r' r x → Ins (P ++ r') (P ++ r) x
theorem Ins.perm {l' l : List Chunk} {x : Chunk} (h : Ins l' l x) : l'.Perm (x :: l) := by
 induction h with
 | hd => exact .refl _
 | hc => exact .refl _
 | tl _ ih => exact (ih.cons _).trans (.swap ..)
 | ap _ ih => exact (ih.append_left _).trans List.perm_middle
inductive Pos : List Chunk → List Chunk → Chunk → Chunk → List Chunk → Prop
 | hd {r x x'} : Pos ([x] ++ r) ([x'] ++ r) x x' r
 | hc {r x x'} : Pos (x :: r) (x' :: r) x x' r
 | tl {r r' x x' c L1} : Pos r r' x x' L1 → Pos (c :: r) (c :: r') x x' (c :: L1)
 | ap {r r' x x' P L1} : Pos r r' x x' L1 → Pos (P ++ r) (P ++ r') x x' (P ++ L1)
theorem Pos.ex {l l' L1 : List Chunk} {x x' : Chunk} (h : Pos l l' x x' L1) : ∃ L1, l.Perm (x :: L1) ∧ l'.Perm (x' :: L1) := by
 induction h with
 | hd => exact ⟨_, .refl _, .refl _⟩
 | hc => exact ⟨_, .refl _, .refl _⟩
 | tl _ ih => obtain ⟨L1, h1, h2⟩ := ih; exact ⟨_ :: L1, (h1.cons _).trans (.swap ..), (h2.cons _).trans (.swap ..)⟩
 | ap _ ih => obtain ⟨L1, h1, h2⟩ := ih; exact ⟨_ ++ L1, (h1.append_left _).trans List.perm_middle, (h2.append_left _).trans List.perm_middle⟩
section
variable {P : Program} {n : Nat} {ops : Array Oper} {Q : Exit → Act → World → Prop} {rest : List Oper} {L L' : List Chunk} {R : List Fact} {al : List (Nat × Value)} {d : Nat} {x y : Operand} {T ty : TypeId} {pos : String} {aft : Array Edge}
theorem s_W {α : Type} [Enc α] {T' : TypeId} {v : Value} {xs : List α} {i sz : Nat} {cs : List Value} (e' : α) (hsz : ∀ w, (sizeOf T).run P w = .ok sz w) (hx : ev n al x = some (ep v sz i 0)) (hy : ev n al y = some (.agg cs.toArray)) (hes : Enc.sz α = sz) (hp : Pick L (row T' v xs) L') (hi : i < xs.length) (hrd : ∀ j, (∀ q ∈ R, q.p j) → Enc.rd e' cs j)
  (k : J P n ops Q rest (row T' v (xs.set i e') :: L') R al) : J P n ops Q (⟨none, .store T x y, ty, pos, aft, none⟩ :: rest) L R al := fun B w hs => by
 obtain ⟨j, _, hr⟩ := hs.ex
 have hl := Enc.len _ _ _ (hrd j hr)
 subst hes
 obtain ⟨e, he⟩ : ∃ e, xs[i]? = some e := ⟨xs[i], List.getElem?_eq_getElem hi⟩
 refine Hj (α := α) (f := 0) (cs := cs) (e := e) (e' := e') hsz hx hy rfl hl (Enc.one _ _ _ (hrd j hr)) hp he (fun ds m hr => by rw [Enc.len _ _ _ hr, hl]; omega) (fun j hj ds hr => ?_) k B w hs
 have hd := Enc.len _ _ _ hr
 have : ds.take 0 ++ cs ++ ds.drop (0 + cs.length) = cs := by rw [List.drop_of_length_le (by omega)]; simp
 rw [this]; exact hrd j hj
theorem C9 {u : Value} {e : Entry} (hm : sl u e.last ∈ R) (hw : e.wf) : ∀ j, (∀ q ∈ R, q.p j) → Enc.rd e (e.cells u) j := fun j h => ⟨u, rfl, h _ hm, hw⟩
theorem Abq {u : Value} {e : Core} (hm : sl u e.lines ∈ R) (hw : e.wait.wf) : ∀ j, (∀ q ∈ R, q.p j) → Enc.rd e (e.cells u) j := fun j h => ⟨u, rfl, h _ hm, hw⟩
theorem Uz {e : Msg} (hw : e.wf) : ∀ j, (∀ q ∈ R, q.p j) → RdV [e] [.agg e.cells.toArray] j := fun j _ => ⟨⟨_, rfl, rfl, hw⟩, trivial⟩
theorem N7 {e : Done} (hw : e.wf) : ∀ j, (∀ q ∈ R, q.p j) → RdV [e] [.agg e.cells.toArray] j := fun j _ => ⟨⟨_, rfl, rfl, hw⟩, trivial⟩
end
end Go.Proofs.YtiofgjolhbgkiaaGreatDoor
namespace Go.Proofs.YtiofgjolhbgkiaaGreatDoor
open Go
section
variable {P : Program} {n : Nat} {Q : Exit → Act → World → Prop} {Sh : Rho → (Nat → Bool) → List Chunk} {R0 : List Fact} {al0 : List (Nat × Value)}
variable {ops : Array Oper} {i : Nat} {rest : List Oper} {its : List Item} {x y : Operand} {T ty : TypeId} {pos : String} {aft : Array Edge}
theorem Cy {f : Nat} {vs : Rho → List Value} {v : Rho → Value} {T0 : TypeId} (bb : Rho → Nat) (hsz : ∀ w, (sizeOf T).run P w = .ok 1 w) (hx : ∀ ρ, ev n (Dt its al0 ρ) x = some (bp (bb ρ) f)) (hy : ∀ ρ, ev n (Dt its al0 ρ) y = some (v ρ))
  (h1 : ∀ ρ S R' w L', (∀ j, Bef ops j i → S j = true) → Deps ops R0 its i ρ R' → St (Sh ρ S ++ L') R' w → (v ρ).oneCell' = true) (hf : ∀ ρ, Nat.ble (f + 1) (vs ρ).length = true)
  (hSh : ∀ ρ g S, S i = false → (∀ j, Bef ops j i → S j = true) → (∀ j, Bef ops i j → S j = false) → ∃ L1, (Sh ρ S).Perm (blk (bb ρ) T0 (vs ρ) :: L1) ∧ (Sh (Rho.set ρ i g) (upS S i)).Perm (blk (bb ρ) T0 ((vs ρ).take f ++ [v ρ] ++ (vs ρ).drop (f + 1)) :: L1))
  (k : DJ P n ops Q Sh R0 al0 (i + 1) rest (⟨i, none, fun _ => undef, fun _ => [], fun _ => []⟩ :: its)) : DJ P n ops Q Sh R0 al0 i (⟨none, .store T x y, ty, pos, aft, none⟩ :: rest) its := by
 refine dj ⟨⟨i, none, fun _ => undef, fun _ => [], fun _ => []⟩, rfl, rfl, Ind.const _, Ind.const _, Ind.const _, ?_, k⟩
 intro ρ S a L' R' w K hS hbef haft hag hdep hbase hst hK
 rw [if_pos (by simp [Region.wanted])]
 left
 unfold Oper.wp
 obtain ⟨L1, p1, p2⟩ := hSh ρ (ρ i) S hS hbef haft
 have hs' : St (blk (bb ρ) T0 (vs ρ) :: (L1 ++ L')) R' w := hst.perm (p1.append_right L')
 have hone := h1 ρ S R' w _ hbef ⟨hbase, hdep⟩ hst
 have hone' : ∀ u ∈ [v ρ], u.oneCell' = true := by intro u hu; cases List.mem_singleton.1 hu; exact hone
 have hfit : f + [v ρ].length ≤ (vs ρ).length := Nat.le_of_ble_eq_true (hf ρ)
 have hc := Lg hone
 have e : (execOp a.eval ⟨none, .store T x y, ty, pos, aft, none⟩).run P w = .ok .skip (w.setRow (bb ρ) ((vs ρ).take f ++ [v ρ] ++ (vs ρ).drop (f + 1)).toArray) := by
  refine E0 ?_
  rw [Ca hag (by simp [Op.operands]) (hx ρ), Ca hag (by simp [Op.operands]) (hy ρ)]
  have := run_storeCells_at P (bb ρ) f T0 [v ρ] 0 (vs ρ).toArray w hs'.blk_get (by simpa using hfit) hone'
  simp only [Nat.add_zero, List.length_cons, List.length_nil, Nat.zero_add] at this
  simp [Instr.storeAt, Instr.sureAddr, storeVar, hsz, hc, bp, this]
 rw [e, Oper.upon_skip]
 refine hK (ρ i) _ ?_
 have hnew := hs'.blk_set (Ck (us := (vs ρ).take f ++ [v ρ] ++ (vs ρ).drop (f + 1)) hs'.blk_get).1 (Ck hs'.blk_get).2 rfl rfl
 exact hnew.perm (p2.symm.append_right L')
theorem e_pd {op : Oper} {d : Nat} {v : Rho → Value} (hp : ∀ ρ S R' L' w, Deps ops R0 its i ρ R' → St (Sh ρ S ++ L') R' w → Ao P n (Dt its al0 ρ) (Sh ρ S) R0 op (v ρ)) (hi : Ind ops i v) (hSh : Hz ops Sh i)
  (k : DJ P n ops Q Sh R0 al0 (i + 1) rest (⟨i, some d, v, fun _ => [], fun _ => []⟩ :: its)) (hg : op.guard = none := by exact rfl) (hd : op.dst = some d := by exact rfl) : DJ P n ops Q Sh R0 al0 i (op :: rest) its := by
 refine dj ⟨⟨i, some d, v, fun _ => [], fun _ => []⟩, rfl, hd.symm, hi, Ind.const _, Ind.const _, ?_, k⟩
 intro ρ S a L' R' w K hS hbef haft hag hdep hbase hst hK
 have hp0 := hp ρ S R' L' w ⟨hbase, hdep⟩ hst
 rw [if_pos (by simp [Region.wanted, hg])]
 left
 unfold Oper.wp
 have h : Now ops n Sh R0 al0 i its op ρ S a L' R' w := ⟨hS, hag, hdep, hbase, hst⟩
 rw [hp0.2 _ w (fun x hx u hu => Ca h.agree hx hu) (h.st.fewer h.base), Oper.upon_value]
 have hsh := hSh ρ (ρ i) S hS haft
 rw [Rho.set_same] at hsh
 have := hK (ρ i) w
 rw [Rho.set_same] at this
 exact this (by rw [hsh]; exact hst)
theorem A8 {α : Type} [Enc α] {L L' : List Chunk} {R : List Fact} {w : World} {T : TypeId} {v : Value} {xs : List α} (hp : Pick L (row T v xs) L') (hs : St L R w) : v.oneCell' = true := isSlice.one (St.fact (List.Mem.head _) (hs.pick hp).shut)
theorem Dl {α : Type} [Enc α] {f k sz : Nat} {hv : Value} {xs : List α} {vs : Rho → List Value} {v : Rho → Value} {T0 : TypeId} (hes : Enc.sz α = sz) (hsz : ∀ w, (sizeOf T).run P w = .ok 1 w) (hx : ∀ ρ, ev n (Dt its al0 ρ) x = some (ep hv sz k f)) (hy : ∀ ρ, ev n (Dt its al0 ρ) y = some (v ρ))
  (h1 : ∀ ρ S R' w L', (∀ j, Bef ops j i → S j = true) → Deps ops R0 its i ρ R' → St (Sh ρ S ++ L') R' w → (v ρ).oneCell' = true) (hf : ∀ ρ, Nat.ble (f + 1) (vs ρ).length = true)
  (hSh : ∀ ρ g S, S i = false → (∀ j, Bef ops j i → S j = true) → (∀ j, Bef ops i j → S j = false) → ∃ L1, (Sh ρ S).Perm (foc T0 hv xs k (vs ρ) :: L1) ∧ (Sh (Rho.set ρ i g) (upS S i)).Perm (foc T0 hv xs k ((vs ρ).take f ++ [v ρ] ++ (vs ρ).drop (f + 1)) :: L1))
  (kk : DJ P n ops Q Sh R0 al0 (i + 1) rest (⟨i, none, fun _ => undef, fun _ => [], fun _ => []⟩ :: its)) : DJ P n ops Q Sh R0 al0 i (⟨none, .store T x y, ty, pos, aft, none⟩ :: rest) its := by
 refine dj ⟨⟨i, none, fun _ => undef, fun _ => [], fun _ => []⟩, rfl, rfl, Ind.const _, Ind.const _, Ind.const _, ?_, kk⟩
 intro ρ S a L' R' w K hS hbef haft hag hdep hbase hst hK
 rw [if_pos (by simp [Region.wanted])]
 left
 unfold Oper.wp
 obtain ⟨L1, p1, p2⟩ := hSh ρ (ρ i) S hS hbef haft
 have hs' : St (foc T0 hv xs k (vs ρ) :: (L1 ++ L')) R' w := hst.perm (p1.append_right L')
 have hone := h1 ρ S R' w _ hbef ⟨hbase, hdep⟩ hst
 have hone' : ∀ u ∈ [v ρ], u.oneCell' = true := by intro u hu; cases List.mem_singleton.1 hu; exact hone
 have hfit : f + [v ρ].length ≤ (vs ρ).length := Nat.le_of_ble_eq_true (hf ρ)
 have hc := Lg hone
 subst hes
 obtain ⟨g, cap, cur, hv', hg, hfit', hst'⟩ := Ow hs' hone' hfit
 have e : (execOp a.eval ⟨none, .store T x y, ty, pos, aft, none⟩).run P w = .ok .skip (w.setRow g (cur.toList.take (k * Enc.sz α + f) ++ [v ρ] ++ cur.toList.drop (k * Enc.sz α + f + [v ρ].length)).toArray) := by
  refine E0 ?_
  rw [Ca hag (by simp [Op.operands]) (hx ρ), Ca hag (by simp [Op.operands]) (hy ρ), hv', Lu, Gi]
  have := run_storeCells_at P g (k * Enc.sz α + f) T0 [v ρ] 0 cur w hg (by simpa using hfit') hone'
  simp only [Nat.add_zero, List.length_cons, List.length_nil, Nat.zero_add] at this ⊢
  simp [Instr.storeAt, Instr.sureAddr, storeVar, hsz, hc, this]
 rw [e, Oper.upon_skip]
 refine hK (ρ i) _ ?_
 exact hst'.perm (p2.symm.append_right L')
theorem Dx {α : Type} [Enc α] {t e : TypeId} {d sz bytes : Nat} {z : Value} {xs ys : List α} {v : Value} {u : Rho → Value} (he : ElemOf P t e sz z bytes) (hx : ∀ ρ, ev n (Dt its al0 ρ) x = some v) (hy : ∀ ρ, ev n (Dt its al0 ρ) y = some (u ρ)) (hsz : Enc.sz α = sz) (hpos : 0 < sz)
  (hm : ∀ ρ R', Deps ops R0 its i ρ R' → sl (u ρ) ys ∈ R') (hb : xs.length + ys.length ≤ maxN)
  (hSh : ∀ ρ (g : Value) S, S i = false → (∀ j, Bef ops j i → S j = true) → (∀ j, Bef ops i j → S j = false) → ∃ L1, (Sh ρ S).Perm (row e v xs :: L1) ∧ (Sh (Rho.set ρ i (Gh.enc g)) (upS S i)).Perm (row e g (xs ++ ys) :: L1))
  (k : DJ P n ops Q Sh R0 al0 (i + 1) rest (⟨i, some d, fun ρ => (Gh.dec (ρ i) : Value), fun _ => [], fun _ => []⟩ :: its)) :
  DJ P n ops Q Sh R0 al0 i (⟨some d, .call { callee := .builtin .append, args := #[x, y], argTypes := #[t, t] }, ty, pos, aft, none⟩ :: rest) its := by
 refine dj ⟨⟨i, some d, fun ρ => (Gh.dec (ρ i) : Value), fun _ => [], fun _ => []⟩, rfl, rfl, Ind.self (h := fun g => (Gh.dec g : Value)), Ind.const _, Ind.const _, ?_, k⟩
 intro ρ S a L' R' w K hS hbef haft hag hdep hbase hst hK
 rw [if_pos (by simp [Region.wanted])]
 left
 unfold Oper.wp
 obtain ⟨L1, p1, _⟩ := hSh ρ undef S hS hbef haft
 have hs' : St (row e v xs :: (L1 ++ L')) R' w := hst.perm (p1.append_right L')
 obtain ⟨v', w', h1, h2⟩ := Jt (ty := ty) he hsz hpos hs' (hm ρ R' ⟨hbase, hdep⟩) hb
 have hx' := Ca hag (by simp [Op.operands, Call.operands]) (hx ρ)
 have hy' := Ca hag (by simp [Op.operands, Call.operands]) (hy ρ)
 rw [E1 (w' := w') (v := v') (by rw [hx', hy']; exact h1), Oper.upon_value]
 obtain ⟨L2, q1, q2⟩ := hSh ρ v' S hS hbef haft
 have e2 : (Rho.set ρ i (Gh.enc v')) i = Gh.enc v' := by simp [Rho.set]
 have h3 := h2
 have hL : L1.Perm L2 := (List.perm_cons _).1 (p1.symm.trans q1)
 have := hK (Gh.enc v') w' ((h3.perm ((hL.append_right L').cons _)).perm (by
  refine List.Perm.trans ?_ (q2.symm.append_right L')
  exact List.Perm.refl _))
 simp only [e2, Gh.ok] at this
 exact this
end
end Go.Proofs.YtiofgjolhbgkiaaGreatDoor
namespace Go.Proofs.YtiofgjolhbgkiaaGreatDoor
open Go
open Go.Lib (itoa atoiAll)
abbrev toW (b : Bs) : Wd := b
def okA (w : Bs) : Bool := match atoiAll w with
 | .ok _ => true
 | _ => false
def erV (b : Bool) (g : TypeId × Value) : Value := bif b then .nilIface else .iface g.1 g.2
theorem Li (l : Bs) : (Ba l).data.toList = l := rfl
theorem Acd (l : List Bs) : (l.map Ba).map (·.data.toList) = l := by
 rw [List.map_map]
 exact List.map_id l
theorem Abm (w : Bs) : An (vOf w) := by
 unfold vOf
 cases h : atoiAll w
 ·exact Xc h
 ·show An 0; exact ⟨by decide, by decide⟩
 ·unfold Go.Lib.atoiSat; simp only; split <;> exact ⟨by decide, by decide⟩
theorem Adt (w : Bs) : Ls w = (okA w && decide (itoa (vOf w) = w)) := by
 unfold Ls Gd okA vOf
 cases h : atoiAll w
 ·rename_i v; by_cases e : itoa v = w <;> simp [e]
 ·rfl
 ·rfl
theorem num3 (w : Bs) : (okA w = true ∧ itoa (vOf w) = w) ∨ (okA w = true ∧ itoa (vOf w) ≠ w) ∨ (okA w = false ∧ True) := by
 cases h1 : okA w
 ·exact .inr (.inr ⟨rfl, trivial⟩)
 ·by_cases h2 : itoa (vOf w) = w
  ·exact .inl ⟨rfl, h2⟩
  ·exact .inr (.inl ⟨rfl, h2⟩)
section
variable {P : Program} {n : Nat} {ops : Array Oper} {Q : Exit → Act → World → Prop} {rest : List Oper} {L L' : List Chunk} {R : List Fact} {al : List (Nat × Value)} {d : Nat} {x y : Operand} {T ty : TypeId} {pos : String} {aft : Array Edge}
theorem M4 {op : BinOp} {c : Value} {b : Bool} {g : TypeId × Value} (w : World) : (eqGuard op T x (.const c) (erV b g) .nilIface).run P w = .ok () w := by
 unfold eqGuard erV; cases b <;> cases op <;> cases x <;> rfl
theorem Aci {ms : Array (String × TypeId)} {b : Bool} {g : TypeId × Value} (hp : P.underlying T = some (.interface ms)) (w : World) : (binOp .neq T (erV b g) .nilIface).run P w = .ok (.bool (!b)) w := by
 have h1 : ∀ d : Nat, (Op.equalIn (d + 1) T .nilIface .nilIface).run P w = .ok true w := fun d => by simp [Op.equalIn, run_underlying hp]
 have h2 : ∀ d : Nat, (Op.equalIn (d + 1) T (.iface g.1 g.2) .nilIface).run P w = .ok false w := fun d => by simp [Op.equalIn, run_underlying hp]
 unfold erV
 cases b
 ·simp only [binOp, cond_false]; simp [Op.equal, Op.maxDepth, h2 9999]
 ·simp only [binOp, cond_true]; simp [Op.equal, Op.maxDepth, h1 9999]
theorem Aay {ms : Array (String × TypeId)} {b : Bool} {g : TypeId × Value} (hp : P.underlying T = some (.interface ms)) (h : b = false) (w : World) : (binOp .neq T (erV b g) .nilIface).run P w = .ok (.bool true) w := by rw [Aci hp, h]; rfl
theorem Ry {ms : Array (String × TypeId)} {b : Bool} {g : TypeId × Value} (hp : P.underlying T = some (.interface ms)) (h : b = true) (w : World) : (binOp .neq T (erV b g) .nilIface).run P w = .ok (.bool false) w := by rw [Aci hp, h]; rfl
theorem Acr {α : Type} [Enc α] {v : Value} {e : α} {r : List α} {w : World} (hm : sl v (e :: r) ∈ R) (hs : St L R w) : ∃ a cap, v = .slice (some a) (r.length + 1) cap ∧ r.length + 1 ≤ cap := by
 obtain ⟨m, hle, hr⟩ := hs.ex
 obtain ⟨base, cap, hv, ⟨hN, hcap⟩, hc⟩ := hr _ hm
 obtain ⟨a, cells, T, fz, cs, h1, h2, h3, h4, h5⟩ := hc (List.cons_ne_nil _ _)
 exact ⟨a, cap, by rw [hv, h1]; rfl, by simpa using hcap⟩
theorem Acp {α : Type} [Enc α] {a : Addr} {k cap : Nat} {e : α} {r : List α} {w : World} (hk : k = r.length + 1) (hm : sl (.slice (some a) k cap) (e :: r) ∈ R) (hs : St L R w) :
  St L (sl (.slice (if cap = 1 then some a else some (a.add (1 * Enc.sz α))) (r.length + 1 - 1) (cap - 1)) r :: R) w := by
 obtain ⟨m, j, hd, hmw, hj, hst, hr⟩ := hs
 refine ⟨m, j, hd, hmw, hj, hst, fun f hf => ?_⟩
 rcases List.mem_cons.1 hf with rfl | hf
 ·obtain ⟨base, cap', hv, ⟨hN, hcap⟩, hc⟩ := hr _ hm
  obtain ⟨a', cells, T, fz, cs, h1, h2, h3, h4, h5⟩ := hc (List.cons_ne_nil _ _)
  injection hv with e1 e2 e3
  subst e3
  have ea : a = a' := by rw [h1] at e1; exact Option.some.inj e1
  subst ea
  have hl : (e :: r).length = r.length + 1 := rfl
  refine ⟨_, cap - 1, rfl, ⟨by omega, by omega⟩, fun hne => ?_⟩
  have hpos : 0 < r.length := List.length_pos_iff.2 hne
  obtain ⟨c1, c2, g1, g2, g3⟩ := h5
  have hl1 := Enc.len _ _ _ g2
  have hl2 := g3.len
  rw [if_neg (show ¬ cap = 1 by omega)]
  refine ⟨_, cells, T, fz, c2, rfl, by rw [D1 h2], by rw [D1 h2]; exact h3, ?_, g3⟩
  rw [D1 h2]
  show (cells.toList.drop (a.off + 1 * Enc.sz α)).take (r.length * Enc.sz α) = c2
  rw [Nat.one_mul, ← List.drop_drop]
  rw [hl, Nat.succ_mul] at h4
  have e4 : (List.drop a.off cells.toList).drop (Enc.sz α) = ((List.drop a.off cells.toList).drop (Enc.sz α)) := rfl
  have h6 : ((List.drop a.off cells.toList).take (r.length * Enc.sz α + Enc.sz α)).drop (Enc.sz α) = c2 := by rw [h4, g1, ← hl1]; simp
  rw [List.drop_take, Nat.add_sub_cancel] at h6
  exact h6
 ·exact hr f hf
def celF (g : Nat) (c : Value) : Fact := ⟨fun m => ∃ cells T fz, m (g + 1) = some (.ob (.cells cells T fz)) ∧ cells[0]? = some c, fun m m' h ⟨cs, T, fz, e, h2⟩ => ⟨cs, T, fz, h _ _ e, h2⟩⟩
theorem Ml {P : Program} {w : World} {name : String} {g : Nat} {cs : Array Value} (hg : P.globalNamed name = some g) (h : w.var? P name = some cs) : (Abl g cs.toList).p (Bf w) := by
 unfold World.var? at h
 rw [hg] at h
 simp only [Option.bind_eq_bind, Option.bind_some] at h
 split at h
 ·rename_i c T fz hb
  simp only [Option.some.injEq] at h
  subst h
  exact ⟨T, fz, by simpa using L7 hb⟩
 ·cases h
theorem Wv {w : World} {g : Nat} {c : Value} (h : w.cell? ⟨g, 0, none⟩ = some c) : (celF g c).p (Bf w) := by
 unfold World.cell? at h
 split at h
 ·rename_i cs T fz hb
  exact ⟨cs, T, fz, L7 hb, by simpa using h⟩
 ·cases h
def prF (p : Prop) : Fact := ⟨fun _ => p, fun _ _ _ h => h⟩
theorem St.prF {w : World} {p : Prop} (h : p) (hs : St L R w) : St L (prF p :: R) w := by
 obtain ⟨m, j, hd, hm, hj, hst, hr⟩ := hs
 exact ⟨m, j, hd, hm, hj, hst, fun q hq => by
  rcases List.mem_cons.1 hq with e | e
  ·rw [e]; exact h
  ·exact hr q e⟩
theorem O9 {γ δ : Type} {f : FuncId} {args : Array Value} {w : World} {val : γ → Value} {val2 : δ → Value} {L : γ → List Chunk} {R : γ → List Fact} {L2 : δ → List Chunk} {R2 : δ → List Fact} (h : Calls P f args w (Bh val L R)) (hk : ∀ g w', St (L g) (R g) w' → ∃ d, val g = val2 d ∧ St (L2 d) (R2 d) w') : Calls P f args w (Bh val2 L2 R2) := by
 refine h.mono ?_
 rintro e w' ⟨g, rfl, hs'⟩
 obtain ⟨d, h1, h2⟩ := hk g w' hs'
 exact ⟨d, by rw [h1], h2⟩
theorem Up {α : Type} [Enc α] {w : World} (hs : St L R w) : St L (sl (α := α) (.slice none 0 0) [] :: R) w := hs.addFact fun i _ => ⟨none, 0, rfl, ⟨Nat.zero_le _, Nat.le_refl _⟩, fun h => absurd rfl h⟩
end
section
variable {P : Program} {n : Nat} {Q : Exit → Act → World → Prop} {Sh : Rho → (Nat → Bool) → List Chunk} {R0 : List Fact} {al0 : List (Nat × Value)}
variable {ops : Array Oper} {i : Nat} {rest : List Oper} {its : List Item} {x y : Operand} {T ty : TypeId} {pos : String} {aft : Array Edge}
theorem e_pw {op : Oper} {d : Nat} {v : Rho → Value} (hp : ∀ ρ S R', Deps ops R0 its i ρ R' → Ao P n (Dt its al0 ρ) (Sh ρ S) R' op (v ρ)) (hi : Ind ops i v) (hSh : Hz ops Sh i)
  (k : DJ P n ops Q Sh R0 al0 (i + 1) rest (⟨i, some d, v, fun _ => [], fun _ => []⟩ :: its)) (hg : op.guard = none := by exact rfl) (hd : op.dst = some d := by exact rfl) : DJ P n ops Q Sh R0 al0 i (op :: rest) its := by
 refine dj ⟨⟨i, some d, v, fun _ => [], fun _ => []⟩, rfl, hd.symm, hi, Ind.const _, Ind.const _, ?_, k⟩
 intro ρ S a L' R' w K hS hbef haft hag hdep hbase hst hK
 have hp0 := hp ρ S R' ⟨hbase, hdep⟩
 rw [if_pos (by simp [Region.wanted, hg])]
 left
 unfold Oper.wp
 have h : Now ops n Sh R0 al0 i its op ρ S a L' R' w := ⟨hS, hag, hdep, hbase, hst⟩
 rw [hp0.2 _ w (fun x hx u hu => Ca h.agree hx hu) (h.st.fewer fun _ h => h), Oper.upon_value]
 have hsh := hSh ρ (ρ i) S hS haft
 rw [Rho.set_same] at hsh
 have := hK (ρ i) w
 rw [Rho.set_same] at this
 exact this (by rw [hsh]; exact hst)
theorem Abz {α : Type} [Enc α] {t el : TypeId} {d sz bytes len : Nat} {z : Value} {parts : List (Nat × Operand)} {vs : Rho → List Value} (xs : List α) (he : ElemOf P t el sz z bytes) (hsz : Enc.sz α = sz)
  (ha : ∀ ρ, evL n (Dt its al0 ρ) (parts.map (·.2)) = some (vs ρ)) (hidx : parts.map (·.1) = List.range' 0 len) (hlv : ∀ ρ, (vs ρ).length = len) (hsmall : Nat.ble (len * sz) 1000 = true) (hsm2 : Nat.ble len 1000 = true)
  (hrd : ∀ ρ R', Deps ops R0 its i ρ R' → ∀ j, (∀ q ∈ R', q.p j) → RdV xs (vs ρ) j) (hSh : Hz ops Sh i)
  (k : DJ P n ops Q Sh R0 al0 (i + 1) rest (⟨i, some d, fun ρ => (Gh.dec (ρ i) : Value), fun ρ => [prF ((Gh.dec (ρ i) : Value).oneCell' = true)], fun ρ => [row el (Gh.dec (ρ i) : Value) xs]⟩ :: its)) :
  DJ P n ops Q Sh R0 al0 i (⟨some d, .buildSlice t len parts.toArray, ty, pos, aft, none⟩ :: rest) its :=
 Z4 (γ := Value) (val := fun v => v) (F := fun v => [prF (v.oneCell' = true)]) (C := fun v => [row el v xs]) rfl rfl hSh (fun ρ S ac L' R' w K h hK => by
  obtain ⟨j, hj, hrj⟩ := h.st.ex
  have hrd' := hrd ρ R' ⟨h.base, h.deps⟩
  obtain ⟨h1, h2, h3⟩ := (hrd' j hrj).list
  have hlen := hlv ρ
  have hb := Nat.le_of_ble_eq_true hsmall
  have hb2 := Nat.le_of_ble_eq_true hsm2
  have hrun := E4 (vs := vs ρ) he (fun v hv => by rw [h2 v hv, hsz]) (by rw [hlen]; exact hb) w
  have e : (execOp ac.eval ⟨some d, .buildSlice t len parts.toArray, ty, pos, aft, none⟩).run P w = .ok (.value (.slice (some ⟨w.heap.size, 0, none⟩) len len)) (w.alloc (.cells ((vs ρ).flatMap fun v => v.cells.toList).toArray el)) := by
   show (Instr.buildSlice t len (parts.toArray.map fun (i, x) => (i, ac.eval x)) >>= fun v => Pure.pure (Next.value v)).run P w = _
   have hp : (parts.toArray.map fun (i, x) => (i, ac.eval x)) = ((parts.map (·.1)).zip (vs ρ)).toArray := by
    rw [← Ft h.agree (fun x hx => by simpa [Op.operands] using hx) (ha ρ)]
    simp only [List.map_toArray, List.map_map, List.zip_map', Function.comp_def]
   rw [hp, hidx, Sem.run_bind, ← hlen, hrun]; rfl
  unfold Oper.wp
  rw [e, Oper.upon_value]
  refine hK _ _ ?_
  obtain ⟨m, j', hd, hmw, hjw, hst, hr⟩ := h.st
  have hnew : St (row el (.slice (some ⟨w.heap.size, 0, none⟩) len len) xs :: (Sh ρ S ++ L')) R' (w.alloc (.cells ((vs ρ).flatMap fun v => v.cells.toList).toArray el)) := by
   obtain ⟨g1, g2, g3⟩ := (hrd' j' hr).list
   have hcl : ((vs ρ).flatMap fun v => v.cells.toList).length = len * sz := by rw [g3.len, g1, hlen, hsz]
   exact St.newC hd hmw hjw hst hr rfl rfl rfl ⟨by rw [g1, hlen]; have : maxN = 16777216 := rfl; omega, .inr ⟨w.heap.size, len, _, _, by rw [g1, hlen], Dv _ _, by rw [g1, hlen]; exact Nat.le_refl _, by unfold maxLen; omega, by rw [hsz]; simpa using hcl, rfl, by
    rw [g1, hlen, hsz, ← hcl, List.toList_toArray, List.take_length]; exact g3⟩⟩
  exact St.prF rfl hnew) k
end
end Go.Proofs.YtiofgjolhbgkiaaGreatDoor
namespace Go.Proofs.YtiofgjolhbgkiaaGreatDoor
theorem Adu {x : Chip} {s : Step} (hb : ¬ A0 s) (hv : s.kind = 1 → s.op.kind = 1 ∨ s.op.kind = 4 → s.op.value = 0) : Al x (Dw s) = Al x s := by
 unfold A0 at hb
 by_cases h1 : s.kind = 1
 ·have : (if s.op.kind = 2 ∨ s.op.kind = 3 then s.op.value else 0) = s.op.value := by
   split
   ·rfl
   ·exact (hv h1 (by omega)).symm
  have e : Dw s = ⟨1, s.node, 0, 0, s.op⟩ := by unfold Dw; rw [if_pos h1, this]
  rw [e]; unfold Al; simp only [if_true]; rw [if_pos h1]
 by_cases h6 : s.kind = 6
 ·have e : Dw s = ⟨6, s.node, 0, 0, zOp⟩ := by unfold Dw; rw [if_neg h1, if_pos h6]
  rw [e]; unfold Al; simp only; rw [h6]; rfl
 by_cases h5 : s.kind = 5
 ·have e : Dw s = ⟨5, 0, s.n, s.bit, zOp⟩ := by unfold Dw; rw [if_neg h1, if_neg h6, if_pos h5]
  rw [e]; unfold Al; simp only; rw [h5]; rfl
 ·have e : Dw s = ⟨s.kind, 0, s.n, 0, zOp⟩ := by unfold Dw; rw [if_neg h1, if_neg h6, if_neg h5]
  rw [e]; unfold Al; simp only
  rw [if_neg h1, if_neg h1, if_neg h5, if_neg h5, if_neg h6, if_neg h6]
open Go.Lib in
theorem Ma {c : UInt8} : ∀ {s : Bs}, c ∉ s → index s [c] = -1
 | [], _ => rfl
 | b :: l, h => by
  have ih := Ma (c := c) (s := l) (fun hm => h (List.mem_cons_of_mem _ hm))
  have hb : ¬ c = b := fun e => h (by rw [e]; exact List.mem_cons_self ..)
  unfold index
  rw [if_neg (by simp [hb]), if_pos (by rw [ih]; rfl)]
open Go.Lib in
theorem K2 {c : UInt8} {r : Bs} : ∀ {w : Bs}, c ∉ w → index (w ++ c :: r) [c] = (w.length : Int)
 | [], _ => by
  rw [List.nil_append]
  unfold index
  rw [if_pos (by simp)]; rfl
 | b :: l, h => by
  have ih := K2 (r := r) (w := l) (fun hm => h (List.mem_cons_of_mem _ hm))
  have hb : ¬ c = b := fun e => h (by rw [e]; exact List.mem_cons_self ..)
  rw [List.cons_append]
  unfold index
  rw [if_neg (by simp [hb]), if_neg (by rw [ih]; simp), ih, List.length_cons]
  omega
open Go.Lib in
theorem Ly (c : UInt8) : ∀ (k : Nat) (s : Bs), s.count c = k → splitK [c] 0 k s = Av c s
 | 0, s, h => by
  have : c ∉ s := fun hm => by have := List.count_pos_iff.2 hm; omega
  rw [Hp this]; rfl
 | k + 1, s, h => by
  have hm : c ∈ s := List.count_pos_iff.1 (by omega)
  obtain ⟨w, r, rfl, hw⟩ := List.eq_append_cons_of_mem hm
  have hc : r.count c = k := by
   rw [List.count_append, List.count_cons_self, List.count_eq_zero.2 hw] at h; omega
  unfold splitK
  rw [K2 hw, if_neg (by simp), I9 hw]
  have e1 : (w ++ c :: r).take ((w.length : Int).toNat + 0) = w := by simp
  have e2 : (w ++ c :: r).drop ((w.length : Int).toNat + [c].length) = r := by
   rw [show (w.length : Int).toNat + [c].length = (w ++ [c]).length by simp, show w ++ c :: r = (w ++ [c]) ++ r by simp, List.drop_left]
  rw [e1, e2, Ly c k r hc]
open Go.Lib in
theorem Um (c : UInt8) (s : Bs) : split s [c] = Av c s := by
 unfold split; rw [count_one]; exact Ly c _ s rfl
open Go.Lib in
theorem Z7 {c : UInt8} {s : Bs} (h : c ∉ s) : cut s [c] = (s, [], false) := by
 unfold cut; rw [Ma h]; rfl
open Go.Lib in
theorem Aft {c : UInt8} {w r : Bs} (h : c ∉ w) : cut (w ++ c :: r) [c] = (w, r, true) := by
 unfold cut; rw [K2 h, if_pos (by omega)]
 have e1 : (w ++ c :: r).take ((w.length : Int).toNat) = w := by simp
 have e2 : (w ++ c :: r).drop ((w.length : Int).toNat + [c].length) = r := by
  rw [show (w.length : Int).toNat + [c].length = (w ++ [c]).length by simp, show w ++ c :: r = (w ++ [c]) ++ r by simp, List.drop_left]
 rw [e1, e2]
open Go.Lib in
theorem P4 : ∀ (l : List Bs), join l [32] = E7 l
 | [] => rfl
 | [x] => by rw [join_one]; rfl
 | x :: y :: r => by
  have ih := P4 (y :: r)
  unfold join at ih ⊢
  rw [E7, ← ih]
  simp [List.intercalate]
end Go.Proofs.YtiofgjolhbgkiaaGreatDoor
