/- This file proves parts of what its law needs: each part is told ahead of it. No conditions. -/
import Derived.Test.YtofgpimoekhfaaaCkM1
import Derived.Laws.StructEq
/- This file proves rules for operations that change nothing, for ordered statements and for those whose order is open alike. No conditions. -/
set_option linter.unusedVariables false
set_option linter.unusedSimpArgs false
namespace Go.Proofs.Ytofgpimoekhfaaa
open Go
def Iz : List Value → List Value → Option (List Value)
 | cs, [] => some cs
 | _ :: cs, v :: seg => (Iz cs seg).map (v :: ·)
 | [], _ :: _ => none
def Kb : List Value → Nat → List Value → Option (List Value)
 | cs, 0, seg => Iz cs seg
 | c :: cs, k + 1, seg => (Kb cs k seg).map (c :: ·)
 | [], _ + 1, _ => none
theorem Lo : ∀ {cs seg r : List Value}, Iz cs seg = some r → seg.length ≤ cs.length ∧ r = seg ++ cs.drop seg.length
 | cs, [], r, h => by cases cs <;> (simp only [Iz, Option.some.injEq] at h; subst h; simp)
 | c :: cs, v :: seg, r, h => by
  simp only [Iz, Option.map_eq_some_iff] at h
  obtain ⟨r', h1, rfl⟩ := h
  obtain ⟨h2, h3⟩ := Lo h1
  exact ⟨by simp only [List.length_cons]; omega, by rw [h3]; simp⟩
 | [], _ :: _, r, h => by cases h
theorem Nn : ∀ {k : Nat} {cs seg r : List Value}, Kb cs k seg = some r → k + seg.length ≤ cs.length ∧ r = cs.take k ++ seg ++ cs.drop (k + seg.length)
 | 0, cs, seg, r, h => by
  have h' : Iz cs seg = some r := by cases cs <;> exact h
  obtain ⟨h1, h2⟩ := Lo h'
  exact ⟨by omega, by rw [h2]; simp⟩
 | k + 1, c :: cs, seg, r, h => by
  simp only [Kb, Option.map_eq_some_iff] at h
  obtain ⟨r', h1, rfl⟩ := h
  obtain ⟨h2, h3⟩ := Nn h1
  refine ⟨by simp only [List.length_cons]; omega, ?_⟩
  rw [h3, show k + 1 + seg.length = (k + seg.length) + 1 by omega]; simp
 | k + 1, [], seg, r, h => by cases h
def Mh (places : List (Nat × Nat)) : List Value → List (Nat × Value) → Option (List Value)
 | cells, [] => some cells
 | cells, (i, v) :: rest => match places[i]? with
  | none => none
  | some (off, size) => match Nat.beq v.cells.size size with
   | false => none
   | true => match Kb cells off v.cells.toList with
    | none => none
    | some cells' => Mh places cells' rest
theorem P4 (places : List (Nat × Nat)) : ∀ (parts : List (Nat × Value)) (cells cs : List Value), Mh places cells parts = some cs → Pe places cells parts = some cs
 | [], cells, cs, h => h
 | (i, v) :: rest, cells, cs, h => by
  simp only [Mh] at h
  simp only [Pe]
  cases hp : places[i]? with
  | none => rw [hp] at h; cases h
  | some q =>
   obtain ⟨off, size⟩ := q
   rw [hp] at h
   simp only at h ⊢
   cases hb : Nat.beq v.cells.size size with
   | false => rw [hb] at h; cases h
   | true =>
    rw [hb] at h
    simp only at h
    have hsz : v.cells.size = size := Nat.eq_of_beq_eq_true hb
    cases hq : Kb cells off v.cells.toList with
    | none => rw [hq] at h; cases h
    | some c' =>
     rw [hq] at h
     simp only at h
     obtain ⟨h1, h2⟩ := Nn hq
     rw [Array.length_toList] at h1 h2
     rw [if_neg (by omega), ← h2]
     exact P4 places rest c' cs h
def Az (P : Program) (n : Nat) (al : List (Nat × Value)) (L : List Chunk) (R : List Fact) (o : Oper) (v : Value) : Prop :=
 o.guard = none ∧ ∀ (ρ : Operand → Value) (w : World), (∀ x ∈ o.op.operands, ∀ u, ev n al x = some u → ρ x = u) → St L R w → (execOp ρ o).run P w = .ok (.value v) w
section
variable {P : Program} {n : Nat} {ops : Array Oper} {Q : Exit → Act → World → Prop} {rest : List Oper} {L L' : List Chunk} {R : List Fact} {al : List (Nat × Value)} {d : Nat} {x y : Operand} {T ty : TypeId} {pos : String} {aft : Array Edge}
theorem r_p {o : Oper} {v : Value} (hp : Az P n al L R o v) (hd : o.dst = some d) (k : J P n ops Q rest L R ((d, v) :: al)) : J P n ops Q (o :: rest) L R al :=
 J.pure hp.1 hd (fun B w hs => hp.2 _ w (fun x hx u hu => Br hu) hs) k
theorem d_p {Sh : Rho → (Nat → Bool) → List Chunk} {R0 : List Fact} {al0 : List (Nat × Value)} {i : Nat} {its : List Item} {o : Oper} {v : Rho → Value} (hp : ∀ ρ S, Az P n (Dy its al0 ρ) (Sh ρ S) R0 o (v ρ)) (hd : o.dst = some d) (hi : Ind ops i v) (hSh : ∀ ρ g S, S i = false → Sh (Rho.set ρ i g) (upS S i) = Sh ρ S)
  (k : DJ P n ops Q Sh R0 al0 (i + 1) rest (⟨i, some d, v, fun _ => [], fun _ => []⟩ :: its)) : DN P n ops Q Sh R0 al0 i o rest its :=
 d_pure (hp (fun _ => ⟨undef, undef, undef, undef, 0⟩) (fun _ => false)).1 hd hSh hi (fun ρ S a L' R' w h => (hp ρ S).2 _ w (fun x hx u hu => Cf h.agree hx hu) (h.st.fewer h.base)) k
theorem d_pc {Sh : Rho → (Nat → Bool) → List Chunk} {R0 : List Fact} {al0 : List (Nat × Value)} {i : Nat} {its : List Item} {o : Oper} {v : Value} (hp : ∀ ρ S, Az P n (Dy its al0 ρ) (Sh ρ S) R0 o v) (hd : o.dst = some d) (hSh : ∀ ρ g S, S i = false → Sh (Rho.set ρ i g) (upS S i) = Sh ρ S)
  (k : DJ P n ops Q Sh R0 al0 (i + 1) rest (⟨i, some d, fun _ => v, fun _ => [], fun _ => []⟩ :: its)) : DN P n ops Q Sh R0 al0 i o rest its := d_p hp hd (Ind.const _) hSh k
theorem Si {zc cs : List Value} {places : List (Nat × Nat)} {parts : List (Nat × Operand)} {vs : List Value} (hT : D5 P T zc places) (ha : evL n al (parts.map (·.2)) = some vs) (h' : Mh places zc ((parts.map (·.1)).zip vs) = some cs) : Az P n al L R ⟨some d, .build T parts.toArray, ty, pos, aft, none⟩ (.agg cs.toArray) :=
 ⟨rfl, fun ρ w hρ _ => by
  have h := P4 _ _ _ _ h'
  show (Instr.build T (parts.toArray.map fun (i, x) => (i, ρ x)) >>= fun v => Pure.pure (Next.value v)).run P w = _
  have key : ∀ (l : List (Nat × Operand)) (us : List Value), (∀ x ∈ l.map (·.2), ∀ u, ev n al x = some u → ρ x = u) → evL n al (l.map (·.2)) = some us → l.map (fun (i, x) => (i, ρ x)) = (l.map (·.1)).zip us := by
   intro l
   induction l with
   | nil => intro us _ he; simp only [List.map_nil, evL] at he; cases he; rfl
   | cons p l ih =>
    intro us hx he
    simp only [List.map_cons, evL] at he
    cases h1 : ev n al p.2 with
    | none => rw [h1] at he; cases he
    | some v =>
     cases h2 : evL n al (l.map (·.2)) with
     | none => rw [h1, h2] at he; cases he
     | some us' =>
      rw [h1, h2] at he
      cases he
      simp only [List.map_cons, List.zip_cons_cons]
      rw [hx p.2 (by simp) v h1, ih us' (fun x hm => hx x (by simp only [List.map_cons]; exact List.mem_cons_of_mem _ hm)) h2]
  have hp : (parts.toArray.map fun (i, x) => (i, ρ x)) = ((parts.map (·.1)).zip vs).toArray := by
   rw [List.map_toArray, key parts vs (fun x hx u hu => hρ x (by simpa [Op.operands] using hx) u hu) ha]
  rw [hp, Sem.run_bind, Qu hT h w]; rfl⟩
theorem Vv {op : BinOp} {v1 v2 v : Value} {U : TypeId} (hx : ev n al x = some v1) (hy : ev n al y = some v2) (hg : ∀ w : World, (eqGuard op T x y v1 v2).run P w = .ok () w) (hv : ∀ w : World, (binOp op T v1 v2).run P w = .ok v w) : Az P n al L R ⟨some d, .binOp op T x y U, ty, pos, aft, none⟩ v :=
 ⟨rfl, fun ρ w h _ => by
  have e : (execOp ρ ⟨some d, .binOp op T x y U, ty, pos, aft, none⟩) = (do let v ← (do eqGuard op T x y v1 v2; binOp op T v1 v2); pure (Next.value v)) := by
   simp only [execOp, h x (by simp [Op.operands]) _ hx, h y (by simp [Op.operands]) _ hy]
  rw [e]
  simp [hg w, hv w]⟩
theorem Ae {op : BinOp} {k k' : IntKind} {a b : Int} {v : Value} {U : TypeId} (hx : ev n al x = some (.int k a)) (hy : ev n al y = some (.int k' b)) (hv : ∀ w : World, (binOp op T (.int k a) (.int k' b)).run P w = .ok v w) : Az P n al L R ⟨some d, .binOp op T x y U, ty, pos, aft, none⟩ v := Vv hx hy N2 hv
theorem Sj {op : BinOp} {a b : Bool} {v : Value} {U : TypeId} (hx : ev n al x = some (.bool a)) (hy : ev n al y = some (.bool b)) (hv : ∀ w : World, (binOp op T (.bool a) (.bool b)).run P w = .ok v w) : Az P n al L R ⟨some d, .binOp op T x y U, ty, pos, aft, none⟩ v := Vv hx hy Q5 hv
theorem Aq {src dst : TypeId} {k k' : IntKind} {a : Int} {v : Value} (hs : P.underlying src = some (.int k')) (hd : P.underlying dst = some (.int k)) (hx : ev n al x = some (.int k' a)) (hv : Value.int k (k.wrap a) = v) : Az P n al L R ⟨some d, .convert src dst x, ty, pos, aft, none⟩ v :=
 ⟨rfl, fun ρ w h _ => by
  show (convert src dst (ρ x) >>= fun v => Pure.pure (Next.value v)).run P w = _
  have e : (convert src dst (.int k' a)).run P w = .ok v w := by
   unfold convert
   rw [Sem.run_bind, Dm hs]; simp only [Result.andThen]
   rw [Sem.run_bind, Dm hd]; simp only [Result.andThen]
   rw [← hv]; rfl
  rw [h x (by simp [Op.operands]) _ hx, Sem.run_bind, e]; rfl⟩
theorem Jc {v : Value} {T e : TypeId} {sz len i : Nat} (ht : Dt P T e sz) (hx : ev n al x = some v) (hy : ev n al y = some (vi (i : Int))) (hl : Dx L R v len) (h1 : i < len) : Az P n al L R ⟨some d, .indexAddr T x y, ty, pos, aft, none⟩ (ep v sz i 0) :=
 ⟨rfl, fun ρ w h hs => by
  obtain ⟨base, cap, rfl, hb⟩ := hl w hs
  obtain ⟨a, rfl⟩ := hb (by omega)
  show (Instr.indexAt T (ρ x) (ρ y) >>= fun v => Pure.pure (Next.value v)).run P w = _
  rw [h x (by simp [Op.operands]) _ hx, h y (by simp [Op.operands]) _ hy, Sem.run_bind]
  have : (Instr.indexAt T (.slice (some a) len cap) (vi (i : Int))).run P w = .ok (.pointer (some (a.add (i * sz)))) w := by
   simp [Instr.indexAt, asIntOf, Dm ht.1, ht.2, h1]
  rw [this]; rfl⟩
theorem Bw {b f i len sz : Nat} {T e : TypeId} (ht : P.underlying T = some (.array len e)) (hsz : ∀ w, (sizeOf e).run P w = .ok sz w) (hx : ev n al x = some (bp b f)) (hy : ev n al y = some (vi (i : Int))) (h1 : Nat.blt i len = true) : Az P n al L R ⟨some d, .indexAddr T x y, ty, pos, aft, none⟩ (bp b (f + i * sz)) :=
 ⟨rfl, fun ρ w h hs => by
  have h1' := blt_iff.1 h1
  show (Instr.indexAt T (ρ x) (ρ y) >>= fun v => Pure.pure (Next.value v)).run P w = _
  rw [h x (by simp [Op.operands]) _ hx, h y (by simp [Op.operands]) _ hy, Sem.run_bind]
  have : (Instr.indexAt T (bp b f) (vi (i : Int))).run P w = .ok (bp b (f + i * sz)) w := by
   simp [Instr.indexAt, asIntOf, Dm ht, hsz, bp, Instr.sureAddr, h1', Ht]
  rw [this]; rfl⟩
theorem H9 {T e : TypeId} {p q : Operand} {a b : Int} (ht : P.underlying T = some (.array 2 e)) (hsz : ∀ w, (sizeOf e).run P w = .ok 1 w) (hz : ∀ w, (zeroValue T).run P w = .ok (.agg #[vi 0, vi 0]) w) (ha : ev n al p = some (vi a)) (hb : ev n al q = some (vi b)) :
  Az P n al L R ⟨some d, .build T #[(0, p), (1, q)], ty, pos, aft, none⟩ (.agg [vi a, vi b].toArray) :=
 ⟨rfl, fun ρ w h hs => by
  show (Instr.build T (#[(0, p), (1, q)].map fun (i, x) => (i, ρ x)) >>= fun v => Pure.pure (Next.value v)).run P w = _
  have e1 := h p (by simp [Op.operands]) _ ha
  have e2 := h q (by simp [Op.operands]) _ hb
  rw [Sem.run_bind]
  have : (Instr.build T (#[(0, p), (1, q)].map fun (i, x) => (i, ρ x))).run P w = .ok (.agg [vi a, vi b].toArray) w := by
   simp [Instr.build, hz, Dm ht, hsz, Instr.fill, e1, e2, Value.cells]
  rw [this]; rfl⟩
end
section
variable {P : Program} {T : TypeId} {k : IntKind}
theorem Mq {x : Int} (h0 : 0 ≤ x) (h1 : x ≤ 1000000000) (w : World) : (binOp .shl T (vi x) (.int k 8)).run P w = .ok (vi (256 * x)) w := by
 rw [b_shl (by omega) (by omega)]
 have : x * 2 ^ (8 : Int).toNat = 256 * x := by show x * 256 = _; omega
 rw [this, IntKind.wrap_i64, show (256 * x + 9223372036854775808) % 18446744073709551616 - 9223372036854775808 = 256 * x by omega]
theorem Yv {x : UInt8} (w : World) : (binOp .shr T (vb x) (.int k 4)).run P w = .ok (vb (u8 ((x.toNat : Int) / 16))) w := b_shr8 (by omega) (by omega) w
theorem Vm {x : UInt8} (w : World) : (binOp .and T (vb x) (.int .u8 15)).run P w = .ok (vb (u8 ((x.toNat : Int) % 16))) w := by
 have h := b_and8 (P := P) (T := T) (a := x) (b := 15) w
 have e : x &&& 15 = u8 ((x.toNat : Int) % 16) := by
  apply UInt8.toNat.inj
  have h1 : ((u8 ((x.toNat : Int) % 16)).toNat : Int) = (x.toNat : Int) % 16 := Jz (by omega) (by omega)
  have h2 : (x &&& 15).toNat = x.toNat % 16 := by rw [UInt8.toNat_and]; exact Nat.and_two_pow_sub_one_eq_mod x.toNat 4
  omega
 rw [e] at h; exact h
theorem or_add {a b i : Nat} (h : b < 2 ^ i) : (2 ^ i * a) ||| b = 2 ^ i * a + b := by
 rw [Nat.mul_comm, ← Nat.shiftLeft_eq]
 exact (Nat.shiftLeft_add_eq_or_of_lt h a).symm
theorem Pk {a b : Int} (h0 : 0 ≤ a) (h1 : a ≤ 1000000000) (h2 : 0 ≤ b) (h3 : b < 256) (w : World) : (binOp .or T (vi (256 * a)) (vi b)).run P w = .ok (vi (256 * a + b)) w := by
 obtain ⟨x, rfl⟩ := Int.eq_ofNat_of_zero_le h0
 obtain ⟨y, rfl⟩ := Int.eq_ofNat_of_zero_le h2
 have e : (256 : Int) * (x : Int) = ((256 * x : Nat) : Int) := by omega
 rw [e, b_orN (by omega) (by omega), show 256 * x = 2 ^ 8 * x from rfl, or_add (by omega)]
 rw [show ((2 ^ 8 * x + y : Nat) : Int) = ((256 * x : Nat) : Int) + (y : Int) by omega]
end
section
variable {P : Program} {n : Nat} {Q : Exit → Act → World → Prop} {Sh : Rho → (Nat → Bool) → List Chunk} {R0 : List Fact} {al0 : List (Nat × Value)}
variable {ops : Array Oper} {i : Nat} {rest : List Oper} {its : List Item} {d : Nat} {x y : Operand} {T ty : TypeId} {pos : String} {aft : Array Edge}
theorem S8 {z : Value} {cs : List Value} (hz : ∀ w, (zeroValue T).run P w = .ok z w) (hv : z.cells = cs.toArray) (hSh : ∀ ρ (b : Nat) S, S i = false → (∀ j, Bef ops i j → S j = false) → (Sh (Rho.set ρ i (Gh.enc b)) (upS S i)).Perm (blk b T cs :: Sh ρ S))
    (k : DJ P n ops Q Sh R0 al0 (i + 1) rest (⟨i, some d, fun ρ => bp (Gh.dec (γ := Nat) (ρ i)) 0, fun _ => [], fun _ => []⟩ :: its)) : DN P n ops Q Sh R0 al0 i ⟨some d, .alloc T, ty, pos, aft, none⟩ rest its := by
  refine ⟨⟨i, some d, fun ρ => bp (Gh.dec (γ := Nat) (ρ i)) 0, fun _ => [], fun _ => []⟩, rfl, rfl, Ind.self (h := fun g => bp (Gh.dec (γ := Nat) g) 0), Ind.const _, Ind.const _, ?_, k⟩
  intro ρ S a L' R' w K hS hbef haft hag hdep hbase hst hK
  rw [if_pos (by simp [Region.wanted])]
  left
  unfold Oper.wp
  have e : (execOp a.eval ⟨some d, .alloc T, ty, pos, aft, none⟩).run P w = .ok (.value (bp w.heap.size 0)) { w with heap := w.heap.push (.cells cs.toArray T (0, 0)) } := by
    show (Instr.alloc T true (.tuple #[]) >>= fun v => Pure.pure (Next.value v)).run P w = _
    simp [Instr.alloc, hz, hv, newVar, newRow, bp]
  rw [e, Oper.upon_value]
  have e2 : (Rho.set ρ i (Gh.enc w.heap.size)) i = Gh.enc w.heap.size := by simp [Rho.set]
  have := hK (Gh.enc w.heap.size) _ (((hst.new (.cells cs.toArray T (0, 0)))).perm ?_)
  · simp only [e2, Gh.ok] at this; exact this
  · refine List.Perm.trans ?_ ((hSh ρ w.heap.size S hS haft).symm.append_right _)
    exact List.Perm.refl _
theorem P8 {α : Type} [Enc α] {v : Value} {xs : List α} {t e : TypeId} {low high : Option Operand} {lo hi : Nat} (ht : Dt P t e (Enc.sz α)) (hx : ∀ ρ, ev n (Dy its al0 ρ) x = some v) (hm : sl v xs ∈ R0)
  (hlo : ∀ ρ, match low with | none => lo = 0 | some y => ev n (Dy its al0 ρ) y = some (vi (lo : Int))) (hhi : ∀ ρ, match high with | none => hi = xs.length | some y => ev n (Dy its al0 ρ) y = some (vi (hi : Int))) (h1 : lo ≤ hi) (h2 : hi ≤ xs.length) (hSh : ∀ ρ g S, S i = false → Sh (Rho.set ρ i g) (upS S i) = Sh ρ S)
  (k : DJ P n ops Q Sh R0 al0 (i + 1) rest (⟨i, some d, fun ρ => Gh.dec (γ := Value) (ρ i), fun ρ => [sl (Gh.dec (γ := Value) (ρ i)) ((xs.take hi).drop lo)], fun _ => []⟩ :: its)) : DN P n ops Q Sh R0 al0 i ⟨some d, .slice t x low high none, ty, pos, aft, none⟩ rest its :=
 Ye (γ := Value) (val := fun u => u) (F := fun u => [sl u ((xs.take hi).drop lo)]) (C := fun _ => []) rfl rfl hSh (fun ρ S a L' R' w K h hK => by
  obtain ⟨j, hj, hr⟩ := h.st.ex
  have hsl := hr _ (h.base _ hm)
  have hsl0 := hsl
  obtain ⟨base, cap, rfl, ⟨hn1, hn2⟩, hc⟩ := hsl0
  unfold Oper.wp
  have e : (execOp a.eval ⟨some d, .slice t x low high none, ty, pos, aft, none⟩).run P w = .ok (.value (.slice (if cap = lo then base else base.map (·.add (lo * Enc.sz α))) (hi - lo) (cap - lo))) w := by
   show (Instr.sliceAt t (a.eval x) (low.map a.eval) (high.map a.eval) none >>= fun v => Pure.pure (Next.value v)).run P w = _
   rw [Cf h.agree (by simp [Op.operands]) (hx ρ), Sem.run_bind]
   have hlo' : (low.map a.eval = none ∧ lo = 0) ∨ low.map a.eval = some (vi (lo : Int)) := by
    have hl := hlo ρ
    cases low with
    | none => exact .inl ⟨rfl, hl⟩
    | some y => right; simp only [Option.map_some]; rw [Cf h.agree (by simp [Op.operands]) hl]
   have hhi' : (high.map a.eval = none ∧ hi = xs.length) ∨ high.map a.eval = some (vi (hi : Int)) := by
    have hl := hhi ρ
    cases high with
    | none => exact .inl ⟨rfl, hl⟩
    | some y => right; simp only [Option.map_some]; rw [Cf h.agree (by simp [Op.operands]) hl]
   have e1 : (0 : Int) ≤ (lo : Int) ∧ (lo : Int) ≤ (hi : Int) := by omega
   have e2 : (0 : Int) ≤ (hi : Int) ∧ (hi : Int) ≤ (cap : Int) := by omega
   rcases hlo' with ⟨a1, a2⟩ | a1 <;> rcases hhi' with ⟨b1, b2⟩ | b1 <;> rw [a1, b1] <;>
    simp [Instr.sliceAt, Instr.slice, Instr.sliceBounds, Instr.sliceBound, Dm ht.1, ht.2, asIntOf, e1, e2, h1, h2, hn2] <;> (try subst a2) <;> (try subst b2) <;> (try simp) <;> (try omega)
  rw [e, Oper.upon_value]
  exact hK _ w (h.st.addFact fun i' h' => Wl (h' _ (h.base _ hm)) h1 h2)) k
end
def gu (n : Nat) (al : List (Nat × Value)) (ops : List Oper) (i : Nat) : Bool := match nthO ops i with
 | some o => match o.dst with
  | some t => match ev n al (.tmp t) with
   | some (.tuple _) => true
   | _ => false
  | none => false
 | none => false
theorem Sy {n : Nat} {al : List (Nat × Value)} {l : List Oper} {i : Nat} (h : gu n al l i = true) : ∃ o t c, l.toArray[i]? = some o ∧ o.dst = some t ∧ ev n al (.tmp t) = some (.tuple c) := by
  unfold gu at h
  rw [O5] at h
  cases ho : l[i]? with
  | none => rw [ho] at h; cases h
  | some o =>
    rw [ho] at h
    simp only at h
    cases hd : o.dst with
    | none => rw [hd] at h; cases h
    | some t =>
      rw [hd] at h
      simp only at h
      split at h
      · rename_i c he; exact ⟨o, t, c, by simpa using ho, hd, he⟩
      · cases h
section
variable {P : Program} {n : Nat} {Q : Exit → Act → World → Prop} {rest : List Oper} {L : List Chunk} {R : List Fact} {al : List (Nat × Value)} {d : Nat} {ty : TypeId} {pos : String} {aft : Array Edge}
theorem J.guardUndef {l : List Oper} {op : Go.Op} {i : Nat} {b : Bool} (hv : gu n al l i = true)
  (k : J P n l.toArray Q rest L R ((d, undef) :: al)) : J P n l.toArray Q (⟨some d, op, ty, pos, aft, some (i, b)⟩ :: rest) L R al := by
 obtain ⟨oi, t, c, hi, ht, he⟩ := Sy hv
 intro B w hs
 unfold wpList
 have hw : Region.wanted ⟨some d, op, ty, pos, aft, some (i, b)⟩ (yielded l.toArray (mkA n al B).tmps) = false := by
  simp only [Region.wanted, yielded, hi, Option.bind_some, ht, Bq he]
  rfl
 rw [if_neg (by simp [hw]), Gz]
 exact k B w hs
end
section
variable {P : Program} {n : Nat} {Q : Exit → Act → World → Prop} {Sh : Rho → (Nat → Bool) → List Chunk} {R0 : List Fact} {al0 : List (Nat × Value)}
variable {i : Nat} {rest : List Oper} {its : List Item} {d : Nat} {ty : TypeId} {pos : String} {aft : Array Edge}
theorem N6 {l : List Oper} {op : Go.Op} {q : Nat} {b : Bool} (hv : ∀ ρ, gu n (Dy its al0 ρ) l q = true) (hSh : ∀ ρ g S, S i = false → Sh (Rho.set ρ i g) (upS S i) = Sh ρ S)
  (k : DJ P n l.toArray Q Sh R0 al0 (i + 1) rest (⟨i, some d, fun _ => undef, fun _ => [], fun _ => []⟩ :: its)) : DN P n l.toArray Q Sh R0 al0 i ⟨some d, op, ty, pos, aft, some (q, b)⟩ rest its := by
 refine ⟨⟨i, some d, fun _ => undef, fun _ => [], fun _ => []⟩, rfl, rfl, Ind.const _, Ind.const _, Ind.const _, ?_, k⟩
 intro ρ S a L' R' w K hS hbef haft hag hdep hbase hst hK
 obtain ⟨oi, t, c, hq, ht, he⟩ := Sy (hv ρ)
 have hl : a.tmps[t]? = some (.tuple c) := hag t _ (by unfold Oper.looksAt; refine List.mem_append_right _ ?_; simp only [hq, Option.bind_some, ht]; simp) he
 have hw : Region.wanted (⟨some d, op, ty, pos, aft, some (q, b)⟩ : Oper) (yielded l.toArray a.tmps) = false := by
  simp only [Region.wanted, yielded, hq, Option.bind_some, ht, hl]
  rfl
 rw [if_neg (by simp [hw])]
 have := hK (ρ i) w
 exact this (by rw [hSh _ _ _ hS]; exact hst)
end
def memC (m : Mem) : Chunk := ⟨fun m' _ => Mem.le m m', fun _ _ _ _ h => h⟩
def memF (m : Mem) : Fact := ⟨fun m' => Mem.le m m', fun _ _ h h' => Mem.le_trans h' h⟩
theorem borrow {P : Program} {γ : Type} {val : γ → Value} {f : FuncId} {args : Array Value} {c : Chunk} {F : Fact} {L : List Chunk} {R : List Fact} {w : World} (hcF : ∀ m i, Mem.disj m i → c.p m i → F.p (Mem.join m i))
    (hc : ∀ L' R' w, St L' R' w → F ∈ R' → (∀ f ∈ R, f ∈ R') → Calls P f args w (Cg val (fun _ => L') (fun _ => R'))) (hs : St (c :: L) R w) : Calls P f args w (Cg val (fun _ => c :: L) (fun _ => R)) := by
  obtain ⟨m, i, hd, hm, hi, ⟨m1, m2, hd', h1, h2, hcp, hst⟩, hr⟩ := hs
  have d1 : Mem.disj m1 i := Mem.disj_le hd h1 (Mem.le_refl _)
  have d2 : Mem.disj m2 i := Mem.disj_le hd h2 (Mem.le_refl _)
  have hs' : St [memC m2] (F :: memF m1 :: memF i :: R) w := by
    refine ⟨m2, Mem.join m1 i, Mem.disj_symm (Mem.disj_join hd' (Mem.disj_symm d2)), Mem.le_trans h2 hm, Mem.join_le (Mem.le_trans h1 hm) hi, ⟨m2, fun _ => none, fun _ => .inr rfl, Mem.le_refl _, (fun _ _ e => by cases e), Mem.le_refl _, trivial⟩, ?_⟩
    intro g hg
    rcases List.mem_cons.1 hg with e | hg
    · rw [e]; exact hcF m1 i d1 hcp
    rcases List.mem_cons.1 hg with e | hg
    · rw [e]; exact Mem.le_joinL _ _
    rcases List.mem_cons.1 hg with e | hg
    · rw [e]; exact Mem.le_joinR d1
    · exact g.mono _ _ (Mem.le_joinR d1) (hr g hg)
  refine (hc _ _ _ hs' (List.Mem.head _) (fun g hg => .tail _ (.tail _ (.tail _ hg)))).mono ?_
  rintro e w' ⟨g, rfl, n, j, k1, k2, k3, ⟨n1, n2, k4, k5, k6, k7, k8⟩, k9⟩
  refine ⟨g, rfl, Mem.join m1 m2, i, Mem.disj_join d1 d2, ?_, ?_, ⟨m1, m2, hd', Mem.le_joinL _ _, Mem.le_joinR hd', hcp, hst⟩, hr⟩
  · exact Mem.join_le (Mem.le_trans (k9 (memF m1) (.tail _ (.head _))) k3) (Mem.le_trans (Mem.le_trans k7 k5) k2)
  · exact Mem.le_trans (k9 (memF i) (.tail _ (.tail _ (.head _)))) k3
theorem lend {P : Program} {γ : Type} {val : γ → Value} {f : FuncId} {args : Array Value} {α : Type} [Enc α] {T : TypeId} {v : Value} {xs : List α} {L L' : List Chunk} {R : List Fact} {w : World} (hp : Pick L (row T v xs) L')
  (hc : ∀ L' R' w, St L' R' w → sl v xs ∈ R' → (∀ f ∈ R, f ∈ R') → Calls P f args w (Cg val (fun _ => L') (fun _ => R'))) (hs : St L R w) : Calls P f args w (Cg val (fun _ => row T v xs :: L') (fun _ => R)) :=
 borrow (F := sl v xs) (fun m i hd h => J5 hd h) hc (hs.pick hp)
section
variable {P : Program} {T : TypeId} {k : IntKind}
theorem Ji {a b : Int} (h0 : 0 ≤ a) (h1 : a ≤ 9223372036854775807) (hb : 0 < b) (w : World) : (binOp .quo T (vi a) (vi b)).run P w = .ok (vi (a / b)) w := by
 have e : a.tdiv b = a / b := Int.tdiv_eq_ediv_of_nonneg h0
 have h2 : 0 ≤ a / b := Int.ediv_nonneg h0 (by omega)
 have h3 : a / b ≤ a := Int.ediv_le_self _ h0
 rw [← e]
 exact b_quo (by omega) (by rw [e]; omega) (by rw [e]; omega) w
theorem Jh {a b : Int} (h0 : 0 ≤ a) (hb : 0 < b) (hb2 : b ≤ 9223372036854775807) (w : World) : (binOp .rem T (vi a) (vi b)).run P w = .ok (vi (a % b)) w := by
 have e : a.tmod b = a % b := Int.tmod_eq_emod_of_nonneg h0
 have h2 : 0 ≤ a % b := Int.emod_nonneg _ (by omega)
 have h3 : a % b < b := Int.emod_lt_of_pos _ hb
 rw [← e]
 exact Vl (by omega) (by rw [e]; omega) (by rw [e]; omega) w
theorem b_quoN {a b : Nat} (h1 : a ≤ 9223372036854775807) (hb : 0 < b) (w : World) : (binOp .quo T (vi (a : Int)) (vi (b : Int))).run P w = .ok (vi ((a / b : Nat) : Int)) w := by
 rw [Ji (by omega) (by omega) (by omega), Int.natCast_ediv]
theorem b_remN {a b : Nat} (hb : 0 < b) (hb2 : b ≤ 9223372036854775807) (w : World) : (binOp .rem T (vi (a : Int)) (vi (b : Int))).run P w = .ok (vi ((a % b : Nat) : Int)) w := by
 rw [Jh (by omega) (by omega) (by omega), Int.natCast_emod]
theorem V3 {a b : Nat} (h : a + b ≤ 9223372036854775807) (w : World) : (binOp .add T (vi (a : Int)) (vi (b : Int))).run P w = .ok (vi ((a + b : Nat) : Int)) w := by
 rw [Jr (by omega) (by omega), Int.natCast_add]
theorem Ut : ∀ k : _root_.Fin 8, ((1 : UInt8) <<< UInt8.ofNat k.val).toNat = 2 ^ k.val := by decide
theorem Tr (c : UInt8) (k : Nat) (hk : k < 8) : u8 ((c.toNat ^^^ 2 ^ k : Nat) : Int) = c ^^^ ((1 : UInt8) <<< UInt8.ofNat k) := by
 apply UInt8.toNat.inj
 have h := M4 ((c.toNat ^^^ 2 ^ k : Nat) : Int)
 have h1 := Ut ⟨k, hk⟩
 simp only at h1
 have h2 : c.toNat ^^^ 2 ^ k < 256 := Nat.xor_lt_two_pow (n := 8) c.toNat_lt (Nat.pow_lt_pow_right (by omega) hk)
 rw [UInt8.toNat_xor, h1]
 omega
theorem Rl (x : UInt8) : Value.int .i64 (IntKind.i64.wrap ((u8 ((x.toNat : Int) / 16)).toNat : Int)) = vi ((x.toNat : Int) / 16) := by
 have := x.toNat_lt
 rw [Au, Jz (by omega) (by omega)]
theorem Rk (x : UInt8) : Value.int .i64 (IntKind.i64.wrap ((u8 ((x.toNat : Int) % 16)).toNat : Int)) = vi ((x.toNat : Int) % 16) := by
 rw [Au, Jz (by omega) (by omega)]
end
def MsgIn (m : Msg) : Prop := (0 ≤ m.kind ∧ m.kind ≤ 255) ∧ (0 ≤ m.src ∧ m.src ≤ 15) ∧ (0 ≤ m.dst ∧ m.dst ≤ 15) ∧ (0 ≤ m.line ∧ m.line ≤ 255) ∧ (0 ≤ m.serial ∧ m.serial ≤ 65535) ∧ (0 ≤ m.turn ∧ m.turn ≤ 65535) ∧ (0 ≤ m.value ∧ m.value ≤ 255)
theorem MsgIn.wf {m : Msg} (h : MsgIn m) : m.wf := by unfold MsgIn at h; unfold Msg.wf An; omega
theorem Ur {c : Config} {m : Msg} (h : A5 c m = 0) (h1 : c.cores ≤ 15) (h2 : c.lines ≤ 256) : MsgIn m := by
 obtain ⟨g1, g2, g3, g4, g5, g6, g7⟩ := H0 h
 unfold MsgIn; omega
theorem Jk (b : List UInt8) (i : Nat) : 0 ≤ at8 b i ∧ at8 b i ≤ 255 := by unfold at8; have := (b.getD i 0).toNat_lt; omega
theorem Pw (b : List UInt8) : (Fj b).wf := by
 have h0 := Jk b 0; have h1 := Jk b 1; have h2 := Jk b 2; have h3 := Jk b 3; have h4 := Jk b 4; have h5 := Jk b 5; have h6 := Jk b 6; have h7 := Jk b 7
 unfold Msg.wf An Fj; simp only; omega
end Go.Proofs.Ytofgpimoekhfaaa

/- This file proves how one element of an array lies open: its cells, and slices that lie in them. No conditions. -/
set_option linter.unusedVariables false
set_option linter.unusedSimpArgs false
namespace Go.Proofs.Ytofgpimoekhfaaa
open Go
def cF (v : Value) (sz i : Nat) (cs : List Value) : Fact :=
  ⟨fun m => ∃ a cells T fz, ep v sz i 0 = .pointer (some a) ∧ (∀ f, ep v sz i f = .pointer (some (a.add f))) ∧ a.spot = none ∧ m (a.block + 1) = some (.ob (.cells cells T fz)) ∧ ∀ (k : Nat) c, cs[k]? = some c → cells[a.off + k]? = some c,
   fun m m' h ⟨a, cells, T, fz, h1, h2, h3, h4, h5⟩ => ⟨a, cells, T, fz, h1, h2, h3, h _ _ h4, h5⟩⟩
section
variable {P : Program} {n : Nat} {ops : Array Oper} {Q : Exit → Act → World → Prop} {rest : List Oper} {L L' : List Chunk} {R : List Fact} {al : List (Nat × Value)} {d : Nat} {x y : Operand} {T ty : TypeId} {pos : String} {aft : Array Edge}
theorem cF_at {v : Value} {sz i f : Nat} {cs ds : List Value} (hm : cF v sz i cs ∈ R) (hd : ∀ (k : Nat) c, ds[k]? = some c → cs[f + k]? = some c) : De L R (ep v sz i f) ds := by
 intro w hs
 obtain ⟨m, hle, hr⟩ := hs.ex
 obtain ⟨a, cells, T, fz, h1, h2, h3, h4, h5⟩ := hr _ hm
 refine ⟨a.add f, h2 f, fun k c hk => ?_⟩
 rw [Hz, Ex h3, Fs (Jf (hle _ _ h4))]
 exact h5 _ _ (hd k c hk)
theorem at_c1 {v : Value} {sz i f : Nat} {cs : List Value} {c : Value} (hm : cF v sz i cs ∈ R) (hc : cs[f]? = some c) : De L R (ep v sz i f) [c] :=
 cF_at hm fun k c' hk => by
  match k, hk with
  | 0, hk => simp at hk; subst hk; exact hc
  | k + 1, hk => simp at hk
theorem Yz {v : Value} {sz i : Nat} {cs : List Value} (hm : cF v sz i cs ∈ R) : De L R (ep v sz i 0) cs := cF_at hm fun k c hk => by rw [Nat.zero_add]; exact hk
variable {α : Type} [Enc α] {v : Value} {xs : List α} {i : Nat} {e : α}
theorem R5 {m : Mem} (h : isSlice v xs m) (hi : xs[i]? = some e) : ∃ cs, Enc.rd e cs m ∧ (cF v (Enc.sz α) i cs).p m := by
  obtain ⟨base, cap, hv, hn, hc⟩ := h
  have hne : xs ≠ [] := by intro h0; rw [h0] at hi; simp at hi
  obtain ⟨a, cells, T, fz, cs, h1, h2, h3, h4, h5⟩ := hc hne
  obtain ⟨p, c, q, e1, e2, e3, _⟩ := h5.get hi
  subst h1
  refine ⟨c, e3, a.add (i * Enc.sz α), cells, T, fz, by rw [hv, N4, Nat.add_zero], fun f => by rw [hv, N4, Hz], by rw [Ex h2], by rw [Ex h2]; exact h3, fun k u hk => ?_⟩
  rw [Ex h2]
  have hcs : cs[i * Enc.sz α + k]? = some u := by
    rw [e1, List.append_assoc, List.getElem?_append_right (by omega), show i * Enc.sz α + k - p.length = k by omega, List.getElem?_append_left]
    · exact hk
    · exact (List.getElem?_eq_some_iff.1 hk).1
  rw [← h4, List.getElem?_take] at hcs
  split at hcs
  · rw [List.getElem?_drop] at hcs
    rw [← Array.getElem?_toList, ← hcs, Nat.add_assoc]
  · cases hcs
end
class El0 (α : Type) [Enc α] where
 cs : α → List Value
 wf : α → Prop
 df : α
 ok : ∀ (x : α) ds m, Enc.rd x ds m → ds = cs x ∧ wf x
class El1 (α : Type) (β : outParam Type) [Enc α] [Enc β] where
 cs : Value → α → List Value
 wf : α → Prop
 df : α
 sub : α → List β
 ok : ∀ (x : α) ds m, Enc.rd x ds m → ∃ u, ds = cs u x ∧ isSlice u (sub x) m ∧ wf x
instance e0Int : El0 Int := ⟨fun x => [vi x], An, 0, fun _ _ _ h => h⟩
instance e0Byte : El0 UInt8 := ⟨fun x => [vb x], fun _ => True, 0, fun _ _ _ h => ⟨h, trivial⟩⟩
instance e0Msg : El0 Msg := ⟨Msg.cells, Msg.wf, zMsg, fun _ _ _ h => h⟩
instance e0Line : El0 Line := ⟨Line.cells, Line.wf, zLine, fun _ _ _ h => h⟩
instance e0Done : El0 Done := ⟨Done.cells, Done.wf, zDone, fun _ _ _ h => h⟩
instance e0Step : El0 Step := ⟨Step.cells, Step.wf, zStep, fun _ _ _ h => h⟩
instance e0Pair : El0 (Int × Int) := ⟨fun x => [vi x.1, vi x.2], fun x => An x.1 ∧ An x.2, (0, 0), fun _ _ _ h => h⟩
instance e1List {β : Type} [Enc β] : El1 (List β) β := ⟨fun u _ => [u], fun _ => True, [], fun x => x, fun _ _ _ h => by obtain ⟨u, h1, h2⟩ := h; exact ⟨u, h1, h2, trivial⟩⟩
instance e1Core : El1 Core Line := ⟨fun u x => x.cells u, fun x => x.wait.wf, Hj, fun x => x.lines, fun _ _ _ h => h⟩
instance e1Entry : El1 Entry Int := ⟨fun u x => x.cells u, fun x => x.wf, A8, fun x => x.last, fun _ _ _ h => h⟩
section
variable {P : Program} {n : Nat} {ops : Array Oper} {Q : Exit → Act → World → Prop} {L L' : List Chunk} {R : List Fact} {al : List (Nat × Value)}
variable {α β : Type} [Enc α] [Enc β] {v : Value} {xs : List α}
theorem St.open0 [El0 α] {w : World} (i : Nat) (hm : sl v xs ∈ R) (hi : i < xs.length) (hs : St L R w) : El0.wf (xs.getD i El0.df) ∧ St L (cF v (Enc.sz α) i (El0.cs (xs.getD i El0.df)) :: R) w := by
 obtain ⟨m, j, hd, hmw, hjw, hst, hr⟩ := hs
 obtain ⟨cs, h1, h2⟩ := R5 (hr _ hm) (getD_some El0.df hi)
 obtain ⟨rfl, h4⟩ := El0.ok _ _ _ h1
 refine ⟨h4, m, j, hd, hmw, hjw, hst, fun g hg => ?_⟩
 cases List.mem_cons.1 hg with
 | inl e => rw [e]; exact h2
 | inr e => exact hr g e
theorem St.open1 [El1 α β] {w : World} (i : Nat) (hm : sl v xs ∈ R) (hi : i < xs.length) (hs : St L R w) : El1.wf (xs.getD i El1.df) ∧ ∃ u, St L (cF v (Enc.sz α) i (El1.cs u (xs.getD i El1.df)) :: sl u (El1.sub (xs.getD i El1.df)) :: R) w := by
 obtain ⟨m, j, hd, hmw, hjw, hst, hr⟩ := hs
 obtain ⟨cs, h1, h2⟩ := R5 (hr _ hm) (getD_some El1.df hi)
 obtain ⟨u, rfl, h3, h4⟩ := El1.ok _ _ _ h1
 refine ⟨h4, u, m, j, hd, hmw, hjw, hst, fun g hg => ?_⟩
 cases List.mem_cons.1 hg with
 | inl e => rw [e]; exact h2
 | inr e => cases List.mem_cons.1 e with
  | inl e => rw [e]; exact h3
  | inr e => exact hr g e
theorem JC.open0 [El0 α] {c : Code} (i : Nat) (hm : sl v xs ∈ R) (hi : i < xs.length) (k : El0.wf (xs.getD i El0.df) → JC P n c Q L (cF v (Enc.sz α) i (El0.cs (xs.getD i El0.df)) :: R) al) : JC P n c Q L R al :=
 fun B w hs => let h := hs.open0 i hm hi; k h.1 B w h.2
theorem J.open0 [El0 α] {l : List Oper} (i : Nat) (hm : sl v xs ∈ R) (hi : i < xs.length) (k : El0.wf (xs.getD i El0.df) → J P n ops Q l L (cF v (Enc.sz α) i (El0.cs (xs.getD i El0.df)) :: R) al) : J P n ops Q l L R al :=
 fun B w hs => let h := hs.open0 i hm hi; k h.1 B w h.2
theorem JC.open1 [El1 α β] {c : Code} (i : Nat) (hm : sl v xs ∈ R) (hi : i < xs.length) (k : El1.wf (xs.getD i El1.df) → ∀ u, JC P n c Q L (cF v (Enc.sz α) i (El1.cs u (xs.getD i El1.df)) :: sl u (El1.sub (xs.getD i El1.df)) :: R) al) : JC P n c Q L R al :=
 fun B w hs => let ⟨h, u, h'⟩ := hs.open1 i hm hi; k h u B w h'
theorem J.open1 [El1 α β] {l : List Oper} (i : Nat) (hm : sl v xs ∈ R) (hi : i < xs.length) (k : El1.wf (xs.getD i El1.df) → ∀ u, J P n ops Q l L (cF v (Enc.sz α) i (El1.cs u (xs.getD i El1.df)) :: sl u (El1.sub (xs.getD i El1.df)) :: R) al) : J P n ops Q l L R al :=
 fun B w hs => let ⟨h, u, h'⟩ := hs.open1 i hm hi; k h u B w h'
end
def Raw (k : Nat) : Type := { l : List Value // l.length = k ∧ ∀ u ∈ l, u.oneCell' = true }
instance instEncRaw {k : Nat} : Enc (Raw k) where
 sz := k
 rd x cs _ := cs = x.1
 mono _ _ _ _ _ h := h
 len x cs _ h := by rw [h]; exact x.2.1
 one x cs _ h := by rw [h]; exact x.2.2
def foc {α : Type} [Enc α] (T : TypeId) (v : Value) (xs : List α) (i : Nat) (cs : List Value) : Chunk :=
  ⟨fun m j => ∃ rs : List (Raw (Enc.sz α)), (row T v rs).p m j ∧ rs.length = xs.length ∧ (∃ r, rs[i]? = some r ∧ r.1 = cs) ∧ ∀ (k : Nat) e r, k ≠ i → xs[k]? = some e → rs[k]? = some r → Enc.rd e r.1 j,
   fun m j j' h ⟨rs, h1, h2, h3, h4⟩ => ⟨rs, (row T v rs).mono _ _ _ h h1, h2, h3, fun k e r hk he hr => Enc.mono _ _ _ _ h (h4 k e r hk he hr)⟩⟩
section
variable {α : Type} [Enc α]
theorem RdL.raw {m : Mem} : ∀ {xs : List α} {cs : List Value}, RdL xs cs m → ∃ rs : List (Raw (Enc.sz α)), RdL rs cs m ∧ rs.length = xs.length ∧ ∀ (k : Nat) e r, xs[k]? = some e → rs[k]? = some r → Enc.rd e r.1 m
 | [], cs, h => ⟨[], h, rfl, fun k e r h' => by simp at h'⟩
 | x :: xs, cs, ⟨c1, c2, h1, h2, h3⟩ => by
  obtain ⟨rs, e1, e2, e3⟩ := RdL.raw h3
  obtain ⟨r0, hr0⟩ : ∃ r0 : Raw (Enc.sz α), r0.1 = c1 := ⟨⟨c1, Enc.len _ _ _ h2, Enc.one _ _ _ h2⟩, rfl⟩
  refine ⟨r0 :: rs, ⟨c1, c2, h1, hr0.symm, e1⟩, by simp [e2], fun k e r hx hr => ?_⟩
  cases k with
  | zero =>
   have ex : x = e := by simpa using hx
   have er : r0 = r := by simpa using hr
   rw [← ex, ← er, hr0]; exact h2
  | succ k => exact e3 k e r (by simpa using hx) (by simpa using hr)
theorem RdL.typed {m : Mem} : ∀ {xs : List α} {rs : List (Raw (Enc.sz α))} {cs : List Value}, RdL rs cs m → rs.length = xs.length → (∀ (k : Nat) e r, xs[k]? = some e → rs[k]? = some r → Enc.rd e r.1 m) → RdL xs cs m
 | [], [], cs, h, _, _ => h
 | [], _ :: _, _, _, hl, _ => by simp at hl
 | _ :: _, [], _, _, hl, _ => by simp at hl
 | x :: xs, r :: rs, cs, ⟨c1, c2, h1, h2, h3⟩, hl, hr => by
  refine ⟨c1, c2, h1, ?_, RdL.typed h3 (by simpa using hl) (fun k e r' hx hr' => hr (k + 1) e r' (by simpa using hx) (by simpa using hr'))⟩
  have := hr 0 x r rfl rfl
  rw [show c1 = r.1 from h2]; exact this
theorem R9 {T : TypeId} {v : Value} {xs : List α} {m j : Mem} (h : (row T v xs).p m j) : ∃ rs : List (Raw (Enc.sz α)), (row T v rs).p m j ∧ rs.length = xs.length ∧ ∀ (k : Nat) e r, xs[k]? = some e → rs[k]? = some r → Enc.rd e r.1 j := by
  obtain ⟨h0, hv | ⟨g, cap, cur, cs, hv, hg, hcap, hml, hsz, htk, hrd⟩⟩ := h
  · exact ⟨[], ⟨Nat.zero_le _, .inl ⟨hv.1, rfl⟩⟩, by rw [hv.2]; rfl, fun k e r hx => by rw [hv.2] at hx; simp at hx⟩
  · obtain ⟨rs, e1, e2, e3⟩ := hrd.raw
    exact ⟨rs, ⟨by rw [e2]; exact h0, .inr ⟨g, cap, cur, cs, by rw [e2]; exact hv, hg, by rw [e2]; exact hcap, hml, hsz, by rw [e2]; exact htk, e1⟩⟩, e2, e3⟩
theorem Sf {T : TypeId} {v : Value} {xs : List α} {rs : List (Raw (Enc.sz α))} {m j : Mem} (h : (row T v rs).p m j) (hl : rs.length = xs.length) (hr : ∀ (k : Nat) e r, xs[k]? = some e → rs[k]? = some r → Enc.rd e r.1 j) : (row T v xs).p m j := by
  obtain ⟨h0, hv | ⟨g, cap, cur, cs, hv, hg, hcap, hml, hsz, htk, hrd⟩⟩ := h
  · have : xs = [] := by rw [hv.2] at hl; exact List.length_eq_zero_iff.1 hl.symm
    exact ⟨by rw [← hl]; exact h0, .inl ⟨hv.1, this⟩⟩
  · exact ⟨by rw [← hl]; exact h0, .inr ⟨g, cap, cur, cs, by rw [← hl]; exact hv, hg, by rw [← hl]; exact hcap, hml, hsz, by rw [← hl]; exact htk, hrd.typed hl hr⟩⟩
end
section
variable {P : Program} {n : Nat} {ops : Array Oper} {Q : Exit → Act → World → Prop} {rest : List Oper} {L L' : List Chunk} {R : List Fact} {al : List (Nat × Value)} {d : Nat} {x y : Operand} {T ty : TypeId} {pos : String} {aft : Array Edge}
variable {α β : Type} [Enc α] [Enc β] {v : Value} {xs : List α} {i : Nat}
theorem St.focus {w : World} (hi : i < xs.length) (hs : St (row T v xs :: L) R w) : ∃ cs, St (foc T v xs i cs :: L) R w ∧ cs.length = Enc.sz α ∧ ∃ j e, xs[i]? = some e ∧ Enc.rd e cs j ∧ Mem.le j (Cc w) ∧ ∀ f ∈ R, f.p j := by
 obtain ⟨m, j, hd, hm, hj, ⟨m1, m2, hd', h1, h2, hc, hst⟩, hr⟩ := hs
 obtain ⟨rs, e1, e2, e3⟩ := R9 hc
 have hi' : i < rs.length := by omega
 refine ⟨(rs[i]'hi').1, ⟨m, j, hd, hm, hj, ⟨m1, m2, hd', h1, h2, ⟨rs, e1, e2, ⟨_, List.getElem?_eq_getElem hi', rfl⟩, fun k e r _ => e3 k e r⟩, hst⟩, hr⟩, (rs[i]'hi').2.1, j, xs[i], List.getElem?_eq_getElem hi, e3 i _ _ (List.getElem?_eq_getElem hi) (List.getElem?_eq_getElem hi'), hj, hr⟩
theorem St.focus0 [El0 α] {w : World} (hi : i < xs.length) (hs : St (row T v xs :: L) R w) : El0.wf (xs.getD i El0.df) ∧ St (foc T v xs i (El0.cs (xs.getD i El0.df)) :: L) R w := by
 obtain ⟨cs, h1, h2, j, e, h3, h4, h5, h6⟩ := hs.focus hi
 have : xs.getD i El0.df = e := by simp [List.getD_eq_getElem?_getD, h3]
 rw [this]
 obtain ⟨rfl, hw⟩ := El0.ok _ _ _ h4
 exact ⟨hw, h1⟩
theorem St.unfocus {w : World} {cs : List Value} {e : α} (he : ∀ j, (∀ f ∈ R, f.p j) → Enc.rd e cs j) (hs : St (foc T v xs i cs :: L) R w) : St (row T v (xs.set i e) :: L) R w := by
  obtain ⟨m, j, hd, hm, hj, ⟨m1, m2, hd', h1, h2, ⟨rs, e1, e2, ⟨r0, e3, e4⟩, e5⟩, hst⟩, hr⟩ := hs
  refine ⟨m, j, hd, hm, hj, ⟨m1, m2, hd', h1, h2, Sf e1 (by simpa using e2) (fun k e' r hx hk => ?_), hst⟩, hr⟩
  by_cases h : k = i
  · subst h
    have hlt : k < xs.length := by
      have := (List.getElem?_eq_some_iff.1 e3).1; omega
    rw [List.getElem?_set_self hlt] at hx
    cases hx
    rw [e3] at hk; cases hk
    rw [e4]; exact he j hr
  · rw [List.getElem?_set_ne (Ne.symm h)] at hx
    exact e5 k e' r h hx hk
theorem W5 {w : World} {cs : List Value} (hs : St (foc T v xs i cs :: L) R w) : ∃ rs : List (Raw (Enc.sz α)), St (row T v rs :: L) R w ∧ ∃ r, rs[i]? = some r ∧ r.1 = cs := by
 obtain ⟨m, j, hd, hm, hj, ⟨m1, m2, hd', h1, h2, ⟨rs, e1, e2, e3, e5⟩, hst⟩, hr⟩ := hs
 exact ⟨rs, ⟨m, j, hd, hm, hj, ⟨m1, m2, hd', h1, h2, e1, hst⟩, hr⟩, e3⟩
theorem Sz {w : World} {f : Nat} {cs us : List Value} (hs : St (foc T v xs i cs :: L) R w) (h1 : ∀ u ∈ us, u.oneCell' = true) (hf : f + us.length ≤ cs.length) :
    ∃ g cap cur, v = .slice (some ⟨g, 0, none⟩) xs.length cap ∧ w.heap[g]? = some (.cells cur T (0, 0)) ∧ i * Enc.sz α + f + us.length ≤ cur.size ∧
      St (foc T v xs i (cs.take f ++ us ++ cs.drop (f + us.length)) :: L) R (w.setRow g (cur.toList.take (i * Enc.sz α + f) ++ us ++ cur.toList.drop (i * Enc.sz α + f + us.length)).toArray) := by
  obtain ⟨m, j, hd, hm, hj, ⟨m1, m2, hd', g1, g2, ⟨rs, e1, e2, ⟨r0, e3, e4⟩, e5⟩, hst⟩, hr⟩ := hs
  have hlen : (cs.take f ++ us ++ cs.drop (f + us.length)).length = cs.length := by simp; omega
  have hcs : cs.length = Enc.sz α := by rw [← e4]; exact r0.2.1
  let r1 : Raw (Enc.sz α) := ⟨cs.take f ++ us ++ cs.drop (f + us.length), by rw [hlen]; exact hcs, fun u hu => by
    rcases List.mem_append.1 hu with h | h
    · rcases List.mem_append.1 h with h | h
      · exact r0.2.2 u (by rw [e4]; exact List.mem_of_mem_take h)
      · exact h1 u h
    · exact r0.2.2 u (by rw [e4]; exact List.mem_of_mem_drop h)⟩
  -- one piece for all others, with what is known of them
  have hK : St (row T v rs :: L) (⟨fun m => ∀ (k : Nat) e r, k ≠ i → xs[k]? = some e → rs[k]? = some r → Enc.rd e r.1 m, fun m m' h hp k e r hk he hr' => Enc.mono _ _ _ _ h (hp k e r hk he hr')⟩ :: R) w :=
    ⟨m, j, hd, hm, hj, ⟨m1, m2, hd', g1, g2, e1, hst⟩, fun q hq => by
      cases List.mem_cons.1 hq with
      | inl e => rw [e]; exact e5
      | inr e => exact hr q e⟩
  obtain ⟨g, cap, cur, hv, hg, hfit, hst'⟩ := J4 (w' := w) (e := r0) (e' := r1) (f := f) (cs := us) hK e3 (fun ds m hr => by rw [show ds = r0.1 from hr, e4]; exact hf) (fun j _ ds hr => by
    rw [show ds = r0.1 from hr, e4]; rfl)
  refine ⟨g, cap, cur, by rw [hv, e2], hg, hfit, ?_⟩
  obtain ⟨m', j', hd2, hm', hj', ⟨n1, n2, hd3, k1, k2, hc', hst2⟩, hr'⟩ := hst'
  have hilt : i < rs.length := (List.getElem?_eq_some_iff.1 e3).1
  refine ⟨m', j', hd2, hm', hj', ⟨n1, n2, hd3, k1, k2, ⟨rs.set i r1, hc', by simpa using e2, ⟨r1, List.getElem?_set_self hilt, rfl⟩, fun k e r hk he hrk => ?_⟩, hst2⟩, fun q hq => hr' q (List.mem_cons_of_mem _ hq)⟩
  rw [List.getElem?_set_ne (Ne.symm hk)] at hrk
  exact hr' _ (List.mem_cons_self ..) k e r hk he hrk
theorem J.focus0 [El0 α] {l : List Oper} (i : Nat) (hp : Pick L (row T v xs) L') (hi : i < xs.length) (k : El0.wf (xs.getD i El0.df) → J P n ops Q l (foc T v xs i (El0.cs (xs.getD i El0.df)) :: L') R al) : J P n ops Q l L R al :=
 fun B w hs => let h := (hs.pick hp).focus0 hi; k h.1 B w h.2
theorem JC.focus0 [El0 α] {c : Code} (i : Nat) (hp : Pick L (row T v xs) L') (hi : i < xs.length) (k : El0.wf (xs.getD i El0.df) → JC P n c Q (foc T v xs i (El0.cs (xs.getD i El0.df)) :: L') R al) : JC P n c Q L R al :=
 fun B w hs => let h := (hs.pick hp).focus0 hi; k h.1 B w h.2
theorem J.unfocus {l : List Oper} {cs : List Value} (e : α) (hp : Pick L (foc T v xs i cs) L') (he : ∀ j, (∀ f ∈ R, f.p j) → Enc.rd e cs j) (k : J P n ops Q l (row T v (xs.set i e) :: L') R al) : J P n ops Q l L R al :=
 fun B w hs => k B w ((hs.pick hp).unfocus he)
theorem JC.unfocus {c : Code} {cs : List Value} (e : α) (hp : Pick L (foc T v xs i cs) L') (he : ∀ j, (∀ f ∈ R, f.p j) → Enc.rd e cs j) (k : JC P n c Q (row T v (xs.set i e) :: L') R al) : JC P n c Q L R al :=
 fun B w hs => k B w ((hs.pick hp).unfocus he)
end
end Go.Proofs.Ytofgpimoekhfaaa

/- This file proves the walk's rules once more, each with the plain parts of its proof found by a tactic of its own. No conditions. -/
set_option linter.unusedVariables false
set_option linter.unusedSimpArgs false
namespace Go.Proofs.Ytofgpimoekhfaaa
open Go
section
variable {P : Program} {n : Nat} {ops : Array Oper} {Q : Exit → Act → World → Prop} {rest : List Oper} {L L' : List Chunk} {R : List Fact} {al : List (Nat × Value)} {d : Nat} {x y : Operand} {T ty : TypeId} {pos : String} {aft : Array Edge}
theorem mm {f : Fact} (h : f ∈ R := by first | assumption | exact .head _ | (refine .tail _ ?_; first | assumption | exact .head _ | (refine .tail _ ?_; first | assumption | exact .head _ | (refine .tail _ ?_; first | assumption | exact .head _ | (refine .tail _ ?_; first | assumption | exact .head _ | (refine .tail _ ?_; first | assumption | exact .head _ | (refine .tail _ ?_; first | assumption | exact .head _ | (refine .tail _ ?_; first | assumption | exact .head _ | (refine .tail _ ?_; first | assumption | exact .head _ | (refine .tail _ ?_; first | assumption | exact .head _ | (refine .tail _ ?_; first | assumption | exact .head _ | (refine .tail _ ?_; first | assumption | exact .head _ | (refine .tail _ ?_; first | assumption | exact .head _ | (refine .tail _ ?_; first | assumption | exact .head _ | (refine .tail _ ?_; first | assumption | exact .head _ | (refine .tail _ ?_; first | assumption | exact .head _ | (refine .tail _ ?_; first | assumption | exact .head _ | (refine .tail _ ?_; first | assumption | exact .head _ | (refine .tail _ ?_; first | assumption | exact .head _ | (refine .tail _ ?_; first | assumption | exact .head _ | (refine .tail _ ?_; first | assumption | exact .head _ | (refine .tail _ ?_; first | assumption | exact .head _ | (refine .tail _ ?_; first | assumption | exact .head _ | (refine .tail _ ?_; first | assumption | exact .head _ | (refine .tail _ ?_; first | assumption | exact .head _ | (refine .tail _ ?_; first | assumption | exact .head _ | (refine .tail _ ?_; first | assumption | exact .head _))))))))))))))))))))))))))) : f ∈ R := h
theorem pkk {c : Chunk} (h : Pick L c L' := by first | exact .hd | (apply Pick.tl; first | exact .hd | (apply Pick.tl; first | exact .hd | (apply Pick.tl; first | exact .hd | (apply Pick.tl; first | exact .hd | (apply Pick.tl; first | exact .hd | (apply Pick.tl; first | exact .hd | (apply Pick.tl; first | exact .hd | (apply Pick.tl; first | exact .hd | (apply Pick.tl; first | exact .hd | (apply Pick.tl; first | exact .hd | (apply Pick.tl; first | exact .hd | (apply Pick.tl; exact .hd))))))))))))) : Pick L c L' := h
theorem Aj {R' : List Fact} {w : World} (hs : St L R w) (hl : LSub L L' := by repeat (first | exact .refl | exact .nil | (apply LSub.cons; focus (exact pkk)) | apply LSub.drop)) (hf : FSub R R' := by repeat (first | exact FSub.refl | exact FSub.nil | (apply FSub.cons; focus (exact mm)) | apply FSub.drop)) : St L' R' w := hs.sub hl hf
theorem Di : ∀ u ∈ ([] : List Value), u.oneCell' = true := fun _ h => by cases h
theorem Be {c : Value} {l : List Value} (hc : c.oneCell' = true) (hl : ∀ u ∈ l, u.oneCell' = true) : ∀ u ∈ c :: l, u.oneCell' = true := fun u h => by
 cases List.mem_cons.1 h with
 | inl e => rw [e]; exact hc
 | inr e => exact hl u e
theorem Dh {v : Value} (hx : ev n al x = some v := by exact rfl) : Az P n al L R ⟨some d, .move x, ty, pos, aft, none⟩ v :=
 ⟨rfl, fun ρ w h _ => by show Result.ok (Next.value _) w = _; rw [h x (by simp [Op.operands]) _ hx]⟩
theorem Eb {v : Value} (hx : ev n al x = some v := by exact rfl) : Az P n al L R ⟨some d, .assign x, ty, pos, aft, none⟩ v :=
 ⟨rfl, fun ρ w h _ => by show Result.ok (Next.value _) w = _; rw [h x (by simp [Op.operands]) _ hx]⟩
theorem H8 {c : Operand} {v : Value} (hc : ev n al c = some (.bool true) := by exact rfl) (hx : ev n al x = some v := by exact rfl) : Az P n al L R ⟨some d, .pick c x y, ty, pos, aft, none⟩ v :=
 ⟨rfl, fun ρ w h _ => by simp [execOp, h c (by simp [Op.operands]) _ hc, h x (by simp [Op.operands]) _ hx, asBool, bind, pure, Sem.bind, Sem.run]⟩
theorem E3 {c : Operand} {v : Value} (hc : ev n al c = some (.bool false) := by exact rfl) (hy : ev n al y = some v := by exact rfl) : Az P n al L R ⟨some d, .pick c x y, ty, pos, aft, none⟩ v :=
 ⟨rfl, fun ρ w h _ => by simp [execOp, h c (by simp [Op.operands]) _ hc, h y (by simp [Op.operands]) _ hy, asBool, bind, pure, Sem.bind, Sem.run]⟩
theorem Qy {b : Bool} (hx : ev n al x = some (.bool b) := by exact rfl) : Az P n al L R ⟨some d, .unOp .not T x, ty, pos, aft, none⟩ (.bool (!b)) :=
 ⟨rfl, fun ρ w h _ => by simp [execOp, h x (by simp [Op.operands]) _ hx, Op.unary]⟩
theorem Dg {b : Bool} (hx : ev n al x = some (.bool b)) (hb : b = true) : Az P n al L R ⟨some d, .unOp .not T x, ty, pos, aft, none⟩ (.bool false) := by
 have := Qy (P := P) (L := L) (R := R) (T := T) (d := d) (ty := ty) (pos := pos) (aft := aft) hx
 rw [hb] at this; exact this
theorem Ka {b : Bool} (hx : ev n al x = some (.bool b)) (hb : b = false) : Az P n al L R ⟨some d, .unOp .not T x, ty, pos, aft, none⟩ (.bool true) := by
 have := Qy (P := P) (L := L) (R := R) (T := T) (d := d) (ty := ty) (pos := pos) (aft := aft) hx
 rw [hb] at this; exact this
theorem Ok {k : IntKind} {a b : Int} (w : World) : (binOp .eql T (.int k a) (.int k b)).run P w = .ok (.bool (decide (a = b))) w := by rw [Yw]; by_cases h : a = b <;> simp [h]
theorem Oh {k : IntKind} {a b : Int} (w : World) : (binOp .neq T (.int k a) (.int k b)).run P w = .ok (.bool (decide (a ≠ b))) w := by rw [Tj]; by_cases h : a = b <;> simp [h]
theorem Fi {op : BinOp} {k k' : IntKind} {a b : Int} {v : Value} {U : TypeId} (hv : ∀ w : World, (binOp op T (.int k a) (.int k' b)).run P w = .ok v w) (hx : ev n al x = some (.int k a) := by exact rfl) (hy : ev n al y = some (.int k' b) := by exact rfl) : Az P n al L R ⟨some d, .binOp op T x y U, ty, pos, aft, none⟩ v := Ae hx hy hv
theorem Fb {a b : Int} {U : TypeId} (hx : ev n al x = some (vi a) := by exact rfl) (hy : ev n al y = some (vi b) := by exact rfl) (h1 : -9223372036854775808 ≤ a + b := by omega) (h2 : a + b ≤ 9223372036854775807 := by omega) : Az P n al L R ⟨some d, .binOp .add T x y U, ty, pos, aft, none⟩ (vi (a + b)) := Ae hx hy (Jr h1 h2)
theorem D9 {a b : Nat} {U : TypeId} (hx : ev n al x = some (vi (a : Int)) := by exact rfl) (hy : ev n al y = some (vi (b : Int)) := by exact rfl) (h2 : a + b ≤ 9223372036854775807 := by omega) : Az P n al L R ⟨some d, .binOp .add T x y U, ty, pos, aft, none⟩ (vi ((a + b : Nat) : Int)) := Ae hx hy (V3 h2)
theorem Nm {a b : Int} {U : TypeId} (hx : ev n al x = some (vi a) := by exact rfl) (hy : ev n al y = some (vi b) := by exact rfl) (h1 : -9223372036854775808 ≤ a - b := by omega) (h2 : a - b ≤ 9223372036854775807 := by omega) : Az P n al L R ⟨some d, .binOp .sub T x y U, ty, pos, aft, none⟩ (vi (a - b)) := Ae hx hy (Th h1 h2)
theorem La {a b : Int} {U : TypeId} (hx : ev n al x = some (vi a) := by exact rfl) (hy : ev n al y = some (vi b) := by exact rfl) (h1 : -9223372036854775808 ≤ a * b := by omega) (h2 : a * b ≤ 9223372036854775807 := by omega) : Az P n al L R ⟨some d, .binOp .mul T x y U, ty, pos, aft, none⟩ (vi (a * b)) := Ae hx hy (Oi h1 h2)
def EpOk (L : List Chunk) (R : List Fact) (v : Value) (sz i : Nat) : Prop := ∀ w, St L R w → ∃ a : Addr, ∀ f, ep v sz i f = .pointer (some (a.add f))
theorem ok_c {v : Value} {sz i : Nat} {cs : List Value} (hm : cF v sz i cs ∈ R) : EpOk L R v sz i := fun w hs => by
 obtain ⟨m, hle, hr⟩ := hs.ex
 obtain ⟨a, cells, T, fz, h1, h2, h3, h4, h5⟩ := hr _ hm
 exact ⟨a, h2⟩
theorem ok_l {v : Value} {sz i len : Nat} (hl : Dx L R v len) (h0 : 0 < len) : EpOk L R v sz i := fun w hs => by
 obtain ⟨base, cap, rfl, hb⟩ := hl w hs
 obtain ⟨a, rfl⟩ := hb h0
 exact ⟨a.add (i * sz), fun f => by rw [N4, Hz]⟩
theorem ok_f {α : Type} [Enc α] {v : Value} {sz i : Nat} {xs : List α} {cs : List Value} (hp : Pick L (foc T v xs i cs) L') : EpOk L R v sz i := fun w hs => by
 obtain ⟨rs, h1, r, h2, h3⟩ := W5 (hs.pick hp)
 have hlt : i < rs.length := (List.getElem?_eq_some_iff.1 h2).1
 exact ok_l (Dn .hd) (by omega) w h1
def EpAll (v : Value) (sz i : Nat) : Prop := ∃ a : Addr, ∀ f, ep v sz i f = .pointer (some (a.add f))
theorem EpAll.one {v : Value} {sz i f : Nat} (h : EpAll v sz i) : (ep v sz i f).oneCell' = true := by
 obtain ⟨a, ha⟩ := h
 rw [ha]; rfl
theorem Oq {b f fld off : Nat} (hf : A3 P T fld off) (hx : ev n al x = some (bp b f) := by exact rfl) : Az P n al L R ⟨some d, .fieldAddr T x fld, ty, pos, aft, none⟩ (bp b (f + off)) :=
 ⟨rfl, fun ρ w h _ => Hq (by rw [h x (by simp [Op.operands]) _ hx]; show (Instr.fieldAt T (.pointer (some ⟨b, f, none⟩)) fld).run P w = _; rw [J3 hf, Ht]; rfl)⟩
theorem Oo {v : Value} {sz i f fld off : Nat} (hf : A3 P T fld off) (hx : ev n al x = some (ep v sz i f) := by exact rfl) (hok : EpOk L R v sz i := by first | exact ok_c mm | exact ok_f pkk | exact ok_a (by assumption) | exact ok_l (Dn pkk) (by omega) | exact ok_l (Ei mm) (by omega)) : Az P n al L R ⟨some d, .fieldAddr T x fld, ty, pos, aft, none⟩ (ep v sz i (f + off)) :=
 ⟨rfl, fun ρ w h hs => Hq (by
  obtain ⟨a, ha⟩ := hok w hs
  rw [h x (by simp [Op.operands]) _ hx, ha, J3 hf, Hz, ha])⟩
theorem q_ne {v : Value} {sz i f : Nat} (hx : ev n al x = some (ep v sz i f) := by exact rfl) (hok : EpOk L R v sz i := by first | exact ok_c mm | exact ok_f pkk | exact ok_a (by assumption) | exact ok_l (Dn pkk) (by omega) | exact ok_l (Ei mm) (by omega)) : Az P n al L R ⟨some d, .nilCheck x, ty, pos, aft, none⟩ (ep v sz i f) :=
 ⟨rfl, fun ρ w h hs => by
  obtain ⟨a, ha⟩ := hok w hs
  simp only [execOp, h x (by simp [Op.operands]) _ hx, ha]; rfl⟩
theorem Pa {α : Type} [Enc α] {v : Value} {i : Nat} {xs : List α} {cs : List Value} (hp : Pick L (foc T v xs i cs) L') : Dx L R v xs.length := fun w hs => by
 obtain ⟨m, j, hd, hm, hj, ⟨m1, m2, hd', h1, h2, ⟨rs, e1, e2, e3, e5⟩, hst⟩, hr⟩ := hs.pick hp
 have h : Dx (row T v rs :: L') R v rs.length := Dn .hd
 rw [e2] at h
 exact h w ⟨m, j, hd, hm, hj, ⟨m1, m2, hd', h1, h2, e1, hst⟩, hr⟩
theorem D4 {v : Value} {e : TypeId} {sz len i : Nat} (ht : Dt P T e sz) (hx : ev n al x = some v := by exact rfl) (hy : ev n al y = some (vi (i : Int)) := by exact rfl) (hl : Dx L R v len := by first | exact Dn pkk | exact Pa pkk | exact Ei mm) (h1 : i < len := by first | assumption | omega | (simp only [List.length_nil, List.length_cons, List.length_append, List.length_take, List.length_drop, List.length_set, List.length_replicate, Int.toNat_natCast]; omega) | decide) : Az P n al L R ⟨some d, .indexAddr T x y, ty, pos, aft, none⟩ (ep v sz i 0) := Jc ht hx hy hl h1
theorem Ru {v : Value} {e : TypeId} {sz len : Nat} {i : Int} (ht : Dt P T e sz) (hx : ev n al x = some v := by exact rfl) (hy : ev n al y = some (vi i) := by exact rfl) (hl : Dx L R v len := by first | exact Dn pkk | exact Pa pkk | exact Ei mm) (h0 : 0 ≤ i := by first | assumption | omega | (simp only [List.length_nil, List.length_cons, List.length_append, List.length_take, List.length_drop, List.length_set, List.length_replicate, Int.toNat_natCast]; omega) | decide) (h1 : i < len := by first | assumption | omega | (simp only [List.length_nil, List.length_cons, List.length_append, List.length_take, List.length_drop, List.length_set, List.length_replicate, Int.toNat_natCast]; omega) | decide) : Az P n al L R ⟨some d, .indexAddr T x y, ty, pos, aft, none⟩ (ep v sz i.toNat 0) :=
 Jc ht hx (by rw [hy, Int.toNat_of_nonneg h0]) hl (by omega)
theorem Uk {t e : TypeId} {v : Value} {len : Nat} (ht : P.underlying t = some (.slice e)) (hx : ev n al x = some v := by exact rfl) (hl : Dx L R v len := by first | exact Dn pkk | exact Pa pkk | exact Ei mm) : Az P n al L R ⟨some d, .call { callee := .builtin .len, args := #[x], argTypes := #[t] }, ty, pos, aft, none⟩ (vi (len : Int)) :=
 ⟨rfl, fun ρ w h hs => by
  obtain ⟨base, cap, rfl, _⟩ := hl w hs
  have hx' := h x (by simp [Op.operands, Call.operands]) _ hx
  have e1 : (Builtin.len_ #[t] ty #[ρ x]).run P w = .ok (vi (len : Int)) w := by
   rw [hx']; simp [Builtin.len_, Dm ht, goInt]
  exact P6 e1⟩
theorem q_x {vs : List Value} {i : Nat} {v : Value} (hx : ev n al x = some (.tuple vs.toArray) := by exact rfl) (hv : vs[i]? = some v := by exact rfl) : Az P n al L R ⟨some d, .extract x i, ty, pos, aft, none⟩ v :=
 ⟨rfl, fun ρ w h _ => by simp [execOp, h x (by simp [Op.operands]) _ hx, Instr.extract, hv]⟩
theorem C6 {p c : Value} (hT : ∀ w, (isAgg T).run P w = .ok false w) (hx : ev n al x = some p := by exact rfl) (hc : De L R p [c] := by first | exact A9 pkk (by exact rfl) | exact at_c1 mm (by exact rfl) | exact at_f1 pkk rfl (by exact rfl) | exact at_a1 (by assumption) (by assumption) (by repeat (first | exact .refl | exact .nil | (apply LSub.cons; focus (exact pkk)) | apply LSub.drop)) (by repeat (first | exact FSub.refl | exact FSub.nil | (apply FSub.cons; focus (exact mm)) | apply FSub.drop)) (by exact rfl)) : Az P n al L R ⟨some d, .load T x, ty, pos, aft, none⟩ c :=
 ⟨rfl, fun ρ w h hs => by
  obtain ⟨a, rfl, hk⟩ := hc w hs
  exact Kp (by rw [h x (by simp [Op.operands]) _ hx]; exact M9 hT (by simpa [Addr.add] using hk 0 c rfl))⟩
theorem Vu {p : Value} {cs : List Value} {sz : Nat} (hT : ∀ w, (isAgg T).run P w = .ok true w) (hsz : ∀ w, (sizeOf T).run P w = .ok sz w) (hx : ev n al x = some p := by exact rfl) (hc : De L R p cs := by first | exact Ol pkk | exact Yz mm | exact at_fAll pkk rfl) (hl : cs.length = sz := by exact rfl) : Az P n al L R ⟨some d, .load T x, ty, pos, aft, none⟩ (.agg cs.toArray) :=
 ⟨rfl, fun ρ w h hs => by
  obtain ⟨a, rfl, hk⟩ := hc w hs
  exact Kp (by rw [h x (by simp [Op.operands]) _ hx]; exact M8 hT hsz hl hk)⟩
theorem O2 {b f : Nat} {vs : List Value} {T0 : TypeId} (sz : Nat) (hT : ∀ w, (isAgg T).run P w = .ok true w) (hsz : ∀ w, (sizeOf T).run P w = .ok sz w) (hx : ev n al x = some (bp b f) := by exact rfl) (hp : Pick L (blk b T0 vs) L' := by exact pkk) (hl : ((vs.drop f).take sz).length = sz := by exact rfl) : Az P n al L R ⟨some d, .load T x, ty, pos, aft, none⟩ (.agg ((vs.drop f).take sz).toArray) := Vu hT hsz hx (Mu hp) hl
def Q9 (places : List (Nat × Nat)) : List Value → List (Nat × List Value) → Option (List Value)
 | cells, [] => some cells
 | cells, (i, c) :: rest => match places[i]? with
  | none => none
  | some (off, size) => match Nat.beq c.length size with
   | false => none
   | true => match Kb cells off c with
    | none => none
    | some cells' => Q9 places cells' rest
def Lw : List Value → List (List Value) → Prop
 | [], [] => True
 | v :: vs, c :: cs => v.cells.toList = c ∧ Lw vs cs
 | _, _ => False
theorem Oe {v : Value} (h : v.oneCell' = true) : v.cells.toList = [v] := by
 cases v <;> first | rfl | (simp [Value.oneCell'] at h)
theorem S0 (places : List (Nat × Nat)) : ∀ (idx : List Nat) (vs : List Value) (css : List (List Value)) (cells cs : List Value), Lw vs css → Q9 places cells (idx.zip css) = some cs → Mh places cells (idx.zip vs) = some cs
 | [], _, _, cells, cs, _, h => by simpa [Q9, Mh] using h
 | _ :: _, [], [], cells, cs, _, h => by simpa [Q9, Mh] using h
 | _ :: _, [], _ :: _, _, _, hc, _ => by cases hc
 | _ :: _, _ :: _, [], _, _, hc, _ => by cases hc
 | i :: idx, v :: vs, c :: css, cells, cs, hc, h => by
  obtain ⟨hv, hc⟩ := hc
  have hsz : v.cells.size = c.length := by rw [← hv, Array.length_toList]
  simp only [List.zip_cons_cons, Q9, Mh] at h ⊢
  rw [hsz, hv]
  cases hp : places[i]? with
  | none => rw [hp] at h; cases h
  | some q =>
   obtain ⟨off, size⟩ := q
   rw [hp] at h
   simp only at h ⊢
   cases hb : Nat.beq c.length size with
   | false => rw [hb] at h; cases h
   | true =>
    rw [hb] at h
    simp only at h ⊢
    cases hq : Kb cells off c with
    | none => rw [hq] at h; cases h
    | some c' => rw [hq] at h; exact S0 places idx vs css c' cs hc h
theorem cl_nil : Lw [] [] := trivial
theorem Yn {v : Value} {c : List Value} {vs : List Value} {cs : List (List Value)} (h : v.cells.toList = c) (h' : Lw vs cs) : Lw (v :: vs) (c :: cs) := ⟨h, h'⟩
theorem Jm {zc cs : List Value} {places : List (Nat × Nat)} {parts : List (Nat × Operand)} {vs : List Value} {css : List (List Value)} (hT : D5 P T zc places) (ha : evL n al (parts.map (·.2)) = some vs := by exact rfl) (hc : Lw vs css := by repeat (first | exact cl_nil | apply Yn (by first | exact Oe (by assumption) | exact rfl))) (h' : Q9 places zc ((parts.map (·.1)).zip css) = some cs := by exact rfl) : Az P n al L R ⟨some d, .build T parts.toArray, ty, pos, aft, none⟩ (.agg cs.toArray) := Si hT ha (S0 _ _ _ _ _ _ hc h')
theorem Gp {zc cs : List Value} {places : List (Nat × Nat)} {parts : List (Nat × Operand)} {vs : List Value} (hT : D5 P T zc places) (ha : evL n al (parts.map (·.2)) = some vs := by exact rfl) (h' : Mh places zc ((parts.map (·.1)).zip vs) = some cs := by exact rfl) : Az P n al L R ⟨some d, .build T parts.toArray, ty, pos, aft, none⟩ (.agg cs.toArray) := Si hT ha h'
theorem ob {op : Oper} {v : Value} (hp : Az P n al L R op v) (k : J P n ops Q rest L R ((d, v) :: al)) (hd : op.dst = some d := by exact rfl) : J P n ops Q (op :: rest) L R al := r_p hp hd k
theorem dc {Sh : Rho → (Nat → Bool) → List Chunk} {R0 : List Fact} {al0 : List (Nat × Value)} {i : Nat} {its : List Item} {op : Oper} {v : Value} (hp : ∀ ρ S, Az P n (Dy its al0 ρ) (Sh ρ S) R0 op v)
  (k : DJ P n ops Q Sh R0 al0 (i + 1) rest (⟨i, some d, fun _ => v, fun _ => [], fun _ => []⟩ :: its)) (hd : op.dst = some d := by exact rfl) (hSh : ∀ ρ g S, S i = false → Sh (Rho.set ρ i g) (upS S i) = Sh ρ S := by exact fun _ _ _ _ => rfl) : DN P n ops Q Sh R0 al0 i op rest its := d_pc hp hd hSh k
theorem s_b {b f : Nat} {vs : List Value} {T0 : TypeId} {c : Value} (hsz : ∀ w, (sizeOf T).run P w = .ok 1 w) (k : ∀ cs', vs.set f c = cs' → J P n ops Q rest (blk b T0 cs' :: L') R al) (hx : ev n al x = some (bp b f) := by exact rfl) (hy : ev n al y = some c := by exact rfl) (hp : Pick L (blk b T0 vs) L' := by exact pkk) (h1 : c.oneCell' = true := by first | exact rfl | assumption | simp [*]) (hf : Nat.blt f vs.length = true := by exact rfl) : J P n ops Q (⟨none, .store T x y, ty, pos, aft, none⟩ :: rest) L R al :=
 Uj hsz hx hy h1 hp hf (k _ rfl)
theorem G8 {v : Value} (h : v.oneCell' = true) : v.cells = #[v] := Array.toList_inj.1 (Oe h)
theorem s_N {b f : Nat} {vs cs : List Value} {T0 : TypeId} {sz : Nat} (new : List Value) (hsz : ∀ w, (sizeOf T).run P w = .ok sz w) (k : J P n ops Q rest (blk b T0 new :: L') R al) (hx : ev n al x = some (bp b f) := by exact rfl) (hy : ev n al y = some (.agg cs.toArray) := by exact rfl) (hp : Pick L (blk b T0 vs) L' := by exact pkk) (hl : cs.length = sz := by exact rfl) (h1 : ∀ u ∈ cs, u.oneCell' = true := by repeat (first | exact Di | refine Be (by first | exact rfl | assumption) ?_)) (hf : Nat.ble (f + sz) vs.length = true := by exact rfl) (hn : vs.take f ++ cs ++ vs.drop (f + sz) = new := by exact rfl) : J P n ops Q (⟨none, .store T x y, ty, pos, aft, none⟩ :: rest) L R al :=
 Pt hsz hx hy hl h1 hp hf (by rw [hn]; exact k)
theorem s_B {b : Nat} {vs cs : List Value} {T0 : TypeId} {sz : Nat} (hsz : ∀ w, (sizeOf T).run P w = .ok sz w) (k : J P n ops Q rest (blk b T0 cs :: L') R al) (hx : ev n al x = some (bp b 0) := by exact rfl) (hy : ev n al y = some (.agg cs.toArray) := by exact rfl) (hp : Pick L (blk b T0 vs) L' := by exact pkk) (hl : cs.length = sz := by exact rfl) (h1 : ∀ u ∈ cs, u.oneCell' = true := by repeat (first | exact Di | refine Be (by first | exact rfl | assumption) ?_)) (hf : vs.length = sz := by exact rfl) : J P n ops Q (⟨none, .store T x y, ty, pos, aft, none⟩ :: rest) L R al :=
 Qx hsz hx hy hl h1 hp hf k
theorem bx {v : Value} {cs : List Value} (k : ∀ b, J P n ops Q rest (blk b T cs :: L) R ((d, bp b 0) :: al)) (hx : ev n al x = some v := by exact rfl) (hv : v.cells = cs.toArray := by exact rfl) : J P n ops Q (⟨some d, .box T x, ty, pos, aft, none⟩ :: rest) L R al := r_box hx hv k
theorem al_ {z : Value} {cs : List Value} (hz : ∀ w, (zeroValue T).run P w = .ok z w) (k : ∀ b, J P n ops Q rest (blk b T cs :: L) R ((d, bp b 0) :: al)) (hv : z.cells = cs.toArray := by exact rfl) : J P n ops Q (⟨some d, .alloc T, ty, pos, aft, none⟩ :: rest) L R al := Wj hz hv k
theorem ap {α : Type} [Enc α] {t e : TypeId} {sz bytes : Nat} {z : Value} {xs ys : List α} {v u : Value} (he : ElemOf P t e sz z bytes) (hx : ev n al x = some v := by exact rfl) (hy : ev n al y = some u := by exact rfl) (hp : Pick L (row e v xs) L' := by exact pkk) (hm : sl u ys ∈ R := by exact mm) (hsz : Enc.sz α = sz := by exact rfl) (hpos : 0 < sz := by decide) (hb : ∀ w, St L R w → xs.length + ys.length ≤ maxN) (k : ∀ v', J P n ops Q rest (row e v' (xs ++ ys) :: L') R ((d, v') :: al)) : J P n ops Q (⟨some d, .call { callee := .builtin .append, args := #[x, y], argTypes := #[t, t] }, ty, pos, aft, none⟩ :: rest) L R al := Ju he hx hy hsz hpos hp hm hb k
theorem li {α : Type} [Enc α] {t el : TypeId} {sz bytes len : Nat} {z : Value} {parts : List (Nat × Operand)} {vs : List Value} (xs : List α) (he : ElemOf P t el sz z bytes) (ha : evL n al (parts.map (·.2)) = some vs) (hrd : ∀ j, (∀ q ∈ R, q.p j) → RdV xs vs j) (k : ∀ v, J P n ops Q rest L (sl v xs :: R) ((d, v) :: al)) (hsz : Enc.sz α = sz := by exact rfl) (hidx : parts.map (·.1) = List.range' 0 len := by exact rfl) (hlv : vs.length = len := by exact rfl) (hsmall : Nat.ble (len * sz) 1000 = true := by exact rfl) (hsm2 : Nat.ble len 1000 = true := by exact rfl) : J P n ops Q (⟨some d, .buildSlice t len parts.toArray, ty, pos, aft, none⟩ :: rest) L R al :=
 Sg xs he hsz ha hidx hlv hsmall hsm2 hrd fun v => J.shut .hd (k v)
theorem liO {α : Type} [Enc α] {t el : TypeId} {sz bytes len : Nat} {z : Value} {parts : List (Nat × Operand)} {vs : List Value} (xs : List α) (he : ElemOf P t el sz z bytes) (ha : evL n al (parts.map (·.2)) = some vs) (hrd : ∀ j, (∀ q ∈ R, q.p j) → RdV xs vs j) (k : ∀ v, J P n ops Q rest (row el v xs :: L) R ((d, v) :: al)) (hsz : Enc.sz α = sz := by exact rfl) (hidx : parts.map (·.1) = List.range' 0 len := by exact rfl) (hlv : vs.length = len := by exact rfl) (hsmall : Nat.ble (len * sz) 1000 = true := by exact rfl) (hsm2 : Nat.ble len 1000 = true := by exact rfl) : J P n ops Q (⟨some d, .buildSlice t len parts.toArray, ty, pos, aft, none⟩ :: rest) L R al := Sg xs he hsz ha hidx hlv hsmall hsm2 hrd k
theorem Fa {α : Type} [Enc α] {j : Mem} : RdV ([] : List α) [] j := trivial
theorem We {α : Type} [Enc α] {u : Value} {ys : List α} (hm : sl u ys ∈ R := by exact mm) : ∀ j, (∀ q ∈ R, q.p j) → RdV [ys] [u] j := fun j h => by
 have hs := h _ hm
 obtain ⟨base, cap, hv, _⟩ := id hs
 exact ⟨⟨[u], by rw [hv]; rfl, u, rfl, hs⟩, trivial⟩
theorem rd_0 {α : Type} [Enc α] [El0 α] {x : α} {v : Value} {cs : List Value} (hr : ∀ j, Enc.rd x cs j) (hv : v.cells = cs.toArray := by exact rfl) : ∀ j, (∀ q ∈ R, q.p j) → RdV [x] [v] j := fun j _ => ⟨⟨cs, hv, hr j⟩, trivial⟩
theorem cd {t : Nat} {a b : Code} {p : Prop} {hd : Decidable p} (hT : p → JC P n a Q L R ((t, .bool true) :: al)) (hF : ¬ p → JC P n b Q L R ((t, .bool false) :: al)) (hc : ev n al (.tmp t) = some (.bool (decide p)) := by exact rfl) : JC P n (.cond (.tmp t) a b) Q L R al :=
 Bh hc (fun h => hT (of_decide_eq_true h)) (fun h => hF (of_decide_eq_false h))
theorem cT {c : Operand} {a b : Code} (h : JC P n a Q L R al) (hc : ev n al c = some (.bool true) := by exact rfl) : JC P n (.cond c a b) Q L R al := Pz hc h
theorem cF_ {c : Operand} {a b : Code} (h : JC P n b Q L R al) (hc : ev n al c = some (.bool false) := by exact rfl) : JC P n (.cond c a b) Q L R al := Mc hc h
theorem cTp {t : Nat} {a b : Code} {p : Prop} {hd : Decidable p} (hp : p) (h : JC P n a Q L R al) (hc : ev n al (.tmp t) = some (.bool (decide p)) := by exact rfl) : JC P n (.cond (.tmp t) a b) Q L R al := Pz (by rw [hc, decide_eq_true hp]) h
theorem cFp {t : Nat} {a b : Code} {p : Prop} {hd : Decidable p} (hp : ¬ p) (h : JC P n b Q L R al) (hc : ev n al (.tmp t) = some (.bool (decide p)) := by exact rfl) : JC P n (.cond (.tmp t) a b) Q L R al := Mc (by rw [hc, decide_eq_false hp]) h
theorem jg {t : Nat} {p : Prop} {hd : Decidable p} {l : List Oper} (hT : p → J P n ops Q l L R ((t, .bool true) :: al)) (hF : ¬ p → J P n ops Q l L R ((t, .bool false) :: al)) (hc : ev n al (.tmp t) = some (.bool (decide p)) := by exact rfl) : J P n ops Q l L R al :=
 Md hc (fun h => hT (of_decide_eq_true h)) (fun h => hF (of_decide_eq_false h))
theorem jgx {t : Nat} {p : Prop} {hd : Decidable p} {l : List Oper} (hc : ev n al (.tmp t) = some (.bool (decide p))) (hT : p → J P n ops Q l L R ((t, .bool true) :: al)) (hF : ¬ p → J P n ops Q l L R ((t, .bool false) :: al)) : J P n ops Q l L R al := jg hT hF hc
theorem cdx {t : Nat} {a b : Code} {p : Prop} {hd : Decidable p} (hc : ev n al (.tmp t) = some (.bool (decide p))) (hT : p → JC P n a Q L R ((t, .bool true) :: al)) (hF : ¬ p → JC P n b Q L R ((t, .bool false) :: al)) : JC P n (.cond (.tmp t) a b) Q L R al := cd hT hF hc
theorem Da {a : Code} {K : Act → World → Prop} (t : Nat) (v : Value) (hx : JC P n a (Exit.then (fun a' w => ∃ B, a' = mkA n ((t, v) :: al) B ∧ St L R w) Q) L R al) (hy : JX n (Exit.then K Q) .normal L R ((t, v) :: al)) : JC P n a (Exit.then K Q) L R al := by
 intro B w hs
 refine wp_mono (hx B w hs) ?_
 intro e a' w' hq
 cases e with
 | normal => obtain ⟨B1, rfl, hs1⟩ := hq; exact hy B1 w' hs1
 | exit id => exact hq
 | goto l => exact hq
 | ret => exact hq
 | panic c => exact hq
 | outgrown => exact hq
theorem Ap {L1 : List Chunk} {R1 : List Fact} {al2 : List (Nat × Value)} (hal : Om al n al2) (hst : ∀ w, St L R w → St L1 R1 w) : JX n (Exit.then (fun a' w => ∃ B, a' = mkA n al2 B ∧ St L1 R1 w) Q) .normal L R al := by
 intro B w hs
 obtain ⟨B', hB⟩ := O6 hal B
 exact ⟨B', hB, hst w hs⟩
inductive Keep : List Nat → List (Nat × Value) → List (Nat × Value) → List (Nat × Value) → Prop
 | nil {ts acc} : Keep ts [] acc acc
 | yes {ts ts' : List Nat} {t v r acc out} : ts.contains t = true → ts.erase t = ts' → Keep ts' r ((t, v) :: acc) out → Keep ts ((t, v) :: r) acc out
 | no {ts t v r acc out} : ts.contains t = false → Keep ts r acc out → Keep ts ((t, v) :: r) acc out
theorem O9 {d t : Nat} {u : Value} {r : List (Nat × Value)} (h : d ≠ t) : Hf ((d, u) :: r) t = Hf r t := by
 simp only [Hf]
 cases hb : Nat.beq d t with
 | true => exact absurd (Nat.eq_of_beq_eq_true hb) h
 | false => rfl
theorem Sn {d : Nat} {u : Value} {r : List (Nat × Value)} : Hf ((d, u) :: r) d = some u := by simp [Hf]
theorem Keep.sub_aux {ts : List Nat} {al acc out : List (Nat × Value)} (h : Keep ts al acc out) : ∀ t v, Hf out t = some v → (∀ t, ts.count t ≤ 1) → Hf acc t = some v ∨ (Hf al t = some v ∧ t ∈ ts) := by
  induction h with
  | nil => intro t v h _; exact .inl h
  | @yes ts ts' d u r acc out h1 h2 h3 ih =>
    intro t v h hn
    subst h2
    have hd : d ∈ ts := by simpa using h1
    rcases ih t v h (fun s => Nat.le_trans (List.Sublist.count_le _ List.erase_sublist) (hn s)) with e | ⟨e1, e2⟩
    · by_cases hdt : d = t
      · subst hdt
        rw [Sn] at e
        right; rw [Sn]; exact ⟨e, hd⟩
      · rw [O9 hdt] at e; exact .inl e
    · by_cases hdt : d = t
      · subst hdt
        exfalso
        have h4 := List.count_erase_self (a := d) (l := ts)
        have h5 := hn d
        have h6 : 0 < (ts.erase d).count d := List.count_pos_iff.2 e2
        omega
      · right; rw [O9 hdt]; exact ⟨e1, List.mem_of_mem_erase e2⟩
  | @no ts d u r acc out h1 h3 ih =>
    intro t v h hn
    rcases ih t v h hn with e | ⟨e1, e2⟩
    · exact .inl e
    · right
      have hdt : d ≠ t := by intro e; subst e; simp at h1; exact h1 e2
      rw [O9 hdt]; exact ⟨e1, e2⟩
def Nt : List Nat → Bool
 | [] => true
 | x :: r => !(r.contains x) && Nt r
theorem Jd : ∀ {l : List Nat}, Nt l = true → ∀ t, l.count t ≤ 1
  | [], _, t => by simp
  | x :: r, h, t => by
    simp only [Nt, Bool.and_eq_true, Bool.not_eq_true', List.contains_eq_mem, decide_eq_false_iff_not] at h
    rw [List.count_cons]
    have := Jd h.2 t
    by_cases hx : x = t
    · subst hx; rw [List.count_eq_zero_of_not_mem h.1]; simp
    · simp [hx]; exact this
theorem Us {ts : List Nat} {al al' : List (Nat × Value)} (h : Keep ts al [] al') (hn : Nt ts = true) (B : Nat → Value) : ∃ B', mkA n al B = mkA n al' B' := by
  refine ⟨fun t => (Hf al t).getD (B t), ?_⟩
  unfold mkA
  simp only [Act.mk.injEq, and_true]
  congr 1
  funext i
  cases hl : Hf al' i with
  | none => simp
  | some v =>
    rcases h.sub_aux i v hl (Jd hn) with e | e
    · cases e
    · simp [e.1]
theorem kp {c : Code} (ts : List Nat) {al' : List (Nat × Value)} (k : JC P n c Q L R al') (h : Keep ts al [] al' := by repeat (first | exact .nil | apply Keep.yes rfl rfl | apply Keep.no rfl)) (hn : Nt ts = true := by exact rfl) : JC P n c Q L R al := by
 intro B w hs
 obtain ⟨B', hB⟩ := Us h hn B
 rw [hB]; exact k B' w hs
theorem alT {al' : List (Nat × Value)} (h : Om al n al' := by repeat (first | exact trivial | refine ⟨rfl, ?_⟩)) : Om al n al' := h
end
section
variable {P : Program} {n : Nat} {Q : Exit → Act → World → Prop} {rest : List Oper} {L L' : List Chunk} {R : List Fact} {al : List (Nat × Value)} {d : Nat} {ty : TypeId} {pos : String} {aft : Array Edge}
theorem gy {l : List Oper} {dst : Option Tmp} {op : Go.Op} {i : Nat} {b : Bool} (k : J P n l.toArray Q (⟨dst, op, ty, pos, aft, none⟩ :: rest) L R al) (hv : gv n al l i = some b := by exact rfl) : J P n l.toArray Q (⟨dst, op, ty, pos, aft, some (i, b)⟩ :: rest) L R al := J.guardYes hv k
variable {Sh : Rho → (Nat → Bool) → List Chunk} {R0 : List Fact} {al0 : List (Nat × Value)} {its : List Item} {i : Nat}
theorem dgy {l : List Oper} {dst : Option Tmp} {op : Go.Op} {q : Nat} {b : Bool} (k : DN P n l.toArray Q Sh R0 al0 i ⟨dst, op, ty, pos, aft, none⟩ rest its) (hv : ∀ ρ, gv n (Dy its al0 ρ) l q = some b := by exact fun _ => rfl) : DN P n l.toArray Q Sh R0 al0 i ⟨dst, op, ty, pos, aft, some (q, b)⟩ rest its := Re hv k
theorem dgn {l : List Oper} {op : Go.Op} {q : Nat} {b : Bool} (k : DJ P n l.toArray Q Sh R0 al0 (i + 1) rest (⟨i, some d, fun _ => undef, fun _ => [], fun _ => []⟩ :: its)) (hv : ∀ ρ, gv n (Dy its al0 ρ) l q = some (!b) := by exact fun _ => rfl) (hSh : ∀ ρ g S, S i = false → Sh (Rho.set ρ i g) (upS S i) = Sh ρ S := by exact fun _ _ _ _ => rfl) : DN P n l.toArray Q Sh R0 al0 i ⟨some d, op, ty, pos, aft, some (q, b)⟩ rest its := S7 hv hSh k
theorem dgu {l : List Oper} {op : Go.Op} {q : Nat} {b : Bool} (k : DJ P n l.toArray Q Sh R0 al0 (i + 1) rest (⟨i, some d, fun _ => undef, fun _ => [], fun _ => []⟩ :: its)) (hv : ∀ ρ, gu n (Dy its al0 ρ) l q = true := by exact fun _ => rfl) (hSh : ∀ ρ g S, S i = false → Sh (Rho.set ρ i g) (upS S i) = Sh ρ S := by exact fun _ _ _ _ => rfl) : DN P n l.toArray Q Sh R0 al0 i ⟨some d, op, ty, pos, aft, some (q, b)⟩ rest its := N6 hv hSh k
end
end Go.Proofs.Ytofgpimoekhfaaa

/- This file proves rules for parts of an array of the call's own, for appending in place, for clearing, and for slices held against nil. No conditions. -/
set_option linter.unusedVariables false
set_option linter.unusedSimpArgs false
namespace Go.Proofs.Ytofgpimoekhfaaa
open Go
def Kj : Value → Bool
 | .slice none _ _ => true
 | _ => false
theorem U4 {P : Program} {T e : TypeId} {k : Nat} {b : Option Addr} {l c : Nat} (ht : P.underlying T = some (.slice e)) (w : World) : (Op.equalIn (k + 1) T (.slice b l c) (.slice none 0 0)).run P w = .ok (Kj (.slice b l c)) w := by
 unfold Op.equalIn
 cases b <;> simp [Dm ht, Kj]
section
variable {P : Program} {n : Nat} {ops : Array Oper} {Q : Exit → Act → World → Prop} {rest : List Oper} {L L' : List Chunk} {R : List Fact} {al : List (Nat × Value)} {d : Nat} {x y : Operand} {T ty : TypeId} {pos : String} {aft : Array Edge}
theorem Wk {e U : TypeId} {v : Value} {len : Nat} (ht : P.underlying T = some (.slice e)) (hl : Dx L R v len) (hx : ev n al x = some v := by exact rfl) : Az P n al L R ⟨some d, .binOp .eql T x (.const (.slice none 0 0)) U, ty, pos, aft, none⟩ (.bool (Kj v)) :=
 ⟨rfl, fun ρ w h hs => by
  obtain ⟨base, cap, rfl, _⟩ := hl w hs
  have e1 : ρ (.const (.slice none 0 0)) = .slice none 0 0 := h _ (by simp [Op.operands]) _ rfl
  have e2 := h x (by simp [Op.operands]) _ hx
  have g : (eqGuard .eql T x (.const (.slice none 0 0)) (.slice base len cap) (.slice none 0 0)).run P w = .ok () w := by
   unfold eqGuard; rfl
  have e : (binOp .eql T (.slice base len cap) (.slice none 0 0)).run P w = .ok (.bool (Kj (.slice base len cap))) w := by
   show (Op.equal T (.slice base len cap) (.slice none 0 0) >>= fun r => Pure.pure (Value.bool r)).run P w = _
   rw [Sem.run_bind]
   have : (Op.equal T (.slice base len cap) (.slice none 0 0)).run P w = .ok (Kj (.slice base len cap)) w := by
    rw [show Op.equal T (.slice base len cap) (.slice none 0 0) = Op.equalIn (9999 + 1) T (.slice base len cap) (.slice none 0 0) from rfl, U4 ht w]
   rw [this]; rfl
  have : (execOp ρ ⟨some d, .binOp .eql T x (.const (.slice none 0 0)) U, ty, pos, aft, none⟩) = (do let v ← (do eqGuard .eql T x (.const (.slice none 0 0)) (.slice base len cap) (.slice none 0 0); binOp .eql T (.slice base len cap) (.slice none 0 0)); pure (Next.value v)) := by
   simp only [execOp, e1, e2]
  rw [this]
  simp [g, e]⟩
theorem nil_of {α : Type} [Enc α] {v : Value} {xs : List α} {w : World} (hm : sl v xs ∈ R) (hs : St L R w) (h : Kj v = true) : xs = [] := by
 obtain ⟨base, cap, rfl, _, hc⟩ := hs.fact hm
 cases base with
 | none =>
  apply Classical.byContradiction
  intro hne
  obtain ⟨a, _, _, _, _, h1, _⟩ := hc hne
  cases h1
 | some a => cases h
theorem JC.nilOf {α : Type} [Enc α] {c : Code} {v : Value} {xs : List α} (h : Kj v = true) (hm : sl v xs ∈ R) (k : xs = [] → JC P n c Q L R al) : JC P n c Q L R al := JC.know (fun w hs => nil_of hm hs h) k
end
section
variable {P : Program} {n : Nat} {L : List Chunk} {R : List Fact} {al : List (Nat × Value)} {d : Nat} {x y : Operand} {T ty : TypeId} {pos : String} {aft : Array Edge}
end
section
variable {P : Program} {n : Nat} {ops : Array Oper} {Q : Exit → Act → World → Prop} {rest : List Oper} {L L' : List Chunk} {R : List Fact} {al : List (Nat × Value)} {d : Nat} {x y : Operand} {T ty : TypeId} {pos : String} {aft : Array Edge}
variable {α : Type} [Enc α] {v : Value} {xs : List α}
end
theorem frz {P : Program} {γ : Type} {f : FuncId} {args : Array Value} {w : World} {α : Type} [Enc α] {T : TypeId} {xs : List α} {val p : γ → Value} {L : γ → List Chunk} {R : γ → List Fact} (h : Calls P f args w (Cg val (fun g => row T (p g) xs :: L g) R)) : Calls P f args w (Cg val L (fun g => sl (p g) xs :: R g)) :=
 h.mono fun e w' ⟨g, h1, h2⟩ => ⟨g, h1, h2.shut⟩
section
variable {P : Program} {n : Nat} {ops : Array Oper} {Q : Exit → Act → World → Prop} {rest : List Oper} {L L' : List Chunk} {R : List Fact} {al : List (Nat × Value)} {d : Nat} {x y : Operand} {T ty : TypeId} {pos : String} {aft : Array Edge}
theorem Hu {α : Type} {l : List α} {k : Nat} (d : α) (h : k < l.length) : l.take (k + 1) = l.take k ++ [l.getD k d] := by
 rw [List.take_add_one, getD_some d h]; rfl
end
end Go.Proofs.Ytofgpimoekhfaaa

/- This file proves the rules of a statement whose order is open where memory is made and written in it, each piece by a chain of operations. No conditions. -/
set_option linter.unusedVariables false
set_option linter.unusedSimpArgs false
namespace Go.Proofs.Ytofgpimoekhfaaa
open Go
section
variable {P : Program} {n : Nat} {Q : Exit → Act → World → Prop} {Sh : Rho → (Nat → Bool) → List Chunk} {R0 : List Fact} {al0 : List (Nat × Value)}
variable {ops : Array Oper} {i : Nat} {rest : List Oper} {its : List Item} {d : Nat} {x y : Operand} {T ty : TypeId} {pos : String} {aft : Array Edge}
def It (ops : Array Oper) (Sh : Rho → (Nat → Bool) → List Chunk) (i : Nat) : Prop := ∀ ρ g S, S i = false → (∀ j, Bef ops i j → S j = false) → Sh (Rho.set ρ i g) (upS S i) = Sh ρ S
theorem U7 {γ : Type} [Gh γ] {o : Oper} {val : γ → Value} {F : γ → List Fact} {C : γ → List Chunk} (hg : o.guard = none) (hd : o.dst = some d) (hSh : It ops Sh i)
  (h : ∀ ρ S a L' R' w (K : Act → World → Prop), Now ops n Sh R0 al0 i its o ρ S a L' R' w → (∀ g w', St (C g ++ (Sh ρ S ++ L')) (F g ++ R') w' → K (a.put (some d) (val g)) w') → o.wp P a w K Q)
  (k : DJ P n ops Q Sh R0 al0 (i + 1) rest (⟨i, some d, fun ρ => val (Gh.dec (ρ i)), fun ρ => F (Gh.dec (ρ i)), fun ρ => C (Gh.dec (ρ i))⟩ :: its)) : DJ P n ops Q Sh R0 al0 i (o :: rest) its := by
 refine dj ⟨⟨i, some d, fun ρ => val (Gh.dec (ρ i)), fun ρ => F (Gh.dec (ρ i)), fun ρ => C (Gh.dec (ρ i))⟩, rfl, hd.symm, Ind.self (h := fun g => val (Gh.dec g)), Ind.self (h := fun g => F (Gh.dec g)), Ind.self (h := fun g => C (Gh.dec g)), ?_, k⟩
 intro ρ S a L' R' w K hS hbef haft hag hdep hbase hst hK
 rw [if_pos (by simp [Region.wanted, hg])]
 left
 refine h ρ S a L' R' w K ⟨hS, hag, hdep, hbase, hst⟩ ?_
 intro g w' hs'
 have e : (Rho.set ρ i (Gh.enc g)) i = Gh.enc g := by simp [Rho.set]
 have := hK (Gh.enc g) w'
 simp only [e, Gh.ok, hd, hSh ρ (Gh.enc g) S hS haft] at this
 refine this (hs'.perm ?_)
 rw [← List.append_assoc, ← List.append_assoc]
 exact List.Perm.append_right _ List.perm_append_comm
theorem e_p {op : Oper} {v : Rho → Value} (hp : ∀ ρ S, Az P n (Dy its al0 ρ) (Sh ρ S) R0 op (v ρ)) (hi : Ind ops i v) (hSh : It ops Sh i)
  (k : DJ P n ops Q Sh R0 al0 (i + 1) rest (⟨i, some d, v, fun _ => [], fun _ => []⟩ :: its)) (hd : op.dst = some d := by exact rfl) : DJ P n ops Q Sh R0 al0 i (op :: rest) its := by
 refine dj ⟨⟨i, some d, v, fun _ => [], fun _ => []⟩, rfl, hd.symm, hi, Ind.const _, Ind.const _, ?_, k⟩
 intro ρ S a L' R' w K hS hbef haft hag hdep hbase hst hK
 have hp0 := hp ρ S
 rw [if_pos (by simp [Region.wanted, hp0.1])]
 left
 unfold Oper.wp
 have h : Now ops n Sh R0 al0 i its op ρ S a L' R' w := ⟨hS, hag, hdep, hbase, hst⟩
 rw [hp0.2 _ w (fun x hx u hu => Cf h.agree hx hu) (h.st.fewer h.base), Oper.upon_value]
 have hsh := hSh ρ (ρ i) S hS haft
 rw [Rho.set_same] at hsh
 have := hK (ρ i) w
 rw [Rho.set_same] at this
 exact this (by rw [hsh]; exact hst)
theorem Vz {op : Oper} {v : Value} (hp : ∀ ρ S, S i = false → (∀ j, Bef ops j i → S j = true) → (∀ j, Bef ops i j → S j = false) → Az P n (Dy its al0 ρ) (Sh ρ S) R0 op v) (hSh : It ops Sh i)
  (k : DJ P n ops Q Sh R0 al0 (i + 1) rest (⟨i, some d, fun _ => v, fun _ => [], fun _ => []⟩ :: its)) (hpure : op.guard = none := by exact rfl) (hd : op.dst = some d := by exact rfl) : DJ P n ops Q Sh R0 al0 i (op :: rest) its := by
 refine dj ⟨⟨i, some d, fun _ => v, fun _ => [], fun _ => []⟩, rfl, hd.symm, Ind.const _, Ind.const _, Ind.const _, ?_, k⟩
 intro ρ S a L' R' w K hS hbef haft hag hdep hbase hst hK
 have hp0 := hp ρ S hS hbef haft
 rw [if_pos (by simp [Region.wanted, hp0.1])]
 left
 unfold Oper.wp
 have h : Now ops n Sh R0 al0 i its op ρ S a L' R' w := ⟨hS, hag, hdep, hbase, hst⟩
 rw [hp0.2 _ w (fun x hx u hu => Cf h.agree hx hu) (h.st.fewer h.base), Oper.upon_value]
 have hsh := hSh ρ (ρ i) S hS haft
 rw [Rho.set_same] at hsh
 have := hK (ρ i) w
 rw [Rho.set_same] at this
 exact this (by rw [hsh]; exact hst)
theorem Jj {s : Bool} {x y : List Value} {f : Nat} {c : Value} (hx : x[f]? = some c) (hy : y[f]? = some c) : (bif s then x else y)[f]? = some c := by cases s <;> assumption
theorem Yc {op : Oper} {v : Value} (hp : ∀ ρ S, Az P n (Dy its al0 ρ) (Sh ρ S) R0 op v) (hSh : It ops Sh i)
  (k : DJ P n ops Q Sh R0 al0 (i + 1) rest (⟨i, some d, fun _ => v, fun _ => [], fun _ => []⟩ :: its)) (hd : op.dst = some d := by exact rfl) : DJ P n ops Q Sh R0 al0 i (op :: rest) its := e_p hp (Ind.const _) hSh k hd
theorem Bp {γ : Type} [Gh γ] {val : γ → Value} {F : γ → List Fact} {f : FuncId} {args : List Operand} {ts : Array TypeId} {vs : Rho → List Value} (hf : ∀ args w, (callFunc f args).run P w = .ok (.enter f args) w)
  (ha : ∀ ρ, evL n (Dy its al0 ρ) args = some (vs ρ)) (hc : ∀ ρ L' R' w, Deps ops R0 its i ρ R' → St L' R' w → Calls P f (vs ρ).toArray w (Cg val (fun _ => L') (fun g => F g ++ R'))) (hSh : It ops Sh i)
  (k : DJ P n ops Q Sh R0 al0 (i + 1) rest (⟨i, some d, fun ρ => val (Gh.dec (ρ i)), fun ρ => F (Gh.dec (ρ i)), fun ρ => []⟩ :: its)) :
  DJ P n ops Q Sh R0 al0 i (⟨some d, .call { callee := .value (.func f), args := args.toArray, argTypes := ts }, ty, pos, aft, none⟩ :: rest) its :=
 U7 (C := fun _ => []) rfl rfl hSh (fun ρ S a L' R' w K h hK => by
  unfold Oper.wp
  rw [Ii hf rfl, Oper.upon_enter, List.map_toArray, Fh h.agree (fun x hx => by simp [Op.operands, Call.operands, hx]) (ha ρ)]
  refine (hc ρ _ _ w ⟨h.base, h.deps⟩ h.st).mono ?_
  rintro e w' ⟨g, rfl, hs'⟩
  exact hK g w' hs') k
theorem G5 {γ : Type} [Gh γ] {val : γ → Value} {F : γ → List Fact} {f : FuncId} {args : List Operand} {ts : Array TypeId} {vs caps : List Value} (hx : ∀ ρ, ev n (Dy its al0 ρ) x = some (.func (.func f) #[] caps.toArray)) (hf : ∀ args w, (callFunc f args).run P w = .ok (.enter f args) w)
  (ha : ∀ ρ, evL n (Dy its al0 ρ) args = some vs) (hc : ∀ ρ S L' R' w, St (Sh ρ S ++ L') R' w → Deps ops R0 its i ρ R' → Calls P f (vs ++ caps).toArray w (Cg val (fun _ => Sh ρ S ++ L') (fun g => F g ++ R'))) (hSh : It ops Sh i)
  (k : DJ P n ops Q Sh R0 al0 (i + 1) rest (⟨i, some d, fun ρ => val (Gh.dec (ρ i)), fun ρ => F (Gh.dec (ρ i)), fun ρ => []⟩ :: its)) :
  DJ P n ops Q Sh R0 al0 i (⟨some d, .call { callee := .value x, args := args.toArray, argTypes := ts }, ty, pos, aft, none⟩ :: rest) its :=
 U7 (C := fun _ => []) rfl rfl hSh (fun ρ S a L' R' w K h hK => by
  unfold Oper.wp
  have e1 : a.eval x = .func (.func f) #[] caps.toArray := Cf h.agree (by simp [Op.operands, Call.operands]) (hx ρ)
  rw [Lr hf e1, Oper.upon_enter, List.map_toArray, Fh h.agree (fun x hx => by simp [Op.operands, Call.operands, hx]) (ha ρ), List.append_toArray]
  refine (hc ρ S L' R' w h.st ⟨h.base, h.deps⟩).mono ?_
  rintro e w' ⟨g, rfl, hs'⟩
  exact hK g w' hs') k
theorem Gn {α : Type} [Enc α] {t el : TypeId} {sz bytes len : Nat} {z : Value} {parts : List (Nat × Operand)} {vs : Rho → List Value} (xs : List α) (he : ElemOf P t el sz z bytes) (hsz : Enc.sz α = sz)
  (ha : ∀ ρ, evL n (Dy its al0 ρ) (parts.map (·.2)) = some (vs ρ)) (hidx : parts.map (·.1) = List.range' 0 len) (hlv : ∀ ρ, (vs ρ).length = len) (hsmall : Nat.ble (len * sz) 1000 = true) (hsm2 : Nat.ble len 1000 = true)
  (hrd : ∀ ρ R', Deps ops R0 its i ρ R' → ∀ j, (∀ q ∈ R', q.p j) → RdV xs (vs ρ) j) (hSh : It ops Sh i)
  (k : DJ P n ops Q Sh R0 al0 (i + 1) rest (⟨i, some d, fun ρ => (Gh.dec (ρ i) : Value), fun ρ => [sl (Gh.dec (ρ i) : Value) xs], fun _ => []⟩ :: its)) :
  DJ P n ops Q Sh R0 al0 i (⟨some d, .buildSlice t len parts.toArray, ty, pos, aft, none⟩ :: rest) its :=
 U7 (γ := Value) (val := fun v => v) (F := fun v => [sl v xs]) (C := fun _ => []) rfl rfl hSh (fun ρ S ac L' R' w K h hK => by
  obtain ⟨j, hj, hrj⟩ := h.st.ex
  have hrd' := hrd ρ R' ⟨h.base, h.deps⟩
  obtain ⟨h1, h2, h3⟩ := (hrd' j hrj).list
  have hlen := hlv ρ
  have hb := Nat.le_of_ble_eq_true hsmall
  have hb2 := Nat.le_of_ble_eq_true hsm2
  have hrun := Fn (vs := vs ρ) he (fun v hv => by rw [h2 v hv, hsz]) (by rw [hlen]; exact hb) w
  have e : (execOp ac.eval ⟨some d, .buildSlice t len parts.toArray, ty, pos, aft, none⟩).run P w = .ok (.value (.slice (some ⟨w.heap.size, 0, none⟩) len len)) (w.alloc (.cells ((vs ρ).flatMap fun v => v.cells.toList).toArray el)) := by
   show (Instr.buildSlice t len (parts.toArray.map fun (i, x) => (i, ac.eval x)) >>= fun v => Pure.pure (Next.value v)).run P w = _
   have hp : (parts.toArray.map fun (i, x) => (i, ac.eval x)) = ((parts.map (·.1)).zip (vs ρ)).toArray := by
    rw [← Fh h.agree (fun x hx => by simpa [Op.operands] using hx) (ha ρ)]
    simp only [List.map_toArray, List.map_map, List.zip_map', Function.comp_def]
   rw [hp, hidx, Sem.run_bind, ← hlen, hrun]; rfl
  unfold Oper.wp
  rw [e, Oper.upon_value]
  refine hK _ _ ?_
  obtain ⟨m, j', hd, hmw, hjw, hst, hr⟩ := h.st
  have hnew : St (row el (.slice (some ⟨w.heap.size, 0, none⟩) len len) xs :: (Sh ρ S ++ L')) R' (w.alloc (.cells ((vs ρ).flatMap fun v => v.cells.toList).toArray el)) := by
   obtain ⟨g1, g2, g3⟩ := (hrd' j' hr).list
   have hcl : ((vs ρ).flatMap fun v => v.cells.toList).length = len * sz := by rw [g3.len, g1, hlen, hsz]
   exact St.newC hd hmw hjw hst hr rfl rfl rfl ⟨by rw [g1, hlen]; have : maxN = 16777216 := rfl; omega, .inr ⟨w.heap.size, len, _, _, by rw [g1, hlen], Et _ _, by rw [g1, hlen]; exact Nat.le_refl _, by unfold maxLen; omega, by rw [hsz]; simpa using hcl, rfl, by
    rw [g1, hlen, hsz, ← hcl, List.toList_toArray, List.take_length]; exact g3⟩⟩
  exact hnew.shut) k
theorem Vy {α : Type} [Enc α] {t el : TypeId} {sz bytes : Nat} {z : Value} {zc : List Value} {a : Int} {x0 : α} (he : ElemOf P t el sz z bytes) (hsz : Enc.sz α = sz) (hpos : 0 < sz) (hx : ∀ ρ, ev n (Dy its al0 ρ) x = some (vi a)) (hy : ∀ ρ, ev n (Dy its al0 ρ) y = some (vi a))
  (hzc : z.cells = zc.toArray) (hrd : ∀ j, Enc.rd x0 zc j) (h0 : 0 ≤ a) (hN : a ≤ 16777216) (hSh : ∀ ρ g S, S i = false → Sh (Rho.set ρ i g) (upS S i) = Sh ρ S)
  (k : DJ P n ops Q Sh R0 al0 (i + 1) rest (⟨i, some d, fun ρ => (Gh.dec (ρ i) : Value), fun ρ => [sl (Gh.dec (ρ i) : Value) (List.replicate a.toNat x0)], fun _ => []⟩ :: its)) :
  DJ P n ops Q Sh R0 al0 i (⟨some d, .makeSlice t x y, ty, pos, aft, none⟩ :: rest) its := dj (d_make he hsz hpos hx hy hzc hrd h0 hN hSh k)
theorem Kt {z : Value} {cs : List Value} (hz : ∀ w, (zeroValue T).run P w = .ok z w) (hv : z.cells = cs.toArray) (hSh : ∀ ρ (b : Nat) S, S i = false → (∀ j, Bef ops i j → S j = false) → (Sh (Rho.set ρ i (Gh.enc b)) (upS S i)).Perm (blk b T cs :: Sh ρ S))
  (k : DJ P n ops Q Sh R0 al0 (i + 1) rest (⟨i, some d, fun ρ => bp (Gh.dec (γ := Nat) (ρ i)) 0, fun _ => [], fun _ => []⟩ :: its)) : DJ P n ops Q Sh R0 al0 i (⟨some d, .alloc T, ty, pos, aft, none⟩ :: rest) its := dj (S8 hz hv hSh k)
theorem Yb {f : Nat} {vs us : Rho → List Value} {v : Rho → Value} {sz : Nat} {T0 : TypeId} (bb : Rho → Nat) (hsz : ∀ w, (sizeOf T).run P w = .ok sz w) (hx : ∀ ρ, ev n (Dy its al0 ρ) x = some (bp (bb ρ) f)) (hy : ∀ ρ, ev n (Dy its al0 ρ) y = some (v ρ)) (hv : ∀ ρ, (v ρ).cells = (us ρ).toArray) (hl : ∀ ρ, (us ρ).length = sz)
  (h1 : ∀ ρ R' w L', Deps ops R0 its i ρ R' → St L' R' w → ∀ u ∈ us ρ, u.oneCell' = true) (hf : ∀ ρ, Nat.ble (f + sz) (vs ρ).length = true)
  (hSh : ∀ ρ g S, S i = false → (∀ j, Bef ops j i → S j = true) → (∀ j, Bef ops i j → S j = false) → ∃ L1, (Sh ρ S).Perm (blk (bb ρ) T0 (vs ρ) :: L1) ∧ (Sh (Rho.set ρ i g) (upS S i)).Perm (blk (bb ρ) T0 ((vs ρ).take f ++ us ρ ++ (vs ρ).drop (f + sz)) :: L1))
  (k : DJ P n ops Q Sh R0 al0 (i + 1) rest (⟨i, none, fun _ => undef, fun _ => [], fun _ => []⟩ :: its)) : DJ P n ops Q Sh R0 al0 i (⟨none, .store T x y, ty, pos, aft, none⟩ :: rest) its := by
 refine dj ⟨⟨i, none, fun _ => undef, fun _ => [], fun _ => []⟩, rfl, rfl, Ind.const _, Ind.const _, Ind.const _, ?_, k⟩
 intro ρ S a L' R' w K hS hbef haft hag hdep hbase hst hK
 rw [if_pos (by simp [Region.wanted])]
 left
 unfold Oper.wp
 obtain ⟨L1, p1, p2⟩ := hSh ρ (ρ i) S hS hbef haft
 have hs' : St (blk (bb ρ) T0 (vs ρ) :: (L1 ++ L')) R' w := hst.perm (p1.append_right L')
 have hone := h1 ρ R' w _ ⟨hbase, hdep⟩ hst
 have hfit : f + (us ρ).length ≤ (vs ρ).length := by rw [hl]; exact Nat.le_of_ble_eq_true (hf ρ)
 have e : (execOp a.eval ⟨none, .store T x y, ty, pos, aft, none⟩).run P w = .ok .skip (w.setRow (bb ρ) ((vs ρ).take f ++ us ρ ++ (vs ρ).drop (f + (us ρ).length)).toArray) := by
  refine Eo ?_
  rw [Cf hag (by simp [Op.operands]) (hx ρ), Cf hag (by simp [Op.operands]) (hy ρ)]
  have := run_storeCells_at P (bb ρ) f T0 (us ρ) 0 (vs ρ).toArray w hs'.blk_get (by simpa using hfit) hone
  simp only [Nat.add_zero] at this
  have hl' := hl ρ
  simp [Instr.storeAt, Instr.sureAddr, storeVar, hsz, hv, bp, hl', this]
 rw [e, Oper.upon_skip]
 refine hK (ρ i) _ ?_
 have hnew := hs'.blk_set (D8 (us := (vs ρ).take f ++ us ρ ++ (vs ρ).drop (f + (us ρ).length)) hs'.blk_get).1 (D8 hs'.blk_get).2 rfl rfl
 rw [hl] at hnew ⊢
 exact hnew.perm (p2.symm.append_right L')
end
inductive Ins : List Chunk → List Chunk → Chunk → Prop
 | hd {r x} : Ins ([x] ++ r) r x
 | hc {r x} : Ins (x :: r) r x
 | tl {r r' x c} : Ins r' r x → Ins (c :: r') (c :: r) x
 | ap {r r' x P} : Ins r' r x → Ins (P ++ r') (P ++ r) x
theorem Ins.perm {l' l : List Chunk} {x : Chunk} (h : Ins l' l x) : l'.Perm (x :: l) := by
 induction h with
 | hd => exact .refl _
 | hc => exact .refl _
 | tl _ ih => exact (ih.cons _).trans (.swap ..)
 | ap _ ih => exact (ih.append_left _).trans List.perm_middle
inductive Pos : List Chunk → List Chunk → Chunk → Chunk → List Chunk → Prop
 | hd {r x x'} : Pos ([x] ++ r) ([x'] ++ r) x x' r
 | hc {r x x'} : Pos (x :: r) (x' :: r) x x' r
 | tl {r r' x x' c L1} : Pos r r' x x' L1 → Pos (c :: r) (c :: r') x x' (c :: L1)
 | ap {r r' x x' P L1} : Pos r r' x x' L1 → Pos (P ++ r) (P ++ r') x x' (P ++ L1)
theorem Pos.ex {l l' L1 : List Chunk} {x x' : Chunk} (h : Pos l l' x x' L1) : ∃ L1, l.Perm (x :: L1) ∧ l'.Perm (x' :: L1) := by
 induction h with
 | hd => exact ⟨_, .refl _, .refl _⟩
 | hc => exact ⟨_, .refl _, .refl _⟩
 | tl _ ih => obtain ⟨L1, h1, h2⟩ := ih; exact ⟨_ :: L1, (h1.cons _).trans (.swap ..), (h2.cons _).trans (.swap ..)⟩
 | ap _ ih => obtain ⟨L1, h1, h2⟩ := ih; exact ⟨_ ++ L1, (h1.append_left _).trans List.perm_middle, (h2.append_left _).trans List.perm_middle⟩
section
variable {P : Program} {n : Nat} {ops : Array Oper} {Q : Exit → Act → World → Prop} {rest : List Oper} {L L' : List Chunk} {R : List Fact} {al : List (Nat × Value)} {d : Nat} {x y : Operand} {T ty : TypeId} {pos : String} {aft : Array Edge}
theorem s_W {α : Type} [Enc α] {T' : TypeId} {v : Value} {xs : List α} {i sz : Nat} {cs : List Value} (e' : α) (hsz : ∀ w, (sizeOf T).run P w = .ok sz w) (hx : ev n al x = some (ep v sz i 0)) (hy : ev n al y = some (.agg cs.toArray)) (hes : Enc.sz α = sz) (hp : Pick L (row T' v xs) L') (hi : i < xs.length) (hrd : ∀ j, (∀ q ∈ R, q.p j) → Enc.rd e' cs j)
  (k : J P n ops Q rest (row T' v (xs.set i e') :: L') R al) : J P n ops Q (⟨none, .store T x y, ty, pos, aft, none⟩ :: rest) L R al := fun B w hs => by
 obtain ⟨j, _, hr⟩ := hs.ex
 have hl := Enc.len _ _ _ (hrd j hr)
 subst hes
 obtain ⟨e, he⟩ : ∃ e, xs[i]? = some e := ⟨xs[i], List.getElem?_eq_getElem hi⟩
 refine Ln (α := α) (f := 0) (cs := cs) (e := e) (e' := e') hsz hx hy rfl hl (Enc.one _ _ _ (hrd j hr)) hp he (fun ds m hr => by rw [Enc.len _ _ _ hr, hl]; omega) (fun j hj ds hr => ?_) k B w hs
 have hd := Enc.len _ _ _ hr
 have : ds.take 0 ++ cs ++ ds.drop (0 + cs.length) = cs := by rw [List.drop_of_length_le (by omega)]; simp
 rw [this]; exact hrd j hj
theorem Wf {u : Value} {e : Entry} (hm : sl u e.last ∈ R) (hw : e.wf) : ∀ j, (∀ q ∈ R, q.p j) → Enc.rd e (e.cells u) j := fun j h => ⟨u, rfl, h _ hm, hw⟩
theorem rdCore {u : Value} {e : Core} (hm : sl u e.lines ∈ R) (hw : e.wait.wf) : ∀ j, (∀ q ∈ R, q.p j) → Enc.rd e (e.cells u) j := fun j h => ⟨u, rfl, h _ hm, hw⟩
theorem rdLine {e : Line} (hw : e.wf) : ∀ j, (∀ q ∈ R, q.p j) → Enc.rd e e.cells j := fun j h => ⟨rfl, hw⟩
theorem Jl {e : Msg} (hw : e.wf) : ∀ j, (∀ q ∈ R, q.p j) → RdV [e] [.agg e.cells.toArray] j := fun j _ => ⟨⟨_, rfl, rfl, hw⟩, trivial⟩
theorem Gv {e : Done} (hw : e.wf) : ∀ j, (∀ q ∈ R, q.p j) → RdV [e] [.agg e.cells.toArray] j := fun j _ => ⟨⟨_, rfl, rfl, hw⟩, trivial⟩
end
end Go.Proofs.Ytofgpimoekhfaaa

/- This file proves the rule of a statement whose order is open that writes a whole element of an owned row. No conditions. -/
set_option linter.unusedVariables false
set_option linter.unusedSimpArgs false
namespace Go.Proofs.Ytofgpimoekhfaaa
open Go
section
variable {P : Program} {n : Nat} {Q : Exit → Act → World → Prop} {Sh : Rho → (Nat → Bool) → List Chunk} {R0 : List Fact} {al0 : List (Nat × Value)}
variable {ops : Array Oper} {i : Nat} {rest : List Oper} {its : List Item} {x y : Operand} {T ty : TypeId} {pos : String} {aft : Array Edge}
theorem Mi {f : Nat} {vs : Rho → List Value} {v : Rho → Value} {T0 : TypeId} (bb : Rho → Nat) (hsz : ∀ w, (sizeOf T).run P w = .ok 1 w) (hx : ∀ ρ, ev n (Dy its al0 ρ) x = some (bp (bb ρ) f)) (hy : ∀ ρ, ev n (Dy its al0 ρ) y = some (v ρ))
  (h1 : ∀ ρ S R' w L', (∀ j, Bef ops j i → S j = true) → Deps ops R0 its i ρ R' → St (Sh ρ S ++ L') R' w → (v ρ).oneCell' = true) (hf : ∀ ρ, Nat.ble (f + 1) (vs ρ).length = true)
  (hSh : ∀ ρ g S, S i = false → (∀ j, Bef ops j i → S j = true) → (∀ j, Bef ops i j → S j = false) → ∃ L1, (Sh ρ S).Perm (blk (bb ρ) T0 (vs ρ) :: L1) ∧ (Sh (Rho.set ρ i g) (upS S i)).Perm (blk (bb ρ) T0 ((vs ρ).take f ++ [v ρ] ++ (vs ρ).drop (f + 1)) :: L1))
  (k : DJ P n ops Q Sh R0 al0 (i + 1) rest (⟨i, none, fun _ => undef, fun _ => [], fun _ => []⟩ :: its)) : DJ P n ops Q Sh R0 al0 i (⟨none, .store T x y, ty, pos, aft, none⟩ :: rest) its := by
 refine dj ⟨⟨i, none, fun _ => undef, fun _ => [], fun _ => []⟩, rfl, rfl, Ind.const _, Ind.const _, Ind.const _, ?_, k⟩
 intro ρ S a L' R' w K hS hbef haft hag hdep hbase hst hK
 rw [if_pos (by simp [Region.wanted])]
 left
 unfold Oper.wp
 obtain ⟨L1, p1, p2⟩ := hSh ρ (ρ i) S hS hbef haft
 have hs' : St (blk (bb ρ) T0 (vs ρ) :: (L1 ++ L')) R' w := hst.perm (p1.append_right L')
 have hone := h1 ρ S R' w _ hbef ⟨hbase, hdep⟩ hst
 have hone' : ∀ u ∈ [v ρ], u.oneCell' = true := by intro u hu; cases List.mem_singleton.1 hu; exact hone
 have hfit : f + [v ρ].length ≤ (vs ρ).length := Nat.le_of_ble_eq_true (hf ρ)
 have hc := G8 hone
 have e : (execOp a.eval ⟨none, .store T x y, ty, pos, aft, none⟩).run P w = .ok .skip (w.setRow (bb ρ) ((vs ρ).take f ++ [v ρ] ++ (vs ρ).drop (f + 1)).toArray) := by
  refine Eo ?_
  rw [Cf hag (by simp [Op.operands]) (hx ρ), Cf hag (by simp [Op.operands]) (hy ρ)]
  have := run_storeCells_at P (bb ρ) f T0 [v ρ] 0 (vs ρ).toArray w hs'.blk_get (by simpa using hfit) hone'
  simp only [Nat.add_zero, List.length_cons, List.length_nil, Nat.zero_add] at this
  simp [Instr.storeAt, Instr.sureAddr, storeVar, hsz, hc, bp, this]
 rw [e, Oper.upon_skip]
 refine hK (ρ i) _ ?_
 have hnew := hs'.blk_set (D8 (us := (vs ρ).take f ++ [v ρ] ++ (vs ρ).drop (f + 1)) hs'.blk_get).1 (D8 hs'.blk_get).2 rfl rfl
 exact hnew.perm (p2.symm.append_right L')
theorem e_pd {op : Oper} {d : Nat} {v : Rho → Value} (hp : ∀ ρ S R' L' w, Deps ops R0 its i ρ R' → St (Sh ρ S ++ L') R' w → Az P n (Dy its al0 ρ) (Sh ρ S) R0 op (v ρ)) (hi : Ind ops i v) (hSh : It ops Sh i)
  (k : DJ P n ops Q Sh R0 al0 (i + 1) rest (⟨i, some d, v, fun _ => [], fun _ => []⟩ :: its)) (hg : op.guard = none := by exact rfl) (hd : op.dst = some d := by exact rfl) : DJ P n ops Q Sh R0 al0 i (op :: rest) its := by
 refine dj ⟨⟨i, some d, v, fun _ => [], fun _ => []⟩, rfl, hd.symm, hi, Ind.const _, Ind.const _, ?_, k⟩
 intro ρ S a L' R' w K hS hbef haft hag hdep hbase hst hK
 have hp0 := hp ρ S R' L' w ⟨hbase, hdep⟩ hst
 rw [if_pos (by simp [Region.wanted, hg])]
 left
 unfold Oper.wp
 have h : Now ops n Sh R0 al0 i its op ρ S a L' R' w := ⟨hS, hag, hdep, hbase, hst⟩
 rw [hp0.2 _ w (fun x hx u hu => Cf h.agree hx hu) (h.st.fewer h.base), Oper.upon_value]
 have hsh := hSh ρ (ρ i) S hS haft
 rw [Rho.set_same] at hsh
 have := hK (ρ i) w
 rw [Rho.set_same] at this
 exact this (by rw [hsh]; exact hst)
theorem Hv {α : Type} [Enc α] {L L' : List Chunk} {R : List Fact} {w : World} {T : TypeId} {v : Value} {xs : List α} (hp : Pick L (row T v xs) L') (hs : St L R w) : v.oneCell' = true := isSlice.one (St.fact (List.Mem.head _) (hs.pick hp).shut)
theorem P7 {α : Type} [Enc α] {f k sz : Nat} {hv : Value} {xs : List α} {vs : Rho → List Value} {v : Rho → Value} {T0 : TypeId} (hes : Enc.sz α = sz) (hsz : ∀ w, (sizeOf T).run P w = .ok 1 w) (hx : ∀ ρ, ev n (Dy its al0 ρ) x = some (ep hv sz k f)) (hy : ∀ ρ, ev n (Dy its al0 ρ) y = some (v ρ))
  (h1 : ∀ ρ S R' w L', (∀ j, Bef ops j i → S j = true) → Deps ops R0 its i ρ R' → St (Sh ρ S ++ L') R' w → (v ρ).oneCell' = true) (hf : ∀ ρ, Nat.ble (f + 1) (vs ρ).length = true)
  (hSh : ∀ ρ g S, S i = false → (∀ j, Bef ops j i → S j = true) → (∀ j, Bef ops i j → S j = false) → ∃ L1, (Sh ρ S).Perm (foc T0 hv xs k (vs ρ) :: L1) ∧ (Sh (Rho.set ρ i g) (upS S i)).Perm (foc T0 hv xs k ((vs ρ).take f ++ [v ρ] ++ (vs ρ).drop (f + 1)) :: L1))
  (kk : DJ P n ops Q Sh R0 al0 (i + 1) rest (⟨i, none, fun _ => undef, fun _ => [], fun _ => []⟩ :: its)) : DJ P n ops Q Sh R0 al0 i (⟨none, .store T x y, ty, pos, aft, none⟩ :: rest) its := by
 refine dj ⟨⟨i, none, fun _ => undef, fun _ => [], fun _ => []⟩, rfl, rfl, Ind.const _, Ind.const _, Ind.const _, ?_, kk⟩
 intro ρ S a L' R' w K hS hbef haft hag hdep hbase hst hK
 rw [if_pos (by simp [Region.wanted])]
 left
 unfold Oper.wp
 obtain ⟨L1, p1, p2⟩ := hSh ρ (ρ i) S hS hbef haft
 have hs' : St (foc T0 hv xs k (vs ρ) :: (L1 ++ L')) R' w := hst.perm (p1.append_right L')
 have hone := h1 ρ S R' w _ hbef ⟨hbase, hdep⟩ hst
 have hone' : ∀ u ∈ [v ρ], u.oneCell' = true := by intro u hu; cases List.mem_singleton.1 hu; exact hone
 have hfit : f + [v ρ].length ≤ (vs ρ).length := Nat.le_of_ble_eq_true (hf ρ)
 have hc := G8 hone
 subst hes
 obtain ⟨g, cap, cur, hv', hg, hfit', hst'⟩ := Sz hs' hone' hfit
 have e : (execOp a.eval ⟨none, .store T x y, ty, pos, aft, none⟩).run P w = .ok .skip (w.setRow g (cur.toList.take (k * Enc.sz α + f) ++ [v ρ] ++ cur.toList.drop (k * Enc.sz α + f + [v ρ].length)).toArray) := by
  refine Eo ?_
  rw [Cf hag (by simp [Op.operands]) (hx ρ), Cf hag (by simp [Op.operands]) (hy ρ), hv', N4, Ht]
  have := run_storeCells_at P g (k * Enc.sz α + f) T0 [v ρ] 0 cur w hg (by simpa using hfit') hone'
  simp only [Nat.add_zero, List.length_cons, List.length_nil, Nat.zero_add] at this ⊢
  simp [Instr.storeAt, Instr.sureAddr, storeVar, hsz, hc, this]
 rw [e, Oper.upon_skip]
 refine hK (ρ i) _ ?_
 exact hst'.perm (p2.symm.append_right L')
theorem U6 {α : Type} [Enc α] {v : Value} {xs : List α} {k sz : Nat} {T0 : TypeId} {e' : α} {c : Rho → Value} {cs : Rho → List Value} (hsz : ∀ w, (sizeOf T).run P w = .ok sz w) (hes : Enc.sz α = sz) (hi : k < xs.length)
  (hx : ∀ ρ, ev n (Dy its al0 ρ) x = some (ep v sz k 0)) (hy : ∀ ρ, ev n (Dy its al0 ρ) y = some (c ρ)) (hc : ∀ ρ, (c ρ).oneCell' = true → (c ρ).cells = (cs ρ).toArray) (hone : ∀ ρ R' w L', Deps ops R0 its i ρ R' → St L' R' w → (c ρ).oneCell' = true)
  (hrd : ∀ ρ R', Deps ops R0 its i ρ R' → ∀ j, (∀ q ∈ R', q.p j) → Enc.rd e' (cs ρ) j)
  (hSh : ∀ ρ g S, S i = false → (∀ j, Bef ops j i → S j = true) → (∀ j, Bef ops i j → S j = false) → ∃ L1, (Sh ρ S).Perm (row T0 v xs :: L1) ∧ (Sh (Rho.set ρ i g) (upS S i)).Perm (row T0 v (xs.set k e') :: L1))
  (kk : DJ P n ops Q Sh R0 al0 (i + 1) rest (⟨i, none, fun _ => undef, fun _ => [], fun _ => []⟩ :: its)) : DJ P n ops Q Sh R0 al0 i (⟨none, .store T x y, ty, pos, aft, none⟩ :: rest) its := by
 refine dj ⟨⟨i, none, fun _ => undef, fun _ => [], fun _ => []⟩, rfl, rfl, Ind.const _, Ind.const _, Ind.const _, ?_, kk⟩
 intro ρ S a L' R' w K hS hbef haft hag hdep hbase hst hK
 rw [if_pos (by simp [Region.wanted])]
 left
 unfold Oper.wp
 obtain ⟨L1, p1, p2⟩ := hSh ρ (ρ i) S hS hbef haft
 have hs' : St (row T0 v xs :: (L1 ++ L')) R' w := hst.perm (p1.append_right L')
 have hdeps : Deps ops R0 its i ρ R' := ⟨hbase, hdep⟩
 have h1c := hone ρ R' w _ hdeps hst
 obtain ⟨j0, _, hr0⟩ := hst.ex
 have hrd0 := hrd ρ R' hdeps
 have hl := Enc.len _ _ _ (hrd0 j0 hr0)
 have h1 := Enc.one _ _ _ (hrd0 j0 hr0)
 obtain ⟨e, he⟩ : ∃ e, xs[k]? = some e := ⟨xs[k], List.getElem?_eq_getElem hi⟩
 subst hes
 have hf : ∀ ds m, Enc.rd e ds m → 0 + (cs ρ).length ≤ ds.length := fun ds m hr => by rw [Enc.len _ _ _ hr, hl]; omega
 have hw : ∀ j, (∀ q ∈ R', q.p j) → ∀ ds, Enc.rd e ds j → Enc.rd e' (ds.take 0 ++ cs ρ ++ ds.drop (0 + (cs ρ).length)) j := fun j hj ds hr => by
  have hd := Enc.len _ _ _ hr
  have : ds.take 0 ++ cs ρ ++ ds.drop (0 + (cs ρ).length) = cs ρ := by rw [List.drop_of_length_le (by omega)]; simp
  rw [this]; exact hrd0 j hj
 obtain ⟨g, cap, cur, hv, hg, hfit, hst'⟩ := J4 (w' := w) hs' he hf hw
 have hcx := hc ρ h1c
 have e9 : (execOp a.eval ⟨none, .store T x y, ty, pos, aft, none⟩).run P w = .ok .skip (w.setRow g (cur.toList.take (k * Enc.sz α + 0) ++ cs ρ ++ cur.toList.drop (k * Enc.sz α + 0 + (cs ρ).length)).toArray) := by
  refine Eo ?_
  rw [Cf hag (by simp [Op.operands]) (hx ρ), Cf hag (by simp [Op.operands]) (hy ρ), hv, N4, Ht]
  have := run_storeCells_at P g (k * Enc.sz α + 0) T0 (cs ρ) 0 cur w hg (by simpa using hfit) h1
  simp only [Nat.add_zero, Nat.zero_add] at this ⊢
  rw [hl] at this ⊢
  simp [Instr.storeAt, Instr.sureAddr, storeVar, hsz, hcx, hl, this]
 rw [e9, Oper.upon_skip]
 refine hK (ρ i) _ ?_
 exact hst'.perm (p2.symm.append_right L')
end
end Go.Proofs.Ytofgpimoekhfaaa

/- This file proves how many plain operations are walked in one step; the facts of types are found by their numbers. No conditions. -/
set_option linter.unusedVariables false
set_option linter.unusedSimpArgs false
set_option maxHeartbeats 1000000
set_option maxRecDepth 8000
namespace Go.Proofs.Ytofgpimoekhfaaa
open Go
class CFo (T f : Nat) (off : outParam Nat) : Prop where
 h : A3 Try.prog T f off
class CAg (T : Nat) : Prop where
 h : ∀ w, (isAgg T).run Try.prog w = .ok true w
class CNa (T : Nat) : Prop where
 h : ∀ w, (isAgg T).run Try.prog w = .ok false w
class CSz (T : Nat) (sz : outParam Nat) : Prop where
 h : ∀ w, (sizeOf T).run Try.prog w = .ok sz w
class CSo (T : Nat) (e sz : outParam Nat) : Prop where
 h : Dt Try.prog T e sz
class CUs (T : Nat) (e : outParam Nat) : Prop where
 h : Try.prog.underlying T = some (.slice e)
class CSt (T : Nat) (zc : outParam (List Value)) (pl : outParam (List (Nat × Nat))) : Prop where
 h : D5 Try.prog T zc pl
instance : CNa 3 := ⟨Try.isAgg3⟩
instance : CSz 3 1 := ⟨Try.sizeOf3⟩
instance : CNa 4 := ⟨Try.isAgg4⟩
instance : CSz 4 1 := ⟨Try.sizeOf4⟩
instance : CNa 5 := ⟨Try.isAgg5⟩
instance : CNa 22 := ⟨Try.isAgg22⟩
instance : CSz 22 1 := ⟨Try.sizeOf22⟩
instance : CSo 22 23 1 := ⟨so_22⟩
instance : CUs 22 23 := ⟨Try.underlying22⟩
instance : CNa 23 := ⟨Try.isAgg23⟩
instance : CUs 23 5 := ⟨Try.underlying23⟩
instance : CFo 39 0 0 := ⟨X8⟩
instance : CFo 39 1 1 := ⟨X7⟩
instance : CSt 39 (Try.t39.zero.getD undef).cells.toList [(0, 1), (1, 1)] := ⟨st_39⟩
instance : CAg 39 := ⟨Try.isAgg39⟩
instance : CSz 39 2 := ⟨Try.sizeOf39⟩
instance : CSo 40 98 7 := ⟨so_40⟩
instance : CUs 40 98 := ⟨Try.underlying40⟩
instance : CFo 42 0 0 := ⟨X6⟩
instance : CFo 42 1 1 := ⟨X5⟩
instance : CFo 42 2 2 := ⟨X4⟩
instance : CFo 42 3 3 := ⟨X3⟩
instance : CFo 42 4 4 := ⟨X2⟩
instance : CFo 42 5 5 := ⟨X1⟩
instance : CFo 42 6 6 := ⟨X0⟩
instance : CFo 42 7 7 := ⟨Xz⟩
instance : CSt 42 (Try.t42.zero.getD undef).cells.toList [(0, 1), (1, 1), (2, 1), (3, 1), (4, 1), (5, 1), (6, 1), (7, 1)] := ⟨F4⟩
instance : CAg 42 := ⟨Try.isAgg42⟩
instance : CSz 42 8 := ⟨Try.sizeOf42⟩
instance : CNa 43 := ⟨Try.isAgg43⟩
instance : CSz 43 1 := ⟨Try.sizeOf43⟩
instance : CSo 43 69 4 := ⟨K8⟩
instance : CUs 43 69 := ⟨Try.underlying43⟩
instance : CNa 44 := ⟨Try.isAgg44⟩
instance : CSz 44 1 := ⟨Try.sizeOf44⟩
instance : CSo 44 58 10 := ⟨so_44⟩
instance : CUs 44 58 := ⟨Try.underlying44⟩
instance : CFo 46 0 0 := ⟨Xy⟩
instance : CFo 46 1 1 := ⟨Xx⟩
instance : CFo 46 2 2 := ⟨Xw⟩
instance : CSt 46 (Try.t46.zero.getD undef).cells.toList [(0, 1), (1, 1), (2, 1)] := ⟨Ou⟩
instance : CAg 46 := ⟨Try.isAgg46⟩
instance : CSz 46 3 := ⟨Try.sizeOf46⟩
instance : CSo 47 84 5 := ⟨so_47⟩
instance : CUs 47 84 := ⟨Try.underlying47⟩
instance : CSo 50 42 8 := ⟨so_50⟩
instance : CUs 50 42 := ⟨Try.underlying50⟩
instance : CNa 56 := ⟨Try.isAgg56⟩
instance : CSz 56 1 := ⟨Try.sizeOf56⟩
instance : CSo 56 3 1 := ⟨V7⟩
instance : CUs 56 3 := ⟨Try.underlying56⟩
instance : CFo 58 0 0 := ⟨Xv⟩
instance : CFo 58 1 1 := ⟨Xu⟩
instance : CFo 58 2 2 := ⟨Xt⟩
instance : CFo 58 3 3 := ⟨Xs⟩
instance : CFo 58 4 4 := ⟨Xr⟩
instance : CFo 58 5 5 := ⟨Xq⟩
instance : CFo 58 6 6 := ⟨Xp⟩
instance : CFo 58 7 7 := ⟨Xo⟩
instance : CFo 58 8 8 := ⟨Xn⟩
instance : CFo 58 9 9 := ⟨Xm⟩
instance : CAg 58 := ⟨Try.isAgg58⟩
instance : CSz 58 10 := ⟨Try.sizeOf58⟩
instance : CFo 66 0 0 := ⟨Gd⟩
instance : CFo 66 1 1 := ⟨Xl⟩
instance : CFo 66 2 2 := ⟨Xk⟩
instance : CAg 66 := ⟨Try.isAgg66⟩
instance : CSz 66 3 := ⟨Try.sizeOf66⟩
instance : CNa 67 := ⟨Try.isAgg67⟩
instance : CSo 67 82 7 := ⟨Qo⟩
instance : CUs 67 82 := ⟨Try.underlying67⟩
instance : CFo 69 0 0 := ⟨Gc⟩
instance : CFo 69 1 1 := ⟨Xj⟩
instance : CSt 69 (Try.t69.zero.getD undef).cells.toList [(0, 1), (1, 3)] := ⟨J2⟩
instance : CAg 69 := ⟨Try.isAgg69⟩
instance : CSz 69 4 := ⟨Try.sizeOf69⟩
instance : CFo 82 0 0 := ⟨Gb⟩
instance : CFo 82 1 1 := ⟨Xi⟩
instance : CFo 82 2 2 := ⟨Xh⟩
instance : CFo 82 3 3 := ⟨Xg⟩
instance : CFo 82 4 4 := ⟨Xf⟩
instance : CFo 82 5 5 := ⟨Xe⟩
instance : CFo 82 6 6 := ⟨Xd⟩
instance : CAg 82 := ⟨Try.isAgg82⟩
instance : CSz 82 7 := ⟨Try.sizeOf82⟩
instance : CFo 84 1 1 := ⟨Xc⟩
instance : CFo 84 2 4 := ⟨Xb⟩
instance : CSt 84 (Try.t84.zero.getD undef).cells.toList [(0, 1), (1, 3), (4, 1)] := ⟨st_84⟩
instance : CAg 84 := ⟨Try.isAgg84⟩
instance : CSz 84 5 := ⟨Try.sizeOf84⟩
instance : CFo 98 0 0 := ⟨Xa⟩
instance : CFo 98 1 1 := ⟨W9⟩
instance : CFo 98 2 2 := ⟨W8⟩
instance : CFo 98 3 3 := ⟨W7⟩
instance : CFo 98 4 4 := ⟨W6⟩
instance : CAg 98 := ⟨Try.isAgg98⟩
instance : CSz 98 7 := ⟨Try.sizeOf98⟩
instance : CAg 143 := ⟨Try.isAgg143⟩
instance : CSz 143 2 := ⟨Try.sizeOf143⟩
instance : CSo 144 143 2 := ⟨so_144⟩
instance : CUs 144 143 := ⟨Try.underlying144⟩
section
variable {n : Nat} {Q : Exit → Act → World → Prop} {ops : Array Oper} {rest : List Oper} {L : List Chunk} {R : List Fact} {al al' : List (Nat × Value)} {d k : Nat} {x y z : Operand} {T ty U : TypeId} {pos : String} {aft : Array Edge} {v : Value} {l l' : List Oper}
theorem kmv (h : Az Try.prog n al L R ⟨some d, .move x, ty, pos, aft, none⟩ v) : Az Try.prog n al L R ⟨some d, .move x, ty, pos, aft, none⟩ v := h
theorem kas (h : Az Try.prog n al L R ⟨some d, .assign x, ty, pos, aft, none⟩ v) : Az Try.prog n al L R ⟨some d, .assign x, ty, pos, aft, none⟩ v := h
theorem kfa {i : Nat} (h : Az Try.prog n al L R ⟨some d, .fieldAddr T x i, ty, pos, aft, none⟩ v) : Az Try.prog n al L R ⟨some d, .fieldAddr T x i, ty, pos, aft, none⟩ v := h
theorem kld (h : Az Try.prog n al L R ⟨some d, .load T x, ty, pos, aft, none⟩ v) : Az Try.prog n al L R ⟨some d, .load T x, ty, pos, aft, none⟩ v := h
theorem knc (h : Az Try.prog n al L R ⟨some d, .nilCheck x, ty, pos, aft, none⟩ v) : Az Try.prog n al L R ⟨some d, .nilCheck x, ty, pos, aft, none⟩ v := h
theorem kpk (h : Az Try.prog n al L R ⟨some d, .pick x y z, ty, pos, aft, none⟩ v) : Az Try.prog n al L R ⟨some d, .pick x y z, ty, pos, aft, none⟩ v := h
theorem kix (h : Az Try.prog n al L R ⟨some d, .indexAddr T x y, ty, pos, aft, none⟩ v) : Az Try.prog n al L R ⟨some d, .indexAddr T x y, ty, pos, aft, none⟩ v := h
theorem kxt {i : Nat} (h : Az Try.prog n al L R ⟨some d, .extract x i, ty, pos, aft, none⟩ v) : Az Try.prog n al L R ⟨some d, .extract x i, ty, pos, aft, none⟩ v := h
theorem kun (h : Az Try.prog n al L R ⟨some d, .unOp .not T x, ty, pos, aft, none⟩ v) : Az Try.prog n al L R ⟨some d, .unOp .not T x, ty, pos, aft, none⟩ v := h
theorem kle (h : Az Try.prog n al L R ⟨some d, .call { callee := .builtin .len, args := #[x], argTypes := #[T] }, ty, pos, aft, none⟩ v) : Az Try.prog n al L R ⟨some d, .call { callee := .builtin .len, args := #[x], argTypes := #[T] }, ty, pos, aft, none⟩ v := h
theorem kbd {ps : Array (Nat × Operand)} (h : Az Try.prog n al L R ⟨some d, .build T ps, ty, pos, aft, none⟩ v) : Az Try.prog n al L R ⟨some d, .build T ps, ty, pos, aft, none⟩ v := h
theorem kbe (h : Az Try.prog n al L R ⟨some d, .binOp .eql T x y U, ty, pos, aft, none⟩ v) : Az Try.prog n al L R ⟨some d, .binOp .eql T x y U, ty, pos, aft, none⟩ v := h
theorem kbn (h : Az Try.prog n al L R ⟨some d, .binOp .neq T x y U, ty, pos, aft, none⟩ v) : Az Try.prog n al L R ⟨some d, .binOp .neq T x y U, ty, pos, aft, none⟩ v := h
theorem kbl (h : Az Try.prog n al L R ⟨some d, .binOp .lss T x y U, ty, pos, aft, none⟩ v) : Az Try.prog n al L R ⟨some d, .binOp .lss T x y U, ty, pos, aft, none⟩ v := h
theorem kbg (h : Az Try.prog n al L R ⟨some d, .binOp .gtr T x y U, ty, pos, aft, none⟩ v) : Az Try.prog n al L R ⟨some d, .binOp .gtr T x y U, ty, pos, aft, none⟩ v := h
theorem kbh (h : Az Try.prog n al L R ⟨some d, .binOp .geq T x y U, ty, pos, aft, none⟩ v) : Az Try.prog n al L R ⟨some d, .binOp .geq T x y U, ty, pos, aft, none⟩ v := h
theorem kba (h : Az Try.prog n al L R ⟨some d, .binOp .add T x y U, ty, pos, aft, none⟩ v) : Az Try.prog n al L R ⟨some d, .binOp .add T x y U, ty, pos, aft, none⟩ v := h
theorem kbu (h : Az Try.prog n al L R ⟨some d, .binOp .mul T x y U, ty, pos, aft, none⟩ v) : Az Try.prog n al L R ⟨some d, .binOp .mul T x y U, ty, pos, aft, none⟩ v := h
structure Run (n : Nat) (ops : Array Oper) (Q : Exit → Act → World → Prop) (L : List Chunk) (R : List Fact) (k : Nat) (l : List Oper) (al : List (Nat × Value)) (l' : List Oper) (al' : List (Nat × Value)) : Prop where
 go : J Try.prog n ops Q l' L R al' → J Try.prog n ops Q l L R al
theorem R0 : Run n ops Q L R 0 l al l al := ⟨fun h => h⟩
theorem Rc {op : Oper} (hp : Az Try.prog n al L R op v) (hd : op.dst = some d) (h : Run n ops Q L R k rest ((d, v) :: al) l' al') : Run n ops Q L R (k + 1) (op :: rest) al l' al' := ⟨fun kk => ob hp (h.go kk) hd⟩
theorem Rgy {dst : Option Tmp} {op : Go.Op} {i : Nat} {b : Bool} {m : List Oper} (hv : gv n al m i = some b) (h : Run n m.toArray Q L R (k + 1) (⟨dst, op, ty, pos, aft, none⟩ :: rest) al l' al') : Run n m.toArray Q L R (k + 1) (⟨dst, op, ty, pos, aft, some (i, b)⟩ :: rest) al l' al' := ⟨fun kk => J.guardYes hv (h.go kk)⟩
theorem Rgn {op : Go.Op} {i : Nat} {b : Bool} {m : List Oper} (hv : gv n al m i = some (!b)) (h : Run n m.toArray Q L R k rest ((d, undef) :: al) l' al') : Run n m.toArray Q L R (k + 1) (⟨some d, op, ty, pos, aft, some (i, b)⟩ :: rest) al l' al' := ⟨fun kk => J.guardNo hv (h.go kk)⟩
theorem RgU {op : Go.Op} {i : Nat} {b : Bool} {m : List Oper} (hv : gu n al m i = true) (h : Run n m.toArray Q L R k rest ((d, undef) :: al) l' al') : Run n m.toArray Q L R (k + 1) (⟨some d, op, ty, pos, aft, some (i, b)⟩ :: rest) al l' al' := ⟨fun kk => J.guardUndef hv (h.go kk)⟩
theorem mr (h : Run n ops Q L R k l al l' al' := by repeat (first | exact R0 | (apply Rc; (focus (first | (apply kmv; exact Dh) | (apply kas; exact Eb) | (apply kfa; first | exact Oq CFo.h | exact Oo CFo.h) | (apply kld; first | exact C6 CNa.h | exact Vu CAg.h CSz.h | exact O2 _ CAg.h CSz.h | exact q_lNc _ CAg.h CSz.h | exact q_lNf _ CAg.h CSz.h) | (apply knc; first | exact q_nb | exact q_ne) | (apply kpk; first | exact H8 | exact E3) | (apply kix; first | exact D4 CSo.h | exact Ru CSo.h) | (apply kxt; exact q_x) | (apply kun; first | exact q_notD | exact Qy) | (apply kle; exact Uk CUs.h) | (apply kbd; first | exact Gp CSt.h | exact Jm CSt.h) | (apply kbe; exact Fi Ok) | (apply kbn; exact Fi Oh) | (apply kbl; exact Fi Jq) | (apply kbm; exact Fi Rr) | (apply kbg; exact Fi Pl) | (apply kbh; exact Fi Oj) | (apply kba; first | exact D9 | exact Fb) | (apply kbs; exact Nm) | (apply kbu; exact La))); (focus exact rfl)) | (apply Rgy; (focus exact rfl)) | (apply Rgn; (focus exact rfl)) | (apply RgU; (focus exact rfl)))) : Run n ops Q L R k l al l' al' := h
theorem rn1 (kk : J Try.prog n ops Q l' L R al') (h : Run n ops Q L R 1 l al l' al' := by exact mr) : J Try.prog n ops Q l L R al := h.go kk
theorem rn2 (kk : J Try.prog n ops Q l' L R al') (h : Run n ops Q L R 2 l al l' al' := by exact mr) : J Try.prog n ops Q l L R al := h.go kk
theorem rn3 (kk : J Try.prog n ops Q l' L R al') (h : Run n ops Q L R 3 l al l' al' := by exact mr) : J Try.prog n ops Q l L R al := h.go kk
theorem rn4 (kk : J Try.prog n ops Q l' L R al') (h : Run n ops Q L R 4 l al l' al' := by exact mr) : J Try.prog n ops Q l L R al := h.go kk
theorem rn5 (kk : J Try.prog n ops Q l' L R al') (h : Run n ops Q L R 5 l al l' al' := by exact mr) : J Try.prog n ops Q l L R al := h.go kk
theorem rn6 (kk : J Try.prog n ops Q l' L R al') (h : Run n ops Q L R 6 l al l' al' := by exact mr) : J Try.prog n ops Q l L R al := h.go kk
theorem rn7 (kk : J Try.prog n ops Q l' L R al') (h : Run n ops Q L R 7 l al l' al' := by exact mr) : J Try.prog n ops Q l L R al := h.go kk
theorem rn8 (kk : J Try.prog n ops Q l' L R al') (h : Run n ops Q L R 8 l al l' al' := by exact mr) : J Try.prog n ops Q l L R al := h.go kk
theorem rn10 (kk : J Try.prog n ops Q l' L R al') (h : Run n ops Q L R 10 l al l' al' := by exact mr) : J Try.prog n ops Q l L R al := h.go kk
theorem rn12 (kk : J Try.prog n ops Q l' L R al') (h : Run n ops Q L R 12 l al l' al' := by exact mr) : J Try.prog n ops Q l L R al := h.go kk
theorem rn32 (kk : J Try.prog n ops Q l' L R al') (h : Run n ops Q L R 32 l al l' al' := by exact mr) : J Try.prog n ops Q l L R al := h.go kk
variable {Sh : Rho → (Nat → Bool) → List Chunk} {R0' : List Fact} {al0 : List (Nat × Value)} {its its' : List Item} {i i' : Nat}
structure DRun (n : Nat) (ops : Array Oper) (Q : Exit → Act → World → Prop) (Sh : Rho → (Nat → Bool) → List Chunk) (R0 : List Fact) (al0 : List (Nat × Value)) (k i : Nat) (l : List Oper) (its : List Item) (i' : Nat) (l' : List Oper) (its' : List Item) : Prop where
 go : DJ Try.prog n ops Q Sh R0 al0 i' l' its' → DJ Try.prog n ops Q Sh R0 al0 i l its
theorem D0 : DRun n ops Q Sh R0' al0 0 i l its i l its := ⟨fun h => h⟩
theorem Dc {op : Oper} (hp : ∀ ρ S, Az Try.prog n (Dy its al0 ρ) (Sh ρ S) R0' op v) (hSh : It ops Sh i) (hd : op.dst = some d) (h : DRun n ops Q Sh R0' al0 k (i + 1) rest (⟨i, some d, fun _ => v, fun _ => [], fun _ => []⟩ :: its) i' l' its') : DRun n ops Q Sh R0' al0 (k + 1) i (op :: rest) its i' l' its' := ⟨fun kk => Yc hp hSh (h.go kk) hd⟩
theorem Dp {op : Oper} {v : Rho → Value} (hp : ∀ ρ S, Az Try.prog n (Dy its al0 ρ) (Sh ρ S) R0' op (v ρ)) (hi : Ind ops i v) (hSh : It ops Sh i) (hd : op.dst = some d) (h : DRun n ops Q Sh R0' al0 k (i + 1) rest (⟨i, some d, v, fun _ => [], fun _ => []⟩ :: its) i' l' its') : DRun n ops Q Sh R0' al0 (k + 1) i (op :: rest) its i' l' its' := ⟨fun kk => e_p hp hi hSh (h.go kk) hd⟩
theorem Dgc {op : Go.Op} {q : Nat} {b : Bool} {m : List Oper} (hv : ∀ ρ, gv n (Dy its al0 ρ) m q = some b) (hp : ∀ ρ S, Az Try.prog n (Dy its al0 ρ) (Sh ρ S) R0' ⟨some d, op, ty, pos, aft, none⟩ v) (hSh : ∀ ρ g S, S i = false → Sh (Rho.set ρ i g) (upS S i) = Sh ρ S) (h : DRun n m.toArray Q Sh R0' al0 k (i + 1) rest (⟨i, some d, fun _ => v, fun _ => [], fun _ => []⟩ :: its) i' l' its') : DRun n m.toArray Q Sh R0' al0 (k + 1) i (⟨some d, op, ty, pos, aft, some (q, b)⟩ :: rest) its i' l' its' := ⟨fun kk => dj (dgy (dc hp (h.go kk) rfl hSh) hv)⟩
theorem Dgn {op : Go.Op} {q : Nat} {b : Bool} {m : List Oper} (hv : ∀ ρ, gv n (Dy its al0 ρ) m q = some (!b)) (hSh : ∀ ρ g S, S i = false → Sh (Rho.set ρ i g) (upS S i) = Sh ρ S) (h : DRun n m.toArray Q Sh R0' al0 k (i + 1) rest (⟨i, some d, fun _ => undef, fun _ => [], fun _ => []⟩ :: its) i' l' its') : DRun n m.toArray Q Sh R0' al0 (k + 1) i (⟨some d, op, ty, pos, aft, some (q, b)⟩ :: rest) its i' l' its' := ⟨fun kk => dj (dgn (h.go kk) hv hSh)⟩
theorem Dgu {op : Go.Op} {q : Nat} {b : Bool} {m : List Oper} (hv : ∀ ρ, gu n (Dy its al0 ρ) m q = true) (hSh : ∀ ρ g S, S i = false → Sh (Rho.set ρ i g) (upS S i) = Sh ρ S) (h : DRun n m.toArray Q Sh R0' al0 k (i + 1) rest (⟨i, some d, fun _ => undef, fun _ => [], fun _ => []⟩ :: its) i' l' its') : DRun n m.toArray Q Sh R0' al0 (k + 1) i (⟨some d, op, ty, pos, aft, some (q, b)⟩ :: rest) its i' l' its' := ⟨fun kk => dj (dgu (h.go kk) hv hSh)⟩
theorem mdr (h : DRun n ops Q Sh R0' al0 k i l its i' l' its' := by repeat (first | exact D0 | (apply Dc; (focus (intro _ _; first | (apply kmv; exact Dh) | (apply kas; exact Eb) | (apply kfa; first | exact Oq CFo.h | exact Oo CFo.h) | (apply kld; first | exact C6 CNa.h | exact Vu CAg.h CSz.h | exact O2 _ CAg.h CSz.h | exact q_lNc _ CAg.h CSz.h | exact q_lNf _ CAg.h CSz.h) | (apply knc; first | exact q_nb | exact q_ne) | (apply kpk; first | exact H8 | exact E3) | (apply kix; first | exact D4 CSo.h | exact Ru CSo.h) | (apply kxt; exact q_x) | (apply kun; first | exact q_notD | exact Qy) | (apply kle; exact Uk CUs.h) | (apply kbd; first | exact Gp CSt.h | exact Jm CSt.h) | (apply kbe; exact Fi Ok) | (apply kbn; exact Fi Oh) | (apply kbl; exact Fi Jq) | (apply kbm; exact Fi Rr) | (apply kbg; exact Fi Pl) | (apply kbh; exact Fi Oj) | (apply kba; first | exact D9 | exact Fb) | (apply kbs; exact Nm) | (apply kbu; exact La))); (focus exact (fun _ _ _ _ _ => rfl)); (focus exact rfl)) | (apply Dgc; (focus exact (fun _ => rfl)); (focus (intro _ _; first | (apply kmv; exact Dh) | (apply kas; exact Eb) | (apply kfa; first | exact Oq CFo.h | exact Oo CFo.h) | (apply kld; first | exact C6 CNa.h | exact Vu CAg.h CSz.h | exact O2 _ CAg.h CSz.h | exact q_lNc _ CAg.h CSz.h | exact q_lNf _ CAg.h CSz.h) | (apply knc; first | exact q_nb | exact q_ne) | (apply kpk; first | exact H8 | exact E3) | (apply kix; first | exact D4 CSo.h | exact Ru CSo.h) | (apply kxt; exact q_x) | (apply kun; first | exact q_notD | exact Qy) | (apply kle; exact Uk CUs.h) | (apply kbd; first | exact Gp CSt.h | exact Jm CSt.h) | (apply kbe; exact Fi Ok) | (apply kbn; exact Fi Oh) | (apply kbl; exact Fi Jq) | (apply kbm; exact Fi Rr) | (apply kbg; exact Fi Pl) | (apply kbh; exact Fi Oj) | (apply kba; first | exact D9 | exact Fb) | (apply kbs; exact Nm) | (apply kbu; exact La))); (focus exact (fun _ _ _ _ => rfl))) | (apply Dgn; (focus exact (fun _ => rfl)); (focus exact (fun _ _ _ _ => rfl))) | (apply Dgu; (focus exact (fun _ => rfl)); (focus exact (fun _ _ _ _ => rfl))) | (apply Dp; (focus (intro _ _; first | (apply kmv; exact Dh) | (apply kas; exact Eb) | (apply kfa; first | exact Oq CFo.h | exact Oo CFo.h) | (apply kld; first | exact C6 CNa.h | exact Vu CAg.h CSz.h | exact O2 _ CAg.h CSz.h | exact q_lNc _ CAg.h CSz.h | exact q_lNf _ CAg.h CSz.h) | (apply knc; first | exact q_nb | exact q_ne) | (apply kpk; first | exact H8 | exact E3) | (apply kix; first | exact D4 CSo.h | exact Ru CSo.h) | (apply kxt; exact q_x) | (apply kun; first | exact q_notD | exact Qy) | (apply kle; exact Uk CUs.h) | (apply kbd; first | exact Gp CSt.h | exact Jm CSt.h) | (apply kbe; exact Fi Ok) | (apply kbn; exact Fi Oh) | (apply kbl; exact Fi Jq) | (apply kbm; exact Fi Rr) | (apply kbg; exact Fi Pl) | (apply kbh; exact Fi Oj) | (apply kba; first | exact D9 | exact Fb) | (apply kbs; exact Nm) | (apply kbu; exact La))); (focus exact (fun _ _ _ _ _ => rfl)); (focus exact (fun _ _ _ _ _ => rfl)); (focus exact rfl)))) : DRun n ops Q Sh R0' al0 k i l its i' l' its' := h
theorem dn1 (kk : DJ Try.prog n ops Q Sh R0' al0 i' l' its') (h : DRun n ops Q Sh R0' al0 1 i l its i' l' its' := by exact mdr) : DJ Try.prog n ops Q Sh R0' al0 i l its := h.go kk
theorem dn2 (kk : DJ Try.prog n ops Q Sh R0' al0 i' l' its') (h : DRun n ops Q Sh R0' al0 2 i l its i' l' its' := by exact mdr) : DJ Try.prog n ops Q Sh R0' al0 i l its := h.go kk
theorem dn3 (kk : DJ Try.prog n ops Q Sh R0' al0 i' l' its') (h : DRun n ops Q Sh R0' al0 3 i l its i' l' its' := by exact mdr) : DJ Try.prog n ops Q Sh R0' al0 i l its := h.go kk
theorem dn4 (kk : DJ Try.prog n ops Q Sh R0' al0 i' l' its') (h : DRun n ops Q Sh R0' al0 4 i l its i' l' its' := by exact mdr) : DJ Try.prog n ops Q Sh R0' al0 i l its := h.go kk
theorem dn5 (kk : DJ Try.prog n ops Q Sh R0' al0 i' l' its') (h : DRun n ops Q Sh R0' al0 5 i l its i' l' its' := by exact mdr) : DJ Try.prog n ops Q Sh R0' al0 i l its := h.go kk
theorem dn6 (kk : DJ Try.prog n ops Q Sh R0' al0 i' l' its') (h : DRun n ops Q Sh R0' al0 6 i l its i' l' its' := by exact mdr) : DJ Try.prog n ops Q Sh R0' al0 i l its := h.go kk
theorem dn7 (kk : DJ Try.prog n ops Q Sh R0' al0 i' l' its') (h : DRun n ops Q Sh R0' al0 7 i l its i' l' its' := by exact mdr) : DJ Try.prog n ops Q Sh R0' al0 i l its := h.go kk
theorem dn8 (kk : DJ Try.prog n ops Q Sh R0' al0 i' l' its') (h : DRun n ops Q Sh R0' al0 8 i l its i' l' its' := by exact mdr) : DJ Try.prog n ops Q Sh R0' al0 i l its := h.go kk
theorem dn9 (kk : DJ Try.prog n ops Q Sh R0' al0 i' l' its') (h : DRun n ops Q Sh R0' al0 9 i l its i' l' its' := by exact mdr) : DJ Try.prog n ops Q Sh R0' al0 i l its := h.go kk
theorem dn10 (kk : DJ Try.prog n ops Q Sh R0' al0 i' l' its') (h : DRun n ops Q Sh R0' al0 10 i l its i' l' its' := by exact mdr) : DJ Try.prog n ops Q Sh R0' al0 i l its := h.go kk
theorem dn11 (kk : DJ Try.prog n ops Q Sh R0' al0 i' l' its') (h : DRun n ops Q Sh R0' al0 11 i l its i' l' its' := by exact mdr) : DJ Try.prog n ops Q Sh R0' al0 i l its := h.go kk
theorem dn12 (kk : DJ Try.prog n ops Q Sh R0' al0 i' l' its') (h : DRun n ops Q Sh R0' al0 12 i l its i' l' its' := by exact mdr) : DJ Try.prog n ops Q Sh R0' al0 i l its := h.go kk
theorem dn19 (kk : DJ Try.prog n ops Q Sh R0' al0 i' l' its') (h : DRun n ops Q Sh R0' al0 19 i l its i' l' its' := by exact mdr) : DJ Try.prog n ops Q Sh R0' al0 i l its := h.go kk
end
structure Hold (p : Prop) : Prop where
 h : p
theorem sc {p q : Prop} (k : p) (h : Hold p → q := by intro h; (first | refine s_b CSz.h ?_ | refine s_f CSz.h ?_); intro cs hcs; simp only [Nat.zero_add, Nat.add_zero, Nat.reduceAdd, List.set_cons_zero, List.set_cons_succ, Config.cells, Msg.cells, Line.cells, Op.cells, Done.cells, Step.cells, Core.cells, Entry.cells, Chip.cells, El0.cs, El1.cs] at hcs; subst hcs; exact h.h) : q := h ⟨k⟩
theorem bm {n : Nat} {Q : Exit → Act → World → Prop} {id id' : Nat} {L : List Chunk} {R : List Fact} {al : List (Nat × Value)} (h : JX n Q (.exit id') L R al) (hne : Nat.beq id' id = false := by with_unfolding_all exact rfl) : JX n (Exit.inBlock id Q) (.exit id') L R al := Dq hne h
theorem Gl {p q : Prop} (k : p) (h : Hold p → q := by intro h; (repeat (with_reducible first | refine J.nil ?_ | refine As ?_ | refine Bf ?_ | refine C2 ?_ | refine Ki ?_ | refine El ?_ | refine D6 ?_ | refine Dk ?_ | refine Em ?_ | refine Fq ?_ | refine Cy ?_ | refine Cz ?_ | refine bm ?_)); exact h.h) : q := h ⟨k⟩
theorem Glc {p q : Prop} (k : p) (h : Hold p → q := by intro h; (repeat (first | (with_reducible first | refine J.nil ?_ | refine As ?_ | refine Bf ?_ | refine C2 ?_ | refine Ki ?_ | refine El ?_ | refine D6 ?_ | refine Dk ?_ | refine Em ?_ | refine Fq ?_ | refine Cy ?_ | refine Cz ?_ | refine bm ?_) | refine cF_ ?_ | refine cT ?_)); exact h.h) : q := h ⟨k⟩
theorem Gmc {p q : Prop} (k : p) (h : Hold p → q := by intro h; (repeat (first | (with_reducible first | refine J.nil ?_ | refine As ?_ | refine Bf ?_ | refine C2 ?_ | refine Ki ?_ | refine El ?_ | refine D6 ?_ | refine Dk ?_ | refine Em ?_ | refine Fq ?_ | refine Cy ?_ | refine Cz ?_ | refine bm ?_) | refine cF_ ?_ | refine cT ?_)); refine Aa ?_; exact h.h) : q := h ⟨k⟩
theorem Gm {p q : Prop} (k : p) (h : Hold p → q := by intro h; (repeat (with_reducible first | refine J.nil ?_ | refine As ?_ | refine Bf ?_ | refine C2 ?_ | refine Ki ?_ | refine El ?_ | refine D6 ?_ | refine Dk ?_ | refine Em ?_ | refine Fq ?_ | refine Cy ?_ | refine Cz ?_ | refine bm ?_)); refine Aa ?_; exact h.h) : q := h ⟨k⟩
section
variable {n : Nat} {Q : Exit → Act → World → Prop} {ops : Array Oper} {rest : List Oper} {L : List Chunk} {R : List Fact} {al al' : List (Nat × Value)} {d k : Nat} {x y z : Operand} {T ty U : TypeId} {pos : String} {aft : Array Edge} {v : Value} {l l' : List Oper}
variable {p : Prop}
theorem Ga1 (kk : p) (h : Run n ops Q L R 1 l al l' al' := by exact mr) (hg : Hold p → J Try.prog n ops Q l' L R al' := by intro h; exact Gl h.h) : J Try.prog n ops Q l L R al := h.go (hg ⟨kk⟩)
theorem Ga2 (kk : p) (h : Run n ops Q L R 2 l al l' al' := by exact mr) (hg : Hold p → J Try.prog n ops Q l' L R al' := by intro h; exact Gl h.h) : J Try.prog n ops Q l L R al := h.go (hg ⟨kk⟩)
theorem Ga3 (kk : p) (h : Run n ops Q L R 3 l al l' al' := by exact mr) (hg : Hold p → J Try.prog n ops Q l' L R al' := by intro h; exact Gl h.h) : J Try.prog n ops Q l L R al := h.go (hg ⟨kk⟩)
theorem Ga4 (kk : p) (h : Run n ops Q L R 4 l al l' al' := by exact mr) (hg : Hold p → J Try.prog n ops Q l' L R al' := by intro h; exact Gl h.h) : J Try.prog n ops Q l L R al := h.go (hg ⟨kk⟩)
theorem Ga5 (kk : p) (h : Run n ops Q L R 5 l al l' al' := by exact mr) (hg : Hold p → J Try.prog n ops Q l' L R al' := by intro h; exact Gl h.h) : J Try.prog n ops Q l L R al := h.go (hg ⟨kk⟩)
theorem Ga6 (kk : p) (h : Run n ops Q L R 6 l al l' al' := by exact mr) (hg : Hold p → J Try.prog n ops Q l' L R al' := by intro h; exact Gl h.h) : J Try.prog n ops Q l L R al := h.go (hg ⟨kk⟩)
theorem Ga7 (kk : p) (h : Run n ops Q L R 7 l al l' al' := by exact mr) (hg : Hold p → J Try.prog n ops Q l' L R al' := by intro h; exact Gl h.h) : J Try.prog n ops Q l L R al := h.go (hg ⟨kk⟩)
theorem Ga8 (kk : p) (h : Run n ops Q L R 8 l al l' al' := by exact mr) (hg : Hold p → J Try.prog n ops Q l' L R al' := by intro h; exact Gl h.h) : J Try.prog n ops Q l L R al := h.go (hg ⟨kk⟩)
theorem Ga10 (kk : p) (h : Run n ops Q L R 10 l al l' al' := by exact mr) (hg : Hold p → J Try.prog n ops Q l' L R al' := by intro h; exact Gl h.h) : J Try.prog n ops Q l L R al := h.go (hg ⟨kk⟩)
theorem Ga11 (kk : p) (h : Run n ops Q L R 11 l al l' al' := by exact mr) (hg : Hold p → J Try.prog n ops Q l' L R al' := by intro h; exact Gl h.h) : J Try.prog n ops Q l L R al := h.go (hg ⟨kk⟩)
theorem Ga12 (kk : p) (h : Run n ops Q L R 12 l al l' al' := by exact mr) (hg : Hold p → J Try.prog n ops Q l' L R al' := by intro h; exact Gl h.h) : J Try.prog n ops Q l L R al := h.go (hg ⟨kk⟩)
theorem Ga13 (kk : p) (h : Run n ops Q L R 13 l al l' al' := by exact mr) (hg : Hold p → J Try.prog n ops Q l' L R al' := by intro h; exact Gl h.h) : J Try.prog n ops Q l L R al := h.go (hg ⟨kk⟩)
theorem Ga15 (kk : p) (h : Run n ops Q L R 15 l al l' al' := by exact mr) (hg : Hold p → J Try.prog n ops Q l' L R al' := by intro h; exact Gl h.h) : J Try.prog n ops Q l L R al := h.go (hg ⟨kk⟩)
theorem Ga17 (kk : p) (h : Run n ops Q L R 17 l al l' al' := by exact mr) (hg : Hold p → J Try.prog n ops Q l' L R al' := by intro h; exact Gl h.h) : J Try.prog n ops Q l L R al := h.go (hg ⟨kk⟩)
theorem Ga18 (kk : p) (h : Run n ops Q L R 18 l al l' al' := by exact mr) (hg : Hold p → J Try.prog n ops Q l' L R al' := by intro h; exact Gl h.h) : J Try.prog n ops Q l L R al := h.go (hg ⟨kk⟩)
theorem Ga19 (kk : p) (h : Run n ops Q L R 19 l al l' al' := by exact mr) (hg : Hold p → J Try.prog n ops Q l' L R al' := by intro h; exact Gl h.h) : J Try.prog n ops Q l L R al := h.go (hg ⟨kk⟩)
theorem Ga22 (kk : p) (h : Run n ops Q L R 22 l al l' al' := by exact mr) (hg : Hold p → J Try.prog n ops Q l' L R al' := by intro h; exact Gl h.h) : J Try.prog n ops Q l L R al := h.go (hg ⟨kk⟩)
theorem Ga27 (kk : p) (h : Run n ops Q L R 27 l al l' al' := by exact mr) (hg : Hold p → J Try.prog n ops Q l' L R al' := by intro h; exact Gl h.h) : J Try.prog n ops Q l L R al := h.go (hg ⟨kk⟩)
theorem Ga32 (kk : p) (h : Run n ops Q L R 32 l al l' al' := by exact mr) (hg : Hold p → J Try.prog n ops Q l' L R al' := by intro h; exact Gl h.h) : J Try.prog n ops Q l L R al := h.go (hg ⟨kk⟩)
theorem Gb1 (kk : p) (h : Run n ops Q L R 1 l al l' al' := by exact mr) (hg : Hold p → J Try.prog n ops Q l' L R al' := by intro h; exact Gm h.h) : J Try.prog n ops Q l L R al := h.go (hg ⟨kk⟩)
theorem Gb2 (kk : p) (h : Run n ops Q L R 2 l al l' al' := by exact mr) (hg : Hold p → J Try.prog n ops Q l' L R al' := by intro h; exact Gm h.h) : J Try.prog n ops Q l L R al := h.go (hg ⟨kk⟩)
theorem Gb3 (kk : p) (h : Run n ops Q L R 3 l al l' al' := by exact mr) (hg : Hold p → J Try.prog n ops Q l' L R al' := by intro h; exact Gm h.h) : J Try.prog n ops Q l L R al := h.go (hg ⟨kk⟩)
theorem Gb4 (kk : p) (h : Run n ops Q L R 4 l al l' al' := by exact mr) (hg : Hold p → J Try.prog n ops Q l' L R al' := by intro h; exact Gm h.h) : J Try.prog n ops Q l L R al := h.go (hg ⟨kk⟩)
theorem Gb5 (kk : p) (h : Run n ops Q L R 5 l al l' al' := by exact mr) (hg : Hold p → J Try.prog n ops Q l' L R al' := by intro h; exact Gm h.h) : J Try.prog n ops Q l L R al := h.go (hg ⟨kk⟩)
theorem Gb6 (kk : p) (h : Run n ops Q L R 6 l al l' al' := by exact mr) (hg : Hold p → J Try.prog n ops Q l' L R al' := by intro h; exact Gm h.h) : J Try.prog n ops Q l L R al := h.go (hg ⟨kk⟩)
theorem Gb7 (kk : p) (h : Run n ops Q L R 7 l al l' al' := by exact mr) (hg : Hold p → J Try.prog n ops Q l' L R al' := by intro h; exact Gm h.h) : J Try.prog n ops Q l L R al := h.go (hg ⟨kk⟩)
theorem Gc1 (kk : p) (h : Run n ops Q L R 1 l al l' al' := by exact mr) (hg : Hold p → J Try.prog n ops Q l' L R al' := by intro h; exact Glc h.h) : J Try.prog n ops Q l L R al := h.go (hg ⟨kk⟩)
theorem Gc4 (kk : p) (h : Run n ops Q L R 4 l al l' al' := by exact mr) (hg : Hold p → J Try.prog n ops Q l' L R al' := by intro h; exact Glc h.h) : J Try.prog n ops Q l L R al := h.go (hg ⟨kk⟩)
theorem Gc5 (kk : p) (h : Run n ops Q L R 5 l al l' al' := by exact mr) (hg : Hold p → J Try.prog n ops Q l' L R al' := by intro h; exact Glc h.h) : J Try.prog n ops Q l L R al := h.go (hg ⟨kk⟩)
theorem Gc6 (kk : p) (h : Run n ops Q L R 6 l al l' al' := by exact mr) (hg : Hold p → J Try.prog n ops Q l' L R al' := by intro h; exact Glc h.h) : J Try.prog n ops Q l L R al := h.go (hg ⟨kk⟩)
theorem Gc7 (kk : p) (h : Run n ops Q L R 7 l al l' al' := by exact mr) (hg : Hold p → J Try.prog n ops Q l' L R al' := by intro h; exact Glc h.h) : J Try.prog n ops Q l L R al := h.go (hg ⟨kk⟩)
theorem Gc8 (kk : p) (h : Run n ops Q L R 8 l al l' al' := by exact mr) (hg : Hold p → J Try.prog n ops Q l' L R al' := by intro h; exact Glc h.h) : J Try.prog n ops Q l L R al := h.go (hg ⟨kk⟩)
theorem Gc11 (kk : p) (h : Run n ops Q L R 11 l al l' al' := by exact mr) (hg : Hold p → J Try.prog n ops Q l' L R al' := by intro h; exact Glc h.h) : J Try.prog n ops Q l L R al := h.go (hg ⟨kk⟩)
theorem Gc13 (kk : p) (h : Run n ops Q L R 13 l al l' al' := by exact mr) (hg : Hold p → J Try.prog n ops Q l' L R al' := by intro h; exact Glc h.h) : J Try.prog n ops Q l L R al := h.go (hg ⟨kk⟩)
theorem Gc14 (kk : p) (h : Run n ops Q L R 14 l al l' al' := by exact mr) (hg : Hold p → J Try.prog n ops Q l' L R al' := by intro h; exact Glc h.h) : J Try.prog n ops Q l L R al := h.go (hg ⟨kk⟩)
theorem Gc15 (kk : p) (h : Run n ops Q L R 15 l al l' al' := by exact mr) (hg : Hold p → J Try.prog n ops Q l' L R al' := by intro h; exact Glc h.h) : J Try.prog n ops Q l L R al := h.go (hg ⟨kk⟩)
theorem Gc17 (kk : p) (h : Run n ops Q L R 17 l al l' al' := by exact mr) (hg : Hold p → J Try.prog n ops Q l' L R al' := by intro h; exact Glc h.h) : J Try.prog n ops Q l L R al := h.go (hg ⟨kk⟩)
theorem Gc18 (kk : p) (h : Run n ops Q L R 18 l al l' al' := by exact mr) (hg : Hold p → J Try.prog n ops Q l' L R al' := by intro h; exact Glc h.h) : J Try.prog n ops Q l L R al := h.go (hg ⟨kk⟩)
theorem Gd1 (kk : p) (h : Run n ops Q L R 1 l al l' al' := by exact mr) (hg : Hold p → J Try.prog n ops Q l' L R al' := by intro h; exact Gmc h.h) : J Try.prog n ops Q l L R al := h.go (hg ⟨kk⟩)
theorem Gd2 (kk : p) (h : Run n ops Q L R 2 l al l' al' := by exact mr) (hg : Hold p → J Try.prog n ops Q l' L R al' := by intro h; exact Gmc h.h) : J Try.prog n ops Q l L R al := h.go (hg ⟨kk⟩)
theorem Gd5 (kk : p) (h : Run n ops Q L R 5 l al l' al' := by exact mr) (hg : Hold p → J Try.prog n ops Q l' L R al' := by intro h; exact Gmc h.h) : J Try.prog n ops Q l L R al := h.go (hg ⟨kk⟩)
theorem Gd6 (kk : p) (h : Run n ops Q L R 6 l al l' al' := by exact mr) (hg : Hold p → J Try.prog n ops Q l' L R al' := by intro h; exact Gmc h.h) : J Try.prog n ops Q l L R al := h.go (hg ⟨kk⟩)
theorem Gd7 (kk : p) (h : Run n ops Q L R 7 l al l' al' := by exact mr) (hg : Hold p → J Try.prog n ops Q l' L R al' := by intro h; exact Gmc h.h) : J Try.prog n ops Q l L R al := h.go (hg ⟨kk⟩)
theorem Gd8 (kk : p) (h : Run n ops Q L R 8 l al l' al' := by exact mr) (hg : Hold p → J Try.prog n ops Q l' L R al' := by intro h; exact Gmc h.h) : J Try.prog n ops Q l L R al := h.go (hg ⟨kk⟩)
theorem Gd11 (kk : p) (h : Run n ops Q L R 11 l al l' al' := by exact mr) (hg : Hold p → J Try.prog n ops Q l' L R al' := by intro h; exact Gmc h.h) : J Try.prog n ops Q l L R al := h.go (hg ⟨kk⟩)
theorem jd_ {id : Nat} (Sh : Rho → (Nat → Bool) → List Chunk) (k : DJ Try.prog n l.toArray Q Sh R al 0 l []) (hsl : L0 l.toArray = true := by kernel_rfl) (hed : I5 l.toArray = true := by kernel_rfl) (hL : ∀ ρ, Sh ρ (fun _ => false) = L := by exact fun _ => rfl) : JC Try.prog n (.region id l.toArray true) Q L R al := Sq mixed hsl hed Sh hL k
theorem Gi {id : Nat} (k : DJ Try.prog n l.toArray Q (fun _ _ => L) R al 0 l []) (hsl : L0 l.toArray = true := by kernel_rfl) (hed : I5 l.toArray = true := by kernel_rfl) : JC Try.prog n (.region id l.toArray true) Q L R al := Sq mixed hsl hed (fun _ _ => L) (fun _ => rfl) k
variable {Sh : Rho → (Nat → Bool) → List Chunk} {R0 : List Fact} {al0 : List (Nat × Value)} {its : List Item} {i : Nat} {q : Rho → Prop}
theorem dnl (k : ∀ ρ, q ρ) (h : ∀ ρ, Hold (q ρ) → JX n Q .normal (Fd its ρ ++ Sh ρ (fun j => Nat.blt j i)) (facts its ρ ++ R0) (Dy its al0 ρ) := by intro ρ h; simp only [Fd, facts, Dy, List.append_nil, List.nil_append, List.cons_append]; exact h.h) : DJ Try.prog n ops Q Sh R0 al0 i [] its := d_nilC fun ρ => h ρ ⟨k ρ⟩
theorem dtl {o : Oper} (k : ∀ ρ, q ρ) (ht : I9 ops i = true := by kernel_rfl) (h : ∀ ρ, Hold (q ρ) → J Try.prog n ops Q (o :: rest) (Fd its ρ ++ Sh ρ (fun j => Nat.blt j i)) (facts its ρ ++ R0) (Dy its al0 ρ) := by intro ρ h; simp only [Fd, facts, Dy, List.append_nil, List.nil_append, List.cons_append]; exact h.h) : DJ Try.prog n ops Q Sh R0 al0 i (o :: rest) its := Yd ht fun ρ => h ρ ⟨k ρ⟩
theorem djc {op : Oper} (hp : ∀ ρ S, Az Try.prog n (Dy its al0 ρ) (Sh ρ S) R0 op v) (k : DJ Try.prog n ops Q Sh R0 al0 (i + 1) rest (⟨i, some d, fun _ => v, fun _ => [], fun _ => []⟩ :: its)) (hd : op.dst = some d := by exact rfl) (hSh : ∀ ρ g S, S i = false → Sh (Rho.set ρ i g) (upS S i) = Sh ρ S := by exact fun _ _ _ _ => rfl) : DJ Try.prog n ops Q Sh R0 al0 i (op :: rest) its := dj (dc hp k hd hSh)
theorem epc {op : Oper} (hp : ∀ ρ S, Az Try.prog n (Dy its al0 ρ) (Sh ρ S) R0 op v) (k : DJ Try.prog n ops Q Sh R0 al0 (i + 1) rest (⟨i, some d, fun _ => v, fun _ => [], fun _ => []⟩ :: its)) (hSh : It ops Sh i := by exact fun _ _ _ _ _ => rfl) (hd : op.dst = some d := by exact rfl) : DJ Try.prog n ops Q Sh R0 al0 i (op :: rest) its := Yc hp hSh k hd
theorem epp {op : Oper} {v : Rho → Value} (hp : ∀ ρ S, Az Try.prog n (Dy its al0 ρ) (Sh ρ S) R0 op (v ρ)) (k : DJ Try.prog n ops Q Sh R0 al0 (i + 1) rest (⟨i, some d, v, fun _ => [], fun _ => []⟩ :: its)) (hi : Ind ops i v := by first | exact Ind.const _ | exact fun _ _ _ _ _ => rfl | exact Ind.self | exact Ind.gh _ 3 rfl) (hSh : It ops Sh i := by exact fun _ _ _ _ _ => rfl) (hd : op.dst = some d := by exact rfl) : DJ Try.prog n ops Q Sh R0 al0 i (op :: rest) its := e_p hp hi hSh k hd
def befs (ops : Array Oper) (i : Nat) (l : List Nat) : Bool := l.all fun j => Lh ops 9 j i
def afts (ops : Array Oper) (i : Nat) (l : List Nat) : Bool := l.all fun j => Lh ops 9 i j
def AllS (S : Nat → Bool) (b : Bool) : List Nat → Prop
 | [] => True
 | j :: r => S j = b ∧ AllS S b r
theorem AllS.mk {S : Nat → Bool} {b : Bool} : ∀ {l : List Nat}, (∀ j, j ∈ l → S j = b) → AllS S b l
 | [], _ => trivial
 | j :: r, h => ⟨h j (.head _), AllS.mk fun j hj => h j (.tail _ hj)⟩
theorem Rho.at_ne {ρ : Rho} {i j : Nat} {g : G} (h : Nat.beq j i = false) : Rho.set ρ i g j = ρ j := by
 have : j ≠ i := fun e => by rw [e, Nat.beq_refl] at h; cases h
 simp [Rho.set, this]
theorem upS_at {S : Nat → Bool} {i : Nat} : upS S i i = true := by simp [upS]
theorem upS_no {S : Nat → Bool} {i j : Nat} (h : Nat.beq j i = false) : upS S i j = S j := by simp [upS, h]
theorem es_ (T0 : TypeId) (f : Nat) (bz az : List Nat) (bb : Rho → Nat) (vs us : Rho → List Value) {v : Rho → Value} {sz : Nat} (hsz : ∀ w, (sizeOf T).run Try.prog w = .ok sz w) (k : DJ Try.prog n ops Q Sh R0 al0 (i + 1) rest (⟨i, none, fun _ => undef, fun _ => [], fun _ => []⟩ :: its)) (hx : ∀ ρ, ev n (Dy its al0 ρ) x = some (bp (bb ρ) f) := by exact fun _ => rfl) (hy : ∀ ρ, ev n (Dy its al0 ρ) y = some (v ρ) := by exact fun _ => rfl) (hv : ∀ ρ, (v ρ).cells = (us ρ).toArray := by exact fun _ => rfl) (hl : ∀ ρ, (us ρ).length = sz := by exact fun _ => rfl)
  (h1 : ∀ ρ R' w L', Deps ops R0 its i ρ R' → St L' R' w → ∀ u ∈ us ρ, u.oneCell' = true := by exact fun _ _ _ _ _ _ => by first | (intro u hu; revert u hu; simp [Value.oneCell', Config.cells, Msg.cells, Line.cells, Op.cells, Done.cells, Step.cells]; done) | (repeat (first | exact Di | refine Be (by first | exact rfl | assumption) ?_))) (hf : ∀ ρ, Nat.ble (f + sz) (vs ρ).length = true := by exact fun _ => rfl) (hb : befs ops i bz = true := by kernel_rfl) (ha : afts ops i az = true := by kernel_rfl)
  (hSh : ∀ ρ g S, S i = false → AllS S true bz → AllS S false az → ∃ L1, (Sh ρ S).Perm (blk (bb ρ) T0 (vs ρ) :: L1) ∧ (Sh (Rho.set ρ i g) (upS S i)).Perm (blk (bb ρ) T0 ((vs ρ).take f ++ us ρ ++ (vs ρ).drop (f + sz)) :: L1) := by intro ρ g S hS hB hA; simp only [AllS, and_true] at hB hA; simp +decide only [upS_at, upS_no, Rho.at_ne, hS, hB, hA, cond_true, cond_false]; exact Pos.ex (by repeat (first | exact .hd | exact .hc | apply Pos.tl | apply Pos.ap))) : DJ Try.prog n ops Q Sh R0 al0 i (⟨none, .store T x y, ty, pos, aft, none⟩ :: rest) its :=
 Yb bb hsz hx hy hv hl h1 hf (fun ρ g S hS hB hA => hSh ρ g S hS (AllS.mk fun j hj => hB j ⟨9, List.all_eq_true.1 hb j hj⟩) (AllS.mk fun j hj => hA j ⟨9, List.all_eq_true.1 ha j hj⟩)) k
end
section
variable {P : Program} {n : Nat} {L L' L1 : List Chunk} {R : List Fact} {al : List (Nat × Value)} {γ : Type} {val : γ → Value} {Lf : γ → List Chunk} {Rf : γ → List Fact} {fn : Func} {e : Exit} {t u s r : Nat} {v v1 v2 v3 v4 : Value} {ty : TypeId} {sz b : Nat} {cs : List Value} {T0 : TypeId} {Q : Exit → Act → World → Prop} {c : Code}
theorem cq_ (L' : List Chunk) (k : JC P n c Q L' R al) (h : ∀ w, St L R w → St L' R w := by exact fun w hs => Aj hs) : JC P n c Q L R al := JC.conseq h k
theorem xq_ (L' : List Chunk) (k : JX n Q e L' R al) (h : ∀ w, St L R w → St L' R w := by exact fun w hs => hs) : JX n Q e L R al := JX.conseq h k
theorem Bm (g : γ) (he : e = .normal ∨ e = .ret := by first | exact .inr rfl | exact .inl rfl) (hf : fn.results = #[.tmp t] := by exact rfl) (h0 : ev n al (.tmp t) = some v1 := by exact rfl) (hv : v1 = val g := by rfl) (hs : ∀ w, St L R w → St (Lf g) (Rf g) w := by exact fun w hs => Aj hs) : JX n (bodyPost P fn (Cg val Lf Rf)) e L R al := Fp he (fun B w _ => res1 hf h0 B w) (fun w h => ⟨g, hv, hs w h⟩)
theorem Na (g : γ) (hT : ∀ w, (isAgg ty).run P w = .ok true w) (hsz : ∀ w, (sizeOf ty).run P w = .ok sz w) (he : e = .normal ∨ e = .ret := by first | exact .inr rfl | exact .inl rfl) (hf : fn.results = #[.cell t ty] := by exact rfl) (h0 : ev n al (.tmp t) = some (bp b 0) := by exact rfl)  (hp : Pick L (blk b T0 cs) L1 := by exact pkk) (hl : cs.length = sz := by exact rfl) (hv : (.agg cs.toArray) = val g := by rfl) (hs : ∀ w, St L R w → St (Lf g) (Rf g) w := by exact fun w hs => Aj hs) : JX n (bodyPost P fn (Cg val Lf Rf)) e L R al := Fp he (fun B w hw => resC1 hf h0  hT hsz hp hl B w hw) (fun w h => ⟨g, hv, hs w h⟩)
theorem C9 (g : γ) (he : e = .normal ∨ e = .ret := by first | exact .inr rfl | exact .inl rfl) (hf : fn.results = #[.tmp t, .tmp u] := by exact rfl) (h0 : ev n al (.tmp t) = some v1 := by exact rfl) (h1 : ev n al (.tmp u) = some v2 := by exact rfl) (hv : (.tuple #[v1, v2]) = val g := by rfl) (hs : ∀ w, St L R w → St (Lf g) (Rf g) w := by exact fun w hs => Aj hs) : JX n (bodyPost P fn (Cg val Lf Rf)) e L R al := Fp he (fun B w _ => res2 hf h0 h1 B w) (fun w h => ⟨g, hv, hs w h⟩)
theorem Fv (g : γ) (hT : ∀ w, (isAgg ty).run P w = .ok true w) (hsz : ∀ w, (sizeOf ty).run P w = .ok sz w) (he : e = .normal ∨ e = .ret := by first | exact .inr rfl | exact .inl rfl) (hf : fn.results = #[.cell t ty, .tmp u] := by exact rfl) (h0 : ev n al (.tmp t) = some (bp b 0) := by exact rfl) (h1 : ev n al (.tmp u) = some v2 := by exact rfl) (hp : Pick L (blk b T0 cs) L1 := by exact pkk) (hl : cs.length = sz := by exact rfl) (hv : (.tuple #[.agg cs.toArray, v2]) = val g := by rfl) (hs : ∀ w, St L R w → St (Lf g) (Rf g) w := by exact fun w hs => Aj hs) : JX n (bodyPost P fn (Cg val Lf Rf)) e L R al := Fp he (fun B w hw => resC2 hf h0 h1 hT hsz hp hl B w hw) (fun w h => ⟨g, hv, hs w h⟩)
theorem K9 (g : γ) (he : e = .normal ∨ e = .ret := by first | exact .inr rfl | exact .inl rfl) (hf : fn.results = #[.tmp t, .tmp u, .tmp s] := by exact rfl) (h0 : ev n al (.tmp t) = some v1 := by exact rfl) (h1 : ev n al (.tmp u) = some v2 := by exact rfl) (h2 : ev n al (.tmp s) = some v3 := by exact rfl) (hv : (.tuple #[v1, v2, v3]) = val g := by rfl) (hs : ∀ w, St L R w → St (Lf g) (Rf g) w := by exact fun w hs => Aj hs) : JX n (bodyPost P fn (Cg val Lf Rf)) e L R al := Fp he (fun B w _ => res3 hf h0 h1 h2 B w) (fun w h => ⟨g, hv, hs w h⟩)
theorem Cu (g : γ) (hT : ∀ w, (isAgg ty).run P w = .ok true w) (hsz : ∀ w, (sizeOf ty).run P w = .ok sz w) (he : e = .normal ∨ e = .ret := by first | exact .inr rfl | exact .inl rfl) (hf : fn.results = #[.cell t ty, .tmp u, .tmp s] := by exact rfl) (h0 : ev n al (.tmp t) = some (bp b 0) := by exact rfl) (h1 : ev n al (.tmp u) = some v2 := by exact rfl) (h2 : ev n al (.tmp s) = some v3 := by exact rfl) (hp : Pick L (blk b T0 cs) L1 := by exact pkk) (hl : cs.length = sz := by exact rfl) (hv : (.tuple #[.agg cs.toArray, v2, v3]) = val g := by rfl) (hs : ∀ w, St L R w → St (Lf g) (Rf g) w := by exact fun w hs => Aj hs) : JX n (bodyPost P fn (Cg val Lf Rf)) e L R al := Fp he (fun B w hw => resC3 hf h0 h1 h2 hT hsz hp hl B w hw) (fun w h => ⟨g, hv, hs w h⟩)
theorem F5 (g : γ) (hT : ∀ w, (isAgg ty).run P w = .ok true w) (hsz : ∀ w, (sizeOf ty).run P w = .ok sz w) (he : e = .normal ∨ e = .ret := by first | exact .inr rfl | exact .inl rfl) (hf : fn.results = #[.cell t ty, .tmp u, .tmp s, .tmp r] := by exact rfl) (h0 : ev n al (.tmp t) = some (bp b 0) := by exact rfl) (h1 : ev n al (.tmp u) = some v2 := by exact rfl) (h2 : ev n al (.tmp s) = some v3 := by exact rfl) (h3 : ev n al (.tmp r) = some v4 := by exact rfl) (hp : Pick L (blk b T0 cs) L1 := by exact pkk) (hl : cs.length = sz := by exact rfl) (hv : (.tuple #[.agg cs.toArray, v2, v3, v4]) = val g := by rfl) (hs : ∀ w, St L R w → St (Lf g) (Rf g) w := by exact fun w hs => Aj hs) : JX n (bodyPost P fn (Cg val Lf Rf)) e L R al := Fp he (fun B w hw => resC4 hf h0 h1 h2 h3 hT hsz hp hl B w hw) (fun w h => ⟨g, hv, hs w h⟩)
end
end Go.Proofs.Ytofgpimoekhfaaa

/- This file proves how structs of numbers are compared. No conditions. -/
set_option linter.unusedVariables false
set_option linter.unusedSimpArgs false
set_option maxHeartbeats 1000000
set_option maxRecDepth 8000
namespace Go.Proofs.Ytofgpimoekhfaaa
open Go
end Go.Proofs.Ytofgpimoekhfaaa

/- This file proves what small functions of the document's answer compute: comparing, bits, and what the home says. No conditions. -/
set_option linter.unusedVariables false
set_option linter.unusedSimpArgs false
set_option maxHeartbeats 1000000
set_option maxRecDepth 8000
namespace Go.Proofs.Ytofgpimoekhfaaa
open Go
theorem Ll {L : List Chunk} {R : List Fact} {w : World} {z k : Nat} (hs : St (L) R w) (hz : z ≤ 1000) (hk : k ≤ 60) : Calls Try.prog 70 [vi (z : Int), vi (k : Int)].toArray w (Cg (fun _ : Unit => .bool (z.testBit k)) (fun _ => L) (fun _ => R)) := by
  refine Ah Try.func70 rfl Try.ntmps70 rfl hs ?_
  clear hs
  refine Gm ?_
  refine Gb1 ?_
  refine Ga2 ?_
  refine Bg (γ := Nat) (fun j => j ≤ k) (fun _ => L) (fun _ => R) (fun j => [(0, vi ((z / 2 ^ j : Nat) : Int)), (5, vi (k : Int)), (6, vi (j : Int))]) (fun j => k - j) 0 (Nat.zero_le _) ⟨congrArg (fun q : Nat => some (vi (q : Int))) (by simp), alT⟩ (fun w hs => hs) ?_
  intro j hj
  have hz := Nat.div_le_self z (2 ^ j)
  refine Gm ?_
  refine Ga1 ?_
  refine cdx (p := ?p1) (hd := ?d1) ?e1 ?_ ?_; case e1 => exact rfl
  ·
   intro ht7
   refine Gm ?_
   refine rn1 ?_
   refine ob (Ae rfl rfl (b_quoN (b := 2) (by omega) (by decide))) ?_
   refine Gb1 ?_
   refine Ga2 ?_
   refine A1 (j + 1) (by omega) (by omega) ⟨congrArg (fun q : Nat => some (vi (q : Int))) (by rw [Nat.div_div_eq_div_mul, ← Nat.pow_succ]), alT⟩ (fun w hs => hs)
  ·
   intro ht7
   refine Gm ?_
   refine rn1 ?_
   refine ob (Ae rfl rfl (b_remN (b := 2) (by decide) (by decide))) ?_
   refine Ga2 ?_
   have hjk : j = k := by omega
   subst hjk
   refine Bm () (hv := ?_)
   rw [Nat.testBit_eq_decide_div_mod_eq]; exact congrArg Value.bool (decide_eq_decide.2 (by omega))
theorem J9 {L : List Chunk} {R : List Fact} {w : World} {k : Nat} (hs : St (L) R w) (hk : k ≤ 60) : Calls Try.prog 71 [vi (k : Int)].toArray w (Cg (fun _ : Unit => vi ((2 ^ k : Nat) : Int)) (fun _ => L) (fun _ => R)) := by
  refine Ah Try.func71 rfl Try.ntmps71 rfl hs ?_
  clear hs
  refine Gm ?_
  refine Gb1 ?_
  refine Gb1 ?_
  refine Ga2 ?_
  refine Bg (γ := Nat) (fun j => j ≤ k) (fun _ => L) (fun _ => R) (fun j => [(3, vi ((2 ^ j : Nat) : Int)), (4, vi (k : Int)), (5, vi (j : Int))]) (fun j => k - j) 0 (Nat.zero_le _) alT (fun w hs => hs) ?_
  intro j hj
  have hp := Nat.pow_le_pow_right (show 0 < 2 by decide) (show j ≤ 60 by omega)
  have hp1 : (0 : Int) ≤ ((2 ^ j : Nat) : Int) := Int.natCast_nonneg _
  have hp2 : ((2 ^ j : Nat) : Int) ≤ 1152921504606846976 := Int.ofNat_le.2 hp
  refine Gm ?_
  refine Ga1 ?_
  refine cdx (p := ?p1) (hd := ?d1) ?e1 ?_ ?_; case e1 => exact rfl
  ·
   intro ht6
   refine Gm ?_
   refine rn1 ?_
   refine ob (Ae (a := 2) rfl rfl (Oi (by omega) (by omega))) ?_
   refine Gb1 ?_
   refine Ga2 ?_
   refine A1 (j + 1) (by omega) (by omega) ⟨congrArg (fun q => some (vi q)) (show 2 * ((2 ^ j : Nat) : Int) = ((2 ^ (j + 1) : Nat) : Int) by rw [Nat.pow_succ, Int.natCast_mul]; exact Int.mul_comm _ _), alT⟩ (fun w hs => hs)
  ·
   intro ht6
   refine Gm ?_
   refine Ga2 ?_
   have hjk : j = k := by omega
   subst hjk
   exact Bm ()
def Ch (e : Entry) : Nat → Nat
 | 0 => 0
 | j + 1 => if e.alone = true ∧ (j : Int) ≠ e.who ∧ e.sharers.toNat.testBit j = true then Ch e j + 2 ^ j else Ch e j
def phT (e : Entry) (j : Nat) : Int := if Ch e j = 0 then 3 else 2
def nxt (e : Entry) (j : Nat) : Entry := { e with need := (Ch e j : Int), phase := if Ch e j = 0 then 3 else 2 }
def EB (e : Entry) : Prop := e.wf ∧ (0 ≤ e.sharers ∧ e.sharers < 16) ∧ (0 ≤ e.need ∧ e.need < 16) ∧ (0 ≤ e.who ∧ e.who < 4) ∧ (-1 ≤ e.owner ∧ e.owner < 4) ∧ 0 ≤ e.turn
theorem Nu (e : Entry) : ∀ j, Ch e j < 2 ^ j
 | 0 => Nat.one_pos
 | j + 1 => by
  have := Nu e j
  rw [Nat.pow_succ]
  unfold Ch
  split <;> omega
theorem Up {e : Entry} (hb : EB e) (ho : ¬ 0 ≤ e.owner) : nxt e 4 = A6 e := by
  obtain ⟨_, ⟨h1, h2⟩, _, ⟨h3, h4⟩, _, _⟩ := hb
  cases e with | mk value owner sharers phase who serial alone turn need last =>
  simp only at h1 h2 h3 h4 ho
  obtain ⟨s, rfl⟩ := Int.eq_ofNat_of_zero_le h1
  obtain ⟨k, rfl⟩ := Int.eq_ofNat_of_zero_le h3
  cases alone with
  | false => simp [nxt, A6, Ch, ho]
  | true =>
    have key : ∀ (s : _root_.Fin 16) (k : _root_.Fin 4), (Ch ⟨0, -1, (s.val : Int), 0, (k.val : Int), 0, true, 0, 0, []⟩ 4 : Int) = Hr (s.val : Int) (k.val : Int) := by decide
    have e1 : Ch ⟨value, owner, (s : Int), phase, (k : Int), serial, true, turn, need, last⟩ 4 = Ch ⟨0, -1, (s : Int), 0, (k : Int), 0, true, 0, 0, []⟩ 4 := rfl
    have e2 := key ⟨s, by omega⟩ ⟨k, by omega⟩
    simp only at e2
    unfold nxt A6
    simp only [e1, if_neg ho]
    by_cases hc : Hr (s : Int) (k : Int) = 0
    · rw [hc] at e2
      have e3 : Ch ⟨0, -1, (s : Int), 0, (k : Int), 0, true, 0, 0, []⟩ 4 = 0 := by omega
      simp [e3, hc]
    · have e3 : Ch ⟨0, -1, (s : Int), 0, (k : Int), 0, true, 0, 0, []⟩ 4 ≠ 0 := by omega
      simp [e3, hc, e2]
def zEC : List Value := [vi 0, vi 0, vi 0, vi 0, vi 0, vi 0, .bool false, vi 0, vi 0, .slice none 0 0]
theorem Hw {L : List Chunk} {R : List Fact} {w : World} {u : Value} {e : Entry} (hs : St (L) R w) (hb : EB e) (hu : u.oneCell' = true) : Calls Try.prog 68 [.agg (e.cells u).toArray].toArray w (Cg (fun _ : Unit => .agg ((A6 e).cells u).toArray) (fun _ => L) (fun _ => R)) := by
  have hb0 := hb
  unfold EB Entry.wf An at hb0
  refine Ah Try.func68 rfl Try.ntmps68 rfl hs ?_
  clear hs
  refine Gm ?_
  refine bx ?_; intro b1
  refine al_ (cs := zEC) Try.zeroValue58 ?_; intro b2
  refine Gm ?_
  refine rn1 ?_
  refine sc ?_
  refine Gm ?_
  refine rn1 ?_
  refine sc ?_
  refine Gm ?_
  refine Ga3 ?_
  refine cdx (p := ?p1) (hd := ?d1) ?e1 ?_ ?_; case e1 => exact rfl
  ·
   intro ht8
   refine Gm ?_
   refine rn1 ?_
   refine sc ?_
   refine Gm ?_
   refine rn1 ?_
   refine s_B Try.sizeOf58 ?_
   refine Gl ?_
   have er : A6 e = { e with need := 0, phase := 1 } := by unfold A6; rw [if_pos ht8]
   refine Na () Try.isAgg58 Try.sizeOf58 (hv := ?_)
   rw [er]; rfl
  ·
   intro ht8
   refine Gm ?_
   refine Ga1 ?_
   refine Bg (γ := Nat) (fun k => k ≤ 4) (fun k => blk b1 58 [vi e.value, vi e.owner, vi e.sharers, vi (phT e k), vi e.who, vi e.serial, .bool e.alone, vi e.turn, vi (Ch e k : Int), u] :: blk b2 58 zEC :: L) (fun _ => R) (fun k => [(1, bp b1 0), (2, bp b2 0), (11, vi (k : Int))]) (fun k => 4 - k) 0 (Nat.zero_le _) alT (fun w hs => Aj hs) ?_
   intro k hk
   have hn := Nu e k
   have hn4 : Ch e k < 16 := Nat.lt_of_lt_of_le hn (Nat.pow_le_pow_right (n := 2) (by decide) (show k ≤ 4 by omega))
   refine Gm ?_
   refine Ga1 ?_
   refine cdx (p := ?p2) (hd := ?d2) ?e2 ?_ ?_; case e2 => exact rfl
   ·
    intro ht12
    refine Gm ?_
    refine Gb2 ?_
    refine rn3 ?_
    refine Md (t := 16) (b := ?b3) ?e3 ?_ ?_; case e3 => exact rfl
    ·
     intro ht16
     refine rn6 ?_
     refine jgx (t := 22) (p := ?p4) (hd := ?d4) ?e4 ?_ ?_; case e4 => exact rfl
     ·
      intro ht22
      refine rn3 ?_
      refine gy ?_
      refine Ar Try.call70 rfl (fun w hs => by have h := Ll (z := e.sharers.toNat) (k := k) hs (by omega) (by omega); rw [Int.toNat_of_nonneg hb.2.1.1] at h; exact h) ?_; intro _
      refine Ga1 ?_
      first | (refine cdx (p := ?p5) (hd := ?d5) ?e5 ?_ ?_; case e5 => exact rfl) | (refine Bh (b := ?b5) ?e5 ?_ ?_; case e5 => exact rfl)
      ·
       intro ht27
       refine Gl ?_
       have hyes : e.alone = true ∧ (k : Int) ≠ e.who ∧ e.sharers.toNat.testBit k = true := ⟨ht16, ht22, ht27⟩
       have h16 : ((2 ^ k : Nat) : Int) ≤ 8 := Int.ofNat_le.2 (Nat.pow_le_pow_right (n := 2) (by decide) (show k ≤ 3 by omega))
       have h17 : (0 : Int) ≤ ((2 ^ k : Nat) : Int) := Int.natCast_nonneg _
       refine cq_ (blk b1 58 [vi e.value, vi e.owner, vi e.sharers, vi (phT e k), vi e.who, vi e.serial, .bool e.alone, vi e.turn, vi (Ch e k : Int), u] :: blk b2 58 zEC :: L) ?_
       refine jd_ (fun ρ S => blk b1 58 [vi e.value, vi e.owner, vi e.sharers, vi (phT e k), vi e.who, vi e.serial, .bool e.alone, vi e.turn, vi (Ch e k : Int), u] :: blk b2 58 zEC :: L) ?_
       refine dn3 ?_
       refine Bp (γ := Unit) (val := fun _ => vi ((2 ^ k : Nat) : Int)) (F := fun _ => []) Try.call71 (fun _ => rfl) (fun ρ L R w hd hs => J9 hs (by omega)) (fun _ _ _ _ _ => rfl) ?_
       first | refine epc (fun _ _ => D9) ?_ | refine epc (fun _ _ => Fb) ?_ | refine epp (fun _ _ => D9) ?_ | refine epp (fun _ _ => Fb) ?_
       refine dn1 ?_
       refine dtl ?_; intro ρ
       refine J.conseq (L' := blk b1 58 [vi e.value, vi e.owner, vi e.sharers, vi (phT e k), vi e.who, vi e.serial, .bool e.alone, vi e.turn, vi (Ch e k : Int), u] :: blk b2 58 zEC :: L) (fun w hs => hs) ?_
       refine s_b Try.sizeOf3 ?_
       intro cs_ hcs_; subst hcs_
       refine Gl ?_
       refine kp [1, 2, 3, 11, 12, 13, 14, 15, 16, 17, 18, 19, 20, 21, 22, 23, 24, 25, 26, 27, 28, 29, 30, 31, 32, 33, 34] ?_
       refine Aa ?_
       refine rn1 ?_
       refine sc ?_
       refine Gm ?_
       refine Ga2 ?_
       have e1 : phT e (k + 1) = 2 := by
        have h9 : Ch e (k + 1) = Ch e k + 2 ^ k := by rw [Ch, if_pos hyes]
        have h8 : 0 < 2 ^ k := Nat.two_pow_pos k
        unfold phT; rw [h9, if_neg (by omega)]
       have e2 : (Ch e (k + 1) : Int) = (Ch e k : Int) + ((2 ^ k : Nat) : Int) := by
        have h9 : Ch e (k + 1) = Ch e k + 2 ^ k := by rw [Ch, if_pos hyes]
        rw [h9]; exact Int.natCast_add _ _
       refine A1 (k + 1) (by omega) (by omega) alT (fun w hs => ?_)
       try simp only
       rw [e1, e2]; exact Aj hs
      ·
       intro ht27
       refine Gm ?_
       refine Ga2 ?_
       have hno : ¬ (e.alone = true ∧ (k : Int) ≠ e.who ∧ e.sharers.toNat.testBit k = true) := by first | exact (fun h => absurd (ht16.symm.trans h.1) (by decide)) | exact (fun h => ht22 h.2.1) | exact (fun h => absurd (ht27.symm.trans h.2.2) (by decide))
       have e1 : Ch e (k + 1) = Ch e k := by rw [Ch, if_neg hno]
       have e2 : phT e (k + 1) = phT e k := by unfold phT; rw [e1]
       refine A1 (k + 1) (by omega) (by omega) alT (fun w hs => ?_)
       try simp only
       rw [e1, e2]; exact Aj hs
     ·
      intro ht22
      refine Gd5 ?_
      refine Ga2 ?_
      have hno : ¬ (e.alone = true ∧ (k : Int) ≠ e.who ∧ e.sharers.toNat.testBit k = true) := by first | exact (fun h => absurd (ht16.symm.trans h.1) (by decide)) | exact (fun h => ht22 h.2.1) | exact (fun h => absurd (ht27.symm.trans h.2.2) (by decide))
      have e1 : Ch e (k + 1) = Ch e k := by rw [Ch, if_neg hno]
      have e2 : phT e (k + 1) = phT e k := by unfold phT; rw [e1]
      refine A1 (k + 1) (by omega) (by omega) alT (fun w hs => ?_)
      try simp only
      rw [e1, e2]; exact Aj hs
    ·
     intro ht16
     refine Gd11 ?_
     refine Ga2 ?_
     have hno : ¬ (e.alone = true ∧ (k : Int) ≠ e.who ∧ e.sharers.toNat.testBit k = true) := by first | exact (fun h => absurd (ht16.symm.trans h.1) (by decide)) | exact (fun h => ht22 h.2.1) | exact (fun h => absurd (ht27.symm.trans h.2.2) (by decide))
     have e1 : Ch e (k + 1) = Ch e k := by rw [Ch, if_neg hno]
     have e2 : phT e (k + 1) = phT e k := by unfold phT; rw [e1]
     refine A1 (k + 1) (by omega) (by omega) alT (fun w hs => ?_)
     try simp only
     rw [e1, e2]; exact Aj hs
   ·
    intro ht12
    refine Gm ?_
    refine rn1 ?_
    refine s_B Try.sizeOf58 ?_
    refine Gl ?_
    have hk4 : k = 4 := by omega
    subst hk4
    refine Na () Try.isAgg58 Try.sizeOf58 (hv := ?_)
    rw [← Up hb ht8]; rfl
end Go.Proofs.Ytofgpimoekhfaaa

/- This file proves what functions of the document's answer compute that put one part in the place of another. No conditions. -/
set_option linter.unusedVariables false
set_option linter.unusedSimpArgs false
set_option maxHeartbeats 1000000
set_option maxRecDepth 8000
namespace Go.Proofs.Ytofgpimoekhfaaa
open Go
theorem Bo {L : List Chunk} {R : List Fact} {w : World} {v0 u : Value} {l : List Entry} {i : Int} {e : Entry} (hs : St (L) R w) (h0 : sl v0 l ∈ R) (hu : sl u e.last ∈ R) (hw : e.wf) (hi : 0 ≤ i ∧ i < (l.length : Int)) : Calls Try.prog 69 [v0, vi i, .agg (e.cells u).toArray].toArray w (Cg (fun v : Value => v) (fun v => L) (fun v => sl v (l.set i.toNat e) :: R)) := by
 have hlen := Bv h0 hs
 refine Ah Try.func69 rfl Try.ntmps69 rfl hs ?_
 clear hs
 refine Gm ?_
 refine bx ?_; intro b5
 refine Gb1 ?_
 refine liO ([] : List Entry) Rb rfl (fun j h => Fa) ?_; intro v8
 refine rn1 ?_
 refine ap Rb (hb := fun w hs => by have := Bv h0 hs; have : maxN = 16777216 := rfl; simp; omega) (k := ?_); intro v10
 refine Gb1 ?_
 refine rn3 ?_
 refine ob (Ru so_44) ?_
 refine s_W (xs := l) (i := i.toNat) e Try.sizeOf58 rfl rfl rfl .hd (by omega) (Wf mm hw) ?_
 refine Gm ?_
 refine Ga2 ?_
 exact Bm v10 (hs := fun w hs => Aj (St.shut hs))
theorem Bd {L : List Chunk} {R : List Fact} {w : World} {u : Value} {c : Core} {i : Int} {l : Line} (hs : St (L) R w) (hu : sl u c.lines ∈ R) (hw : l.wf) (hi : 0 ≤ i ∧ i < (c.lines.length : Int)) : Calls Try.prog 77 [.agg (c.cells u).toArray, vi i, .agg l.cells.toArray].toArray w (Cg (fun v : Value => .agg (Core.cells v (Ay c i l c.wait)).toArray) (fun v => L) (fun v => sl v (c.lines.set i.toNat l) :: R)) := by
 have hlen := Bv hu hs
 have hone0 : u.oneCell' = true := isSlice.one (hs.fact hu)
 refine Ah Try.func77 rfl Try.ntmps77 rfl hs ?_
 clear hs
 refine Gm ?_
 refine bx ?_; intro b3
 refine bx ?_; intro b5
 refine al_ (cs := [.slice none 0 0, vi 0, vi 0, vi 0]) Try.zeroValue69 ?_; intro b6
 refine Gm ?_
 refine liO ([] : List Line) S1 rfl (fun j h => Fa) ?_; intro v8
 refine rn2 ?_
 refine ap S1 (hb := fun w hs => by have := Bv hu hs; have : maxN = 16777216 := rfl; simp; omega) (k := ?_); intro v11
 refine Gb1 ?_
 refine rn3 ?_
 refine ob (Ru Qo) ?_
 refine s_W (xs := c.lines) (i := i.toNat) l Try.sizeOf82 rfl rfl rfl pkk (by omega) (rdLine hw) ?_
 refine Gl ?_
 refine JC.shut (v := v11) pkk ?_
 refine JC.know (p := v11.oneCell' = true) (fun w hs => isSlice.one (hs.fact (List.Mem.head _))) (fun hone => ?_)
 refine Aa ?_
 refine rn4 ?_
 refine s_B (cs := Core.cells v11 (Ay c i l c.wait)) Try.sizeOf69 ?_
 refine Gl ?_
 exact Na v11 Try.isAgg69 Try.sizeOf69
theorem J6 {L : List Chunk} {R : List Fact} {w : World} {cv hv fv u : Value} {x : Chip} {i : Int} {k : Core} (hs : St (L) R w) (hc : sl cv x.cores ∈ R) (hh : hv.oneCell' = true) (hf : fv.oneCell' = true) (hu : sl u k.lines ∈ R) (hw : k.wait.wf) (hi : 0 ≤ i ∧ i < (x.cores.length : Int)) : Calls Try.prog 96 [.agg #[cv, hv, fv], vi i, .agg (k.cells u).toArray].toArray w (Cg (fun v : Value => .agg #[v, hv, fv]) (fun v => L) (fun v => sl v (x.cores.set i.toNat k) :: R)) := by
 have hlen := Bv hc hs
 have hone0 : u.oneCell' = true := isSlice.one (hs.fact hu)
 refine Ah Try.func96 rfl Try.ntmps96 rfl hs ?_
 clear hs
 refine Gm ?_
 refine bx ?_; intro b3
 refine bx ?_; intro b5
 refine al_ (cs := [.slice none 0 0, .slice none 0 0, .slice none 0 0]) Try.zeroValue46 ?_; intro b6
 refine Gm ?_
 refine liO ([] : List Core) Rd rfl (fun j h => Fa) ?_; intro v8
 refine rn2 ?_
 refine ap Rd (hb := fun w hs => by have := Bv hc hs; have : maxN = 16777216 := rfl; simp; omega) (k := ?_); intro v11
 refine Gb1 ?_
 refine rn3 ?_
 refine ob (Ru K8) ?_
 refine s_W (xs := x.cores) (i := i.toNat) k Try.sizeOf69 rfl rfl rfl pkk (by omega) (rdCore mm hw) ?_
 refine Gl ?_
 refine JC.shut (v := v11) pkk ?_
 refine JC.know (p := v11.oneCell' = true) (fun w hs => isSlice.one (hs.fact (List.Mem.head _))) (fun hone => ?_)
 refine Aa ?_
 refine rn6 ?_
 refine s_B (cs := [v11, hv, fv]) Try.sizeOf46 ?_
 refine Gl ?_
 exact Na v11 Try.isAgg46 Try.sizeOf46
theorem L5 {L : List Chunk} {R : List Fact} {w : World} {l : Line} {id home i : Int} (hs : St (L) R w) : Calls Try.prog 78 [.agg l.cells.toArray, vi id, vi home, vi i].toArray w (Cg (fun _ : Unit => .agg (Cx l id home i).cells.toArray) (fun _ => L) (fun _ => R)) := by
  refine Ah Try.func78 rfl Try.ntmps78 rfl hs ?_
  clear hs
  refine Gm ?_
  refine bx ?_; intro b4
  refine al_ (cs := zMsg.cells) Try.zeroValue42 ?_; intro b8
  refine Gm ?_
  refine rn8 ?_
  refine al_ (cs := zMsg.cells) Try.zeroValue42 ?_; intro b9
  refine s_B Try.sizeOf42 ?_
  refine Gm ?_
  refine Ga3 ?_
  refine cdx (p := ?p1) (hd := ?d1) ?e1 ?_ ?_; case e1 => exact rfl
  ·
   intro ht20
   refine Aa ?_
   refine rn3 ?_
   refine sc ?_
   refine Gm ?_
   refine rn1 ?_
   refine s_B Try.sizeOf42 ?_
   refine Gl ?_
   have er : Cx l id home i = ⟨l.want, id, home, i, l.serial, 0, l.value, false⟩ := by unfold Cx; rw [if_pos ht20]
   refine Na () Try.isAgg42 Try.sizeOf42 (hv := ?_)
   rw [er]; rfl
  ·
   intro ht20
   refine Gm ?_
   refine rn1 ?_
   refine s_B Try.sizeOf42 ?_
   refine Gl ?_
   have er : Cx l id home i = ⟨l.want, id, home, i, l.serial, 0, 0, false⟩ := by unfold Cx; rw [if_neg ht20]
   refine Na () Try.isAgg42 Try.sizeOf42 (hv := ?_)
   rw [er]; rfl
theorem Iv (id home : Int) : ∀ (l : List Line) (i : Int) (x : Line), Ct id home i (l ++ [x]) = Ct id home i l ++ if x.want ≠ 0 then [Cx x id home (i + (l.length : Int))] else []
 | [], i, x => by simp only [List.nil_append, Ct, List.length_nil]; split <;> simp
 | a :: l, i, x => by
  have ih := Iv id home l (i + 1) x
  have e : i + 1 + (l.length : Int) = i + ((a :: l).length : Int) := by simp only [List.length_cons]; omega
  rw [e] at ih
  simp only [List.cons_append, Ct]
  split <;> simp [ih]
theorem M5 (id home : Int) : ∀ (l : List Line) (i : Int), (Ct id home i l).length ≤ l.length
 | [], i => Nat.le_refl _
 | a :: l, i => by
  have := M5 id home l (i + 1)
  simp only [Ct]; split <;> simp only [List.length_cons] <;> omega
theorem Qh {l : Line} (h : l.wf) {id home i : Int} (h1 : An id) (h2 : An home) (h3 : An i) : (Cx l id home i).wf := by
 unfold Cx Msg.wf; unfold Line.wf at h; unfold An at *; simp only
 split <;> omega
theorem Nk {L : List Chunk} {R : List Fact} {w : World} {u : Value} {c : Core} {id home : Int} (hs : St (L) R w) (hu : sl u c.lines ∈ R) (hid : An id) (hhome : An home) : Calls Try.prog 45 [.agg (c.cells u).toArray, vi id, vi home].toArray w (Cg (fun v : Value => v) (fun v => L) (fun v => sl v (Ez c id home) :: R)) := by
  have hlen := Bv hu hs
  have hone0 : u.oneCell' = true := isSlice.one (hs.fact hu)
  refine Ah Try.func45 rfl Try.ntmps45 rfl hs ?_
  clear hs
  refine Gm ?_
  refine bx ?_; intro b3
  refine Gb1 ?_
  refine Gb1 ?_
  refine Ga4 ?_
  refine JC.rowNil 42 Msg ?_
  refine Bg (γ := Nat × Value) (fun g => g.1 ≤ c.lines.length) (fun g => row 42 g.2 (Ct id home 0 (c.lines.take g.1)) :: L) (fun _ => R) (fun g => [(1, vi id), (2, vi home), (7, g.2), (11, u), (12, vi (c.lines.length : Int)), (13, vi (g.1 : Int))]) (fun g => c.lines.length - g.1) (0, .slice none 0 0) (Nat.zero_le _) alT (fun w hs => Aj hs) ?_
  rintro ⟨k, vs⟩ hk
  try simp only at hk ⊢
  refine Gm ?_
  refine Ga1 ?_
  refine cdx (p := ?p1) (hd := ?d1) ?e1 ?_ ?_; case e1 => exact rfl
  ·
   intro ht14
   refine Gl ?_
   refine JC.open0 (xs := c.lines) (v := u) k mm (by omega) (fun hlw => ?_)
   refine Aa ?_
   refine rn3 ?_
   refine al_ (cs := zLine.cells) Try.zeroValue82 ?_; intro b9
   refine rn1 ?_
   refine s_B (cs := (c.lines.getD k zLine).cells) Try.sizeOf82 ?_
   refine Gm ?_
   refine Ga3 ?_
   refine cdx (p := ?p2) (hd := ?d2) ?e2 ?_ ?_; case e2 => exact rfl
   ·
    intro ht20
    refine Aa ?_
    refine rn5 ?_
    refine Ar Try.call78 rfl (fun w hs => L5 (l := c.lines.getD k zLine) (id := id) (home := home) (i := (k : Int)) hs) ?_; intro _
    refine li ([Cx (c.lines.getD k zLine) id home (k : Int)] : List Msg) G3 rfl (Jl (Qh hlw hid hhome (by unfold An; omega))) ?_; intro v27
    refine ap G3 (hb := fun w hs => by have : maxN = 16777216 := rfl; have h9 := M5 id home (c.lines.take k) 0; rw [List.length_take] at h9; simp only [List.length_cons, List.length_nil]; omega) (k := ?_); intro v28
    refine Gb1 ?_
    refine Ga2 ?_
    refine A1 (k + 1, v28) (by show k + 1 ≤ c.lines.length; omega) (by show c.lines.length - (k + 1) < c.lines.length - k; omega) alT (fun w hs => ?_)
    try simp only
    rw [Hu zLine (by omega), Iv, if_pos ht20, List.length_take, Nat.min_eq_left (by omega), Int.zero_add]
    exact Aj hs
   ·
    intro ht20
    refine Gm ?_
    refine Ga2 ?_
    refine A1 (k + 1, vs) (by show k + 1 ≤ c.lines.length; omega) (by show c.lines.length - (k + 1) < c.lines.length - k; omega) alT (fun w hs => ?_)
    try simp only
    rw [Hu zLine (by omega), Iv, if_neg ht20, List.append_nil]
    exact Aj hs
  ·
   intro ht14
   refine Gm ?_
   refine Ga2 ?_
   exact Bm vs (hs := fun w hs => by rw [show k = c.lines.length by omega, List.take_length] at hs; exact Aj (St.shut hs))
end Go.Proofs.Ytofgpimoekhfaaa

/- This file proves what the home says, by the document's answer. No conditions. -/
set_option linter.unusedVariables false
set_option linter.unusedSimpArgs false
set_option maxHeartbeats 1000000
set_option maxRecDepth 8000
namespace Go.Proofs.Ytofgpimoekhfaaa
open Go
def Gg (e : Entry) (line id : Int) (k : Nat) : List Msg := ((List.range k).filter (fun p => e.need.toNat.testBit p)).map fun (p : Nat) => (⟨4, id, (p : Int), line, 0, e.turn, 0, false⟩ : Msg)
theorem Qp {e : Entry} {line id : Int} {k : Nat} (h : e.need.toNat.testBit k = true) : Gg e line id (k + 1) = Gg e line id k ++ [⟨4, id, (k : Int), line, 0, e.turn, 0, false⟩] := by
 unfold Gg; rw [List.range_succ, List.filter_append, List.map_append]; simp [h]
theorem R8 {e : Entry} {line id : Int} {k : Nat} (h : e.need.toNat.testBit k = false) : Gg e line id (k + 1) = Gg e line id k := by
 unfold Gg; rw [List.range_succ, List.filter_append, List.map_append]; simp [h]
theorem Qq (e : Entry) (line id : Int) (k : Nat) : (Gg e line id k).length ≤ k := by
 unfold Gg; rw [List.length_map]
 exact Nat.le_trans (List.length_filter_le ..) (by simp)
theorem Qr {e : Entry} {line id : Int} (h : e.phase = 2) : Gg e line id 4 = says e line id := by
 unfold Gg says
 rw [if_neg (by omega), if_pos h]
 show _ = List.map _ (List.filter _ ([0, 1, 2, 3].map (fun p : Nat => (p : Int))))
 rw [List.filter_map, List.map_map]
 rfl
theorem Gt {L : List Chunk} {R : List Fact} {w : World} {u : Value} {e : Entry} {line id : Int} (hs : St (L) R w) (hb : EB e) (hu : u.oneCell' = true) (hl : An line) (hid : An id) : Calls Try.prog 34 [.agg (e.cells u).toArray, vi line, vi id].toArray w (Cg (fun v : Value => v) (fun v => L) (fun v => sl v (says e line id) :: R)) := by
  have hb0 := hb
  unfold EB Entry.wf An at hb0
  unfold An at hl hid
  refine Ah Try.func34 rfl Try.ntmps34 rfl hs ?_
  clear hs
  refine Gm ?_
  refine bx ?_; intro b3
  refine Gb1 ?_
  refine Gb1 ?_
  refine rn5 ?_
  refine al_ (cs := zMsg.cells) Try.zeroValue42 ?_; intro b8
  refine s_B (cs := [vi 0, vi id, vi 0, vi line, vi 0, vi e.turn, vi 0, .bool false]) Try.sizeOf42 ?_
  refine Gm ?_
  refine Gb2 ?_
  refine Ga2 ?_
  refine cdx (p := ?p1) (hd := ?d1) ?e1 ?_ ?_; case e1 => exact rfl
  ·
   intro ht17
   refine Gl ?_
   refine cq_ (blk b8 42 [vi 0, vi id, vi 0, vi line, vi 0, vi e.turn, vi 0, .bool false] :: blk b3 58 (e.cells u) :: L) ?_
   refine jd_ (fun ρ S => blk b8 42 (bif S 5 then [vi 5, vi id, vi e.owner, vi line, vi 0, vi e.turn, vi 0, .bool false] else (bif S 3 then [vi 5, vi id, vi 0, vi line, vi 0, vi e.turn, vi 0, .bool false] else [vi 0, vi id, vi 0, vi line, vi 0, vi e.turn, vi 0, .bool false])) :: blk b3 58 (e.cells u) :: L) ?_
   refine dn3 ?_
   refine es_ 42 0 [] [5] (fun ρ => b8) (fun ρ => [vi 0, vi id, vi 0, vi line, vi 0, vi e.turn, vi 0, .bool false]) (fun ρ => [vi 5]) Try.sizeOf3 ?_
   refine dn1 ?_
   refine es_ 42 2 [3] [] (fun ρ => b8) (fun ρ => [vi 5, vi id, vi 0, vi line, vi 0, vi e.turn, vi 0, .bool false]) (fun ρ => [vi e.owner]) Try.sizeOf3 ?_
   refine dnl ?_; intro ρ
   refine xq_ (blk b8 42 [vi 5, vi id, vi e.owner, vi line, vi 0, vi e.turn, vi 0, .bool false] :: blk b3 58 (e.cells u) :: L) ?_
   refine Gm ?_
   refine Ga2 ?_
   refine Bh (b := ?b2) ?e2 ?_ ?_; case e2 => exact rfl
   ·
    intro ht24
    refine Aa ?_
    refine rn1 ?_
    refine sc ?_
    refine Gl ?_
    refine JC.rowNil 42 Msg ?_
    refine Aa ?_
    refine rn2 ?_
    refine li ([⟨6, id, e.owner, line, 0, e.turn, 0, false⟩] : List Msg) G3 rfl (Jl (by unfold Msg.wf An; simp only; omega)) ?_; intro v28
    refine ap G3 (hb := fun w hs => by have : maxN = 16777216 := rfl; simp only [List.length_cons, List.length_nil, List.length_take, List.length_append]; omega) (k := ?_); intro v29
    refine Gb1 ?_
    refine Ga2 ?_
    have er : says e line id = [⟨6, id, e.owner, line, 0, e.turn, 0, false⟩] := by unfold says; rw [if_pos ht17, ht24]; rfl
    rw [er]
    exact Bm v29 (hs := fun w hs => Aj (St.shut (hs.pick pkk)))
   ·
    intro ht24
    refine Gl ?_
    refine JC.rowNil 42 Msg ?_
    refine Aa ?_
    refine rn2 ?_
    refine li ([⟨5, id, e.owner, line, 0, e.turn, 0, false⟩] : List Msg) G3 rfl (Jl (by unfold Msg.wf An; simp only; omega)) ?_; intro v28
    refine ap G3 (hb := fun w hs => by have : maxN = 16777216 := rfl; simp only [List.length_cons, List.length_nil, List.length_take, List.length_append]; omega) (k := ?_); intro v29
    refine Gb1 ?_
    refine Ga2 ?_
    have er : says e line id = [⟨5, id, e.owner, line, 0, e.turn, 0, false⟩] := by unfold says; rw [if_pos ht17, ht24]; rfl
    rw [er]
    exact Bm v29 (hs := fun w hs => Aj (St.shut (hs.pick pkk)))
  ·
   intro ht17
   refine Gm ?_
   refine Ga2 ?_
   refine cdx (p := ?p3) (hd := ?d3) ?e3 ?_ ?_; case e3 => exact rfl
   ·
    intro ht30
    refine Gl ?_
    refine JC.rowNil 42 Msg ?_
    refine Aa ?_
    refine Ga1 ?_
    refine Bg (γ := Nat × Value × Int × Int) (fun g => g.1 ≤ 4) (fun g => row 42 g.2.1 (Gg e line id g.1) :: blk b8 42 [vi g.2.2.1, vi id, vi g.2.2.2, vi line, vi 0, vi e.turn, vi 0, .bool false] :: blk b3 58 (e.cells u) :: L) (fun _ => R) (fun g => [(3, bp b3 0), (7, g.2.1), (8, bp b8 0), (32, vi (g.1 : Int))]) (fun g => 4 - g.1) (0, .slice none 0 0, 0, 0) (Nat.zero_le _) alT (fun w hs => Aj hs) ?_
    rintro ⟨k, vs, x0, x2⟩ hk
    try simp only at hk ⊢
    have hsl := Qq e line id k
    refine Gm ?_
    refine Ga1 ?_
    refine cdx (p := ?p4) (hd := ?d4) ?e4 ?_ ?_; case e4 => exact rfl
    ·
     intro ht33
     refine Gm ?_
     refine Gb2 ?_
     refine rn3 ?_
     refine Ar Try.call70 rfl (fun w hs => by have h := Ll (z := e.need.toNat) (k := k) hs (by omega) (by omega); rw [Int.toNat_of_nonneg hb.2.2.1.1] at h; exact h) ?_; intro _
     refine Gl ?_
     first | (refine cdx (p := ?p5) (hd := ?d5) ?e5 ?_ ?_; case e5 => exact rfl) | (refine Bh (b := ?b5) ?e5 ?_ ?_; case e5 => exact rfl)
     ·
      intro ht38
      refine Gm ?_
      refine rn2 ?_
      refine sc ?_
      refine rn1 ?_
      refine sc ?_
      refine Gm ?_
      refine rn2 ?_
      refine li ([⟨4, id, (k : Int), line, 0, e.turn, 0, false⟩] : List Msg) G3 rfl (Jl (by unfold Msg.wf An; simp only; omega)) ?_; intro v44
      refine ap G3 (hb := fun w hs => by have : maxN = 16777216 := rfl; simp only [List.length_cons, List.length_nil, List.length_take, List.length_append]; omega) (k := ?_); intro v45
      refine Ga1 ?_
      refine kp [3, 6, 7, 8, 9, 16, 32, 33, 34, 35, 36, 37, 38, 39, 40, 41, 42, 43, 44, 45, 46] ?_
      refine Aa ?_
      refine Ga2 ?_
      refine A1 (k + 1, v45, 4, (k : Int)) (by show k + 1 ≤ 4; omega) (by show 4 - (k + 1) < 4 - k; omega) alT (fun w hs => ?_)
      try simp only
      rw [Qp ht38]; exact Aj hs
     ·
      intro ht38
      refine Gm ?_
      refine Ga2 ?_
      refine A1 (k + 1, vs, x0, x2) (by show k + 1 ≤ 4; omega) (by show 4 - (k + 1) < 4 - k; omega) alT (fun w hs => ?_)
      try simp only
      rw [R8 ht38]; exact Aj hs
    ·
     intro ht33
     refine Gm ?_
     refine Ga2 ?_
     have hk4 : k = 4 := by omega
     subst hk4
     have er : says e line id = Gg e line id 4 := (Qr ht30).symm
     rw [er]
     exact Bm vs (hs := fun w hs => Aj (St.shut (hs.pick pkk)))
   ·
    intro ht30
    refine Gm ?_
    refine Ga2 ?_
    refine cdx (p := ?p6) (hd := ?d6) ?e6 ?_ ?_; case e6 => exact rfl
    ·
     intro ht47
     refine Gl ?_
     refine cq_ (blk b8 42 [vi 0, vi id, vi 0, vi line, vi 0, vi e.turn, vi 0, .bool false] :: blk b3 58 (e.cells u) :: L) ?_
     refine jd_ (fun ρ S => blk b8 42 (bif S 17 then [vi 7, vi id, vi e.who, vi line, vi e.serial, vi e.turn, vi e.value, .bool e.alone] else (bif S 15 then [vi 7, vi id, vi e.who, vi line, vi e.serial, vi e.turn, vi e.value, .bool false] else (bif S 13 then [vi 7, vi id, vi e.who, vi line, vi e.serial, vi e.turn, vi 0, .bool false] else (bif S 11 then [vi 7, vi id, vi e.who, vi line, vi 0, vi e.turn, vi 0, .bool false] else (bif S 9 then [vi 7, vi id, vi 0, vi line, vi 0, vi e.turn, vi 0, .bool false] else [vi 0, vi id, vi 0, vi line, vi 0, vi e.turn, vi 0, .bool false]))))) :: blk b3 58 (e.cells u) :: L) ?_
     refine dn9 ?_
     refine es_ 42 0 [] [11, 13, 15, 17] (fun ρ => b8) (fun ρ => [vi 0, vi id, vi 0, vi line, vi 0, vi e.turn, vi 0, .bool false]) (fun ρ => [vi 7]) Try.sizeOf3 ?_
     refine dn1 ?_
     refine es_ 42 2 [9] [13, 15, 17] (fun ρ => b8) (fun ρ => [vi 7, vi id, vi 0, vi line, vi 0, vi e.turn, vi 0, .bool false]) (fun ρ => [vi e.who]) Try.sizeOf3 ?_
     refine dn1 ?_
     refine es_ 42 4 [9, 11] [15, 17] (fun ρ => b8) (fun ρ => [vi 7, vi id, vi e.who, vi line, vi 0, vi e.turn, vi 0, .bool false]) (fun ρ => [vi e.serial]) Try.sizeOf3 ?_
     refine dn1 ?_
     refine es_ 42 6 [9, 11, 13] [17] (fun ρ => b8) (fun ρ => [vi 7, vi id, vi e.who, vi line, vi e.serial, vi e.turn, vi 0, .bool false]) (fun ρ => [vi e.value]) Try.sizeOf3 ?_
     refine dn1 ?_
     refine es_ 42 7 [9, 11, 13, 15] [] (fun ρ => b8) (fun ρ => [vi 7, vi id, vi e.who, vi line, vi e.serial, vi e.turn, vi e.value, .bool false]) (fun ρ => [.bool e.alone]) Try.sizeOf4 ?_
     refine dnl ?_; intro ρ
     refine xq_ (blk b8 42 [vi 7, vi id, vi e.who, vi line, vi e.serial, vi e.turn, vi e.value, .bool e.alone] :: blk b3 58 (e.cells u) :: L) ?_
     refine Gl ?_
     refine JC.rowNil 42 Msg ?_
     refine kp [6, 7, 8, 62, 63, 64, 65] ?_
     refine Aa ?_
     refine rn2 ?_
     refine li ([⟨7, id, e.who, line, e.serial, e.turn, e.value, e.alone⟩] : List Msg) G3 rfl (Jl (by unfold Msg.wf An; simp only; omega)) ?_; intro v64
     refine ap G3 (hb := fun w hs => by have : maxN = 16777216 := rfl; simp only [List.length_cons, List.length_nil, List.length_take, List.length_append]; omega) (k := ?_); intro v65
     refine Gb1 ?_
     refine Ga2 ?_
     have er : says e line id = [⟨7, id, e.who, line, e.serial, e.turn, e.value, e.alone⟩] := by unfold says; rw [if_neg ht17, if_neg ht30, if_pos ht47]
     rw [er]
     exact Bm v65 (hs := fun w hs => Aj (St.shut (hs.pick pkk)))
    ·
     intro ht47
     refine Gm ?_
     refine Ga2 ?_
     have er : says e line id = [] := by unfold says; rw [if_neg ht17, if_neg ht30, if_neg ht47]
     rw [er]
     exact Bm (.slice none 0 0) (hs := fun w hs => Aj (St.shut (hs.rowNil 42 Msg)))
end Go.Proofs.Ytofgpimoekhfaaa

/- This file proves plain facts of the home for what it hears. No conditions. -/
set_option linter.unusedVariables false
set_option linter.unusedSimpArgs false
set_option maxHeartbeats 1000000
set_option maxRecDepth 8000
namespace Go.Proofs.Ytofgpimoekhfaaa
open Go
theorem Vi : ∀ (s : _root_.Fin 16) (k : _root_.Fin 4), (s.val.testBit k.val = true → H3 (s.val : Int) (k.val : Int) = (s.val : Int) ∧ Hr (s.val : Int) (k.val : Int) = (s.val : Int) - ((2 ^ k.val : Nat) : Int)) ∧ (s.val.testBit k.val = false → H3 (s.val : Int) (k.val : Int) = (s.val : Int) + ((2 ^ k.val : Nat) : Int) ∧ Hr (s.val : Int) (k.val : Int) = (s.val : Int)) ∧ (0 ≤ H3 (s.val : Int) (k.val : Int) ∧ H3 (s.val : Int) (k.val : Int) < 16) ∧ (0 ≤ Hr (s.val : Int) (k.val : Int) ∧ Hr (s.val : Int) (k.val : Int) < 16) := by decide
theorem Cp {s k : Int} (h0 : 0 ≤ s) (h1 : s < 16) (h2 : 0 ≤ k) (h3 : k < 4) : (s.toNat.testBit k.toNat = true → H3 s k = s ∧ Hr s k = s - ((2 ^ k.toNat : Nat) : Int)) ∧ (s.toNat.testBit k.toNat = false → H3 s k = s + ((2 ^ k.toNat : Nat) : Int) ∧ Hr s k = s) ∧ (0 ≤ H3 s k ∧ H3 s k < 16) ∧ (0 ≤ Hr s k ∧ Hr s k < 16) := by
 obtain ⟨a, rfl⟩ := Int.eq_ofNat_of_zero_le h0
 obtain ⟨b, rfl⟩ := Int.eq_ofNat_of_zero_le h2
 exact Vi ⟨a, by omega⟩ ⟨b, by omega⟩
theorem Ek (e : Entry) : (A6 e).last = e.last := by
  unfold A6; split
  · rfl
  · split <;> rfl
theorem Du {e : Entry} (h : EB e) : EB (A6 e) := by
  obtain ⟨h1, h2, h3, h4, h5, h6⟩ := h
  obtain ⟨_, _, _, r⟩ := Cp h2.1 h2.2 h4.1 h4.2
  unfold Entry.wf An at h1
  unfold A6 EB Entry.wf An
  split
  · simp only; omega
  split
  · simp only; omega
  · simp only; omega
theorem R7 {l : List Entry} {i : Int} (h : i.toNat < l.length) : l.set i.toNat (Ad l i) = l := by
 have : Ad l i = l[i.toNat] := by unfold Ad; simp [List.getD_eq_getElem?_getD, h]
 rw [this, List.set_getElem_self]
theorem Ep {L L' : List Chunk} {R : List Fact} {T : TypeId} {v : Value} {xs : List Int} {i : Nat} (hp : Pick L (row T v xs) L') (hi : i < xs.length) : De L R (ep v 1 i 0) [vi (xs.getD i 0)] := Tm hp (getD_some 0 hi)
theorem Dz {l : List Entry} {id : Int} {m : Msg} {X : Entry} {ms : List Msg} (h0 : ¬ (m.line < 0 ∨ (l.length : Int) ≤ m.line ∨ m.src < 0 ∨ ((Ad l m.line).last.length : Int) ≤ m.src)) (h : Bl (Ad l m.line) id m = (X, ms)) : Am l id m = (l.set m.line.toNat X, ms) := by
 unfold Am; rw [if_neg h0, h]
theorem Ci {l : List Entry} {id : Int} {m : Msg} (h0 : ¬ (m.line < 0 ∨ (l.length : Int) ≤ m.line ∨ m.src < 0 ∨ ((Ad l m.line).last.length : Int) ≤ m.src)) (h : Bl (Ad l m.line) id m = (Ad l m.line, [])) : Am l id m = (l, []) := by
 rw [Dz h0 h, R7 (by omega)]
theorem Gx {P : Program} {n : Nat} {Q : Exit → Act → World → Prop} {L : List Chunk} {R : List Fact} {al : List (Nat × Value)} {c : Code} {v : Value} {l : List Entry} (i : Int) (hm : sl v l ∈ R) (h0 : 0 ≤ i) (hi : i < l.length) (k : (Ad l i).wf → ∀ u, JC P n c Q L (cF v 10 i.toNat (Entry.cells u (Ad l i)) :: sl u (Ad l i).last :: R) al) : JC P n c Q L R al := JC.open1 i.toNat hm (by omega) k
theorem Vj {s k : Int} (h0 : 0 ≤ s) (h1 : s < 16) (h2 : 0 ≤ k) (h3 : k < 4) (ht : s.toNat.testBit k.toNat = false) : 0 ≤ s + ((2 ^ k.toNat : Nat) : Int) ∧ s + ((2 ^ k.toNat : Nat) : Int) < 16 := by
 obtain ⟨_, b, c, _⟩ := Cp h0 h1 h2 h3
 rw [← (b ht).1]; exact c
theorem Mp {s k : Int} (h0 : 0 ≤ s) (h1 : s < 16) (h2 : 0 ≤ k) (h3 : k < 4) (ht : s.toNat.testBit k.toNat = true) : 0 ≤ s - ((2 ^ k.toNat : Nat) : Int) ∧ s - ((2 ^ k.toNat : Nat) : Int) < 16 := by
 obtain ⟨b, _, _, c⟩ := Cp h0 h1 h2 h3
 rw [← (b ht).2]; exact c
theorem G1 {L : List Chunk} {R : List Fact} {w : World} {v : Value} {xs : List Int} (hm : sl v xs ∈ R) (hs : St L R w) : ∀ x ∈ xs, An x := by
 intro x hx
 obtain ⟨i, hi, rfl⟩ := List.getElem_of_mem hx
 obtain ⟨cs, m, hr⟩ := sl_rd hm (List.getElem?_eq_getElem hi) hs
 exact hr.2
end Go.Proofs.Ytofgpimoekhfaaa

/- This file proves what an operation on memory that is one does, and how a core begins, by the document's answer. No conditions. -/
set_option linter.unusedVariables false
set_option linter.unusedSimpArgs false
set_option maxHeartbeats 1000000
set_option maxRecDepth 8000
namespace Go.Proofs.Ytofgpimoekhfaaa
open Go
def dX (m : List Int) (o : Op) : List Int := m.set o.line.toNat (A0 (m.getD o.line.toNat 0) o).1
def S9 (m : List Int) (o : Op) (k : Nat) : List Int := (dX m o).take k
def Ld (m : List Int) (o : Op) (k : Nat) : Int := if o.line.toNat < k then (A0 (m.getD o.line.toNat 0) o).2 else 0
theorem Im (m : List Int) (o : Op) (k : Nat) : (S9 m o k).length ≤ k := by unfold S9; rw [List.length_take]; omega
theorem Yf {m : List Int} {o : Op} {k : Nat} (h : k < m.length) (h0 : 0 ≤ o.line) (hn : ¬ (k : Int) = o.line) : S9 m o (k + 1) = S9 m o k ++ [m.getD k 0] ∧ Ld m o (k + 1) = Ld m o k := by
  have hk : o.line.toNat ≠ k := by omega
  constructor
  · unfold S9 dX
    rw [Hu 0 (by rw [List.length_set]; exact h)]
    simp [List.getD_eq_getElem?_getD, List.getElem?_set_ne hk]
  · unfold Ld
    by_cases h1 : o.line.toNat < k
    · rw [if_pos h1, if_pos (by omega)]
    · rw [if_neg h1, if_neg (by omega)]
theorem Mk {m : List Int} {o : Op} {k : Nat} (h : k < m.length) (h0 : 0 ≤ o.line) (hn : (k : Int) = o.line) : S9 m o (k + 1) = S9 m o k ++ [(A0 (m.getD k 0) o).1] ∧ Ld m o (k + 1) = (A0 (m.getD k 0) o).2 ∧ Ld m o k = 0 := by
  have hk : o.line.toNat = k := by omega
  refine ⟨?_, ?_, ?_⟩
  · unfold S9 dX
    rw [Hu 0 (by rw [List.length_set]; exact h)]
    subst hk
    simp [List.getD_eq_getElem?_getD, h]
  · unfold Ld; rw [hk, if_pos (by omega)]
  · unfold Ld; rw [hk, if_neg (by omega)]
theorem opv1 {v : Int} {o : Op} (h : o.kind = 1) : A0 v o = (v, v) := by unfold A0; rw [if_pos h]
theorem opv2 {v : Int} {o : Op} (h : o.kind = 2) : A0 v o = (o.value, 0) := by unfold A0; rw [if_neg (by omega), if_pos h]
theorem opv3 {v : Int} {o : Op} (h : o.kind = 3) : A0 v o = ((v + o.value) % 256, v) := by unfold A0; rw [if_neg (by omega), if_neg (by omega), if_pos h]
theorem opv4 {v : Int} {o : Op} (h : o.kind = 4) : A0 v o = (v, 0) := by unfold A0; rw [if_neg (by omega), if_neg (by omega), if_neg (by omega)]
theorem Se {R : List Fact} {c : Int} (h : An c) : ∀ j, (∀ q ∈ R, q.p j) → RdV [c] [vi c] j := rd_0 (cs := [vi c]) (fun _ => ⟨rfl, h⟩)
theorem refDo {L : List Chunk} {R : List Fact} {w : World} {v0 : Value} {m : List Int} {o : Op} (hs : St (L) R w) (h0 : sl v0 m ∈ R) : Calls Try.prog 90 [v0, .agg o.cells.toArray].toArray w (Cg (fun v : Value => .tuple #[v, vi (Ca m o).2.1, vi (Ca m o).2.2]) (fun v => L) (fun v => sl v (Ca m o).1 :: R)) := by
  have hlen := Bv h0 hs
  refine Ah Try.func90 rfl Try.ntmps90 rfl hs ?_
  clear hs
  refine Gm ?_
  refine bx ?_; intro b3
  refine Ga3 ?_
  rcases (show (o.kind < 1) ∨ (¬ o.kind < 1 ∧ 4 < o.kind) ∨ (1 ≤ o.kind ∧ o.kind ≤ 4) from by omega) with hc | hc | hc
  ·
   refine Aa ?_
   refine rn2 ?_
   refine ob (Ae rfl rfl (Co (by omega))) ?_
   refine Gd5 ?_
   refine Ga3 ?_
   have er : Ca m o = ([], 0, 1) := Km (by omega)
   rw [er]
   exact K9 (.slice none 0 0) (hs := fun w hs => Aj (St.shut (hs.rowNil 3 Int)))
  ·
   refine Aa ?_
   refine rn2 ?_
   refine ob (Ae rfl rfl (Al (by omega))) ?_
   refine rn3 ?_
   refine gy ?_
   refine ob (Ae rfl rfl (C5 (by omega))) ?_
   refine Gd1 ?_
   refine Ga3 ?_
   have er : Ca m o = ([], 0, 1) := Km (by omega)
   rw [er]
   exact K9 (.slice none 0 0) (hs := fun w hs => Aj (St.shut (hs.rowNil 3 Int)))
  ·
   refine Aa ?_
   refine rn2 ?_
   refine ob (Ae rfl rfl (Al (by omega))) ?_
   refine rn3 ?_
   refine gy ?_
   refine ob (Ae rfl rfl (Bu (by omega))) ?_
   refine Gc1 ?_
   rcases (show (o.line < 0) ∨ (0 ≤ o.line ∧ (m.length : Int) ≤ o.line) ∨ (0 ≤ o.line ∧ o.line < (m.length : Int) ∧ o.value < 0) ∨ (0 ≤ o.line ∧ o.line < (m.length : Int) ∧ 255 < o.value) ∨ (0 ≤ o.line ∧ o.line < (m.length : Int) ∧ 0 ≤ o.value ∧ o.value ≤ 255) from by omega) with hc | hc | hc | hc | hc
   ·
    refine Aa ?_
    refine rn2 ?_
    refine ob (Ae rfl rfl (Co (by omega))) ?_
    refine Gc17 ?_
    refine kp [0, 3, 4, 5, 6] ?_
    refine Aa ?_
    refine Ga3 ?_
    have er : Ca m o = ([], 0, 3) := Fm (by omega) (by omega)
    rw [er]
    exact K9 (.slice none 0 0) (hs := fun w hs => Aj (St.shut (hs.rowNil 3 Int)))
   ·
    refine Aa ?_
    refine rn2 ?_
    refine ob (Ae rfl rfl (Al (by omega))) ?_
    refine rn5 ?_
    refine gy ?_
    refine ob (Ae rfl rfl (D7 (by omega))) ?_
    refine Gc11 ?_
    refine kp [0, 3, 4, 5, 6] ?_
    refine Aa ?_
    refine Ga3 ?_
    have er : Ca m o = ([], 0, 3) := Fm (by omega) (by omega)
    rw [er]
    exact K9 (.slice none 0 0) (hs := fun w hs => Aj (St.shut (hs.rowNil 3 Int)))
   ·
    refine Aa ?_
    refine rn2 ?_
    refine ob (Ae rfl rfl (Al (by omega))) ?_
    refine rn5 ?_
    refine gy ?_
    refine ob (Ae rfl rfl (Bc (by omega))) ?_
    refine rn4 ?_
    refine gy ?_
    refine ob (Ae rfl rfl (Co (by omega))) ?_
    refine Gc6 ?_
    refine kp [0, 3, 4, 5, 6] ?_
    refine Aa ?_
    refine Ga3 ?_
    have er : Ca m o = ([], 0, 3) := Fm (by omega) (by omega)
    rw [er]
    exact K9 (.slice none 0 0) (hs := fun w hs => Aj (St.shut (hs.rowNil 3 Int)))
   ·
    refine Aa ?_
    refine rn2 ?_
    refine ob (Ae rfl rfl (Al (by omega))) ?_
    refine rn5 ?_
    refine gy ?_
    refine ob (Ae rfl rfl (Bc (by omega))) ?_
    refine rn4 ?_
    refine gy ?_
    refine ob (Ae rfl rfl (Al (by omega))) ?_
    refine rn4 ?_
    refine gy ?_
    refine ob (Ae rfl rfl (C5 (by omega))) ?_
    refine Gc1 ?_
    refine kp [0, 3, 4, 5, 6] ?_
    refine Aa ?_
    refine Ga3 ?_
    have er : Ca m o = ([], 0, 3) := Fm (by omega) (by omega)
    rw [er]
    exact K9 (.slice none 0 0) (hs := fun w hs => Aj (St.shut (hs.rowNil 3 Int)))
   ·
    refine Aa ?_
    refine rn2 ?_
    refine ob (Ae rfl rfl (Al (by omega))) ?_
    refine rn5 ?_
    refine gy ?_
    refine ob (Ae rfl rfl (Bc (by omega))) ?_
    refine rn4 ?_
    refine gy ?_
    refine ob (Ae rfl rfl (Al (by omega))) ?_
    refine rn4 ?_
    refine gy ?_
    refine ob (Ae rfl rfl (Bu (by omega))) ?_
    refine Gc1 ?_
    refine kp [0, 3, 4, 5, 6, 7] ?_
    refine Aa ?_
    refine Gb1 ?_
    refine Gb1 ?_
    refine Ga3 ?_
    refine JC.rowNil 3 Int ?_
    refine Bg (γ := Nat × Value × Int) (fun g => g.1 ≤ m.length ∧ g.2.2 = Ld m o g.1) (fun g => row 3 g.2.1 (S9 m o g.1) :: blk b3 66 o.cells :: L) (fun _ => R) (fun g => [(3, bp b3 0), (7, g.2.1), (8, vi g.2.2), (39, v0), (40, vi (m.length : Int)), (41, vi (g.1 : Int))]) (fun g => m.length - g.1) (0, .slice none 0 0, 0) ⟨Nat.zero_le _, by unfold Ld; rw [if_neg (by omega)]⟩ alT (fun w hs => Aj hs) ?_
    rintro ⟨k, vs, told⟩ ⟨hk, ht⟩
    try simp only at hk ht ⊢
    refine Gm ?_
    refine Ga1 ?_
    refine cdx (p := ?p1) (hd := ?d1) ?e1 ?_ ?_; case e1 => exact rfl
    ·
     intro ht42
     refine Gl ?_
     refine JC.open0 (xs := m) (v := v0) k mm (by omega) (fun hw => ?_)
     have hw9 : An (m.getD k 0) := hw
     refine Aa ?_
     refine Gb5 ?_
     refine Ga4 ?_
     refine cdx (p := ?p2) (hd := ?d2) ?e2 ?_ ?_; case e2 => exact rfl
     ·
      intro ht49
      refine Gl ?_
      rcases (show (o.kind = 1) ∨ (o.kind = 2) ∨ (o.kind = 3) ∨ (o.kind = 4) from by omega) with hc | hc | hc | hc
      ·
       refine Aa ?_
       first | refine ob (Oq Gd) ?_ | refine ob (Oo Gd) ?_
       refine rn1 ?_
       refine ob (Ae rfl rfl (Av (by omega))) ?_
       refine Gd5 ?_
       refine Gb2 ?_
       refine rn2 ?_
       refine ob (Ae rfl rfl (Ak (by omega))) ?_
       refine Gmc ?_
       refine rn2 ?_
       refine ob (Ae rfl rfl (Ak (by omega))) ?_
       refine Glc ?_
       refine kp [3, 4, 5, 6, 7, 8, 9, 10, 39, 40, 41, 42, 43, 44, 45, 46, 47, 48, 49, 50, 51, 52, 53, 54, 55, 56, 57, 58, 59, 60, 61, 62, 63, 64, 65, 66, 67, 68, 69, 70, 71, 72, 73, 74, 75, 76, 77] ?_
       refine Aa ?_
       refine rn2 ?_
       refine li ([m.getD k 0] : List Int) D3 rfl (Se (by unfold An at hw9 ⊢; omega)) ?_; intro v76
       refine ap D3 (hb := fun w hs => by have : maxN = 16777216 := rfl; have h9 := Im m o k; simp only [List.length_cons, List.length_nil]; omega) (k := ?_); intro v77
       refine Gb1 ?_
       refine Ga2 ?_
       obtain ⟨e1, e2, e3⟩ := Mk (m := m) (o := o) (k := k) (by omega) (by omega) ht49
       rw [opv1 hc] at e1 e2
       refine A1 (k + 1, v77, m.getD k 0) ⟨by show k + 1 ≤ m.length; omega, by show _ = _; rw [e2]⟩ (by show m.length - (k + 1) < m.length - k; omega) alT (fun w hs => ?_)
       try simp only
       rw [e1]
       exact Aj hs
      ·
       refine Aa ?_
       first | refine ob (Oq Gd) ?_ | refine ob (Oo Gd) ?_
       refine rn1 ?_
       refine ob (Ae rfl rfl (Ak (by omega))) ?_
       refine rn3 ?_
       refine gy ?_
       refine ob (Ae rfl rfl (Ak (by omega))) ?_
       refine Gd1 ?_
       refine rn2 ?_
       refine ob (Ae rfl rfl (Av (by omega))) ?_
       refine Gmc ?_
       refine Gb3 ?_
       refine rn2 ?_
       refine ob (Ae rfl rfl (Ak (by omega))) ?_
       refine Glc ?_
       refine kp [3, 4, 5, 6, 7, 8, 9, 10, 39, 40, 41, 42, 43, 44, 45, 46, 47, 48, 49, 50, 51, 52, 53, 54, 55, 56, 57, 58, 59, 60, 61, 62, 63, 64, 65, 66, 67, 68, 69, 70, 71, 72, 73, 74, 75, 76, 77] ?_
       refine Aa ?_
       refine rn2 ?_
       refine li ([o.value] : List Int) D3 rfl (Se (by unfold An at hw9 ⊢; omega)) ?_; intro v76
       refine ap D3 (hb := fun w hs => by have : maxN = 16777216 := rfl; have h9 := Im m o k; simp only [List.length_cons, List.length_nil]; omega) (k := ?_); intro v77
       refine Gb1 ?_
       refine Ga2 ?_
       obtain ⟨e1, e2, e3⟩ := Mk (m := m) (o := o) (k := k) (by omega) (by omega) ht49
       rw [opv2 hc] at e1 e2
       refine A1 (k + 1, v77, told) ⟨by show k + 1 ≤ m.length; omega, by show told = _; rw [e2, ht, e3]⟩ (by show m.length - (k + 1) < m.length - k; omega) alT (fun w hs => ?_)
       try simp only
       rw [e1]
       exact Aj hs
      ·
       refine Aa ?_
       first | refine ob (Oq Gd) ?_ | refine ob (Oo Gd) ?_
       refine rn1 ?_
       refine ob (Ae rfl rfl (Ak (by omega))) ?_
       refine rn3 ?_
       refine gy ?_
       refine ob (Ae rfl rfl (Av (by omega))) ?_
       refine Gd1 ?_
       refine Gb2 ?_
       refine rn2 ?_
       refine ob (Ae rfl rfl (Ak (by omega))) ?_
       refine Gmc ?_
       refine rn2 ?_
       refine ob (Ae rfl rfl (Av (by omega))) ?_
       refine Glc ?_
       refine kp [3, 4, 5, 6, 7, 8, 9, 10, 39, 40, 41, 42, 43, 44, 45, 46, 47, 48, 49, 50, 51, 52, 53, 54, 55, 56, 57, 58, 59, 60, 61, 62, 63, 64, 65, 66, 67, 68, 69, 70, 71, 72, 73] ?_
       refine Aa ?_
       refine rn3 ?_
       refine ob (Fi (a := m.getD k 0) (b := o.value) b_addw) ?_
       refine ob (Fi (b := 256) (Vl (by decide) (Ly _ (by decide) (by decide)).1 (Ly _ (by decide) (by decide)).2)) ?_
       refine ob (Fi (a := (IntKind.i64.wrap (m.getD k 0 + o.value)).tmod 256) (b := 256) (Jr (by have := Jt (IntKind.i64.wrap (m.getD k 0 + o.value)) (show (0 : Int) < 256 by decide); omega) (by have := Jt (IntKind.i64.wrap (m.getD k 0 + o.value)) (show (0 : Int) < 256 by decide); omega))) ?_
       refine ob (Fi (b := 256) (Vl (by decide) (Ly _ (by decide) (by decide)).1 (Ly _ (by decide) (by decide)).2)) ?_
       rw [Tv, Qk]
       refine Gb1 ?_
       refine rn2 ?_
       refine li ([(m.getD k 0 + o.value) % 256] : List Int) D3 rfl (Se (by unfold An at hw9 ⊢; omega)) ?_; intro v76
       refine ap D3 (hb := fun w hs => by have : maxN = 16777216 := rfl; have h9 := Im m o k; simp only [List.length_cons, List.length_nil]; omega) (k := ?_); intro v77
       refine Gb1 ?_
       refine Ga2 ?_
       obtain ⟨e1, e2, e3⟩ := Mk (m := m) (o := o) (k := k) (by omega) (by omega) ht49
       rw [opv3 hc] at e1 e2
       refine A1 (k + 1, v77, m.getD k 0) ⟨by show k + 1 ≤ m.length; omega, by show _ = _; rw [e2]⟩ (by show m.length - (k + 1) < m.length - k; omega) alT (fun w hs => ?_)
       try simp only
       rw [e1]
       exact Aj hs
      ·
       refine Aa ?_
       first | refine ob (Oq Gd) ?_ | refine ob (Oo Gd) ?_
       refine rn1 ?_
       refine ob (Ae rfl rfl (Ak (by omega))) ?_
       refine rn3 ?_
       refine gy ?_
       refine ob (Ae rfl rfl (Ak (by omega))) ?_
       refine Gd1 ?_
       refine rn2 ?_
       refine ob (Ae rfl rfl (Ak (by omega))) ?_
       refine Gmc ?_
       refine rn2 ?_
       refine ob (Ae rfl rfl (Ak (by omega))) ?_
       refine Gmc ?_
       refine rn2 ?_
       refine li ([m.getD k 0] : List Int) D3 rfl (Se (by unfold An at hw9 ⊢; omega)) ?_; intro v76
       refine ap D3 (hb := fun w hs => by have : maxN = 16777216 := rfl; have h9 := Im m o k; simp only [List.length_cons, List.length_nil]; omega) (k := ?_); intro v77
       refine Ga1 ?_
       refine kp [3, 4, 5, 6, 7, 8, 9, 10, 39, 40, 41, 42, 43, 44, 45, 46, 47, 48, 49, 50, 51, 52, 53, 54, 55, 56, 57, 58, 59, 60, 61, 62, 63, 64, 65, 66, 67, 68, 69, 70, 71, 72, 73, 74, 75, 76, 77, 78] ?_
       refine Aa ?_
       refine Ga2 ?_
       obtain ⟨e1, e2, e3⟩ := Mk (m := m) (o := o) (k := k) (by omega) (by omega) ht49
       rw [opv4 hc] at e1 e2
       refine A1 (k + 1, v77, told) ⟨by show k + 1 ≤ m.length; omega, by show told = _; rw [e2, ht, e3]⟩ (by show m.length - (k + 1) < m.length - k; omega) alT (fun w hs => ?_)
       try simp only
       rw [e1]
       exact Aj hs
     ·
      intro ht49
      refine Gm ?_
      refine rn2 ?_
      refine li ([m.getD k 0] : List Int) D3 rfl (Se (by unfold An at hw9 ⊢; omega)) ?_; intro v76
      refine ap D3 (hb := fun w hs => by have : maxN = 16777216 := rfl; have h9 := Im m o k; simp only [List.length_cons, List.length_nil]; omega) (k := ?_); intro v77
      refine Gb1 ?_
      refine Ga2 ?_
      obtain ⟨e1, e2⟩ := Yf (m := m) (o := o) (k := k) (by omega) (by omega) ht49
      refine A1 (k + 1, v77, told) ⟨by show k + 1 ≤ m.length; omega, by show told = _; rw [e2]; exact ht⟩ (by show m.length - (k + 1) < m.length - k; omega) alT (fun w hs => ?_)
      try simp only
      rw [e1]; exact Aj hs
    ·
     intro ht42
     refine Gm ?_
     refine Ga5 ?_
     have hkl : k = m.length := by omega
     have er : Ca m o = (dX m o, (A0 (m.getD o.line.toNat 0) o).2, 0) := by unfold Ca; rw [if_neg (by omega), if_neg (by omega)]; rfl
     rw [er]
     have e1 : S9 m o k = dX m o := by unfold S9; rw [List.take_of_length_le (by unfold dX; rw [List.length_set]; omega)]
     have e2 : told = (A0 (m.getD o.line.toNat 0) o).2 := by rw [ht]; unfold Ld; rw [if_pos (by omega)]
     rw [e1]
     rw [e2]
     exact K9 vs (hs := fun w hs => Aj (St.shut (hs.pick pkk)))
def K7 (v : Int) (o : Op) : List Int := (List.replicate (o.line + 1).toNat 0).set o.line.toNat v
theorem M7 {v : Int} {o : Op} (h : 0 ≤ o.line) : (K7 v o).length = o.line.toNat + 1 := by unfold K7; rw [List.length_set, List.length_replicate]; omega
theorem Lz {v : Int} {o : Op} (h : 0 ≤ o.line) : (K7 v o).getD o.line.toNat 0 = v := by
 unfold K7
 rw [List.getD_eq_getElem?_getD, List.getElem?_set_self (by rw [List.length_replicate]; omega)]; rfl
theorem tellDo {v : Int} {o : Op} (hk : 1 ≤ o.kind ∧ o.kind ≤ 4) (h : 0 ≤ o.line) (h2 : 0 ≤ o.value ∧ o.value ≤ 255) : Ca (K7 v o) o = (dX (K7 v o) o, (A0 v o).2, 0) := by
 have hl := M7 (v := v) h
 unfold Ca; rw [if_neg (by omega), if_neg (by omega), Lz h]; unfold dX; rw [Lz h]
theorem dX_at {m : List Int} {o : Op} (h : o.line.toNat < m.length) : (dX m o).getD o.line.toNat 0 = (A0 (m.getD o.line.toNat 0) o).1 := by
 unfold dX; rw [List.getD_eq_getElem?_getD, List.getElem?_set_self h]; rfl
theorem E2 {v : Int} {o : Op} (h0 : 0 ≤ v ∧ v ≤ 255) (h2 : 0 ≤ o.value ∧ o.value ≤ 255) : (0 ≤ (A0 v o).1 ∧ (A0 v o).1 ≤ 255) ∧ (0 ≤ (A0 v o).2 ∧ (A0 v o).2 ≤ 255) := by
  unfold A0; split
  · exact ⟨h0, h0⟩
  split
  · exact ⟨h2, by simp only; omega⟩
  split
  · simp only; omega
  · exact ⟨h0, by simp only; omega⟩
theorem J8 {L : List Chunk} {R : List Fact} {w : World} {v : Int} {o : Op} (hs : St (L) R w) (hv : An v) (hk : 1 ≤ o.kind ∧ o.kind ≤ 4) (hl : 0 ≤ o.line ∧ o.line < 1000) (hval : 0 ≤ o.value ∧ o.value ≤ 255) : Calls Try.prog 79 [vi v, .agg o.cells.toArray].toArray w (Cg (fun _ : Unit => .tuple #[vi (A0 v o).1, vi (A0 v o).2]) (fun _ => L) (fun _ => R)) := by
 refine Ah Try.func79 rfl Try.ntmps79 rfl hs ?_
 clear hs
 refine Gm ?_
 refine bx ?_; intro b3
 refine Gb2 ?_
 refine rn3 ?_
 refine r_make (α := Int) (x0 := 0) (zc := [vi 0]) D3 rfl (by decide) rfl rfl rfl (fun j => ⟨rfl, by unfold An; omega⟩) (by omega) (by omega) ?_; intro v13
 refine Gb1 ?_
 refine rn4 ?_
 refine ob (Ru V7 (h1 := by rw [List.length_replicate]; omega)) ?_
 refine He (xs := List.replicate (o.line + 1).toNat 0) Try.sizeOf3 rfl rfl pkk (getD_some 0 (by rw [List.length_replicate]; omega)) hv ?_
 refine Gl ?_
 refine JC.shut (xs := K7 v o) (v := v13) pkk ?_
 have hml := M7 (v := v) hl.1
 refine Aa ?_
 refine rn2 ?_
 refine Ar Try.call90 rfl (fun w hs => by have h := refDo (o := o) hs (List.Mem.head _); rw [tellDo hk hl.1 hval] at h; exact h) ?_; intro v22
 refine Ga7 ?_
 refine JC.open0 (xs := dX (K7 v o) o) (v := v22) o.line.toNat mm (by unfold dX; rw [List.length_set, hml]; omega) (fun hw => ?_)
 refine Aa ?_
 refine rn3 ?_
 refine ob (Ru V7 (len := (dX (K7 v o) o).length) (hl := Ei (.tail _ (.head _))) (h1 := by unfold dX; rw [List.length_set, hml]; omega)) ?_
 refine Ga4 ?_
 have e9 : (dX (K7 v o) o).getD o.line.toNat 0 = (A0 v o).1 := by rw [dX_at (by rw [hml]; omega), Lz hl.1]
 refine C9 () (hv := ?_)
 exact congrArg (fun z => Value.tuple #[vi z, vi (A0 v o).2]) e9
end Go.Proofs.Ytofgpimoekhfaaa

/- This file proves that one line's protocol keeps what must hold, whatever message comes, or is lost. No conditions. -/
set_option linter.unusedVariables false
set_option linter.unusedSimpArgs false
namespace Go.Proofs.Ytofgpimoekhfaaa
namespace Abs
structure Ab where
 value : Int
 owner : Int
 phase : Int
 who : Int
 serial : Int
 alone : Int
 turn : Int
 last : Nat → Int
 sh : Nat → Int
 nd : Nat → Int
structure GI (n : Nat) (e : Ab) : Prop where
 own : -1 ≤ e.owner ∧ e.owner < n
 ph : 0 ≤ e.phase ∧ e.phase ≤ 3
 idle : e.phase = 0 → e.who = 0 ∧ e.serial = 0 ∧ e.alone = 0
 whor : e.phase ≠ 0 → 0 ≤ e.who ∧ e.who < n
 f1 : e.phase = 1 → 0 ≤ e.owner ∧ e.owner ≠ e.who
 f23 : 2 ≤ e.phase → e.owner = -1
 c2 : e.phase = 2 → e.alone = 1 ∧ ∃ p : Nat, p < n ∧ e.nd p = 1
 al : 0 ≤ e.alone ∧ e.alone ≤ 1
 tu : 0 ≤ e.turn ∧ e.turn ≤ 65535
 va : 0 ≤ e.value ∧ e.value ≤ 255
 se : 0 ≤ e.serial ∧ e.serial ≤ 65535
structure CI (e : Ab) (p : Nat) (l : Line) (V : Int) : Prop where
  st : 0 ≤ l.state ∧ l.state ≤ 3
  va : 0 ≤ l.value ∧ l.value ≤ 255
  wa : 0 ≤ l.want ∧ l.want ≤ 3
  se : 0 ≤ l.serial ∧ l.serial ≤ 65535
  ga : 0 ≤ l.gave ∧ l.gave ≤ l.seen ∧ l.seen ≤ e.turn
  gi : 0 ≤ l.given ∧ l.given ≤ 255
  la : 0 ≤ e.last p ∧ e.last p ≤ l.serial
  bits : 0 ≤ e.sh p ∧ e.sh p ≤ 1 ∧ 0 ≤ e.nd p ∧ e.nd p ≤ 1
  leav : l.state = 3 ↔ l.want = 3
  w1 : l.want = 1 → l.state = 0
  w2 : l.want = 2 → l.state ≤ 1
  taken : l.want = 1 ∨ l.want = 2 → e.last p = l.serial → e.phase ≠ 0 ∧ e.who = p
  back : l.want = 3 → e.last p = l.serial → e.owner ≠ p
  cur : e.phase ≠ 0 → e.who = p → e.serial = e.last p ∧
    ((l.serial = e.serial ∧ l.want = 1 + e.alone ∧ l.seen < e.turn) ∨
     ((l.serial ≠ e.serial ∨ l.want = 0) ∧ e.phase = 3 ∧ l.seen = e.turn ∧ (e.alone = 1 → 2 ≤ l.state) ∧ (e.alone = 0 → l.state ≤ 1)))
  own : e.owner = p → (2 ≤ l.state ∧ (e.phase = 1 → l.seen < e.turn)) ∨ (l.state < 2 ∧ e.phase = 1 ∧ l.gave = e.turn ∧ l.given = V ∧ (e.alone = 1 → l.state = 0))
  alo : l.state = 2 ∨ (l.state = 3 ∧ e.last p < l.serial) → (e.owner = p ∨ (e.phase = 3 ∧ e.who = p ∧ e.alone = 1)) ∧ l.value = V
  cop : l.state = 1 → (e.sh p = 1 ∨ e.owner = p ∨ (e.phase = 3 ∧ e.who = p ∧ l.seen = e.turn)) ∧ l.value = V
  shs : e.sh p = 1 → (l.state ≤ 1 ∨ (e.phase = 3 ∧ e.who = p ∧ e.alone = 1)) ∧ e.owner = -1
  ned : e.nd p = 1 → e.phase = 2 ∧ e.who ≠ p ∧ (l.seen = e.turn → l.state = 0)
  cle : e.phase = 2 → e.who ≠ p → e.nd p = e.sh p
  gra : e.phase = 3 → e.alone = 1 → e.who ≠ p → e.sh p = 0
  val : e.owner = -1 → (e.phase = 3 → e.alone = 1 → e.who = p ∧ l.seen < e.turn) → e.value = V
structure MI (e : Ab) (p : Nat) (l : Line) (m : Msg) : Prop where
 get : m.kind = 1 ∨ m.kind = 2 → m.serial ≤ l.serial ∧ (e.last p < m.serial → m.serial = l.serial ∧ l.want = m.kind)
 put : m.kind = 3 → m.serial ≤ l.serial ∧ (e.last p < m.serial → (m.serial = l.serial ∧ l.want = 3 ∧ m.value = l.value) ∨
  ((m.serial < l.serial ∨ l.want = 0) ∧ (e.owner ≠ p ∨ (e.phase = 1 ∧ l.gave = e.turn)) ∧ (e.phase = 0 ∨ e.who ≠ p)))
 inv : m.kind = 4 → m.turn ≤ e.turn ∧ (l.seen < m.turn → m.turn = e.turn ∧ e.phase = 2 ∧ e.nd p = 1)
 fet : m.kind = 5 ∨ m.kind = 6 → m.turn ≤ e.turn ∧ (l.seen < m.turn → m.turn = e.turn ∧ e.phase = 1 ∧ e.owner = p ∧ m.kind = 5 + e.alone)
 gra : m.kind = 7 → m.serial ≤ e.last p ∧ (m.serial = l.serial → l.want ≠ 0 → e.phase = 3 ∧ e.who = p ∧ m.turn = e.turn ∧ (m.alone = true ↔ e.alone = 1) ∧ m.value = e.value) ∧
  ((m.serial ≠ l.serial ∨ l.want = 0) → m.turn ≤ l.seen)
 gon : m.kind = 8 → m.turn ≤ l.seen
 dat : m.kind = 9 → m.turn ≤ l.seen ∧ (m.turn = e.turn → e.phase = 1 → e.owner = p → l.gave = e.turn ∧ m.value = l.given)
 tha : m.kind = 10 → m.turn ≤ l.seen
 tak : m.kind = 11 → m.serial ≤ e.last p
def upd {α : Type} (f : Nat → α) (p : Nat) (x : α) : Nat → α := fun q => if q = p then x else f q
end Abs
end Go.Proofs.Ytofgpimoekhfaaa

/- This file proves that each thing that may happen to one line keeps what must hold. No conditions. -/
set_option linter.unusedVariables false
set_option linter.unusedSimpArgs false
namespace Go.Proofs.Ytofgpimoekhfaaa
namespace Abs
set_option maxHeartbeats 2000000
section core
variable {n : Nat} {e : Ab} {p : Nat} {l : Line} {V : Int}
theorem Vf (hG : GI n e) (h : CI e p l V) (hw : l.want = 0) (hs : l.state ≠ 2) : CI e p { l with state := 0, value := 0 } V ∧ ∀ m, MI e p l m → MI e p { l with state := 0, value := 0 } m := by
  refine ⟨?_, fun m hm => ?_⟩
  · have al := hG.al; have f23 := hG.f23; have f1 := hG.f1; cases h; constructor <;> (try simp only) <;> grind
  · have al := hG.al; have f23 := hG.f23; have f1 := hG.f1; cases h; cases hm; constructor <;> (try simp only) <;> first | assumption | grind
theorem c_put (hG : GI n e) (h : CI e p l V) (hw : l.want = 0) (hs : l.state = 2) (hn : l.serial < 65535) : CI e p { l with state := 3, want := 3, serial := l.serial + 1 } V ∧ ∀ m, MI e p l m → MI e p { l with state := 3, want := 3, serial := l.serial + 1 } m := by
  refine ⟨?_, fun m hm => ?_⟩
  · have al := hG.al; have f23 := hG.f23; have f1 := hG.f1; cases h; constructor <;> (try simp only) <;> grind
  · have al := hG.al; have f23 := hG.f23; have f1 := hG.f1; cases h; cases hm; constructor <;> (try simp only) <;> first | assumption | grind
theorem c_ask {k : Int} (hG : GI n e) (h : CI e p l V) (hw : l.want = 0) (hk : k = 1 ∧ l.state = 0 ∨ k = 2 ∧ l.state ≤ 1) (hn : l.serial < 65535) : CI e p { l with want := k, serial := l.serial + 1 } V ∧ ∀ m, MI e p l m → MI e p { l with want := k, serial := l.serial + 1 } m := by
  rcases hk with ⟨rfl, hk⟩ | ⟨rfl, hk⟩ <;> refine ⟨?_, fun m hm => ?_⟩
  · have al := hG.al; have f23 := hG.f23; have f1 := hG.f1; cases h; constructor <;> (try simp only) <;> grind
  · have al := hG.al; have f23 := hG.f23; have f1 := hG.f1; cases h; cases hm; constructor <;> (try simp only) <;> first | assumption | grind
  · have al := hG.al; have f23 := hG.f23; have f1 := hG.f1; cases h; constructor <;> (try simp only) <;> grind
  · have al := hG.al; have f23 := hG.f23; have f1 := hG.f1; cases h; cases hm; constructor <;> (try simp only) <;> first | assumption | grind
theorem Yq {v : Int} (hG : GI n e) (h : CI e p l V) (hs : l.state = 2) (hv : 0 ≤ v ∧ v ≤ 255) : CI e p { l with value := v } v ∧ ∀ m, MI e p l m → MI e p { l with value := v } m := by
  refine ⟨?_, fun m hm => ?_⟩
  · have al := hG.al; have f23 := hG.f23; have f1 := hG.f1; cases h; constructor <;> (try simp only) <;> grind
  · have al := hG.al; have f23 := hG.f23; have f1 := hG.f1; cases h; cases hm; constructor <;> (try simp only) <;> first | assumption | grind
theorem Ve {q : Nat} {k : Line} {v : Int} (hG : GI n e) (h : CI e p l V) (hs : 2 ≤ l.state) (hl : l.state = 3 → e.last p < l.serial) (hq : q ≠ p) (hk : CI e q k V) : CI e q k v := by
  have ho : (e.owner = p ∨ (e.phase = 3 ∧ e.who = p ∧ e.alone = 1)) ∧ l.value = V := h.alo (by have := h.st; omega)
  have h1 := hk.own; have h2 := hk.alo; have h3 := hk.cop; have h4 := hk.val
  have h5 := h.own; have h6 := h.cur; have g1 := hG.f23; have g2 := hk.shs; have g3 := hk.gra; have g4 := hk.bits
  have g5 := hk.ga
  refine ⟨hk.st, hk.va, hk.wa, hk.se, hk.ga, hk.gi, hk.la, hk.bits, hk.leav, hk.w1, hk.w2, hk.taken, hk.back, hk.cur, ?_, ?_, ?_, hk.shs, hk.ned, hk.cle, hk.gra, ?_⟩
  · clear h2 h3 h4; grind
  · clear h1 h3 h4; grind
  · clear h1 h2 h4; grind
  · clear h1 h2 h3; grind
theorem c_inv {m : Msg} (hG : GI n e) (h : CI e p l V) (hm : MI e p l m) (hk : m.kind = 4) : CI e p (Ec l m.turn) V ∧ ∀ m', MI e p l m' → MI e p (Ec l m.turn) m' := by
  unfold Ec
  have := hm.inv hk
  split
  · split
    · refine ⟨?_, fun m' hm' => ?_⟩
      · have al := hG.al; have f23 := hG.f23; have f1 := hG.f1; cases h; constructor <;> (try simp only) <;> grind
      · have al := hG.al; have f23 := hG.f23; have f1 := hG.f1; cases h; cases hm'; constructor <;> (try simp only) <;> first | assumption | grind
    · refine ⟨?_, fun m' hm' => ?_⟩
      · have al := hG.al; have f23 := hG.f23; have f1 := hG.f1; cases h; constructor <;> (try simp only) <;> grind
      · have al := hG.al; have f23 := hG.f23; have f1 := hG.f1; cases h; cases hm'; constructor <;> (try simp only) <;> first | assumption | grind
  · exact ⟨h, fun _ h => h⟩
theorem Yt {m : Msg} (hG : GI n e) (h : CI e p l V) (hm : MI e p l m) (hk : m.kind = 5 ∨ m.kind = 6) (hf : En l m.turn) :
    CI e p (Dr l m.kind m.turn) V ∧ (∀ m', MI e p l m' → MI e p (Dr l m.kind m.turn) m') ∧ l.value = V ∧ ∀ m' : Msg, m'.kind = 9 → m'.turn = m.turn → m'.value = l.value → MI e p (Dr l m.kind m.turn) m' := by
  obtain ⟨hf1, hf2, hf3⟩ := hf
  obtain ⟨g0, g1, g2, g3⟩ := (hm.fet hk).2 hf2
  have hown := hG.f1 g1
  have how : e.who ≠ p := by rw [← g2]; exact fun h => hown.2 h.symm
  have hse := h.ga
  have hl0 : l.want = 3 → e.last p < l.serial := by intro hw; have := h.back hw; have := h.la; grind
  have hv : l.value = V := (h.alo (by have := h.leav; have := h.st; grind)).2
  have h2 := h.own g2
  have hwant : l.want = 0 ∨ l.want = 3 := by have := h.wa; have := h.w1; have := h.w2; grind
  have hsh : e.sh p = 0 := by have := h.shs; have := h.bits; grind
  have hnd : e.nd p = 0 := by have := h.ned; have := h.bits; grind
  have hal := hG.al
  have hmt : m.turn = e.turn := g0
  rw [hmt]
  unfold Dr
  have key : ∀ (st va wa : Int), (st = 0 ∨ st = 1 ∧ e.alone = 0) → wa = 0 → 0 ≤ va ∧ va ≤ 255 → (st = 1 → va = l.value) →
      CI e p ⟨st, va, wa, l.serial, e.turn, e.turn, l.value⟩ V ∧ (∀ m', MI e p l m' → MI e p ⟨st, va, wa, l.serial, e.turn, e.turn, l.value⟩ m') ∧ ∀ m' : Msg, m'.kind = 9 → m'.turn = e.turn → m'.value = l.value → MI e p ⟨st, va, wa, l.serial, e.turn, e.turn, l.value⟩ m' := by
    intro st va wa h1 h2 h3 h4
    refine ⟨?_, fun m' hm' => ?_, fun m' k1 k2 k3 => ?_⟩
    · have k1 := h.se; have k2 := h.la; have k3 := h.va; have k4 := hG.tu; have k5 := h.bits
      constructor <;> (try simp only) <;> grind
    · have k1 := hm'.get; have k2 := hm'.put; have k3 := hm'.inv; have k4 := hm'.fet; have k5 := hm'.gra; have k6 := hm'.gon; have k7 := hm'.dat; have k8 := hm'.tha; have k9 := hm'.tak
      constructor <;> (try simp only)
      · clear k2 k3 k4 k5 k6 k7 k8 k9; grind
      · clear k1 k3 k4 k5 k6 k7 k8 k9; grind
      · clear k1 k2 k4 k5 k6 k7 k8 k9; grind
      · clear k1 k2 k3 k5 k6 k7 k8 k9; grind
      · clear k1 k2 k3 k4 k6 k7 k8 k9; grind
      · clear k1 k2 k3 k4 k5 k7 k8 k9; grind
      · clear k1 k2 k3 k4 k5 k6 k8 k9; grind
      · clear k1 k2 k3 k4 k5 k6 k7 k9; grind
      · clear k1 k2 k3 k4 k5 k6 k7 k8; grind
    · constructor <;> (try simp only) <;> grind
  split
  · obtain ⟨c1, c2, c3⟩ := key 0 0 0 (.inl rfl) rfl (by omega) (by omega)
    exact ⟨c1, c2, hv, c3⟩
  · rename_i hw
    have hw0 : l.want = 0 := by omega
    split
    · obtain ⟨c1, c2, c3⟩ := key 0 0 l.want (.inl rfl) hw0 (by omega) (by omega)
      exact ⟨c1, c2, hv, c3⟩
    · obtain ⟨c1, c2, c3⟩ := key 1 l.value l.want (.inr ⟨rfl, by omega⟩) hw0 h.va (fun _ => rfl)
      exact ⟨c1, c2, hv, c3⟩
theorem Yr {m : Msg} (hG : GI n e) (h : CI e p l V) (hm : MI e p l m) (hk : m.kind = 11) (hw : l.want = 3) (hs : m.serial = l.serial) :
    CI e p { l with state := 0, value := 0, want := 0 } V ∧ ∀ m', MI e p l m' → MI e p { l with state := 0, value := 0, want := 0 } m' := by
  have h1 := hm.tak hk
  refine ⟨?_, fun m' hm' => ?_⟩
  · have al := hG.al; have f23 := hG.f23; have f1 := hG.f1; cases h; constructor <;> (try simp only) <;> grind
  · have al := hG.al; have f23 := hG.f23; have f1 := hG.f1; cases h; cases hm'; constructor <;> (try simp only) <;> first | assumption | grind
theorem Ys {m : Msg} {v : Int} (hG : GI n e) (h : CI e p l V) (hm : MI e p l m) (hk : m.kind = 7) (ha : G9 l m) (hv : 0 ≤ v ∧ v ≤ 255) (hsame : m.alone = false → v = m.value) :
    CI e p { l with state := if m.alone then 2 else 1, value := v, want := 0, seen := m.turn } v ∧ (∀ m', MI e p l m' → MI e p { l with state := if m.alone then 2 else 1, value := v, want := 0, seen := m.turn } m') ∧
    m.value = V ∧ (∀ (q : Nat) (k : Line), q ≠ p → CI e q k V → CI e q k v) ∧ ∀ m' : Msg, m'.kind = 10 → m'.turn = m.turn → MI e p { l with state := if m.alone then 2 else 1, value := v, want := 0, seen := m.turn } m' := by
  obtain ⟨ha1, ha2⟩ := ha
  have hne : l.want ≠ 0 := by omega
  obtain ⟨g1, g2, g3, g4, g5⟩ := (hm.gra hk).2.1 ha1 hne
  have hcur := h.cur (by omega) g2
  have hown := hG.f23 (by omega)
  have hst : l.state ≤ 1 := by have := h.w1; have := h.w2; grind
  have hse : e.last p = l.serial := by have := h.la; have := (hm.gra hk).1; omega
  have hse' : l.serial = e.serial := by have := hcur.1; omega
  have hseen : l.seen < e.turn := by have := hcur.2; grind
  have hal := hG.al
  have hV : e.value = V := h.val hown (fun _ _ => ⟨g2, hseen⟩)
  have hwa : l.want = 1 + e.alone := by have := hcur.2; grind
  have halone : m.alone = true ∧ e.alone = 1 ∨ m.alone = false ∧ e.alone = 0 := by
    cases h' : m.alone with
    | true => exact .inl ⟨rfl, g4.1 h'⟩
    | false => right; refine ⟨rfl, ?_⟩; have : ¬ e.alone = 1 := fun h1 => by have := g4.2 h1; rw [h'] at this; cases this
               omega
  have hvV : e.alone = 0 → v = V := by intro h0; rw [hsame (halone.elim (fun h' => by omega) (fun h' => h'.1)), g5, hV]
  have hnd : e.nd p = 0 := by have := h.ned; have := h.bits; grind
  have key : ∀ st : Int, st = 1 + e.alone → CI e p ⟨st, v, 0, l.serial, m.turn, l.gave, l.given⟩ v ∧ (∀ m', MI e p l m' → MI e p ⟨st, v, 0, l.serial, m.turn, l.gave, l.given⟩ m') ∧ ∀ m' : Msg, m'.kind = 10 → m'.turn = m.turn → MI e p ⟨st, v, 0, l.serial, m.turn, l.gave, l.given⟩ m' := by
    intro st h1
    refine ⟨?_, fun m' hm' => ?_, fun m' k1 k2 => ?_⟩
    · have k1 := h.se; have k2 := h.la; have k3 := h.va; have k4 := hG.tu; have k5 := h.bits; have k6 := h.gi; have k7 := h.ga; have k8 := h.gra; have k9 := h.shs
      have k10 := hcur.1; have k11 := h.cop; have k12 := h.alo
      constructor <;> (try simp only) <;> grind
    · have k1 := hm'.get; have k2 := hm'.put; have k3 := hm'.inv; have k4 := hm'.fet; have k5 := hm'.gra; have k6 := hm'.gon; have k7 := hm'.dat; have k8 := hm'.tha; have k9 := hm'.tak
      constructor <;> (try simp only)
      · clear k2 k3 k4 k5 k6 k7 k8 k9; grind
      · clear k1 k3 k4 k5 k6 k7 k8 k9; grind
      · clear k1 k2 k4 k5 k6 k7 k8 k9; grind
      · clear k1 k2 k3 k5 k6 k7 k8 k9; grind
      · clear k1 k2 k3 k4 k6 k7 k8 k9; grind
      · clear k1 k2 k3 k4 k5 k7 k8 k9; grind
      · clear k1 k2 k3 k4 k5 k6 k8 k9; grind
      · clear k1 k2 k3 k4 k5 k6 k7 k9; grind
      · clear k1 k2 k3 k4 k5 k6 k7 k8; grind
    · constructor <;> (try simp only) <;> grind
  have hst2 : (if m.alone = true then (2 : Int) else 1) = 1 + e.alone := by rcases halone with h | h <;> rw [h.1, h.2] <;> rfl
  obtain ⟨c1, c2, c3⟩ := key _ hst2
  refine ⟨c1, c2, by rw [g5, hV], fun q k hq hk' => ?_, c3⟩
  have h1 := hk'.own; have h2 := hk'.alo; have h3 := hk'.cop; have h4 := hk'.val; have h5 := hk'.gra; have h6 := hk'.bits
  refine ⟨hk'.st, hk'.va, hk'.wa, hk'.se, hk'.ga, hk'.gi, hk'.la, hk'.bits, hk'.leav, hk'.w1, hk'.w2, hk'.taken, hk'.back, hk'.cur, ?_, ?_, ?_, hk'.shs, hk'.ned, hk'.cle, hk'.gra, ?_⟩
  · clear h2 h3 h4; grind
  · clear h1 h3 h4; grind
  · clear h1 h2 h4; grind
  · clear h1 h2 h3; grind
end core
end Abs
end Go.Proofs.Ytofgpimoekhfaaa

/- This file proves that each thing that may happen to the home's line keeps what must hold. No conditions. -/
set_option linter.unusedVariables false
set_option linter.unusedSimpArgs false
namespace Go.Proofs.Ytofgpimoekhfaaa
namespace Abs
set_option maxHeartbeats 2000000
section home
variable {n : Nat} {e e' : Ab} {L : Nat → Line} {V : Int}
theorem W4 {m : Msg} {p : Nat} (hG : GI n e) (hC : ∀ q, q < n → CI e q (L q) V) (hp : p < n) (hM : MI e p (L p) m) (hk : m.kind = 1 ∨ m.kind = 2) (hms : 0 ≤ m.serial ∧ m.serial ≤ 65535) (h0 : e.phase = 0) (hs : e.last p < m.serial) (ht : e.turn < 65535)
    (f1 : e'.value = e.value) (f2 : e'.owner = e.owner) (f3 : e'.sh = e.sh) (f4 : e'.who = p) (f5 : e'.serial = m.serial) (f6 : e'.alone = m.kind - 1) (f7 : e'.turn = e.turn + 1) (f8 : e'.last = upd e.last p m.serial)
    (f9 : (0 ≤ e.owner ∧ e'.phase = 1 ∧ ∀ q, e'.nd q = 0) ∨ (e.owner < 0 ∧ m.kind = 2 ∧ e'.phase = 2 ∧ (∃ q : Nat, q < n ∧ e'.nd q = 1) ∧ (∀ q : Nat, e'.nd q = if q = p then 0 else e.sh q)) ∨
      (e.owner < 0 ∧ e'.phase = 3 ∧ (∀ q, e'.nd q = 0) ∧ (m.kind = 2 → ∀ q : Nat, q < n → q ≠ p → e.sh q = 0))) :
    GI n e' ∧ (∀ q, q < n → CI e' q (L q) V) ∧ ∀ q, q < n → ∀ m', MI e q (L q) m' → MI e' q (L q) m' := by
  have h1 := (hM.get hk).2 hs
  have hCp := hC p hp
  have hst : (L p).state ≤ 1 := by have := hCp.w1; have := hCp.w2; grind
  have hnow : e.owner ≠ p := by have := hCp.own; grind
  have how := hG.own
  have hval : e.owner < 0 → e.value = V := by intro h; exact hCp.val (by omega) (by omega)
  have hph : (0 ≤ e.owner ∧ e'.phase = 1) ∨ (e.owner < 0 ∧ m.kind = 2 ∧ e'.phase = 2) ∨ (e.owner < 0 ∧ e'.phase = 3) := by
    rcases f9 with ⟨g1, g2, _⟩ | ⟨g1, g2, g3, _⟩ | ⟨g1, g2, _⟩
    · exact .inl ⟨g1, g2⟩
    · exact .inr (.inl ⟨g1, g2, g3⟩)
    · exact .inr (.inr ⟨g1, g2⟩)
  have hc2 : e'.phase = 2 → ∃ q : Nat, q < n ∧ e'.nd q = 1 := by
    intro h2
    rcases f9 with ⟨g1, g2, _⟩ | ⟨g1, g2, g3, g4, _⟩ | ⟨g1, g2, _⟩
    · omega
    · exact g4
    · omega
  have hnp : e'.nd p = 0 := by
    rcases f9 with ⟨_, _, g⟩ | ⟨_, _, _, _, g⟩ | ⟨_, _, g, _⟩
    · exact g p
    · rw [g p, if_pos rfl]
    · exact g p
  have hnq : ∀ q : Nat, q < n → q ≠ p → (e'.phase = 2 → e'.nd q = e.sh q) ∧ (e'.phase ≠ 2 → e'.nd q = 0) ∧ (e'.phase = 3 → m.kind = 2 → e.sh q = 0) := by
    intro q hq hqp
    rcases f9 with ⟨_, g1, g⟩ | ⟨_, _, g1, _, g⟩ | ⟨_, g1, g, g'⟩
    · exact ⟨by omega, fun _ => g q, by omega⟩
    · exact ⟨fun _ => by rw [g q, if_neg hqp], by omega, by omega⟩
    · exact ⟨by omega, fun _ => g q, fun _ hk => g' hk q hq hqp⟩
  have hlp : e'.last p = m.serial := by rw [f8]; simp [upd]
  have hlq : ∀ q, q ≠ p → e'.last q = e.last q := fun q hqp => by rw [f8]; simp [upd, hqp]
  clear f8 f9
  refine ⟨?_, fun q hq => ?_, fun q hq m' hm' => ?_⟩
  · constructor
    · have g0 := hG.own; have g1 := hG.own; grind
    · have g0 := hG.own; have g1 := hG.ph; grind
    · have g0 := hG.own; have g1 := hG.idle; grind
    · intro _; rw [f4]; clear hc2; omega
    · have g0 := hG.own; have g1 := hG.f1; grind
    · have g0 := hG.own; have g1 := hG.f23; grind
    · intro h2; exact ⟨by clear hc2; grind, hc2 h2⟩
    · have g0 := hG.own; have g1 := hG.al; grind
    · have g0 := hG.own; have g1 := hG.tu; grind
    · have g0 := hG.own; have g1 := hG.va; grind
    · have g0 := hG.own; have g1 := hG.se; grind
  · have hCq := hC q hq
    have hsh : e'.sh q = e.sh q := by rw [f3]
    clear f3 hc2
    by_cases hqp : q = p
    · subst hqp
      clear hnq hlq
      have w0 := hCp.wa
      constructor
      · exact hCp.st
      · exact hCp.va
      · exact hCp.wa
      · exact hCp.se
      · have c0 := hCp.ga; grind
      · exact hCp.gi
      · have c0 := hCp.la; grind
      · have c0 := hCp.bits; grind
      · exact hCp.leav
      · exact hCp.w1
      · exact hCp.w2
      · have c0 := hCp.taken; grind
      · have c0 := hCp.back; have c1 := hCp.wa; grind
      · have c0 := hCp.cur; have c1 := hCp.ga; grind
      · have c0 := hCp.own; have c1 := hCp.st; grind
      · have c0 := hCp.alo; have c1 := hCp.leav; grind
      · have c0 := hCp.cop; grind
      · have c0 := hCp.shs; grind
      · have c0 := hCp.ned; have c1 := hCp.ga; grind
      · have c0 := hCp.cle; grind
      · have c0 := hCp.gra; grind
      · have c0 := hCp.val; have c1 := hCp.ga; grind
    · have hn2 := hnq q hq hqp
      have hl2 := hlq q hqp
      clear hnq hlq hlp hnp hCp
      constructor
      · exact hCq.st
      · exact hCq.va
      · exact hCq.wa
      · exact hCq.se
      · have c0 := hCq.ga; grind
      · exact hCq.gi
      · have c0 := hCq.la; grind
      · have c0 := hCq.bits; have c1 := hCq.bits; grind
      · exact hCq.leav
      · exact hCq.w1
      · exact hCq.w2
      · have c0 := hCq.taken; grind
      · have c0 := hCq.back; grind
      · have c0 := hCq.cur; grind
      · have c0 := hCq.own; have c1 := hCq.ga; grind
      · have c0 := hCq.alo; grind
      · have c0 := hCq.cop; grind
      · have c0 := hCq.shs; grind
      · have c0 := hCq.ned; have c1 := hCq.ga; have c2 := hCq.bits; grind
      · have c0 := hCq.cle; grind
      · have c0 := hCq.gra; grind
      · have c0 := hCq.val; grind
  · have hCq := hC q hq
    clear hc2 f3
    by_cases hqp : q = p
    · subst hqp
      clear hnq hlq
      constructor
      · have k0 := hm'.get; grind
      · have k0 := hm'.put; have c0 := hCq.own; grind
      · have k0 := hm'.inv; have c0 := hCq.ga; grind
      · have k0 := hm'.fet; have c0 := hCq.ga; grind
      · have k0 := hm'.gra; have c0 := hCq.taken; have c1 := hCq.la; have c2 := hCq.wa; grind
      · have k0 := hm'.gon; grind
      · have k0 := hm'.dat; have c0 := hCq.ga; grind
      · have k0 := hm'.tha; grind
      · have k0 := hm'.tak; grind
    · have hn2 := hnq q hq hqp
      have hl2 := hlq q hqp
      clear hnq hlq hlp hnp hCp
      constructor
      · have k0 := hm'.get; grind
      · have k0 := hm'.put; have c0 := hCq.own; grind
      · have k0 := hm'.inv; have c0 := hCq.ga; grind
      · have k0 := hm'.fet; have c0 := hCq.ga; grind
      · have k0 := hm'.gra; have c0 := hCq.taken; have c1 := hCq.la; have c2 := hCq.wa; grind
      · have k0 := hm'.gon; grind
      · have k0 := hm'.dat; have c0 := hCq.ga; grind
      · have k0 := hm'.tha; grind
      · have k0 := hm'.tak; grind
theorem h_put {m : Msg} {p : Nat} (hG : GI n e) (hC : ∀ q, q < n → CI e q (L q) V) (hp : p < n) (hM : MI e p (L p) m) (hk : m.kind = 3) (hmv : 0 ≤ m.value ∧ m.value ≤ 255) (h0 : e.phase = 0) (hs : e.last p < m.serial)
    (f3 : e'.sh = e.sh) (f4 : e'.who = e.who) (f5 : e'.serial = e.serial) (f6 : e'.alone = e.alone) (f7 : e'.turn = e.turn) (f8 : e'.last = upd e.last p m.serial) (f9 : e'.phase = e.phase) (f10 : e'.nd = e.nd)
    (f1 : (e.owner = p ∧ e'.owner = -1 ∧ e'.value = m.value) ∨ (e.owner ≠ p ∧ e'.owner = e.owner ∧ e'.value = e.value)) :
    GI n e' ∧ (∀ q, q < n → CI e' q (L q) V) ∧ ∀ q, q < n → ∀ m', MI e q (L q) m' → MI e' q (L q) m' := by
  have h1 := (hM.put hk).2 hs
  have h2 := (hM.put hk).1
  have hCp := hC p hp
  have how := hG.own
  have hA : e.owner = p → (L p).state = 3 ∧ (L p).want = 3 ∧ m.serial = (L p).serial ∧ m.value = V := by
    intro ho
    have hc : m.serial = (L p).serial ∧ (L p).want = 3 ∧ m.value = (L p).value := by grind
    have h3 := hCp.leav.2 hc.2.1
    exact ⟨h3, hc.2.1, hc.1, by rw [hc.2.2]; exact (hCp.alo (.inr ⟨h3, by omega⟩)).2⟩
  have hB : e.owner ≠ p → m.serial < (L p).serial ∨ (L p).want = 0 := by
    intro ho
    rcases h1 with h1 | h1
    · exfalso
      have h3 := hCp.leav.2 h1.2.1
      have := (hCp.alo (.inr ⟨h3, by omega⟩)).1
      grind
    · exact h1.1
  have hlp : e'.last p = m.serial := by rw [f8]; simp [upd]
  have hlq : ∀ q, q ≠ p → e'.last q = e.last q := fun q hqp => by rw [f8]; simp [upd, hqp]
  clear f8
  refine ⟨?_, fun q hq => ?_, fun q hq m' hm' => ?_⟩
  · constructor
    · have g0 := hG.own; have g1 := hG.own; grind
    · have g0 := hG.own; have g1 := hG.ph; grind
    · have g0 := hG.own; have g1 := hG.idle; grind
    · have g0 := hG.own; have g1 := hG.whor; grind
    · have g0 := hG.own; have g1 := hG.f1; grind
    · have g0 := hG.own; have g1 := hG.f23; grind
    · intro h2; omega
    · have g0 := hG.own; have g1 := hG.al; grind
    · have g0 := hG.own; have g1 := hG.tu; grind
    · have g0 := hG.own; have g1 := hG.va; grind
    · have g0 := hG.own; have g1 := hG.se; grind
  · have hCq := hC q hq
    have hsh : e'.sh q = e.sh q := by rw [f3]
    have hnd : e'.nd q = e.nd q := by rw [f10]
    clear f3 f10
    by_cases hqp : q = p
    · subst hqp
      clear hlq
      have l0 := hCp.leav
      have a0 := hCp.la
      constructor
      · exact hCp.st
      · exact hCp.va
      · exact hCp.wa
      · exact hCp.se
      · have c0 := hCp.ga; grind
      · exact hCp.gi
      · have c0 := hCp.la; grind
      · have c0 := hCp.bits; grind
      · exact hCp.leav
      · exact hCp.w1
      · exact hCp.w2
      · have c0 := hCp.taken; have c1 := hCp.wa; grind
      · have c0 := hCp.back; grind
      · have c0 := hCp.cur; grind
      · have c0 := hCp.own; have c1 := hCp.st; grind
      · have c0 := hCp.alo; grind
      · have c0 := hCp.cop; have c1 := hCp.cop; grind
      · have c0 := hCp.shs; have c1 := hCp.st; grind
      · have c0 := hCp.ned; grind
      · have c0 := hCp.cle; grind
      · have c0 := hCp.gra; grind
      · have c0 := hCp.val; have c1 := hCp.val; grind
    · have hl2 := hlq q hqp
      clear hlq hlp hCp
      constructor
      · exact hCq.st
      · exact hCq.va
      · exact hCq.wa
      · exact hCq.se
      · have c0 := hCq.ga; grind
      · exact hCq.gi
      · have c0 := hCq.la; grind
      · have c0 := hCq.bits; grind
      · exact hCq.leav
      · exact hCq.w1
      · exact hCq.w2
      · have c0 := hCq.taken; grind
      · have c0 := hCq.back; grind
      · have c0 := hCq.cur; grind
      · have c0 := hCq.own; grind
      · have c0 := hCq.alo; grind
      · have c0 := hCq.cop; grind
      · have c0 := hCq.shs; grind
      · have c0 := hCq.ned; grind
      · have c0 := hCq.cle; grind
      · have c0 := hCq.gra; grind
      · have c0 := hCq.val; grind
  · have hCq := hC q hq
    have hnd : e'.nd q = e.nd q := by rw [f10]
    clear f3 f10
    by_cases hqp : q = p
    · subst hqp
      clear hlq
      constructor
      · have k0 := hm'.get; grind
      · have k0 := hm'.put; grind
      · have k0 := hm'.inv; grind
      · have k0 := hm'.fet; grind
      · have k0 := hm'.gra; have c0 := hCq.taken; have c1 := hCq.la; have c2 := hCq.wa; grind
      · have k0 := hm'.gon; grind
      · have k0 := hm'.dat; grind
      · have k0 := hm'.tha; grind
      · have k0 := hm'.tak; grind
    · have hl2 := hlq q hqp
      clear hlq hlp hCp
      constructor
      · have k0 := hm'.get; grind
      · have k0 := hm'.put; grind
      · have k0 := hm'.inv; grind
      · have k0 := hm'.fet; grind
      · have k0 := hm'.gra; have c0 := hCq.taken; have c1 := hCq.la; have c2 := hCq.wa; grind
      · have k0 := hm'.gon; grind
      · have k0 := hm'.dat; grind
      · have k0 := hm'.tha; grind
      · have k0 := hm'.tak; grind
theorem h_data {m : Msg} {p : Nat} (hG : GI n e) (hC : ∀ q, q < n → CI e q (L q) V) (hp : p < n) (hM : MI e p (L p) m) (hk : m.kind = 9) (hmv : 0 ≤ m.value ∧ m.value ≤ 255) (h0 : e.phase = 1) (ht : m.turn = e.turn) (ho : e.owner = p)
    (f1 : e'.value = m.value) (f2 : e'.owner = -1) (f3 : ∀ q : Nat, e'.sh q = if q = p ∧ e.alone = 0 then 1 else e.sh q) (f4 : e'.who = e.who) (f5 : e'.serial = e.serial) (f6 : e'.alone = e.alone) (f7 : e'.turn = e.turn) (f8 : e'.last = e.last) (f9 : e'.phase = 3) (f10 : ∀ q, e'.nd q = 0) :
    GI n e' ∧ (∀ q, q < n → CI e' q (L q) V) ∧ ∀ q, q < n → ∀ m', MI e q (L q) m' → MI e' q (L q) m' := by
  have h1 := (hM.dat hk).2 ht h0 ho
  have hCp := hC p hp
  have hga := hCp.ga
  have hown := hCp.own ho
  have hmV : m.value = V ∧ (L p).state < 2 ∧ (L p).seen = e.turn ∧ (e.alone = 1 → (L p).state = 0) := by grind
  have hf := hG.f1 h0
  have hwp : e.who ≠ p := by rw [← ho]; exact fun h => hf.2 h.symm
  have hw0 : (L p).want ≠ 3 := by have := hCp.leav; have := hCp.st; grind
  have hal := hG.al
  have hsp : (e.alone = 0 → e'.sh p = 1) ∧ (e.alone ≠ 0 → e'.sh p = e.sh p) := by have := f3 p; grind
  have hsq : ∀ q, q ≠ p → e'.sh q = e.sh q := by intro q hq; have := f3 q; grind
  clear f3
  refine ⟨?_, fun q hq => ?_, fun q hq m' hm' => ?_⟩
  · constructor
    · have g0 := hG.own; have g1 := hG.own; grind
    · have g0 := hG.own; have g1 := hG.ph; grind
    · have g0 := hG.own; have g1 := hG.idle; grind
    · have g0 := hG.own; have g1 := hG.whor; grind
    · have g0 := hG.own; have g1 := hG.f1; grind
    · have g0 := hG.own; have g1 := hG.f23; grind
    · intro h2; omega
    · have g0 := hG.own; have g1 := hG.al; grind
    · have g0 := hG.own; have g1 := hG.tu; grind
    · have g0 := hG.own; have g1 := hG.va; grind
    · have g0 := hG.own; have g1 := hG.se; grind
  · have hCq := hC q hq
    have hl : e'.last q = e.last q := by rw [f8]
    have hnd := f10 q
    have b0 := hCq.bits
    have s0 := hCq.shs
    clear f10 f8
    by_cases hqp : q = p
    · subst hqp
      clear hsq
      constructor
      · exact hCp.st
      · exact hCp.va
      · exact hCp.wa
      · exact hCp.se
      · have c0 := hCp.ga; grind
      · exact hCp.gi
      · have c0 := hCp.la; grind
      · have c0 := hCp.bits; grind
      · exact hCp.leav
      · exact hCp.w1
      · exact hCp.w2
      · have c0 := hCp.taken; grind
      · have c0 := hCp.back; grind
      · have c0 := hCp.cur; have c1 := hCp.cur; grind
      · have c0 := hCp.own; grind
      · have c0 := hCp.alo; have c1 := hCp.st; have c2 := hCp.leav; grind
      · have c0 := hCp.cop; grind
      · have c0 := hCp.shs; grind
      · have c0 := hCp.ned; grind
      · have c0 := hCp.cle; grind
      · have c0 := hCp.gra; grind
      · have c0 := hCp.val; grind
    · have hs2 := hsq q hqp
      clear hsq hsp hCp
      constructor
      · exact hCq.st
      · exact hCq.va
      · exact hCq.wa
      · exact hCq.se
      · have c0 := hCq.ga; grind
      · exact hCq.gi
      · have c0 := hCq.la; grind
      · have c0 := hCq.bits; grind
      · exact hCq.leav
      · exact hCq.w1
      · exact hCq.w2
      · have c0 := hCq.taken; have c1 := hCq.taken; grind
      · have c0 := hCq.back; grind
      · have c0 := hCq.cur; have c1 := hCq.cur; grind
      · have c0 := hCq.own; grind
      · have c0 := hCq.alo; have c1 := hCq.alo; grind
      · have c0 := hCq.cop; grind
      · have c0 := hCq.shs; grind
      · have c0 := hCq.ned; grind
      · have c0 := hCq.cle; grind
      · have c0 := hCq.gra; have c1 := hCq.gra; grind
      · have c0 := hCq.val; grind
  · have hCq := hC q hq
    have hl : e'.last q = e.last q := by rw [f8]
    have hnd := f10 q
    clear f10 f8
    by_cases hqp : q = p
    · subst hqp
      constructor
      · have k0 := hm'.get; grind
      · have k0 := hm'.put; have c0 := hCq.st; grind
      · have k0 := hm'.inv; grind
      · have k0 := hm'.fet; grind
      · have k0 := hm'.gra; have c0 := hCq.taken; have c1 := hCq.cur; grind
      · have k0 := hm'.gon; grind
      · have k0 := hm'.dat; grind
      · have k0 := hm'.tha; grind
      · have k0 := hm'.tak; grind
    · clear hCp
      constructor
      · have k0 := hm'.get; grind
      · have k0 := hm'.put; have c0 := hCq.st; grind
      · have k0 := hm'.inv; grind
      · have k0 := hm'.fet; grind
      · have k0 := hm'.gra; have c0 := hCq.taken; have c1 := hCq.cur; have c2 := hCq.wa; grind
      · have k0 := hm'.gon; grind
      · have k0 := hm'.dat; grind
      · have k0 := hm'.tha; grind
      · have k0 := hm'.tak; grind
theorem Vx {m : Msg} {p : Nat} (hG : GI n e) (hC : ∀ q, q < n → CI e q (L q) V) (hp : p < n) (hM : MI e p (L p) m) (hk : m.kind = 8) (h0 : e.phase = 2) (ht : m.turn = e.turn) (ho : e.nd p = 1)
    (f1 : e'.value = e.value) (f2 : e'.owner = e.owner) (f3 : e'.sh = upd e.sh p 0) (f4 : e'.who = e.who) (f5 : e'.serial = e.serial) (f6 : e'.alone = e.alone) (f7 : e'.turn = e.turn) (f8 : e'.last = e.last)
    (f9 : (e'.phase = 2 ∧ (e'.nd = upd e.nd p 0) ∧ ∃ q : Nat, q < n ∧ e'.nd q = 1) ∨ (e'.phase = 3 ∧ (∀ q, e'.nd q = 0) ∧ ∀ q : Nat, q ≠ p → q < n → e.nd q = 0)) :
    GI n e' ∧ (∀ q, q < n → CI e' q (L q) V) ∧ ∀ q, q < n → ∀ m', MI e q (L q) m' → MI e' q (L q) m' := by
  have h1 := hM.gon hk
  have hCp := hC p hp
  have hga := hCp.ga
  have hned := hCp.ned ho
  have hst : (L p).state = 0 ∧ (L p).seen = e.turn ∧ e.who ≠ p := by grind
  have how := hG.f23 (by omega)
  have hal := (hG.c2 h0).1
  have hph : e'.phase = 2 ∨ e'.phase = 3 := by rcases f9 with ⟨g, _⟩ | ⟨g, _⟩ <;> omega
  have hc2 : e'.phase = 2 → ∃ q : Nat, q < n ∧ e'.nd q = 1 := by
    intro h2
    rcases f9 with ⟨_, _, g⟩ | ⟨g, _⟩
    · exact g
    · omega
  have hnp : e'.nd p = 0 := by
    rcases f9 with ⟨_, g, _⟩ | ⟨_, g, _⟩
    · rw [g]; simp [upd]
    · exact g p
  have hnq : ∀ q : Nat, q < n → q ≠ p → e'.nd q = e.nd q ∧ (e'.phase = 3 → e.nd q = 0) := by
    intro q hq hqp
    rcases f9 with ⟨g1, g, _⟩ | ⟨g1, g, g'⟩
    · exact ⟨by rw [g]; simp [upd, hqp], by omega⟩
    · exact ⟨by rw [g q, g' q hqp hq], fun _ => g' q hqp hq⟩
  have hsp : e'.sh p = 0 := by rw [f3]; simp [upd]
  have hsq : ∀ q, q ≠ p → e'.sh q = e.sh q := fun q hqp => by rw [f3]; simp [upd, hqp]
  clear f9 f3
  refine ⟨?_, fun q hq => ?_, fun q hq m' hm' => ?_⟩
  · constructor
    · have g0 := hG.own; have g1 := hG.own; grind
    · have g0 := hG.own; have g1 := hG.ph; grind
    · have g0 := hG.own; have g1 := hG.idle; grind
    · have g0 := hG.own; have g1 := hG.whor; grind
    · have g0 := hG.own; have g1 := hG.f1; grind
    · have g0 := hG.own; have g1 := hG.f23; grind
    · intro h2; exact ⟨by clear hc2; grind, hc2 h2⟩
    · have g0 := hG.own; have g1 := hG.al; grind
    · have g0 := hG.own; have g1 := hG.tu; grind
    · have g0 := hG.own; have g1 := hG.va; grind
    · have g0 := hG.own; have g1 := hG.se; grind
  · have hCq := hC q hq
    have hl : e'.last q = e.last q := by rw [f8]
    clear f8 hc2
    by_cases hqp : q = p
    · subst hqp
      clear hnq hsq
      constructor
      · exact hCp.st
      · exact hCp.va
      · exact hCp.wa
      · exact hCp.se
      · have c0 := hCp.ga; grind
      · exact hCp.gi
      · have c0 := hCp.la; grind
      · have c0 := hCp.bits; grind
      · exact hCp.leav
      · exact hCp.w1
      · exact hCp.w2
      · have c0 := hCp.taken; grind
      · have c0 := hCp.back; grind
      · have c0 := hCp.cur; grind
      · have c0 := hCp.own; grind
      · have c0 := hCp.alo; have c1 := hCp.st; grind
      · have c0 := hCp.cop; grind
      · have c0 := hCp.shs; grind
      · have c0 := hCp.ned; grind
      · have c0 := hCp.cle; grind
      · have c0 := hCp.gra; grind
      · have c0 := hCp.val; grind
    · have hn2 := hnq q hq hqp
      have hs2 := hsq q hqp
      have b0 := hCq.bits
      clear hnq hsq hCp
      constructor
      · exact hCq.st
      · exact hCq.va
      · exact hCq.wa
      · exact hCq.se
      · have c0 := hCq.ga; grind
      · exact hCq.gi
      · have c0 := hCq.la; grind
      · have c0 := hCq.bits; grind
      · exact hCq.leav
      · exact hCq.w1
      · exact hCq.w2
      · have c0 := hCq.taken; grind
      · have c0 := hCq.back; grind
      · have c0 := hCq.cur; have c1 := hCq.cur; grind
      · have c0 := hCq.own; grind
      · have c0 := hCq.alo; have c1 := hCq.alo; grind
      · have c0 := hCq.cop; have c1 := hCq.cop; grind
      · have c0 := hCq.shs; grind
      · have c0 := hCq.ned; have c1 := hCq.ned; grind
      · have c0 := hCq.cle; grind
      · have c0 := hCq.gra; have c1 := hCq.cle; grind
      · have c0 := hCq.val; grind
  · have hCq := hC q hq
    have hl : e'.last q = e.last q := by rw [f8]
    clear f8 hc2
    by_cases hqp : q = p
    · subst hqp
      clear hnq hsq
      constructor
      · have k0 := hm'.get; grind
      · have k0 := hm'.put; grind
      · have k0 := hm'.inv; have c0 := hCq.ga; grind
      · have k0 := hm'.fet; grind
      · have k0 := hm'.gra; have c0 := hCq.taken; have c1 := hCq.cur; have c2 := hCq.wa; grind
      · have k0 := hm'.gon; grind
      · have k0 := hm'.dat; grind
      · have k0 := hm'.tha; grind
      · have k0 := hm'.tak; grind
    · have hn2 := hnq q hq hqp
      clear hnq hsq hCp
      constructor
      · have k0 := hm'.get; grind
      · have k0 := hm'.put; grind
      · have k0 := hm'.inv; have c0 := hCq.ga; grind
      · have k0 := hm'.fet; grind
      · have k0 := hm'.gra; have c0 := hCq.taken; have c1 := hCq.cur; have c2 := hCq.wa; grind
      · have k0 := hm'.gon; grind
      · have k0 := hm'.dat; grind
      · have k0 := hm'.tha; grind
      · have k0 := hm'.tak; grind
theorem P2 {m : Msg} {p : Nat} (hG : GI n e) (hC : ∀ q, q < n → CI e q (L q) V) (hp : p < n) (hM : MI e p (L p) m) (hk : m.kind = 10) (h0 : e.phase = 3) (ht : m.turn = e.turn) (hw : e.who = p)
    (f1 : e'.value = e.value) (f4 : e'.who = 0) (f5 : e'.serial = 0) (f6 : e'.alone = 0) (f7 : e'.turn = e.turn) (f8 : e'.last = e.last) (f9 : e'.phase = 0) (f10 : ∀ q, e'.nd q = e.nd q)
    (f2 : (e.alone = 1 ∧ e'.owner = p ∧ ∀ q, e'.sh q = 0) ∨ (e.alone = 0 ∧ e'.owner = e.owner ∧ ∀ q : Nat, e'.sh q = if q = p then 1 else e.sh q)) :
    GI n e' ∧ (∀ q, q < n → CI e' q (L q) V) ∧ ∀ q, q < n → ∀ m', MI e q (L q) m' → MI e' q (L q) m' := by
  have h1 := hM.tha hk
  have hCp := hC p hp
  have hga := hCp.ga
  have hcur := hCp.cur (by omega) hw
  have hst : (L p).seen = e.turn ∧ (e.alone = 1 → 2 ≤ (L p).state) ∧ (e.alone = 0 → (L p).state ≤ 1) ∧ ((L p).serial ≠ e.serial ∨ (L p).want = 0) := by grind
  have how := hG.f23 (by omega)
  have hal := hG.al
  have ha2 : (e.alone = 1 ∧ e'.owner = p) ∨ (e.alone = 0 ∧ e'.owner = -1) := by
    rcases f2 with ⟨g1, g2, _⟩ | ⟨g1, g2, _⟩
    · exact .inl ⟨g1, g2⟩
    · exact .inr ⟨g1, by rw [g2]; exact how⟩
  have hsp : (e.alone = 1 → e'.sh p = 0) ∧ (e.alone = 0 → e'.sh p = 1) := by
    rcases f2 with ⟨g1, _, g⟩ | ⟨g1, _, g⟩
    · exact ⟨fun _ => g p, by omega⟩
    · exact ⟨by omega, fun _ => by rw [g p, if_pos rfl]⟩
  have hsq : ∀ q : Nat, q ≠ p → (e.alone = 1 → e'.sh q = 0) ∧ (e.alone = 0 → e'.sh q = e.sh q) := by
    intro q hqp
    rcases f2 with ⟨g1, _, g⟩ | ⟨g1, _, g⟩
    · exact ⟨fun _ => g q, by omega⟩
    · exact ⟨by omega, fun _ => by rw [g q, if_neg hqp]⟩
  clear f2
  refine ⟨?_, fun q hq => ?_, fun q hq m' hm' => ?_⟩
  · constructor
    · have g0 := hG.own; have g1 := hG.own; grind
    · have g0 := hG.own; have g1 := hG.ph; grind
    · have g0 := hG.own; have g1 := hG.idle; grind
    · have g0 := hG.own; have g1 := hG.whor; grind
    · have g0 := hG.own; have g1 := hG.f1; grind
    · have g0 := hG.own; have g1 := hG.f23; grind
    · intro h2; omega
    · have g0 := hG.own; have g1 := hG.al; grind
    · have g0 := hG.own; have g1 := hG.tu; grind
    · have g0 := hG.own; have g1 := hG.va; grind
    · have g0 := hG.own; have g1 := hG.se; grind
  · have hCq := hC q hq
    have hl : e'.last q = e.last q := by rw [f8]
    have hnd := f10 q
    have n0 := hCq.ned
    have b0 := hCq.bits
    clear f10 f8
    by_cases hqp : q = p
    · subst hqp
      clear hsq
      have l0 := hCp.leav
      have s0 := hCp.st
      constructor
      · exact hCp.st
      · exact hCp.va
      · exact hCp.wa
      · exact hCp.se
      · have c0 := hCp.ga; grind
      · exact hCp.gi
      · have c0 := hCp.la; grind
      · have c0 := hCp.bits; grind
      · exact hCp.leav
      · exact hCp.w1
      · exact hCp.w2
      · have c0 := hCp.taken; have c1 := hCp.wa; grind
      · have c0 := hCp.back; have c1 := hCp.la; grind
      · have c0 := hCp.cur; grind
      · have c0 := hCp.own; have c1 := hCp.own; grind
      · have c0 := hCp.alo; have c1 := hCp.alo; grind
      · have c0 := hCp.cop; grind
      · have c0 := hCp.shs; grind
      · have c0 := hCp.ned; grind
      · have c0 := hCp.cle; grind
      · have c0 := hCp.gra; grind
      · have c0 := hCp.val; grind
    · have hs2 := hsq q hqp
      clear hsq hsp hCp
      constructor
      · exact hCq.st
      · exact hCq.va
      · exact hCq.wa
      · exact hCq.se
      · have c0 := hCq.ga; grind
      · exact hCq.gi
      · have c0 := hCq.la; grind
      · have c0 := hCq.bits; grind
      · exact hCq.leav
      · exact hCq.w1
      · exact hCq.w2
      · have c0 := hCq.taken; grind
      · have c0 := hCq.back; grind
      · have c0 := hCq.cur; grind
      · have c0 := hCq.own; grind
      · have c0 := hCq.alo; grind
      · have c0 := hCq.cop; have c1 := hCq.gra; grind
      · have c0 := hCq.shs; have c1 := hCq.gra; grind
      · have c0 := hCq.ned; grind
      · have c0 := hCq.cle; grind
      · have c0 := hCq.gra; grind
      · have c0 := hCq.val; have c1 := hCq.val; grind
  · have hCq := hC q hq
    have hl : e'.last q = e.last q := by rw [f8]
    have hnd := f10 q
    have n0 := hCq.ned
    clear f10 f8
    by_cases hqp : q = p
    · subst hqp
      have l0 := hCp.leav
      have s0 := hCp.st
      constructor
      · have k0 := hm'.get; grind
      · have k0 := hm'.put; have c0 := hCq.la; grind
      · have k0 := hm'.inv; grind
      · have k0 := hm'.fet; grind
      · have k0 := hm'.gra; have c0 := hCq.la; have c1 := hCq.wa; have c2 := hCq.ga; grind
      · have k0 := hm'.gon; grind
      · have k0 := hm'.dat; grind
      · have k0 := hm'.tha; grind
      · have k0 := hm'.tak; grind
    · clear hCp
      constructor
      · have k0 := hm'.get; grind
      · have k0 := hm'.put; grind
      · have k0 := hm'.inv; grind
      · have k0 := hm'.fet; grind
      · have k0 := hm'.gra; have c0 := hCq.la; have c1 := hCq.wa; have c2 := hCq.taken; grind
      · have k0 := hm'.gon; grind
      · have k0 := hm'.dat; grind
      · have k0 := hm'.tha; grind
      · have k0 := hm'.tak; grind
end home
end Abs
end Go.Proofs.Ytofgpimoekhfaaa

/- This file proves that chips that steps make are as they must be: what holds of each line holds behind each step. No program in sight. No conditions. -/
set_option linter.unusedVariables false
set_option linter.unusedSimpArgs false
namespace Go.Proofs.Ytofgpimoekhfaaa
open Abs
def D1 (s : Int) (p : Nat) : Int := if s.toNat.testBit p then 1 else 0
def ab (e : Entry) : Ab :=
  { value := e.value, owner := e.owner, phase := e.phase, who := e.who, serial := e.serial, alone := if e.alone then 1 else 0, turn := e.turn,
    last := fun p => e.last.getD p 0, sh := D1 e.sharers, nd := D1 e.need }
def ent (x : Chip) (i : Nat) : Entry := x.home.getD i A8
def cor (x : Chip) (p : Nat) : Core := x.cores.getD p Hj
def lin (x : Chip) (i p : Nat) : Line := (cor x p).lines.getD i zLine
def Qz (n : Nat) (m : Msg) : Nat := if m.dst = (n : Int) then m.src.toNat else m.dst.toNat
def E8 (k : Int) : Int := if k = 1 then 1 else if k = 4 then 3 else 2
structure CW (k : Core) (nl : Nat) : Prop where
 free : k.wait.kind = 0 → k.wait = zOp ∧ ∀ i, i < nl → (k.lines.getD i zLine).want = 0
 busy : k.wait.kind ≠ 0 → (1 ≤ k.wait.kind ∧ k.wait.kind ≤ 4) ∧ (0 ≤ k.wait.line ∧ k.wait.line < nl) ∧ (0 ≤ k.wait.value ∧ k.wait.value ≤ 255) ∧
  ∀ i, i < nl → (k.lines.getD i zLine).want = if (i : Int) = k.wait.line then E8 k.wait.kind else 0
def MX (n : Nat) (x : Chip) (m : Msg) : Prop := MI (ab (ent x m.line.toNat)) (Qz n m) (lin x m.line.toNat (Qz n m)) m
def Ft (n nl : Nat) : Config := ⟨(n : Int), (nl : Int)⟩
structure Inv (n nl : Nat) (x : Chip) (M : List Int) : Prop where
 n1 : 1 ≤ n ∧ n ≤ 4
 l1 : 1 ≤ nl ∧ nl ≤ 4
 nc : x.cores.length = n
 nh : x.home.length = nl
 ncl : ∀ p, p < n → (cor x p).lines.length = nl
 nla : ∀ i, i < nl → (ent x i).last.length = n
 ml : M.length = nl
 mv : ∀ i, i < nl → 0 ≤ M.getD i 0 ∧ M.getD i 0 ≤ 255
 bit : ∀ i, i < nl → (0 ≤ (ent x i).sharers ∧ (ent x i).sharers < (2 ^ n : Nat)) ∧ (0 ≤ (ent x i).need ∧ (ent x i).need < (2 ^ n : Nat))
 gi : ∀ i, i < nl → GI n (ab (ent x i))
 ci : ∀ i, i < nl → ∀ p, p < n → CI (ab (ent x i)) p (lin x i p) (M.getD i 0)
 cw : ∀ p, p < n → CW (cor x p) nl
 fr : x.frames.length ≤ 40
 mi : ∀ b ∈ x.frames, b.length = 12 ∧ ∀ m, Af (Ft n nl) b = (m, 0) → MX n x m
section
variable {n nl : Nat} {x : Chip} {M : List Int}
theorem Inv.core {p i : Nat} {l' : Line} {w' : Op} {V' : Int} (h : Inv n nl x M) (hp : p < n) (hi : i < nl) (hl : CI (ab (ent x i)) p l' V') (ho : ∀ q, q < n → q ≠ p → CI (ab (ent x i)) q (lin x i q) (M.getD i 0) → CI (ab (ent x i)) q (lin x i q) V')
    (hm : ∀ m, MI (ab (ent x i)) p (lin x i p) m → MI (ab (ent x i)) p l' m) (hw : CW (Ay (cor x p) i l' w') nl) (hv : 0 ≤ V' ∧ V' ≤ 255) :
    Inv n nl ⟨x.cores.set p (Ay (cor x p) i l' w'), x.home, x.frames⟩ (M.set i V') := by
  have hpc : p < x.cores.length := by rw [h.nc]; exact hp
  have hcl := h.ncl p hp
  have hcor : ∀ q, cor ⟨x.cores.set p (Ay (cor x p) i l' w'), x.home, x.frames⟩ q = if q = p then Ay (cor x p) i l' w' else cor x q := fun q => Cs _ _ _ _ _ hpc
  have hlin : ∀ j q, lin ⟨x.cores.set p (Ay (cor x p) i l' w'), x.home, x.frames⟩ j q = if q = p ∧ j = i then l' else lin x j q := by
    intro j q
    unfold lin
    rw [hcor]
    by_cases hq : q = p
    · subst hq
      rw [if_pos rfl]
      show ((cor x q).lines.set _ l').getD j zLine = _
      rw [Int.toNat_natCast, Cs _ _ _ _ _ (by rw [hcl]; exact hi)]
      by_cases hj : j = i
      · rw [if_pos hj, if_pos ⟨rfl, hj⟩]
      · rw [if_neg hj, if_neg (by simp [hj])]
    · rw [if_neg hq, if_neg (by simp [hq])]
  have hM : ∀ j, (M.set i V').getD j 0 = if j = i then V' else M.getD j 0 := fun j => Cs _ _ _ _ _ (by rw [h.ml]; exact hi)
  refine ⟨h.n1, h.l1, by simp [h.nc], h.nh, ?_, h.nla, by simp [h.ml], ?_, h.bit, h.gi, ?_, ?_, h.fr, ?_⟩
  · intro q hq
    rw [hcor]
    split
    · show ((cor x p).lines.set _ l').length = nl
      rw [List.length_set]; exact hcl
    · exact h.ncl q hq
  · intro j hj
    rw [hM]; split
    · exact hv
    · exact h.mv j hj
  · intro j hj q hq
    rw [hlin, hM]
    by_cases hji : j = i
    · subst hji
      rw [if_pos rfl]
      by_cases hqp : q = p
      · subst hqp; rw [if_pos ⟨rfl, rfl⟩]; exact hl
      · rw [if_neg (by simp [hqp])]; exact ho q hq hqp (h.ci j hj q hq)
    · rw [if_neg (by simp [hji]), if_neg hji]; exact h.ci j hj q hq
  · intro q hq
    rw [hcor]; split
    · exact hw
    · exact h.cw q hq
  · intro b hb
    obtain ⟨h1, h2⟩ := h.mi b hb
    refine ⟨h1, fun m hmp => ?_⟩
    have h3 := h2 m hmp
    unfold MX at h3 ⊢
    rw [hlin]
    show MI (ab (ent x m.line.toNat)) _ _ m
    split
    · rename_i hc
      rw [hc.1, hc.2] at h3 ⊢
      exact hm m h3
    · exact h3
theorem Inv.home {i : Nat} {e' : Entry} (h : Inv n nl x M) (hi : i < nl) (hla : e'.last.length = n) (hb : (0 ≤ e'.sharers ∧ e'.sharers < (2 ^ n : Nat)) ∧ (0 ≤ e'.need ∧ e'.need < (2 ^ n : Nat)))
    (hg : GI n (ab e') ∧ (∀ q, q < n → CI (ab e') q (lin x i q) (M.getD i 0)) ∧ ∀ q, q < n → ∀ m, MI (ab (ent x i)) q (lin x i q) m → MI (ab e') q (lin x i q) m) :
    Inv n nl ⟨x.cores, x.home.set i e', x.frames⟩ M := by
  have hic : i < x.home.length := by rw [h.nh]; exact hi
  have hent : ∀ j, ent ⟨x.cores, x.home.set i e', x.frames⟩ j = if j = i then e' else ent x j := fun q => Cs _ _ _ _ _ hic
  obtain ⟨hg1, hg2, hg3⟩ := hg
  refine ⟨h.n1, h.l1, h.nc, by simp [h.nh], h.ncl, ?_, h.ml, h.mv, ?_, ?_, ?_, h.cw, h.fr, ?_⟩
  · intro j hj; rw [hent]; split
    · exact hla
    · exact h.nla j hj
  · intro j hj; rw [hent]; split
    · exact hb
    · exact h.bit j hj
  · intro j hj; rw [hent]; split
    · exact hg1
    · exact h.gi j hj
  · intro j hj q hq
    rw [hent]
    show CI _ q (lin x j q) _
    by_cases hji : j = i
    · subst hji; rw [if_pos rfl]; exact hg2 q hq
    · rw [if_neg hji]; exact h.ci j hj q hq
  · intro b hb
    obtain ⟨h1, h2⟩ := h.mi b hb
    refine ⟨h1, fun m hmp => ?_⟩
    have h3 := h2 m hmp
    have hw := H0 (Jv hmp).2.2.2.2.1
    have hpe : Qz n m < n := by
      unfold Qz
      have h4 : m.src = (n : Int) ↔ ¬ m.dst = (n : Int) := by
        have := hw.2.2.2.2.2.2
        simp only [Ft] at this
        by_cases h : m.src = (n : Int) <;> by_cases h' : m.dst = (n : Int) <;> simp_all
      have h5 := hw.2.1
      simp only [Ft] at h5
      split
      · have : ¬ m.src = (n : Int) := by rename_i hd; intro hs; exact h4.1 hs hd
        omega
      · omega
    unfold MX at h3 ⊢
    rw [hent]
    show MI _ _ (lin x m.line.toNat _) m
    split
    · rename_i hc
      rw [hc] at h3 ⊢
      exact hg3 _ hpe m h3
    · exact h3
theorem Inv.frames {f : Frames} (h : Inv n nl x M) (hl : f.length ≤ 40) (hf : ∀ b ∈ f, b.length = 12 ∧ ∀ m, Af (Ft n nl) b = (m, 0) → MX n x m) : Inv n nl ⟨x.cores, x.home, f⟩ M :=
 ⟨h.n1, h.l1, h.nc, h.nh, h.ncl, h.nla, h.ml, h.mv, h.bit, h.gi, h.ci, h.cw, hl, hf⟩
theorem Inv.send {b : List UInt8} (h : Inv n nl x M) (hb : b.length = 12 ∧ ∀ m, Af (Ft n nl) b = (m, 0) → MX n x m) : Inv n nl ⟨x.cores, x.home, Fo x.frames b⟩ M := by
  unfold Fo
  have := h.fr
  split
  · refine h.frames (by simp; omega) fun b' hb' => ?_
    rcases List.mem_append.1 hb' with e | e
    · exact h.mi b' e
    · rw [List.mem_singleton.1 e]; exact hb
  · exact h
theorem Inv.msg {m : Msg} (h : Inv n nl x M) (hw : A5 (Ft n nl) m = 0) (hm : MX n x m) : (Bx m).length = 12 ∧ ∀ m', Af (Ft n nl) (Bx m) = (m', 0) → MX n x m' := by
 refine ⟨Nx m, fun m' h' => ?_⟩
 have h1 := h.n1; have h2 := h.l1
 rw [O4 hw (by simp only [Ft]; omega) (by simp only [Ft]; omega)] at h'
 cases h'; exact hm
theorem Inv.way {ms : List Msg} : ∀ {x : Chip}, Inv n nl x M → (∀ m ∈ ms, A5 (Ft n nl) m = 0 ∧ MX n x m) → Inv n nl ⟨x.cores, x.home, way x.frames ms⟩ M := by
 induction ms with
 | nil => intro x h _; exact h
 | cons m ms ih =>
  intro x h hm
  have h1 := hm m (List.mem_cons_self ..)
  have h2 := h.send (h.msg h1.1 h1.2)
  exact ih h2 fun m' hm' => hm m' (List.mem_cons_of_mem _ hm')
theorem Inv.erase (h : Inv n nl x M) (k : Nat) : Inv n nl ⟨x.cores, x.home, x.frames.eraseIdx k⟩ M := by
 have := h.fr
 refine h.frames (Nat.le_trans (List.length_eraseIdx_le _ _) h.fr) fun b hb => h.mi b (List.mem_of_mem_eraseIdx hb)
theorem Ic {l : Frames} {k : Int} (h : ¬ (k < 0 ∨ (l.length : Int) ≤ k)) : Aw l k ∈ l := by
 unfold Aw
 rw [List.getD_eq_getElem?_getD, List.getElem?_eq_getElem (by omega)]
 exact List.getElem_mem _
theorem Inv.spoil {k bit : Int} (h : Inv n nl x M) (h1 : ¬ (k < 0 ∨ (x.frames.length : Int) ≤ k)) (h2 : (Af (Ft n nl) (Aw x.frames k)).2 = 0) (h3 : 0 ≤ bit) (h4 : bit < 8 * ((Aw x.frames k).length : Int)) :
    Inv n nl ⟨x.cores, x.home, x.frames.set k.toNat (Bn (Aw x.frames k) bit)⟩ M := by
  refine h.frames (by rw [List.length_set]; exact h.fr) fun b hb => ?_
  rcases List.mem_or_eq_of_mem_set hb with e | e
  · exact h.mi b e
  · subst e
    have hl := (h.mi _ (Ic h1)).1
    refine ⟨by rw [Hc]; exact hl, fun m hm => ?_⟩
    have hp : Af (Ft n nl) (Aw x.frames k) = ((Af (Ft n nl) (Aw x.frames k)).1, 0) := by rw [← h2]
    rw [Ql hp h3 (by rw [hl] at h4; exact h4)] at hm
    cases hm
end
end Go.Proofs.Ytofgpimoekhfaaa
