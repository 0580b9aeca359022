/- This file proves parts of what its law needs: each part is told ahead of it. No conditions. -/
import Derived.Test.YtbigiimomnfpdaaGreatTM1
set_option linter.unusedVariables false
set_option linter.unusedSimpArgs false
namespace Go.Proofs.YtbigiimomnfpdaaGreat
open Go
def Ks : List Value → List Value → Option (List Value)
 | cs, [] => some cs
 | _ :: cs, v :: seg => (Ks cs seg).map (v :: ·)
 | [], _ :: _ => none
def Mp : List Value → Nat → List Value → Option (List Value)
 | cs, 0, seg => Ks cs seg
 | c :: cs, k + 1, seg => (Mp cs k seg).map (c :: ·)
 | [], _ + 1, _ => none
theorem N7 : ∀ {cs seg r : List Value}, Ks cs seg = some r → seg.length ≤ cs.length ∧ r = seg ++ cs.drop seg.length
 | cs, [], r, h => by cases cs <;> (simp only [Ks, Option.some.injEq] at h; subst h; simp)
 | c :: cs, v :: seg, r, h => by
  simp only [Ks, Option.map_eq_some_iff] at h
  obtain ⟨r', h1, rfl⟩ := h
  obtain ⟨h2, h3⟩ := N7 h1
  exact ⟨by simp only [List.length_cons]; omega, by rw [h3]; simp⟩
 | [], _ :: _, r, h => by cases h
theorem Qg : ∀ {k : Nat} {cs seg r : List Value}, Mp cs k seg = some r → k + seg.length ≤ cs.length ∧ r = cs.take k ++ seg ++ cs.drop (k + seg.length)
 | 0, cs, seg, r, h => by
  have h' : Ks cs seg = some r := by cases cs <;> exact h
  obtain ⟨h1, h2⟩ := N7 h'
  exact ⟨by omega, by rw [h2]; simp⟩
 | k + 1, c :: cs, seg, r, h => by
  simp only [Mp, Option.map_eq_some_iff] at h
  obtain ⟨r', h1, rfl⟩ := h
  obtain ⟨h2, h3⟩ := Qg h1
  refine ⟨by simp only [List.length_cons]; omega, ?_⟩
  rw [h3, show k + 1 + seg.length = (k + seg.length) + 1 by omega]; simp
 | k + 1, [], seg, r, h => by cases h
def Pd (places : List (Nat × Nat)) : List Value → List (Nat × Value) → Option (List Value)
 | cells, [] => some cells
 | cells, (i, v) :: rest => match places[i]? with
  | none => none
  | some (off, size) => match Nat.beq v.cells.size size with
   | false => none
   | true => match Mp cells off v.cells.toList with
    | none => none
    | some cells' => Pd places cells' rest
theorem T1 (places : List (Nat × Nat)) : ∀ (parts : List (Nat × Value)) (cells cs : List Value), Pd places cells parts = some cs → So places cells parts = some cs
 | [], cells, cs, h => h
 | (i, v) :: rest, cells, cs, h => by
  simp only [Pd] at h
  simp only [So]
  cases hp : places[i]? with
  | none => rw [hp] at h; cases h
  | some q =>
   obtain ⟨off, size⟩ := q
   rw [hp] at h
   simp only at h ⊢
   cases hb : Nat.beq v.cells.size size with
   | false => rw [hb] at h; cases h
   | true =>
    rw [hb] at h
    simp only at h
    have hsz : v.cells.size = size := Nat.eq_of_beq_eq_true hb
    cases hq : Mp cells off v.cells.toList with
    | none => rw [hq] at h; cases h
    | some c' =>
     rw [hq] at h
     simp only at h
     obtain ⟨h1, h2⟩ := Qg hq
     rw [Array.length_toList] at h1 h2
     rw [if_neg (by omega), ← h2]
     exact T1 places rest c' cs h
def A2 (P : Program) (n : Nat) (al : List (Nat × Value)) (L : List Chunk) (R : List Fact) (o : Oper) (v : Value) : Prop :=
 o.guard = none ∧ ∀ (ρ : Operand → Value) (w : World), (∀ x ∈ o.op.operands, ∀ u, ev n al x = some u → ρ x = u) → St L R w → (execOp ρ o).run P w = .ok (.value v) w
section
variable {P : Program} {n : Nat} {ops : Array Oper} {Q : Exit → Act → World → Prop} {rest : List Oper} {L L' : List Chunk} {R : List Fact} {al : List (Nat × Value)} {d : Nat} {x y : Operand} {T ty : TypeId} {pos : String} {aft : Array Edge}
theorem r_p {o : Oper} {v : Value} (hp : A2 P n al L R o v) (hd : o.dst = some d) (k : J P n ops Q rest L R ((d, v) :: al)) : J P n ops Q (o :: rest) L R al :=
 J.pure hp.1 hd (fun B w hs => hp.2 _ w (fun x hx u hu => Bf hu) hs) k
theorem d_p {Sh : Rho → (Nat → Bool) → List Chunk} {R0 : List Fact} {al0 : List (Nat × Value)} {i : Nat} {its : List Item} {o : Oper} {v : Rho → Value} (hp : ∀ ρ S, A2 P n (Eh its al0 ρ) (Sh ρ S) R0 o (v ρ)) (hd : o.dst = some d) (hi : Ind ops i v) (hSh : ∀ ρ g S, S i = false → Sh (Rho.set ρ i g) (upS S i) = Sh ρ S)
  (k : DJ P n ops Q Sh R0 al0 (i + 1) rest (⟨i, some d, v, fun _ => [], fun _ => []⟩ :: its)) : DN P n ops Q Sh R0 al0 i o rest its :=
 Xx (hp (fun _ => ⟨undef, undef, undef, undef, 0⟩) (fun _ => false)).1 hd hSh hi (fun ρ S a L' R' w h => (hp ρ S).2 _ w (fun x hx u hu => Cp h.agree hx hu) (h.st.fewer h.base)) k
theorem d_pc {Sh : Rho → (Nat → Bool) → List Chunk} {R0 : List Fact} {al0 : List (Nat × Value)} {i : Nat} {its : List Item} {o : Oper} {v : Value} (hp : ∀ ρ S, A2 P n (Eh its al0 ρ) (Sh ρ S) R0 o v) (hd : o.dst = some d) (hSh : ∀ ρ g S, S i = false → Sh (Rho.set ρ i g) (upS S i) = Sh ρ S)
 (k : DJ P n ops Q Sh R0 al0 (i + 1) rest (⟨i, some d, fun _ => v, fun _ => [], fun _ => []⟩ :: its)) : DN P n ops Q Sh R0 al0 i o rest its := d_p hp hd (Ind.const _) hSh k
theorem Wv {zc cs : List Value} {places : List (Nat × Nat)} {parts : List (Nat × Operand)} {vs : List Value} (hT : Dm P T zc places) (ha : evL n al (parts.map (·.2)) = some vs) (h' : Pd places zc ((parts.map (·.1)).zip vs) = some cs) : A2 P n al L R ⟨some d, .build T parts.toArray, ty, pos, aft, none⟩ (.agg cs.toArray) :=
 ⟨rfl, fun ρ w hρ _ => by
  have h := T1 _ _ _ _ h'
  show (Instr.build T (parts.toArray.map fun (i, x) => (i, ρ x)) >>= fun v => Pure.pure (Next.value v)).run P w = _
  have key : ∀ (l : List (Nat × Operand)) (us : List Value), (∀ x ∈ l.map (·.2), ∀ u, ev n al x = some u → ρ x = u) → evL n al (l.map (·.2)) = some us → l.map (fun (i, x) => (i, ρ x)) = (l.map (·.1)).zip us := by
   intro l
   induction l with
   | nil => intro us _ he; simp only [List.map_nil, evL] at he; cases he; rfl
   | cons p l ih =>
    intro us hx he
    simp only [List.map_cons, evL] at he
    cases h1 : ev n al p.2 with
    | none => rw [h1] at he; cases he
    | some v =>
     cases h2 : evL n al (l.map (·.2)) with
     | none => rw [h1, h2] at he; cases he
     | some us' =>
      rw [h1, h2] at he
      cases he
      simp only [List.map_cons, List.zip_cons_cons]
      rw [hx p.2 (by simp) v h1, ih us' (fun x hm => hx x (by simp only [List.map_cons]; exact List.mem_cons_of_mem _ hm)) h2]
  have hp : (parts.toArray.map fun (i, x) => (i, ρ x)) = ((parts.map (·.1)).zip vs).toArray := by
   rw [List.map_toArray, key parts vs (fun x hx u hu => hρ x (by simpa [Op.operands] using hx) u hu) ha]
  rw [hp, Sem.run_bind, Uq hT h w]; rfl⟩
theorem F3 {op : BinOp} {v1 v2 v : Value} {U : TypeId} (hx : ev n al x = some v1) (hy : ev n al y = some v2) (hg : ∀ w : World, (eqGuard op T x y v1 v2).run P w = .ok () w) (hv : ∀ w : World, (binOp op T v1 v2).run P w = .ok v w) : A2 P n al L R ⟨some d, .binOp op T x y U, ty, pos, aft, none⟩ v :=
 ⟨rfl, fun ρ w h _ => by
  have e : (execOp ρ ⟨some d, .binOp op T x y U, ty, pos, aft, none⟩) = (do let v ← (do eqGuard op T x y v1 v2; binOp op T v1 v2); pure (Next.value v)) := by
   simp only [execOp, h x (by simp [Op.operands]) _ hx, h y (by simp [Op.operands]) _ hy]
  rw [e]
  simp [hg w, hv w]⟩
theorem Am {op : BinOp} {k k' : IntKind} {a b : Int} {v : Value} {U : TypeId} (hx : ev n al x = some (.int k a)) (hy : ev n al y = some (.int k' b)) (hv : ∀ w : World, (binOp op T (.int k a) (.int k' b)).run P w = .ok v w) : A2 P n al L R ⟨some d, .binOp op T x y U, ty, pos, aft, none⟩ v := F3 hx hy Qz hv
theorem p_str {op : BinOp} {a b : ByteArray} {v : Value} {U : TypeId} (hx : ev n al x = some (.string a)) (hy : ev n al y = some (.string b)) (hv : ∀ w : World, (binOp op T (.string a) (.string b)).run P w = .ok v w) : A2 P n al L R ⟨some d, .binOp op T x y U, ty, pos, aft, none⟩ v := F3 hx hy Xm hv
theorem Adu {op : BinOp} {a b : Bool} {v : Value} {U : TypeId} (hx : ev n al x = some (.bool a)) (hy : ev n al y = some (.bool b)) (hv : ∀ w : World, (binOp op T (.bool a) (.bool b)).run P w = .ok v w) : A2 P n al L R ⟨some d, .binOp op T x y U, ty, pos, aft, none⟩ v := F3 hx hy Ve hv
theorem Ar {src dst : TypeId} {k k' : IntKind} {a : Int} {v : Value} (hs : P.underlying src = some (.int k')) (hd : P.underlying dst = some (.int k)) (hx : ev n al x = some (.int k' a)) (hv : Value.int k (k.wrap a) = v) : A2 P n al L R ⟨some d, .convert src dst x, ty, pos, aft, none⟩ v :=
 ⟨rfl, fun ρ w h _ => by
  show (convert src dst (ρ x) >>= fun v => Pure.pure (Next.value v)).run P w = _
  have e : (convert src dst (.int k' a)).run P w = .ok v w := by
   unfold convert
   rw [Sem.run_bind, Cy hs]; simp only [Result.andThen]
   rw [Sem.run_bind, Cy hd]; simp only [Result.andThen]
   rw [← hv]; rfl
  rw [h x (by simp [Op.operands]) _ hx, Sem.run_bind, e]; rfl⟩
theorem Wu {src dst e : TypeId} {bs : List UInt8} {v : Value} (hs : P.underlying src = some (.slice e)) (he : P.underlying e = some (.int .u8)) (hd : P.underlying dst = some .string) (hx : ev n al x = some v) (hm : sl v bs ∈ R) : A2 P n al L R ⟨some d, .convert src dst x, ty, pos, aft, none⟩ (.string (Nm bs)) :=
 ⟨rfl, fun ρ w h hst => by
  show (convert src dst (ρ x) >>= fun v => Pure.pure (Next.value v)).run P w = _
  obtain ⟨i, hi, hr⟩ := hst.ex
  have hsl := hr _ hm
  have hc := Vu (P := P) hi hsl
  obtain ⟨base, cap, rfl, _, _⟩ := hsl
  rw [h x (by simp [Op.operands]) _ hx, Sem.run_bind]
  simp [convert, Cy hs, Cy hd, Cy he, hc]⟩
theorem Io {v : Value} {T e : TypeId} {sz len i : Nat} (ht : Dd P T e sz) (hx : ev n al x = some v) (hy : ev n al y = some (vi (i : Int))) (hl : Dv L R v len) (h1 : i < len) : A2 P n al L R ⟨some d, .indexAddr T x y, ty, pos, aft, none⟩ (ep v sz i 0) :=
 ⟨rfl, fun ρ w h hs => by
  obtain ⟨base, cap, rfl, hb⟩ := hl w hs
  obtain ⟨a, rfl⟩ := hb (by omega)
  show (Instr.indexAt T (ρ x) (ρ y) >>= fun v => Pure.pure (Next.value v)).run P w = _
  rw [h x (by simp [Op.operands]) _ hx, h y (by simp [Op.operands]) _ hy, Sem.run_bind]
  have : (Instr.indexAt T (.slice (some a) len cap) (vi (i : Int))).run P w = .ok (.pointer (some (a.add (i * sz)))) w := by
   simp [Instr.indexAt, asIntOf, Cy ht.1, ht.2, h1]
  rw [this]; rfl⟩
theorem Cr {b f i len sz : Nat} {T e : TypeId} (ht : P.underlying T = some (.array len e)) (hsz : ∀ w, (sizeOf e).run P w = .ok sz w) (hx : ev n al x = some (bp b f)) (hy : ev n al y = some (vi (i : Int))) (h1 : Nat.blt i len = true) : A2 P n al L R ⟨some d, .indexAddr T x y, ty, pos, aft, none⟩ (bp b (f + i * sz)) :=
 ⟨rfl, fun ρ w h hs => by
  have h1' := blt_iff.1 h1
  show (Instr.indexAt T (ρ x) (ρ y) >>= fun v => Pure.pure (Next.value v)).run P w = _
  rw [h x (by simp [Op.operands]) _ hx, h y (by simp [Op.operands]) _ hy, Sem.run_bind]
  have : (Instr.indexAt T (bp b f) (vi (i : Int))).run P w = .ok (bp b (f + i * sz)) w := by
   simp [Instr.indexAt, asIntOf, Cy ht, hsz, bp, Instr.sureAddr, h1', Gw]
  rw [this]; rfl⟩
theorem J7 {T e : TypeId} {p q : Operand} {a b : Int} (ht : P.underlying T = some (.array 2 e)) (hsz : ∀ w, (sizeOf e).run P w = .ok 1 w) (hz : ∀ w, (zeroValue T).run P w = .ok (.agg #[vi 0, vi 0]) w) (ha : ev n al p = some (vi a)) (hb : ev n al q = some (vi b)) :
  A2 P n al L R ⟨some d, .build T #[(0, p), (1, q)], ty, pos, aft, none⟩ (.agg [vi a, vi b].toArray) :=
 ⟨rfl, fun ρ w h hs => by
  show (Instr.build T (#[(0, p), (1, q)].map fun (i, x) => (i, ρ x)) >>= fun v => Pure.pure (Next.value v)).run P w = _
  have e1 := h p (by simp [Op.operands]) _ ha
  have e2 := h q (by simp [Op.operands]) _ hb
  rw [Sem.run_bind]
  have : (Instr.build T (#[(0, p), (1, q)].map fun (i, x) => (i, ρ x))).run P w = .ok (.agg [vi a, vi b].toArray) w := by
   simp [Instr.build, hz, Cy ht, hsz, Instr.fill, e1, e2, Value.cells]
  rw [this]; rfl⟩
end
section
variable {P : Program} {T : TypeId} {k : IntKind}
theorem Aeh {x : Int} (h0 : 0 ≤ x) (h1 : x ≤ 1000000000) (w : World) : (binOp .shl T (vi x) (.int k 4)).run P w = .ok (vi (16 * x)) w := by
 rw [Ajl (by omega) (by omega)]
 have : x * 2 ^ (4 : Int).toNat = 16 * x := by show x * 16 = _; omega
 rw [this, IntKind.wrap_i64, show (16 * x + 9223372036854775808) % 18446744073709551616 - 9223372036854775808 = 16 * x by omega]
theorem Pp {x : Int} (h0 : 0 ≤ x) (h1 : x ≤ 1000000000) (w : World) : (binOp .shl T (vi x) (.int k 8)).run P w = .ok (vi (256 * x)) w := by
 rw [Ajl (by omega) (by omega)]
 have : x * 2 ^ (8 : Int).toNat = 256 * x := by show x * 256 = _; omega
 rw [this, IntKind.wrap_i64, show (256 * x + 9223372036854775808) % 18446744073709551616 - 9223372036854775808 = 256 * x by omega]
theorem H3 {x : Int} (w : World) : (binOp .shr T (vi x) (.int k 8)).run P w = .ok (vi (x / 256)) w := Ajk (by omega) (by omega) w
theorem Ajj {x : UInt8} (w : World) : (binOp .shr T (vb x) (.int k 4)).run P w = .ok (vb (u8 ((x.toNat : Int) / 16))) w := b_shr8 (by omega) (by omega) w
theorem Yv {a : Int} (w : World) : (binOp .and T (vi a) (vi 15)).run P w = .ok (vi (a % 16)) w := by
 show Result.ok (Value.int .i64 (IntKind.i64.wrap ((BitVec.ofInt 64 a &&& BitVec.ofInt 64 15).toNat : Int))) w = _
 have h : (BitVec.ofInt 64 a &&& BitVec.ofInt 64 15).toNat = (a % 16).toNat := by
  rw [BitVec.toNat_and]
  have h1 : (BitVec.ofInt 64 15).toNat = 2 ^ 4 - 1 := by rw [BitVec.toNat_ofInt]; rfl
  rw [h1, Nat.and_two_pow_sub_one_eq_mod, BitVec.toNat_ofInt]
  omega
 rw [h, IntKind.wrap_i64]
 have : ((((a % 16).toNat : Nat) : Int) + 9223372036854775808) % 18446744073709551616 - 9223372036854775808 = a % 16 := by omega
 rw [this]
theorem Adg {x : UInt8} (w : World) : (binOp .and T (vb x) (.int .u8 15)).run P w = .ok (vb (u8 ((x.toNat : Int) % 16))) w := by
 have h := b_and8 (P := P) (T := T) (a := x) (b := 15) w
 have e : x &&& 15 = u8 ((x.toNat : Int) % 16) := by
  apply UInt8.toNat.inj
  have h1 : ((u8 ((x.toNat : Int) % 16)).toNat : Int) = (x.toNat : Int) % 16 := L5 (by omega) (by omega)
  have h2 : (x &&& 15).toNat = x.toNat % 16 := by rw [UInt8.toNat_and]; exact Nat.and_two_pow_sub_one_eq_mod x.toNat 4
  omega
 rw [e] at h; exact h
theorem Adv {a b i : Nat} (h : b < 2 ^ i) : (2 ^ i * a) ||| b = 2 ^ i * a + b := by
 rw [Nat.mul_comm, ← Nat.shiftLeft_eq]
 exact (Nat.shiftLeft_add_eq_or_of_lt h a).symm
theorem Aek {a b : Int} (h0 : 0 ≤ a) (h1 : a ≤ 1000000000) (h2 : 0 ≤ b) (h3 : b < 16) (w : World) : (binOp .or T (vi (16 * a)) (vi b)).run P w = .ok (vi (16 * a + b)) w := by
 obtain ⟨x, rfl⟩ := Int.eq_ofNat_of_zero_le h0
 obtain ⟨y, rfl⟩ := Int.eq_ofNat_of_zero_le h2
 have e : (16 : Int) * (x : Int) = ((16 * x : Nat) : Int) := by omega
 rw [e, b_orN (by omega) (by omega), show 16 * x = 2 ^ 4 * x from rfl, Adv (by omega)]
 rw [show ((2 ^ 4 * x + y : Nat) : Int) = ((16 * x : Nat) : Int) + (y : Int) by omega]
theorem S0 {a b : Int} (h0 : 0 ≤ a) (h1 : a ≤ 1000000000) (h2 : 0 ≤ b) (h3 : b < 256) (w : World) : (binOp .or T (vi (256 * a)) (vi b)).run P w = .ok (vi (256 * a + b)) w := by
 obtain ⟨x, rfl⟩ := Int.eq_ofNat_of_zero_le h0
 obtain ⟨y, rfl⟩ := Int.eq_ofNat_of_zero_le h2
 have e : (256 : Int) * (x : Int) = ((256 * x : Nat) : Int) := by omega
 rw [e, b_orN (by omega) (by omega), show 256 * x = 2 ^ 8 * x from rfl, Adv (by omega)]
 rw [show ((2 ^ 8 * x + y : Nat) : Int) = ((256 * x : Nat) : Int) + (y : Int) by omega]
end
section
variable {P : Program} {n : Nat} {Q : Exit → Act → World → Prop} {Sh : Rho → (Nat → Bool) → List Chunk} {R0 : List Fact} {al0 : List (Nat × Value)}
variable {ops : Array Oper} {i : Nat} {rest : List Oper} {its : List Item} {d : Nat} {x y : Operand} {T ty : TypeId} {pos : String} {aft : Array Edge}
theorem X0 {z : Value} {cs : List Value} (hz : ∀ w, (zeroValue T).run P w = .ok z w) (hv : z.cells = cs.toArray) (hSh : ∀ ρ (b : Nat) S, S i = false → (∀ j, Bef ops i j → S j = false) → (Sh (Rho.set ρ i (Gh.enc b)) (upS S i)).Perm (blk b T cs :: Sh ρ S))
  (k : DJ P n ops Q Sh R0 al0 (i + 1) rest (⟨i, some d, fun ρ => bp (Gh.dec (γ := Nat) (ρ i)) 0, fun _ => [], fun _ => []⟩ :: its)) : DN P n ops Q Sh R0 al0 i ⟨some d, .alloc T, ty, pos, aft, none⟩ rest its := by
 refine ⟨⟨i, some d, fun ρ => bp (Gh.dec (γ := Nat) (ρ i)) 0, fun _ => [], fun _ => []⟩, rfl, rfl, Ind.self (h := fun g => bp (Gh.dec (γ := Nat) g) 0), Ind.const _, Ind.const _, ?_, k⟩
 intro ρ S a L' R' w K hS hbef haft hag hdep hbase hst hK
 rw [if_pos (by simp [Region.wanted])]
 left
 unfold Oper.wp
 have e : (execOp a.eval ⟨some d, .alloc T, ty, pos, aft, none⟩).run P w = .ok (.value (bp w.heap.size 0)) { w with heap := w.heap.push (.cells cs.toArray T (0, 0)) } := by
  show (Instr.alloc T true (.tuple #[]) >>= fun v => Pure.pure (Next.value v)).run P w = _
  simp [Instr.alloc, hz, hv, newVar, newRow, bp]
 rw [e, Oper.upon_value]
 have e2 : (Rho.set ρ i (Gh.enc w.heap.size)) i = Gh.enc w.heap.size := by simp [Rho.set]
 have := hK (Gh.enc w.heap.size) _ (((hst.new (.cells cs.toArray T (0, 0)))).perm ?_)
 ·simp only [e2, Gh.ok] at this; exact this
 ·refine List.Perm.trans ?_ ((hSh ρ w.heap.size S hS haft).symm.append_right _)
  exact List.Perm.refl _
theorem T8 {α : Type} [Enc α] {v : Value} {xs : List α} {t e : TypeId} {low high : Option Operand} {lo hi : Nat} (ht : Dd P t e (Enc.sz α)) (hx : ∀ ρ, ev n (Eh its al0 ρ) x = some v) (hm : sl v xs ∈ R0)
  (hlo : ∀ ρ, match low with | none => lo = 0 | some y => ev n (Eh its al0 ρ) y = some (vi (lo : Int))) (hhi : ∀ ρ, match high with | none => hi = xs.length | some y => ev n (Eh its al0 ρ) y = some (vi (hi : Int))) (h1 : lo ≤ hi) (h2 : hi ≤ xs.length) (hSh : ∀ ρ g S, S i = false → Sh (Rho.set ρ i g) (upS S i) = Sh ρ S)
  (k : DJ P n ops Q Sh R0 al0 (i + 1) rest (⟨i, some d, fun ρ => Gh.dec (γ := Value) (ρ i), fun ρ => [sl (Gh.dec (γ := Value) (ρ i)) ((xs.take hi).drop lo)], fun _ => []⟩ :: its)) : DN P n ops Q Sh R0 al0 i ⟨some d, .slice t x low high none, ty, pos, aft, none⟩ rest its :=
 Aim (γ := Value) (val := fun u => u) (F := fun u => [sl u ((xs.take hi).drop lo)]) (C := fun _ => []) rfl rfl hSh (fun ρ S a L' R' w K h hK => by
  obtain ⟨j, hj, hr⟩ := h.st.ex
  have hsl := hr _ (h.base _ hm)
  have hsl0 := hsl
  obtain ⟨base, cap, rfl, ⟨hn1, hn2⟩, hc⟩ := hsl0
  unfold Oper.wp
  have e : (execOp a.eval ⟨some d, .slice t x low high none, ty, pos, aft, none⟩).run P w = .ok (.value (.slice (if cap = lo then base else base.map (·.add (lo * Enc.sz α))) (hi - lo) (cap - lo))) w := by
   show (Instr.sliceAt t (a.eval x) (low.map a.eval) (high.map a.eval) none >>= fun v => Pure.pure (Next.value v)).run P w = _
   rw [Cp h.agree (by simp [Op.operands]) (hx ρ), Sem.run_bind]
   have hlo' : (low.map a.eval = none ∧ lo = 0) ∨ low.map a.eval = some (vi (lo : Int)) := by
    have hl := hlo ρ
    cases low with
    | none => exact .inl ⟨rfl, hl⟩
    | some y => right; simp only [Option.map_some]; rw [Cp h.agree (by simp [Op.operands]) hl]
   have hhi' : (high.map a.eval = none ∧ hi = xs.length) ∨ high.map a.eval = some (vi (hi : Int)) := by
    have hl := hhi ρ
    cases high with
    | none => exact .inl ⟨rfl, hl⟩
    | some y => right; simp only [Option.map_some]; rw [Cp h.agree (by simp [Op.operands]) hl]
   have e1 : (0 : Int) ≤ (lo : Int) ∧ (lo : Int) ≤ (hi : Int) := by omega
   have e2 : (0 : Int) ≤ (hi : Int) ∧ (hi : Int) ≤ (cap : Int) := by omega
   rcases hlo' with ⟨a1, a2⟩ | a1 <;> rcases hhi' with ⟨b1, b2⟩ | b1 <;> rw [a1, b1] <;>
    simp [Instr.sliceAt, Instr.slice, Instr.sliceBounds, Instr.sliceBound, Cy ht.1, ht.2, asIntOf, e1, e2, h1, h2, hn2] <;> (try subst a2) <;> (try subst b2) <;> (try simp) <;> (try omega)
  rw [e, Oper.upon_value]
  exact hK _ w (h.st.addFact fun i' h' => Ws (h' _ (h.base _ hm)) h1 h2)) k
end
def gu (n : Nat) (al : List (Nat × Value)) (ops : List Oper) (i : Nat) : Bool := match nthO ops i with
 | some o => match o.dst with
  | some t => match ev n al (.tmp t) with
   | some (.tuple _) => true
   | _ => false
  | none => false
 | none => false
theorem Xn {n : Nat} {al : List (Nat × Value)} {l : List Oper} {i : Nat} (h : gu n al l i = true) : ∃ o t c, l.toArray[i]? = some o ∧ o.dst = some t ∧ ev n al (.tmp t) = some (.tuple c) := by
 unfold gu at h
 rw [Sf] at h
 cases ho : l[i]? with
 | none => rw [ho] at h; cases h
 | some o =>
  rw [ho] at h
  simp only at h
  cases hd : o.dst with
  | none => rw [hd] at h; cases h
  | some t =>
   rw [hd] at h
   simp only at h
   split at h
   ·rename_i c he; exact ⟨o, t, c, by simpa using ho, hd, he⟩
   ·cases h
section
variable {P : Program} {n : Nat} {Q : Exit → Act → World → Prop} {rest : List Oper} {L : List Chunk} {R : List Fact} {al : List (Nat × Value)} {d : Nat} {ty : TypeId} {pos : String} {aft : Array Edge}
theorem J.guardUndef {l : List Oper} {op : Go.Op} {i : Nat} {b : Bool} (hv : gu n al l i = true)
  (k : J P n l.toArray Q rest L R ((d, undef) :: al)) : J P n l.toArray Q (⟨some d, op, ty, pos, aft, some (i, b)⟩ :: rest) L R al := by
 obtain ⟨oi, t, c, hi, ht, he⟩ := Xn hv
 intro B w hs
 unfold wpList
 have hw : Region.wanted ⟨some d, op, ty, pos, aft, some (i, b)⟩ (yielded l.toArray (mkA n al B).tmps) = false := by
  simp only [Region.wanted, yielded, hi, Option.bind_some, ht, Co he]
  rfl
 rw [if_neg (by simp [hw]), Ip]
 exact k B w hs
end
section
variable {P : Program} {n : Nat} {Q : Exit → Act → World → Prop} {Sh : Rho → (Nat → Bool) → List Chunk} {R0 : List Fact} {al0 : List (Nat × Value)}
variable {i : Nat} {rest : List Oper} {its : List Item} {d : Nat} {ty : TypeId} {pos : String} {aft : Array Edge}
theorem Q6 {l : List Oper} {op : Go.Op} {q : Nat} {b : Bool} (hv : ∀ ρ, gu n (Eh its al0 ρ) l q = true) (hSh : ∀ ρ g S, S i = false → Sh (Rho.set ρ i g) (upS S i) = Sh ρ S)
  (k : DJ P n l.toArray Q Sh R0 al0 (i + 1) rest (⟨i, some d, fun _ => undef, fun _ => [], fun _ => []⟩ :: its)) : DN P n l.toArray Q Sh R0 al0 i ⟨some d, op, ty, pos, aft, some (q, b)⟩ rest its := by
 refine ⟨⟨i, some d, fun _ => undef, fun _ => [], fun _ => []⟩, rfl, rfl, Ind.const _, Ind.const _, Ind.const _, ?_, k⟩
 intro ρ S a L' R' w K hS hbef haft hag hdep hbase hst hK
 obtain ⟨oi, t, c, hq, ht, he⟩ := Xn (hv ρ)
 have hl : a.tmps[t]? = some (.tuple c) := hag t _ (by unfold Oper.looksAt; refine List.mem_append_right _ ?_; simp only [hq, Option.bind_some, ht]; simp) he
 have hw : Region.wanted (⟨some d, op, ty, pos, aft, some (q, b)⟩ : Oper) (yielded l.toArray a.tmps) = false := by
  simp only [Region.wanted, yielded, hq, Option.bind_some, ht, hl]
  rfl
 rw [if_neg (by simp [hw])]
 have := hK (ρ i) w
 exact this (by rw [hSh _ _ _ hS]; exact hst)
end
def memC (m : Mem) : Chunk := ⟨fun m' _ => Mem.le m m', fun _ _ _ _ h => h⟩
def memF (m : Mem) : Fact := ⟨fun m' => Mem.le m m', fun _ _ h h' => Mem.le_trans h' h⟩
theorem borrow {P : Program} {γ : Type} {val : γ → Value} {f : FuncId} {args : Array Value} {c : Chunk} {F : Fact} {L : List Chunk} {R : List Fact} {w : World} (hcF : ∀ m i, Mem.disj m i → c.p m i → F.p (Mem.join m i))
  (hc : ∀ L' R' w, St L' R' w → F ∈ R' → (∀ f ∈ R, f ∈ R') → Calls P f args w (Bs val (fun _ => L') (fun _ => R'))) (hs : St (c :: L) R w) : Calls P f args w (Bs val (fun _ => c :: L) (fun _ => R)) := by
 obtain ⟨m, i, hd, hm, hi, ⟨m1, m2, hd', h1, h2, hcp, hst⟩, hr⟩ := hs
 have d1 : Mem.disj m1 i := Mem.disj_le hd h1 (Mem.le_refl _)
 have d2 : Mem.disj m2 i := Mem.disj_le hd h2 (Mem.le_refl _)
 have hs' : St [memC m2] (F :: memF m1 :: memF i :: R) w := by
  refine ⟨m2, Mem.join m1 i, Mem.disj_symm (Mem.disj_join hd' (Mem.disj_symm d2)), Mem.le_trans h2 hm, Mem.join_le (Mem.le_trans h1 hm) hi, ⟨m2, fun _ => none, fun _ => .inr rfl, Mem.le_refl _, (fun _ _ e => by cases e), Mem.le_refl _, trivial⟩, ?_⟩
  intro g hg
  rcases List.mem_cons.1 hg with e | hg
  ·rw [e]; exact hcF m1 i d1 hcp
  rcases List.mem_cons.1 hg with e | hg
  ·rw [e]; exact Mem.le_joinL _ _
  rcases List.mem_cons.1 hg with e | hg
  ·rw [e]; exact Mem.le_joinR d1
  ·exact g.mono _ _ (Mem.le_joinR d1) (hr g hg)
 refine (hc _ _ _ hs' (List.Mem.head _) (fun g hg => .tail _ (.tail _ (.tail _ hg)))).mono ?_
 rintro e w' ⟨g, rfl, n, j, k1, k2, k3, ⟨n1, n2, k4, k5, k6, k7, k8⟩, k9⟩
 refine ⟨g, rfl, Mem.join m1 m2, i, Mem.disj_join d1 d2, ?_, ?_, ⟨m1, m2, hd', Mem.le_joinL _ _, Mem.le_joinR hd', hcp, hst⟩, hr⟩
 ·exact Mem.join_le (Mem.le_trans (k9 (memF m1) (.tail _ (.head _))) k3) (Mem.le_trans (Mem.le_trans k7 k5) k2)
 ·exact Mem.le_trans (k9 (memF i) (.tail _ (.tail _ (.head _)))) k3
theorem lend {P : Program} {γ : Type} {val : γ → Value} {f : FuncId} {args : Array Value} {α : Type} [Enc α] {T : TypeId} {v : Value} {xs : List α} {L L' : List Chunk} {R : List Fact} {w : World} (hp : Pick L (row T v xs) L')
  (hc : ∀ L' R' w, St L' R' w → sl v xs ∈ R' → (∀ f ∈ R, f ∈ R') → Calls P f args w (Bs val (fun _ => L') (fun _ => R'))) (hs : St L R w) : Calls P f args w (Bs val (fun _ => row T v xs :: L') (fun _ => R)) :=
 borrow (F := sl v xs) (fun m i hd h => Mg hd h) hc (hs.pick hp)
section
variable {P : Program} {T : TypeId} {k : IntKind}
theorem Ld {a b : Int} (h0 : 0 ≤ a) (h1 : a ≤ 9223372036854775807) (hb : 0 < b) (w : World) : (binOp .quo T (vi a) (vi b)).run P w = .ok (vi (a / b)) w := by
 have e : a.tdiv b = a / b := Int.tdiv_eq_ediv_of_nonneg h0
 have h2 : 0 ≤ a / b := Int.ediv_nonneg h0 (by omega)
 have h3 : a / b ≤ a := Int.ediv_le_self _ h0
 rw [← e]
 exact b_quo (by omega) (by rw [e]; omega) (by rw [e]; omega) w
theorem Lc {a b : Int} (h0 : 0 ≤ a) (hb : 0 < b) (hb2 : b ≤ 9223372036854775807) (w : World) : (binOp .rem T (vi a) (vi b)).run P w = .ok (vi (a % b)) w := by
 have e : a.tmod b = a % b := Int.tmod_eq_emod_of_nonneg h0
 have h2 : 0 ≤ a % b := Int.emod_nonneg _ (by omega)
 have h3 : a % b < b := Int.emod_lt_of_pos _ hb
 rw [← e]
 exact Acz (by omega) (by rw [e]; omega) (by rw [e]; omega) w
theorem Aej {a b : Nat} (h1 : a ≤ 9223372036854775807) (hb : 0 < b) (w : World) : (binOp .quo T (vi (a : Int)) (vi (b : Int))).run P w = .ok (vi ((a / b : Nat) : Int)) w := by
 rw [Ld (by omega) (by omega) (by omega), Int.natCast_ediv]
theorem Aei {a b : Nat} (hb : 0 < b) (hb2 : b ≤ 9223372036854775807) (w : World) : (binOp .rem T (vi (a : Int)) (vi (b : Int))).run P w = .ok (vi ((a % b : Nat) : Int)) w := by
 rw [Lc (by omega) (by omega) (by omega), Int.natCast_emod]
theorem Aem {a b : Nat} (h : a + b ≤ 9223372036854775807) (w : World) : (binOp .add T (vi (a : Int)) (vi (b : Int))).run P w = .ok (vi ((a + b : Nat) : Int)) w := by
 rw [Ll (by omega) (by omega), Int.natCast_add]
theorem Afr : ∀ k : _root_.Fin 8, u8 (((1 : UInt8).toNat : Int) * 2 ^ k.val) = (1 : UInt8) <<< UInt8.ofNat k.val := by decide
theorem Aaq : ∀ k : _root_.Fin 8, ((1 : UInt8) <<< UInt8.ofNat k.val).toNat = 2 ^ k.val := by decide
theorem Zb (c : UInt8) (k : Nat) (hk : k < 8) : u8 ((c.toNat ^^^ 2 ^ k : Nat) : Int) = c ^^^ ((1 : UInt8) <<< UInt8.ofNat k) := by
 apply UInt8.toNat.inj
 have h := H4 ((c.toNat ^^^ 2 ^ k : Nat) : Int)
 have h1 := Aaq ⟨k, hk⟩
 simp only at h1
 have h2 : c.toNat ^^^ 2 ^ k < 256 := Nat.xor_lt_two_pow (n := 8) c.toNat_lt (Nat.pow_lt_pow_right (by omega) hk)
 rw [UInt8.toNat_xor, h1]
 omega
theorem Vt (x : UInt8) : Value.int .i64 (IntKind.i64.wrap ((u8 ((x.toNat : Int) / 16)).toNat : Int)) = vi ((x.toNat : Int) / 16) := by
 have := x.toNat_lt
 rw [A5, L5 (by omega) (by omega)]
theorem Vs (x : UInt8) : Value.int .i64 (IntKind.i64.wrap ((u8 ((x.toNat : Int) % 16)).toNat : Int)) = vi ((x.toNat : Int) % 16) := by
 rw [A5, L5 (by omega) (by omega)]
end
def MsgIn (m : Msg) : Prop := (0 ≤ m.kind ∧ m.kind ≤ 255) ∧ (0 ≤ m.src ∧ m.src ≤ 15) ∧ (0 ≤ m.dst ∧ m.dst ≤ 15) ∧ (0 ≤ m.line ∧ m.line ≤ 255) ∧ (0 ≤ m.serial ∧ m.serial ≤ 65535) ∧ (0 ≤ m.turn ∧ m.turn ≤ 65535) ∧ (0 ≤ m.value ∧ m.value ≤ 255)
theorem MsgIn.wf {m : Msg} (h : MsgIn m) : m.wf := by unfold MsgIn at h; unfold Msg.wf Ao; omega
theorem Aao {c : Config} {m : Msg} (h : Bi c m = 0) (h1 : c.cores ≤ 15) (h2 : c.lines ≤ 256) : MsgIn m := by
 obtain ⟨g1, g2, g3, g4, g5, g6, g7⟩ := Iy h
 unfold MsgIn; omega
theorem Le (b : List UInt8) (i : Nat) : 0 ≤ at8 b i ∧ at8 b i ≤ 255 := by unfold at8; have := (b.getD i 0).toNat_lt; omega
theorem O7 (b : List UInt8) : (Gn b).wf := by
 have h0 := Le b 0; have h1 := Le b 1; have h2 := Le b 2; have h3 := Le b 3; have h4 := Le b 4; have h5 := Le b 5; have h6 := Le b 6; have h7 := Le b 7
 unfold Msg.wf Ao Gn; simp only; omega
end Go.Proofs.YtbigiimomnfpdaaGreat
namespace Go.Proofs.YtbigiimomnfpdaaGreat
open Go
def cF (v : Value) (sz i : Nat) (cs : List Value) : Fact :=
 ⟨fun m => ∃ a cells T fz, ep v sz i 0 = .pointer (some a) ∧ (∀ f, ep v sz i f = .pointer (some (a.add f))) ∧ a.spot = none ∧ m (a.block + 1) = some (.ob (.cells cells T fz)) ∧ ∀ (k : Nat) c, cs[k]? = some c → cells[a.off + k]? = some c,
  fun m m' h ⟨a, cells, T, fz, h1, h2, h3, h4, h5⟩ => ⟨a, cells, T, fz, h1, h2, h3, h _ _ h4, h5⟩⟩
section
variable {P : Program} {n : Nat} {ops : Array Oper} {Q : Exit → Act → World → Prop} {rest : List Oper} {L L' : List Chunk} {R : List Fact} {al : List (Nat × Value)} {d : Nat} {x y : Operand} {T ty : TypeId} {pos : String} {aft : Array Edge}
theorem cF_at {v : Value} {sz i f : Nat} {cs ds : List Value} (hm : cF v sz i cs ∈ R) (hd : ∀ (k : Nat) c, ds[k]? = some c → cs[f + k]? = some c) : Cx L R (ep v sz i f) ds := by
 intro w hs
 obtain ⟨m, hle, hr⟩ := hs.ex
 obtain ⟨a, cells, T, fz, h1, h2, h3, h4, h5⟩ := hr _ hm
 refine ⟨a.add f, h2 f, fun k c hk => ?_⟩
 rw [F1, Fv h3, F0 (Iq (hle _ _ h4))]
 exact h5 _ _ (hd k c hk)
theorem at_c1 {v : Value} {sz i f : Nat} {cs : List Value} {c : Value} (hm : cF v sz i cs ∈ R) (hc : cs[f]? = some c) : Cx L R (ep v sz i f) [c] :=
 cF_at hm fun k c' hk => by
  match k, hk with
  | 0, hk => simp at hk; subst hk; exact hc
  | k + 1, hk => simp at hk
theorem Y0 {v : Value} {sz i : Nat} {cs : List Value} (hm : cF v sz i cs ∈ R) : Cx L R (ep v sz i 0) cs := cF_at hm fun k c hk => by rw [Nat.zero_add]; exact hk
variable {α : Type} [Enc α] {v : Value} {xs : List α} {i : Nat} {e : α}
theorem Rz {m : Mem} (h : isSlice v xs m) (hi : xs[i]? = some e) : ∃ cs, Enc.rd e cs m ∧ (cF v (Enc.sz α) i cs).p m := by
 obtain ⟨base, cap, hv, hn, hc⟩ := h
 have hne : xs ≠ [] := by intro h0; rw [h0] at hi; simp at hi
 obtain ⟨a, cells, T, fz, cs, h1, h2, h3, h4, h5⟩ := hc hne
 obtain ⟨p, c, q, e1, e2, e3, _⟩ := h5.get hi
 subst h1
 refine ⟨c, e3, a.add (i * Enc.sz α), cells, T, fz, by rw [hv, Lk, Nat.add_zero], fun f => by rw [hv, Lk, F1], by rw [Fv h2], by rw [Fv h2]; exact h3, fun k u hk => ?_⟩
 rw [Fv h2]
 have hcs : cs[i * Enc.sz α + k]? = some u := by
  rw [e1, List.append_assoc, List.getElem?_append_right (by omega), show i * Enc.sz α + k - p.length = k by omega, List.getElem?_append_left]
  ·exact hk
  ·exact (List.getElem?_eq_some_iff.1 hk).1
 rw [← h4, List.getElem?_take] at hcs
 split at hcs
 ·rw [List.getElem?_drop] at hcs
  rw [← Array.getElem?_toList, ← hcs, Nat.add_assoc]
 ·cases hcs
end
class El0 (α : Type) [Enc α] where
 cs : α → List Value
 wf : α → Prop
 df : α
 ok : ∀ (x : α) ds m, Enc.rd x ds m → ds = cs x ∧ wf x
class El1 (α : Type) (β : outParam Type) [Enc α] [Enc β] where
 cs : Value → α → List Value
 wf : α → Prop
 df : α
 sub : α → List β
 ok : ∀ (x : α) ds m, Enc.rd x ds m → ∃ u, ds = cs u x ∧ isSlice u (sub x) m ∧ wf x
instance e0Int : El0 Int := ⟨fun x => [vi x], Ao, 0, fun _ _ _ h => h⟩
instance e0Byte : El0 UInt8 := ⟨fun x => [vb x], fun _ => True, 0, fun _ _ _ h => ⟨h, trivial⟩⟩
instance e0Msg : El0 Msg := ⟨Msg.cells, Msg.wf, zMsg, fun _ _ _ h => h⟩
instance e0Line : El0 Line := ⟨Line.cells, Line.wf, zLine, fun _ _ _ h => h⟩
instance e0Op : El0 Op := ⟨Op.cells, Op.wf, zOp, fun _ _ _ h => h⟩
instance e0Step : El0 Step := ⟨Step.cells, Step.wf, zStep, fun _ _ _ h => h⟩
instance e0Pair : El0 (Int × Int) := ⟨fun x => [vi x.1, vi x.2], fun x => Ao x.1 ∧ Ao x.2, (0, 0), fun _ _ _ h => h⟩
instance e1List {β : Type} [Enc β] : El1 (List β) β := ⟨fun u _ => [u], fun _ => True, [], fun x => x, fun _ _ _ h => by obtain ⟨u, h1, h2⟩ := h; exact ⟨u, h1, h2, trivial⟩⟩
instance e1Core : El1 Core Line := ⟨fun u x => x.cells u, fun x => x.wait.wf, Er, fun x => x.lines, fun _ _ _ h => h⟩
instance e1Entry : El1 Entry Int := ⟨fun u x => x.cells u, fun x => x.wf, Az, fun x => x.last, fun _ _ _ h => h⟩
section
variable {P : Program} {n : Nat} {ops : Array Oper} {Q : Exit → Act → World → Prop} {L L' : List Chunk} {R : List Fact} {al : List (Nat × Value)}
variable {α β : Type} [Enc α] [Enc β] {v : Value} {xs : List α}
theorem St.open0 [El0 α] {w : World} (i : Nat) (hm : sl v xs ∈ R) (hi : i < xs.length) (hs : St L R w) : El0.wf (xs.getD i El0.df) ∧ St L (cF v (Enc.sz α) i (El0.cs (xs.getD i El0.df)) :: R) w := by
 obtain ⟨m, j, hd, hmw, hjw, hst, hr⟩ := hs
 obtain ⟨cs, h1, h2⟩ := Rz (hr _ hm) (getD_some El0.df hi)
 obtain ⟨rfl, h4⟩ := El0.ok _ _ _ h1
 refine ⟨h4, m, j, hd, hmw, hjw, hst, fun g hg => ?_⟩
 cases List.mem_cons.1 hg with
 | inl e => rw [e]; exact h2
 | inr e => exact hr g e
theorem St.open1 [El1 α β] {w : World} (i : Nat) (hm : sl v xs ∈ R) (hi : i < xs.length) (hs : St L R w) : El1.wf (xs.getD i El1.df) ∧ ∃ u, St L (cF v (Enc.sz α) i (El1.cs u (xs.getD i El1.df)) :: sl u (El1.sub (xs.getD i El1.df)) :: R) w := by
 obtain ⟨m, j, hd, hmw, hjw, hst, hr⟩ := hs
 obtain ⟨cs, h1, h2⟩ := Rz (hr _ hm) (getD_some El1.df hi)
 obtain ⟨u, rfl, h3, h4⟩ := El1.ok _ _ _ h1
 refine ⟨h4, u, m, j, hd, hmw, hjw, hst, fun g hg => ?_⟩
 cases List.mem_cons.1 hg with
 | inl e => rw [e]; exact h2
 | inr e => cases List.mem_cons.1 e with
  | inl e => rw [e]; exact h3
  | inr e => exact hr g e
theorem JC.open0 [El0 α] {c : Code} (i : Nat) (hm : sl v xs ∈ R) (hi : i < xs.length) (k : El0.wf (xs.getD i El0.df) → JC P n c Q L (cF v (Enc.sz α) i (El0.cs (xs.getD i El0.df)) :: R) al) : JC P n c Q L R al :=
 fun B w hs => let h := hs.open0 i hm hi; k h.1 B w h.2
theorem J.open0 [El0 α] {l : List Oper} (i : Nat) (hm : sl v xs ∈ R) (hi : i < xs.length) (k : El0.wf (xs.getD i El0.df) → J P n ops Q l L (cF v (Enc.sz α) i (El0.cs (xs.getD i El0.df)) :: R) al) : J P n ops Q l L R al :=
 fun B w hs => let h := hs.open0 i hm hi; k h.1 B w h.2
theorem JC.open1 [El1 α β] {c : Code} (i : Nat) (hm : sl v xs ∈ R) (hi : i < xs.length) (k : El1.wf (xs.getD i El1.df) → ∀ u, JC P n c Q L (cF v (Enc.sz α) i (El1.cs u (xs.getD i El1.df)) :: sl u (El1.sub (xs.getD i El1.df)) :: R) al) : JC P n c Q L R al :=
 fun B w hs => let ⟨h, u, h'⟩ := hs.open1 i hm hi; k h u B w h'
theorem J.open1 [El1 α β] {l : List Oper} (i : Nat) (hm : sl v xs ∈ R) (hi : i < xs.length) (k : El1.wf (xs.getD i El1.df) → ∀ u, J P n ops Q l L (cF v (Enc.sz α) i (El1.cs u (xs.getD i El1.df)) :: sl u (El1.sub (xs.getD i El1.df)) :: R) al) : J P n ops Q l L R al :=
 fun B w hs => let ⟨h, u, h'⟩ := hs.open1 i hm hi; k h u B w h'
end
def Raw (k : Nat) : Type := { l : List Value // l.length = k ∧ ∀ u ∈ l, u.oneCell' = true }
instance instEncRaw {k : Nat} : Enc (Raw k) where
 sz := k
 rd x cs _ := cs = x.1
 mono _ _ _ _ _ h := h
 len x cs _ h := by rw [h]; exact x.2.1
 one x cs _ h := by rw [h]; exact x.2.2
def foc {α : Type} [Enc α] (T : TypeId) (v : Value) (xs : List α) (i : Nat) (cs : List Value) : Chunk :=
 ⟨fun m j => ∃ rs : List (Raw (Enc.sz α)), (row T v rs).p m j ∧ rs.length = xs.length ∧ (∃ r, rs[i]? = some r ∧ r.1 = cs) ∧ ∀ (k : Nat) e r, k ≠ i → xs[k]? = some e → rs[k]? = some r → Enc.rd e r.1 j,
  fun m j j' h ⟨rs, h1, h2, h3, h4⟩ => ⟨rs, (row T v rs).mono _ _ _ h h1, h2, h3, fun k e r hk he hr => Enc.mono _ _ _ _ h (h4 k e r hk he hr)⟩⟩
section
variable {α : Type} [Enc α]
theorem RdL.raw {m : Mem} : ∀ {xs : List α} {cs : List Value}, RdL xs cs m → ∃ rs : List (Raw (Enc.sz α)), RdL rs cs m ∧ rs.length = xs.length ∧ ∀ (k : Nat) e r, xs[k]? = some e → rs[k]? = some r → Enc.rd e r.1 m
 | [], cs, h => ⟨[], h, rfl, fun k e r h' => by simp at h'⟩
 | x :: xs, cs, ⟨c1, c2, h1, h2, h3⟩ => by
  obtain ⟨rs, e1, e2, e3⟩ := RdL.raw h3
  obtain ⟨r0, hr0⟩ : ∃ r0 : Raw (Enc.sz α), r0.1 = c1 := ⟨⟨c1, Enc.len _ _ _ h2, Enc.one _ _ _ h2⟩, rfl⟩
  refine ⟨r0 :: rs, ⟨c1, c2, h1, hr0.symm, e1⟩, by simp [e2], fun k e r hx hr => ?_⟩
  cases k with
  | zero =>
   have ex : x = e := by simpa using hx
   have er : r0 = r := by simpa using hr
   rw [← ex, ← er, hr0]; exact h2
  | succ k => exact e3 k e r (by simpa using hx) (by simpa using hr)
theorem RdL.typed {m : Mem} : ∀ {xs : List α} {rs : List (Raw (Enc.sz α))} {cs : List Value}, RdL rs cs m → rs.length = xs.length → (∀ (k : Nat) e r, xs[k]? = some e → rs[k]? = some r → Enc.rd e r.1 m) → RdL xs cs m
 | [], [], cs, h, _, _ => h
 | [], _ :: _, _, _, hl, _ => by simp at hl
 | _ :: _, [], _, _, hl, _ => by simp at hl
 | x :: xs, r :: rs, cs, ⟨c1, c2, h1, h2, h3⟩, hl, hr => by
  refine ⟨c1, c2, h1, ?_, RdL.typed h3 (by simpa using hl) (fun k e r' hx hr' => hr (k + 1) e r' (by simpa using hx) (by simpa using hr'))⟩
  have := hr 0 x r rfl rfl
  rw [show c1 = r.1 from h2]; exact this
theorem Kp {T : TypeId} {v : Value} {xs : List α} {m j : Mem} (h : (row T v xs).p m j) : ∃ rs : List (Raw (Enc.sz α)), (row T v rs).p m j ∧ rs.length = xs.length ∧ ∀ (k : Nat) e r, xs[k]? = some e → rs[k]? = some r → Enc.rd e r.1 j := by
 obtain ⟨h0, hv | ⟨g, cap, cur, cs, hv, hg, hcap, hml, hsz, htk, hrd⟩⟩ := h
 ·exact ⟨[], ⟨Nat.zero_le _, .inl ⟨hv.1, rfl⟩⟩, by rw [hv.2]; rfl, fun k e r hx => by rw [hv.2] at hx; simp at hx⟩
 ·obtain ⟨rs, e1, e2, e3⟩ := hrd.raw
  exact ⟨rs, ⟨by rw [e2]; exact h0, .inr ⟨g, cap, cur, cs, by rw [e2]; exact hv, hg, by rw [e2]; exact hcap, hml, hsz, by rw [e2]; exact htk, e1⟩⟩, e2, e3⟩
theorem Sa {T : TypeId} {v : Value} {xs : List α} {rs : List (Raw (Enc.sz α))} {m j : Mem} (h : (row T v rs).p m j) (hl : rs.length = xs.length) (hr : ∀ (k : Nat) e r, xs[k]? = some e → rs[k]? = some r → Enc.rd e r.1 j) : (row T v xs).p m j := by
 obtain ⟨h0, hv | ⟨g, cap, cur, cs, hv, hg, hcap, hml, hsz, htk, hrd⟩⟩ := h
 ·have : xs = [] := by rw [hv.2] at hl; exact List.length_eq_zero_iff.1 hl.symm
  exact ⟨by rw [← hl]; exact h0, .inl ⟨hv.1, this⟩⟩
 ·exact ⟨by rw [← hl]; exact h0, .inr ⟨g, cap, cur, cs, by rw [← hl]; exact hv, hg, by rw [← hl]; exact hcap, hml, hsz, by rw [← hl]; exact htk, hrd.typed hl hr⟩⟩
end
section
variable {P : Program} {n : Nat} {ops : Array Oper} {Q : Exit → Act → World → Prop} {rest : List Oper} {L L' : List Chunk} {R : List Fact} {al : List (Nat × Value)} {d : Nat} {x y : Operand} {T ty : TypeId} {pos : String} {aft : Array Edge}
variable {α β : Type} [Enc α] [Enc β] {v : Value} {xs : List α} {i : Nat}
theorem St.focus {w : World} (hi : i < xs.length) (hs : St (row T v xs :: L) R w) : ∃ cs, St (foc T v xs i cs :: L) R w ∧ cs.length = Enc.sz α ∧ ∃ j e, xs[i]? = some e ∧ Enc.rd e cs j ∧ Mem.le j (Cv w) ∧ ∀ f ∈ R, f.p j := by
 obtain ⟨m, j, hd, hm, hj, ⟨m1, m2, hd', h1, h2, hc, hst⟩, hr⟩ := hs
 obtain ⟨rs, e1, e2, e3⟩ := Kp hc
 have hi' : i < rs.length := by omega
 refine ⟨(rs[i]'hi').1, ⟨m, j, hd, hm, hj, ⟨m1, m2, hd', h1, h2, ⟨rs, e1, e2, ⟨_, List.getElem?_eq_getElem hi', rfl⟩, fun k e r _ => e3 k e r⟩, hst⟩, hr⟩, (rs[i]'hi').2.1, j, xs[i], List.getElem?_eq_getElem hi, e3 i _ _ (List.getElem?_eq_getElem hi) (List.getElem?_eq_getElem hi'), hj, hr⟩
theorem St.focus0 [El0 α] {w : World} (hi : i < xs.length) (hs : St (row T v xs :: L) R w) : El0.wf (xs.getD i El0.df) ∧ St (foc T v xs i (El0.cs (xs.getD i El0.df)) :: L) R w := by
 obtain ⟨cs, h1, h2, j, e, h3, h4, h5, h6⟩ := hs.focus hi
 have : xs.getD i El0.df = e := by simp [List.getD_eq_getElem?_getD, h3]
 rw [this]
 obtain ⟨rfl, hw⟩ := El0.ok _ _ _ h4
 exact ⟨hw, h1⟩
theorem St.focus1 [El1 α β] {w : World} (hi : i < xs.length) (hs : St (row T v xs :: L) R w) : El1.wf (xs.getD i El1.df) ∧ ∃ u, St (foc T v xs i (El1.cs u (xs.getD i El1.df)) :: L) (sl u (El1.sub (xs.getD i El1.df)) :: R) w := by
 obtain ⟨m, j, hd, hm, hj, ⟨m1, m2, hd', h1, h2, hc, hst⟩, hr⟩ := hs
 obtain ⟨rs, e1, e2, e3⟩ := Kp hc
 have hi' : i < rs.length := by omega
 have hx : xs.getD i El1.df = xs[i] := by simp [List.getD_eq_getElem?_getD, hi]
 rw [hx]
 obtain ⟨u, g1, g2, g3⟩ := El1.ok _ _ _ (e3 i _ _ (List.getElem?_eq_getElem hi) (List.getElem?_eq_getElem hi'))
 refine ⟨g3, u, m, j, hd, hm, hj, ⟨m1, m2, hd', h1, h2, ⟨rs, e1, e2, ⟨_, List.getElem?_eq_getElem hi', g1⟩, fun k e r _ => e3 k e r⟩, hst⟩, fun f hf => ?_⟩
 cases List.mem_cons.1 hf with
 | inl e => rw [e]; exact g2
 | inr e => exact hr f e
theorem St.unfocus {w : World} {cs : List Value} {e : α} (he : ∀ j, (∀ f ∈ R, f.p j) → Enc.rd e cs j) (hs : St (foc T v xs i cs :: L) R w) : St (row T v (xs.set i e) :: L) R w := by
 obtain ⟨m, j, hd, hm, hj, ⟨m1, m2, hd', h1, h2, ⟨rs, e1, e2, ⟨r0, e3, e4⟩, e5⟩, hst⟩, hr⟩ := hs
 refine ⟨m, j, hd, hm, hj, ⟨m1, m2, hd', h1, h2, Sa e1 (by simpa using e2) (fun k e' r hx hk => ?_), hst⟩, hr⟩
 by_cases h : k = i
 ·subst h
  have hlt : k < xs.length := by
   have := (List.getElem?_eq_some_iff.1 e3).1; omega
  rw [List.getElem?_set_self hlt] at hx
  cases hx
  rw [e3] at hk; cases hk
  rw [e4]; exact he j hr
 ·rw [List.getElem?_set_ne (Ne.symm h)] at hx
  exact e5 k e' r h hx hk
theorem Xo {w : World} {cs : List Value} (hs : St (foc T v xs i cs :: L) R w) : ∃ rs : List (Raw (Enc.sz α)), St (row T v rs :: L) R w ∧ ∃ r, rs[i]? = some r ∧ r.1 = cs := by
 obtain ⟨m, j, hd, hm, hj, ⟨m1, m2, hd', h1, h2, ⟨rs, e1, e2, e3, e5⟩, hst⟩, hr⟩ := hs
 exact ⟨rs, ⟨m, j, hd, hm, hj, ⟨m1, m2, hd', h1, h2, e1, hst⟩, hr⟩, e3⟩
theorem Aea {f sz : Nat} {cs ds : List Value} (hp : Pick L (foc T v xs i cs) L') (hsz : Enc.sz α = sz) (hd : ∀ (k : Nat) c, ds[k]? = some c → cs[f + k]? = some c) : Cx L R (ep v sz i f) ds := by
 subst hsz
 intro w hs
 obtain ⟨rs, h1, r, h2, h3⟩ := Xo (hs.pick hp)
 exact Ajo (α := Raw (Enc.sz α)) (L := row T v rs :: L') (f := f) .hd h2 (fun cs' m hr k c hk => by rw [show cs' = r.1 from hr, h3]; exact hd k c hk) w h1
theorem at_f1 {f sz : Nat} {cs : List Value} {c : Value} (hp : Pick L (foc T v xs i cs) L') (hsz : Enc.sz α = sz) (hc : cs[f]? = some c) : Cx L R (ep v sz i f) [c] :=
 Aea hp hsz fun k c' hk => by
  match k, hk with
  | 0, hk => simp at hk; subst hk; exact hc
  | k + 1, hk => simp at hk
theorem Nj {sz : Nat} {cs : List Value} (hp : Pick L (foc T v xs i cs) L') (hsz : Enc.sz α = sz) : Cx L R (ep v sz i 0) cs := Aea hp hsz fun k c hk => by rw [Nat.zero_add]; exact hk
theorem Q0 {w : World} {f : Nat} {cs us : List Value} (hs : St (foc T v xs i cs :: L) R w) (h1 : ∀ u ∈ us, u.oneCell' = true) (hf : f + us.length ≤ cs.length) :
  ∃ g cap cur, v = .slice (some ⟨g, 0, none⟩) xs.length cap ∧ w.heap[g]? = some (.cells cur T (0, 0)) ∧ i * Enc.sz α + f + us.length ≤ cur.size ∧
   St (foc T v xs i (cs.take f ++ us ++ cs.drop (f + us.length)) :: L) R (w.setRow g (cur.toList.take (i * Enc.sz α + f) ++ us ++ cur.toList.drop (i * Enc.sz α + f + us.length)).toArray) := by
 obtain ⟨m, j, hd, hm, hj, ⟨m1, m2, hd', g1, g2, ⟨rs, e1, e2, ⟨r0, e3, e4⟩, e5⟩, hst⟩, hr⟩ := hs
 have hlen : (cs.take f ++ us ++ cs.drop (f + us.length)).length = cs.length := by simp; omega
 have hcs : cs.length = Enc.sz α := by rw [← e4]; exact r0.2.1
 let r1 : Raw (Enc.sz α) := ⟨cs.take f ++ us ++ cs.drop (f + us.length), by rw [hlen]; exact hcs, fun u hu => by
  rcases List.mem_append.1 hu with h | h
  ·rcases List.mem_append.1 h with h | h
   ·exact r0.2.2 u (by rw [e4]; exact List.mem_of_mem_take h)
   ·exact h1 u h
  ·exact r0.2.2 u (by rw [e4]; exact List.mem_of_mem_drop h)⟩
 -- one piece for all others, with what is Ez of them
 have hK : St (row T v rs :: L) (⟨fun m => ∀ (k : Nat) e r, k ≠ i → xs[k]? = some e → rs[k]? = some r → Enc.rd e r.1 m, fun m m' h hp k e r hk he hr' => Enc.mono _ _ _ _ h (hp k e r hk he hr')⟩ :: R) w :=
  ⟨m, j, hd, hm, hj, ⟨m1, m2, hd', g1, g2, e1, hst⟩, fun q hq => by
   cases List.mem_cons.1 hq with
   | inl e => rw [e]; exact e5
   | inr e => exact hr q e⟩
 obtain ⟨g, cap, cur, hv, hg, hfit, hst'⟩ := Mf (w' := w) (e := r0) (e' := r1) (f := f) (cs := us) hK e3 (fun ds m hr => by rw [show ds = r0.1 from hr, e4]; exact hf) (fun j _ ds hr => by
  rw [show ds = r0.1 from hr, e4]; rfl)
 refine ⟨g, cap, cur, by rw [hv, e2], hg, hfit, ?_⟩
 obtain ⟨m', j', hd2, hm', hj', ⟨n1, n2, hd3, k1, k2, hc', hst2⟩, hr'⟩ := hst'
 have hilt : i < rs.length := (List.getElem?_eq_some_iff.1 e3).1
 refine ⟨m', j', hd2, hm', hj', ⟨n1, n2, hd3, k1, k2, ⟨rs.set i r1, hc', by simpa using e2, ⟨r1, List.getElem?_set_self hilt, rfl⟩, fun k e r hk he hrk => ?_⟩, hst2⟩, fun q hq => hr' q (List.mem_cons_of_mem _ hq)⟩
 rw [List.getElem?_set_ne (Ne.symm hk)] at hrk
 exact hr' _ (List.mem_cons_self ..) k e r hk he hrk
theorem Z8 {f sz k : Nat} {c : Value} {cs us : List Value} {T' : TypeId} (hsz : ∀ w, (sizeOf T).run P w = .ok k w) (hx : ev n al x = some (ep v sz i f)) (hy : ev n al y = some c) (hc : c.cells = us.toArray) (hl : us.length = k) (h1 : ∀ u ∈ us, u.oneCell' = true)
  (hp : Pick L (foc T' v xs i cs) L') (hes : Enc.sz α = sz) (hf : Nat.ble (f + us.length) cs.length = true) {cs' : List Value} (hcs : cs.take f ++ us ++ cs.drop (f + us.length) = cs')
  (kk : J P n ops Q rest (foc T' v xs i cs' :: L') R al) : J P n ops Q (⟨none, .store T x y, ty, pos, aft, none⟩ :: rest) L R al :=
 J.skip rfl rfl (fun B w hs => by
  subst hes
  obtain ⟨g, cap, cur, hv, hg, hfit, hst⟩ := Q0 (hs.pick hp) h1 (Nat.le_of_ble_eq_true hf)
  refine ⟨_, Fa ?_, by rw [← hcs]; exact hst⟩
  rw [Bf hx, Bf hy, hv, Lk, Gw]
  have := run_storeCells_at P g (i * Enc.sz α + f) T' us 0 cur w hg (by simpa using hfit) h1
  simp only [Nat.add_zero, Nat.zero_add] at this ⊢
  subst hl
  simp [Instr.storeAt, Instr.sureAddr, storeVar, hsz, hc, this]) kk
theorem J.focus0 [El0 α] {l : List Oper} (i : Nat) (hp : Pick L (row T v xs) L') (hi : i < xs.length) (k : El0.wf (xs.getD i El0.df) → J P n ops Q l (foc T v xs i (El0.cs (xs.getD i El0.df)) :: L') R al) : J P n ops Q l L R al :=
 fun B w hs => let h := (hs.pick hp).focus0 hi; k h.1 B w h.2
theorem JC.focus0 [El0 α] {c : Code} (i : Nat) (hp : Pick L (row T v xs) L') (hi : i < xs.length) (k : El0.wf (xs.getD i El0.df) → JC P n c Q (foc T v xs i (El0.cs (xs.getD i El0.df)) :: L') R al) : JC P n c Q L R al :=
 fun B w hs => let h := (hs.pick hp).focus0 hi; k h.1 B w h.2
theorem JC.focus1 [El1 α β] {c : Code} (i : Nat) (hp : Pick L (row T v xs) L') (hi : i < xs.length) (k : El1.wf (xs.getD i El1.df) → ∀ u, JC P n c Q (foc T v xs i (El1.cs u (xs.getD i El1.df)) :: L') (sl u (El1.sub (xs.getD i El1.df)) :: R) al) : JC P n c Q L R al :=
 fun B w hs => let ⟨h, u, h'⟩ := (hs.pick hp).focus1 hi; k h u B w h'
theorem J.unfocus {l : List Oper} {cs : List Value} (e : α) (hp : Pick L (foc T v xs i cs) L') (he : ∀ j, (∀ f ∈ R, f.p j) → Enc.rd e cs j) (k : J P n ops Q l (row T v (xs.set i e) :: L') R al) : J P n ops Q l L R al :=
 fun B w hs => k B w ((hs.pick hp).unfocus he)
theorem JC.unfocus {c : Code} {cs : List Value} (e : α) (hp : Pick L (foc T v xs i cs) L') (he : ∀ j, (∀ f ∈ R, f.p j) → Enc.rd e cs j) (k : JC P n c Q (row T v (xs.set i e) :: L') R al) : JC P n c Q L R al :=
 fun B w hs => k B w ((hs.pick hp).unfocus he)
end
end Go.Proofs.YtbigiimomnfpdaaGreat
namespace Go.Proofs.YtbigiimomnfpdaaGreat
open Go
section
variable {P : Program} {n : Nat} {ops : Array Oper} {Q : Exit → Act → World → Prop} {rest : List Oper} {L L' : List Chunk} {R : List Fact} {al : List (Nat × Value)} {d : Nat} {x y : Operand} {T ty : TypeId} {pos : String} {aft : Array Edge}
theorem mm {f : Fact} (h : f ∈ R := by first | assumption | exact .head _ | (refine .tail _ ?_; first | assumption | exact .head _ | (refine .tail _ ?_; first | assumption | exact .head _ | (refine .tail _ ?_; first | assumption | exact .head _ | (refine .tail _ ?_; first | assumption | exact .head _ | (refine .tail _ ?_; first | assumption | exact .head _ | (refine .tail _ ?_; first | assumption | exact .head _ | (refine .tail _ ?_; first | assumption | exact .head _ | (refine .tail _ ?_; first | assumption | exact .head _ | (refine .tail _ ?_; first | assumption | exact .head _ | (refine .tail _ ?_; first | assumption | exact .head _ | (refine .tail _ ?_; first | assumption | exact .head _ | (refine .tail _ ?_; first | assumption | exact .head _ | (refine .tail _ ?_; first | assumption | exact .head _ | (refine .tail _ ?_; first | assumption | exact .head _ | (refine .tail _ ?_; first | assumption | exact .head _ | (refine .tail _ ?_; first | assumption | exact .head _ | (refine .tail _ ?_; first | assumption | exact .head _ | (refine .tail _ ?_; first | assumption | exact .head _ | (refine .tail _ ?_; first | assumption | exact .head _ | (refine .tail _ ?_; first | assumption | exact .head _ | (refine .tail _ ?_; first | assumption | exact .head _ | (refine .tail _ ?_; first | assumption | exact .head _ | (refine .tail _ ?_; first | assumption | exact .head _ | (refine .tail _ ?_; first | assumption | exact .head _ | (refine .tail _ ?_; first | assumption | exact .head _ | (refine .tail _ ?_; first | assumption | exact .head _))))))))))))))))))))))))))) : f ∈ R := h
theorem pkk {c : Chunk} (h : Pick L c L' := by first | exact .hd | (apply Pick.tl; first | exact .hd | (apply Pick.tl; first | exact .hd | (apply Pick.tl; first | exact .hd | (apply Pick.tl; first | exact .hd | (apply Pick.tl; first | exact .hd | (apply Pick.tl; first | exact .hd | (apply Pick.tl; first | exact .hd | (apply Pick.tl; first | exact .hd | (apply Pick.tl; first | exact .hd | (apply Pick.tl; first | exact .hd | (apply Pick.tl; first | exact .hd | (apply Pick.tl; exact .hd))))))))))))) : Pick L c L' := h
theorem Ag {R' : List Fact} {w : World} (hs : St L R w) (hl : LSub L L' := by repeat (first | exact .refl | exact .nil | (apply LSub.cons; focus (exact pkk)) | apply LSub.drop)) (hf : FSub R R' := by repeat (first | exact FSub.refl | exact FSub.nil | (apply FSub.cons; focus (exact mm)) | apply FSub.drop)) : St L' R' w := hs.sub hl hf
theorem Aes {w : World} (hs : St L R w) (hl : LSub L L' := by repeat (first | exact .refl | (apply LSub.cons; focus (exact pkk)) | exact .nil)) : St L' R w := hs.sub hl (fun f h => h)
theorem Dy : ∀ u ∈ ([] : List Value), u.oneCell' = true := fun _ h => by cases h
theorem Bl {c : Value} {l : List Value} (hc : c.oneCell' = true) (hl : ∀ u ∈ l, u.oneCell' = true) : ∀ u ∈ c :: l, u.oneCell' = true := fun u h => by
 cases List.mem_cons.1 h with
 | inl e => rw [e]; exact hc
 | inr e => exact hl u e
theorem Ls {v : Value} (hx : ev n al x = some v := by exact rfl) : A2 P n al L R ⟨some d, .move x, ty, pos, aft, none⟩ v :=
 ⟨rfl, fun ρ w h _ => by show Result.ok (Next.value _) w = _; rw [h x (by simp [Op.operands]) _ hx]⟩
theorem Df {v : Value} (hx : ev n al x = some v := by exact rfl) : A2 P n al L R ⟨some d, .assign x, ty, pos, aft, none⟩ v :=
 ⟨rfl, fun ρ w h _ => by show Result.ok (Next.value _) w = _; rw [h x (by simp [Op.operands]) _ hx]⟩
theorem Eo {c : Operand} {v : Value} (hc : ev n al c = some (.bool true) := by exact rfl) (hx : ev n al x = some v := by exact rfl) : A2 P n al L R ⟨some d, .pick c x y, ty, pos, aft, none⟩ v :=
 ⟨rfl, fun ρ w h _ => by simp [execOp, h c (by simp [Op.operands]) _ hc, h x (by simp [Op.operands]) _ hx, asBool, bind, pure, Sem.bind, Sem.run]⟩
theorem Adt {c : Operand} {v : Value} (hc : ev n al c = some (.bool false) := by exact rfl) (hy : ev n al y = some v := by exact rfl) : A2 P n al L R ⟨some d, .pick c x y, ty, pos, aft, none⟩ v :=
 ⟨rfl, fun ρ w h _ => by simp [execOp, h c (by simp [Op.operands]) _ hc, h y (by simp [Op.operands]) _ hy, asBool, bind, pure, Sem.bind, Sem.run]⟩
theorem O2 {b : Bool} (hx : ev n al x = some (.bool b) := by exact rfl) : A2 P n al L R ⟨some d, .unOp .not T x, ty, pos, aft, none⟩ (.bool (!b)) :=
 ⟨rfl, fun ρ w h _ => by simp [execOp, h x (by simp [Op.operands]) _ hx, Op.unary]⟩
theorem N6 {p : Prop} {hd : Decidable p} (hx : ev n al x = some (.bool (decide p)) := by exact rfl) : A2 P n al L R ⟨some d, .unOp .not T x, ty, pos, aft, none⟩ (.bool (decide (¬ p))) := by
 have := O2 (P := P) (L := L) (R := R) (T := T) (d := d) (ty := ty) (pos := pos) (aft := aft) hx
 rw [decide_not]; exact this
theorem Ef {b : Bool} (hx : ev n al x = some (.bool b)) (hb : b = true) : A2 P n al L R ⟨some d, .unOp .not T x, ty, pos, aft, none⟩ (.bool false) := by
 have := O2 (P := P) (L := L) (R := R) (T := T) (d := d) (ty := ty) (pos := pos) (aft := aft) hx
 rw [hb] at this; exact this
theorem Mo {b : Bool} (hx : ev n al x = some (.bool b)) (hb : b = false) : A2 P n al L R ⟨some d, .unOp .not T x, ty, pos, aft, none⟩ (.bool true) := by
 have := O2 (P := P) (L := L) (R := R) (T := T) (d := d) (ty := ty) (pos := pos) (aft := aft) hx
 rw [hb] at this; exact this
theorem Rp {k : IntKind} {a b : Int} (w : World) : (binOp .eql T (.int k a) (.int k b)).run P w = .ok (.bool (decide (a = b))) w := by rw [Ajm]; by_cases h : a = b <;> simp [h]
theorem Rn {k : IntKind} {a b : Int} (w : World) : (binOp .neq T (.int k a) (.int k b)).run P w = .ok (.bool (decide (a ≠ b))) w := by rw [Yu]; by_cases h : a = b <;> simp [h]
theorem b_snD {a b : List UInt8} (w : World) : (binOp .neq T (.string (Nm a)) (.string (Nm b))).run P w = .ok (.bool (decide (a ≠ b))) w := by rw [Aji, decide_not]
theorem E6 {op : BinOp} {k k' : IntKind} {a b : Int} {v : Value} {U : TypeId} (hv : ∀ w : World, (binOp op T (.int k a) (.int k' b)).run P w = .ok v w) (hx : ev n al x = some (.int k a) := by exact rfl) (hy : ev n al y = some (.int k' b) := by exact rfl) : A2 P n al L R ⟨some d, .binOp op T x y U, ty, pos, aft, none⟩ v := Am hx hy hv
theorem q_s {op : BinOp} {a b : ByteArray} {v : Value} {U : TypeId} (hv : ∀ w : World, (binOp op T (.string a) (.string b)).run P w = .ok v w) (hx : ev n al x = some (.string a) := by exact rfl) (hy : ev n al y = some (.string b) := by exact rfl) : A2 P n al L R ⟨some d, .binOp op T x y U, ty, pos, aft, none⟩ v := p_str hx hy hv
theorem Fx {a b : Int} {U : TypeId} (hx : ev n al x = some (vi a) := by exact rfl) (hy : ev n al y = some (vi b) := by exact rfl) (h1 : -9223372036854775808 ≤ a + b := by omega) (h2 : a + b ≤ 9223372036854775807 := by omega) : A2 P n al L R ⟨some d, .binOp .add T x y U, ty, pos, aft, none⟩ (vi (a + b)) := Am hx hy (Ll h1 h2)
theorem E9 {a b : Nat} {U : TypeId} (hx : ev n al x = some (vi (a : Int)) := by exact rfl) (hy : ev n al y = some (vi (b : Int)) := by exact rfl) (h2 : a + b ≤ 9223372036854775807 := by omega) : A2 P n al L R ⟨some d, .binOp .add T x y U, ty, pos, aft, none⟩ (vi ((a + b : Nat) : Int)) := Am hx hy (Aem h2)
theorem Qf {a b : Int} {U : TypeId} (hx : ev n al x = some (vi a) := by exact rfl) (hy : ev n al y = some (vi b) := by exact rfl) (h1 : -9223372036854775808 ≤ a - b := by omega) (h2 : a - b ≤ 9223372036854775807 := by omega) : A2 P n al L R ⟨some d, .binOp .sub T x y U, ty, pos, aft, none⟩ (vi (a - b)) := Am hx hy (Yr h1 h2)
theorem Np {a b : Int} {U : TypeId} (hx : ev n al x = some (vi a) := by exact rfl) (hy : ev n al y = some (vi b) := by exact rfl) (h1 : -9223372036854775808 ≤ a * b := by omega) (h2 : a * b ≤ 9223372036854775807 := by omega) : A2 P n al L R ⟨some d, .binOp .mul T x y U, ty, pos, aft, none⟩ (vi (a * b)) := Am hx hy (Ng h1 h2)
def EpOk (L : List Chunk) (R : List Fact) (v : Value) (sz i : Nat) : Prop := ∀ w, St L R w → ∃ a : Addr, ∀ f, ep v sz i f = .pointer (some (a.add f))
theorem ok_c {v : Value} {sz i : Nat} {cs : List Value} (hm : cF v sz i cs ∈ R) : EpOk L R v sz i := fun w hs => by
 obtain ⟨m, hle, hr⟩ := hs.ex
 obtain ⟨a, cells, T, fz, h1, h2, h3, h4, h5⟩ := hr _ hm
 exact ⟨a, h2⟩
theorem ok_l {v : Value} {sz i len : Nat} (hl : Dv L R v len) (h0 : 0 < len) : EpOk L R v sz i := fun w hs => by
 obtain ⟨base, cap, rfl, hb⟩ := hl w hs
 obtain ⟨a, rfl⟩ := hb h0
 exact ⟨a.add (i * sz), fun f => by rw [Lk, F1]⟩
theorem Y6 {α : Type} [Enc α] {v : Value} {sz i : Nat} {xs : List α} {cs : List Value} (hp : Pick L (foc T v xs i cs) L') : EpOk L R v sz i := fun w hs => by
 obtain ⟨rs, h1, r, h2, h3⟩ := Xo (hs.pick hp)
 have hlt : i < rs.length := (List.getElem?_eq_some_iff.1 h2).1
 exact ok_l (Da .hd) (by omega) w h1
def EpAll (v : Value) (sz i : Nat) : Prop := ∃ a : Addr, ∀ f, ep v sz i f = .pointer (some (a.add f))
theorem ok_a {v : Value} {sz i : Nat} (h : EpAll v sz i) : EpOk L R v sz i := fun _ _ => h
theorem EpAll.one {v : Value} {sz i f : Nat} (h : EpAll v sz i) : (ep v sz i f).oneCell' = true := by
 obtain ⟨a, ha⟩ := h
 rw [ha]; rfl
theorem at_a1 {L0 : List Chunk} {R0 : List Fact} {v : Value} {sz i f : Nat} {cs : List Value} {c : Value} (h : Cx L0 R0 (ep v sz i 0) cs) (he : EpAll v sz i) (hl : LSub L L0) (hf : FSub R R0) (hc : cs[f]? = some c) : Cx L R (ep v sz i f) [c] := by
 intro w hs
 obtain ⟨a, ha⟩ := he
 obtain ⟨b, hb, hk⟩ := h w (hs.sub hl hf)
 rw [ha, show a.add 0 = a by simp [Addr.add]] at hb
 cases hb
 refine ⟨a.add f, ha f, fun k c' hk' => ?_⟩
 match k, hk' with
 | 0, hk' =>
  have e : c = c' := by simpa using hk'
  rw [F1, ← e]; exact hk f c hc
 | k + 1, hk' => simp at hk'
theorem Y5 {b f fld off : Nat} (hf : A3 P T fld off) (hx : ev n al x = some (bp b f) := by exact rfl) : A2 P n al L R ⟨some d, .fieldAddr T x fld, ty, pos, aft, none⟩ (bp b (f + off)) :=
 ⟨rfl, fun ρ w h _ => Jm (by rw [h x (by simp [Op.operands]) _ hx]; show (Instr.fieldAt T (.pointer (some ⟨b, f, none⟩)) fld).run P w = _; rw [Me hf, Gw]; rfl)⟩
theorem Y4 {v : Value} {sz i f fld off : Nat} (hf : A3 P T fld off) (hx : ev n al x = some (ep v sz i f) := by exact rfl) (hok : EpOk L R v sz i := by first | exact ok_c mm | exact Y6 pkk | exact ok_a (by assumption) | exact ok_l (Da pkk) (by omega) | exact ok_l (El mm) (by omega)) : A2 P n al L R ⟨some d, .fieldAddr T x fld, ty, pos, aft, none⟩ (ep v sz i (f + off)) :=
 ⟨rfl, fun ρ w h hs => Jm (by
  obtain ⟨a, ha⟩ := hok w hs
  rw [h x (by simp [Op.operands]) _ hx, ha, Me hf, F1, ha])⟩
theorem q_nb {b f : Nat} (hx : ev n al x = some (bp b f) := by exact rfl) : A2 P n al L R ⟨some d, .nilCheck x, ty, pos, aft, none⟩ (bp b f) :=
 ⟨rfl, fun ρ w h _ => by simp only [execOp, h x (by simp [Op.operands]) _ hx]; rfl⟩
theorem q_ne {v : Value} {sz i f : Nat} (hx : ev n al x = some (ep v sz i f) := by exact rfl) (hok : EpOk L R v sz i := by first | exact ok_c mm | exact Y6 pkk | exact ok_a (by assumption) | exact ok_l (Da pkk) (by omega) | exact ok_l (El mm) (by omega)) : A2 P n al L R ⟨some d, .nilCheck x, ty, pos, aft, none⟩ (ep v sz i f) :=
 ⟨rfl, fun ρ w h hs => by
  obtain ⟨a, ha⟩ := hok w hs
  simp only [execOp, h x (by simp [Op.operands]) _ hx, ha]; rfl⟩
theorem Dj {α : Type} [Enc α] {v : Value} {i : Nat} {xs : List α} {cs : List Value} (hp : Pick L (foc T v xs i cs) L') : Dv L R v xs.length := fun w hs => by
 obtain ⟨m, j, hd, hm, hj, ⟨m1, m2, hd', h1, h2, ⟨rs, e1, e2, e3, e5⟩, hst⟩, hr⟩ := hs.pick hp
 have h : Dv (row T v rs :: L') R v rs.length := Da .hd
 rw [e2] at h
 exact h w ⟨m, j, hd, hm, hj, ⟨m1, m2, hd', h1, h2, e1, hst⟩, hr⟩
theorem Fn {v : Value} {e : TypeId} {sz len i : Nat} (ht : Dd P T e sz) (hx : ev n al x = some v := by exact rfl) (hy : ev n al y = some (vi (i : Int)) := by exact rfl) (hl : Dv L R v len := by first | exact Da pkk | exact Dj pkk | exact El mm) (h1 : i < len := by first | assumption | omega | (simp only [List.length_nil, List.length_cons, List.length_append, List.length_take, List.length_drop, List.length_set, List.length_replicate, Int.toNat_natCast]; omega) | decide) : A2 P n al L R ⟨some d, .indexAddr T x y, ty, pos, aft, none⟩ (ep v sz i 0) := Io ht hx hy hl h1
theorem Im {v : Value} {e : TypeId} {sz len : Nat} {i : Int} (ht : Dd P T e sz) (hx : ev n al x = some v := by exact rfl) (hy : ev n al y = some (vi i) := by exact rfl) (hl : Dv L R v len := by first | exact Da pkk | exact Dj pkk | exact El mm) (h0 : 0 ≤ i := by first | assumption | omega | (simp only [List.length_nil, List.length_cons, List.length_append, List.length_take, List.length_drop, List.length_set, List.length_replicate, Int.toNat_natCast]; omega) | decide) (h1 : i < len := by first | assumption | omega | (simp only [List.length_nil, List.length_cons, List.length_append, List.length_take, List.length_drop, List.length_set, List.length_replicate, Int.toNat_natCast]; omega) | decide) : A2 P n al L R ⟨some d, .indexAddr T x y, ty, pos, aft, none⟩ (ep v sz i.toNat 0) :=
 Io ht hx (by rw [hy, Int.toNat_of_nonneg h0]) hl (by omega)
theorem Nq {t e : TypeId} {v : Value} {len : Nat} (ht : P.underlying t = some (.slice e)) (hx : ev n al x = some v := by exact rfl) (hl : Dv L R v len := by first | exact Da pkk | exact Dj pkk | exact El mm) : A2 P n al L R ⟨some d, .call { callee := .builtin .len, args := #[x], argTypes := #[t] }, ty, pos, aft, none⟩ (vi (len : Int)) :=
 ⟨rfl, fun ρ w h hs => by
  obtain ⟨base, cap, rfl, _⟩ := hl w hs
  have hx' := h x (by simp [Op.operands, Call.operands]) _ hx
  have e1 : (Builtin.len_ #[t] ty #[ρ x]).run P w = .ok (vi (len : Int)) w := by
   rw [hx']; simp [Builtin.len_, Cy ht, goInt]
  exact T5 e1⟩
theorem q_x {vs : List Value} {i : Nat} {v : Value} (hx : ev n al x = some (.tuple vs.toArray) := by exact rfl) (hv : vs[i]? = some v := by exact rfl) : A2 P n al L R ⟨some d, .extract x i, ty, pos, aft, none⟩ v :=
 ⟨rfl, fun ρ w h _ => by simp [execOp, h x (by simp [Op.operands]) _ hx, Instr.extract, hv]⟩
theorem Cz {p c : Value} (hT : ∀ w, (isAgg T).run P w = .ok false w) (hx : ev n al x = some p := by exact rfl) (hc : Cx L R p [c] := by first | exact A0 pkk (by exact rfl) | exact at_c1 mm (by exact rfl) | exact at_f1 pkk rfl (by exact rfl) | exact at_a1 (by assumption) (by assumption) (by repeat (first | exact .refl | exact .nil | (apply LSub.cons; focus (exact pkk)) | apply LSub.drop)) (by repeat (first | exact FSub.refl | exact FSub.nil | (apply FSub.cons; focus (exact mm)) | apply FSub.drop)) (by exact rfl)) : A2 P n al L R ⟨some d, .load T x, ty, pos, aft, none⟩ c :=
 ⟨rfl, fun ρ w h hs => by
  obtain ⟨a, rfl, hk⟩ := hc w hs
  exact It (by rw [h x (by simp [Op.operands]) _ hx]; exact J3 hT (by simpa [Addr.add] using hk 0 c rfl))⟩
theorem Y3 {p : Value} {cs : List Value} {sz : Nat} (hT : ∀ w, (isAgg T).run P w = .ok true w) (hsz : ∀ w, (sizeOf T).run P w = .ok sz w) (hx : ev n al x = some p := by exact rfl) (hc : Cx L R p cs := by first | exact Rq pkk | exact Y0 mm | exact Nj pkk rfl) (hl : cs.length = sz := by exact rfl) : A2 P n al L R ⟨some d, .load T x, ty, pos, aft, none⟩ (.agg cs.toArray) :=
 ⟨rfl, fun ρ w h hs => by
  obtain ⟨a, rfl, hk⟩ := hc w hs
  exact It (by rw [h x (by simp [Op.operands]) _ hx]; exact J2 hT hsz hl hk)⟩
theorem Fc {b f : Nat} {vs : List Value} {T0 : TypeId} (sz : Nat) (hT : ∀ w, (isAgg T).run P w = .ok true w) (hsz : ∀ w, (sizeOf T).run P w = .ok sz w) (hx : ev n al x = some (bp b f) := by exact rfl) (hp : Pick L (blk b T0 vs) L' := by exact pkk) (hl : ((vs.drop f).take sz).length = sz := by exact rfl) : A2 P n al L R ⟨some d, .load T x, ty, pos, aft, none⟩ (.agg ((vs.drop f).take sz).toArray) := Y3 hT hsz hx (Pt hp) hl
def Vh (places : List (Nat × Nat)) : List Value → List (Nat × List Value) → Option (List Value)
 | cells, [] => some cells
 | cells, (i, c) :: rest => match places[i]? with
  | none => none
  | some (off, size) => match Nat.beq c.length size with
   | false => none
   | true => match Mp cells off c with
    | none => none
    | some cells' => Vh places cells' rest
def Og : List Value → List (List Value) → Prop
 | [], [] => True
 | v :: vs, c :: cs => v.cells.toList = c ∧ Og vs cs
 | _, _ => False
theorem Ri {v : Value} (h : v.oneCell' = true) : v.cells.toList = [v] := by
 cases v <;> first | rfl | (simp [Value.oneCell'] at h)
theorem Xp (places : List (Nat × Nat)) : ∀ (idx : List Nat) (vs : List Value) (css : List (List Value)) (cells cs : List Value), Og vs css → Vh places cells (idx.zip css) = some cs → Pd places cells (idx.zip vs) = some cs
 | [], _, _, cells, cs, _, h => by simpa [Vh, Pd] using h
 | _ :: _, [], [], cells, cs, _, h => by simpa [Vh, Pd] using h
 | _ :: _, [], _ :: _, _, _, hc, _ => by cases hc
 | _ :: _, _ :: _, [], _, _, hc, _ => by cases hc
 | i :: idx, v :: vs, c :: css, cells, cs, hc, h => by
  obtain ⟨hv, hc⟩ := hc
  have hsz : v.cells.size = c.length := by rw [← hv, Array.length_toList]
  simp only [List.zip_cons_cons, Vh, Pd] at h ⊢
  rw [hsz, hv]
  cases hp : places[i]? with
  | none => rw [hp] at h; cases h
  | some q =>
   obtain ⟨off, size⟩ := q
   rw [hp] at h
   simp only at h ⊢
   cases hb : Nat.beq c.length size with
   | false => rw [hb] at h; cases h
   | true =>
    rw [hb] at h
    simp only at h ⊢
    cases hq : Mp cells off c with
    | none => rw [hq] at h; cases h
    | some c' => rw [hq] at h; exact Xp places idx vs css c' cs hc h
theorem cl_nil : Og [] [] := trivial
theorem Ait {v : Value} {c : List Value} {vs : List Value} {cs : List (List Value)} (h : v.cells.toList = c) (h' : Og vs cs) : Og (v :: vs) (c :: cs) := ⟨h, h'⟩
theorem Fd {zc cs : List Value} {places : List (Nat × Nat)} {parts : List (Nat × Operand)} {vs : List Value} {css : List (List Value)} (hT : Dm P T zc places) (ha : evL n al (parts.map (·.2)) = some vs := by exact rfl) (hc : Og vs css := by repeat (first | exact cl_nil | apply Ait (by first | exact Ri (by assumption) | exact rfl))) (h' : Vh places zc ((parts.map (·.1)).zip css) = some cs := by exact rfl) : A2 P n al L R ⟨some d, .build T parts.toArray, ty, pos, aft, none⟩ (.agg cs.toArray) := Wv hT ha (Xp _ _ _ _ _ _ hc h')
theorem q_cS {src dst e : TypeId} {bs : List UInt8} {v : Value} (hs : P.underlying src = some (.slice e)) (he : P.underlying e = some (.int .u8)) (hd : P.underlying dst = some .string) (hx : ev n al x = some v := by exact rfl) (hm : sl v bs ∈ R := by exact mm) : A2 P n al L R ⟨some d, .convert src dst x, ty, pos, aft, none⟩ (.string (Nm bs)) := Wu hs he hd hx hm
theorem Dx {zc cs : List Value} {places : List (Nat × Nat)} {parts : List (Nat × Operand)} {vs : List Value} (hT : Dm P T zc places) (ha : evL n al (parts.map (·.2)) = some vs := by exact rfl) (h' : Pd places zc ((parts.map (·.1)).zip vs) = some cs := by exact rfl) : A2 P n al L R ⟨some d, .build T parts.toArray, ty, pos, aft, none⟩ (.agg cs.toArray) := Wv hT ha h'
theorem ob {op : Oper} {v : Value} (hp : A2 P n al L R op v) (k : J P n ops Q rest L R ((d, v) :: al)) (hd : op.dst = some d := by exact rfl) : J P n ops Q (op :: rest) L R al := r_p hp hd k
theorem dc {Sh : Rho → (Nat → Bool) → List Chunk} {R0 : List Fact} {al0 : List (Nat × Value)} {i : Nat} {its : List Item} {op : Oper} {v : Value} (hp : ∀ ρ S, A2 P n (Eh its al0 ρ) (Sh ρ S) R0 op v)
 (k : DJ P n ops Q Sh R0 al0 (i + 1) rest (⟨i, some d, fun _ => v, fun _ => [], fun _ => []⟩ :: its)) (hd : op.dst = some d := by exact rfl) (hSh : ∀ ρ g S, S i = false → Sh (Rho.set ρ i g) (upS S i) = Sh ρ S := by exact fun _ _ _ _ => rfl) : DN P n ops Q Sh R0 al0 i op rest its := d_pc hp hd hSh k
theorem s_b {b f : Nat} {vs : List Value} {T0 : TypeId} {c : Value} (hsz : ∀ w, (sizeOf T).run P w = .ok 1 w) (k : ∀ cs', vs.set f c = cs' → J P n ops Q rest (blk b T0 cs' :: L') R al) (hx : ev n al x = some (bp b f) := by exact rfl) (hy : ev n al y = some c := by exact rfl) (hp : Pick L (blk b T0 vs) L' := by exact pkk) (h1 : c.oneCell' = true := by first | exact rfl | assumption | simp [*]) (hf : Nat.blt f vs.length = true := by exact rfl) : J P n ops Q (⟨none, .store T x y, ty, pos, aft, none⟩ :: rest) L R al :=
 Z9 hsz hx hy h1 hp hf (k _ rfl)
theorem Hh {v : Value} (h : v.oneCell' = true) : v.cells = #[v] := Array.toList_inj.1 (Ri h)
theorem s_f {α : Type} [Enc α] {v : Value} {xs : List α} {i f sz : Nat} {cs : List Value} {T0 : TypeId} {c : Value} (hsz : ∀ w, (sizeOf T).run P w = .ok 1 w) (k : ∀ cs', cs.set f c = cs' → J P n ops Q rest (foc T0 v xs i cs' :: L') R al) (hx : ev n al x = some (ep v sz i f) := by exact rfl) (hy : ev n al y = some c := by exact rfl) (hp : Pick L (foc T0 v xs i cs) L' := by exact pkk) (hes : Enc.sz α = sz := by exact rfl) (hc : c.cells = #[c] := by first | exact rfl | exact Hh (by assumption)) (h1 : c.oneCell' = true := by first | exact rfl | assumption | simp [*]) (hf : Nat.blt f cs.length = true := by exact rfl) : J P n ops Q (⟨none, .store T x y, ty, pos, aft, none⟩ :: rest) L R al :=
 Z8 (us := [c]) hsz hx hy hc rfl (by intro u hu; cases List.mem_singleton.1 hu; exact h1) hp hes (Nat.ble_eq_true_of_le (blt_iff.1 hf)) (by rw [List.set_eq_take_append_cons_drop, if_pos (blt_iff.1 hf)]; simp) (k _ rfl)
theorem s_N {b f : Nat} {vs cs : List Value} {T0 : TypeId} {sz : Nat} (new : List Value) (hsz : ∀ w, (sizeOf T).run P w = .ok sz w) (k : J P n ops Q rest (blk b T0 new :: L') R al) (hx : ev n al x = some (bp b f) := by exact rfl) (hy : ev n al y = some (.agg cs.toArray) := by exact rfl) (hp : Pick L (blk b T0 vs) L' := by exact pkk) (hl : cs.length = sz := by exact rfl) (h1 : ∀ u ∈ cs, u.oneCell' = true := by repeat (first | exact Dy | refine Bl (by first | exact rfl | assumption) ?_)) (hf : Nat.ble (f + sz) vs.length = true := by exact rfl) (hn : vs.take f ++ cs ++ vs.drop (f + sz) = new := by exact rfl) : J P n ops Q (⟨none, .store T x y, ty, pos, aft, none⟩ :: rest) L R al :=
 Tg hsz hx hy hl h1 hp hf (by rw [hn]; exact k)
theorem s_B {b : Nat} {vs cs : List Value} {T0 : TypeId} {sz : Nat} (hsz : ∀ w, (sizeOf T).run P w = .ok sz w) (k : J P n ops Q rest (blk b T0 cs :: L') R al) (hx : ev n al x = some (bp b 0) := by exact rfl) (hy : ev n al y = some (.agg cs.toArray) := by exact rfl) (hp : Pick L (blk b T0 vs) L' := by exact pkk) (hl : cs.length = sz := by exact rfl) (h1 : ∀ u ∈ cs, u.oneCell' = true := by repeat (first | exact Dy | refine Bl (by first | exact rfl | assumption) ?_)) (hf : vs.length = sz := by exact rfl) : J P n ops Q (⟨none, .store T x y, ty, pos, aft, none⟩ :: rest) L R al :=
 Uu hsz hx hy hl h1 hp hf k
theorem bx {v : Value} {cs : List Value} (k : ∀ b, J P n ops Q rest (blk b T cs :: L) R ((d, bp b 0) :: al)) (hx : ev n al x = some v := by exact rfl) (hv : v.cells = cs.toArray := by exact rfl) : J P n ops Q (⟨some d, .box T x, ty, pos, aft, none⟩ :: rest) L R al := r_box hx hv k
theorem al_ {z : Value} {cs : List Value} (hz : ∀ w, (zeroValue T).run P w = .ok z w) (k : ∀ b, J P n ops Q rest (blk b T cs :: L) R ((d, bp b 0) :: al)) (hv : z.cells = cs.toArray := by exact rfl) : J P n ops Q (⟨some d, .alloc T, ty, pos, aft, none⟩ :: rest) L R al := Afe hz hv k
theorem ap {α : Type} [Enc α] {t e : TypeId} {sz bytes : Nat} {z : Value} {xs ys : List α} {v u : Value} (he : ElemOf P t e sz z bytes) (hx : ev n al x = some v := by exact rfl) (hy : ev n al y = some u := by exact rfl) (hp : Pick L (row e v xs) L' := by exact pkk) (hm : sl u ys ∈ R := by exact mm) (hsz : Enc.sz α = sz := by exact rfl) (hpos : 0 < sz := by decide) (hb : ∀ w, St L R w → xs.length + ys.length ≤ maxN) (k : ∀ v', J P n ops Q rest (row e v' (xs ++ ys) :: L') R ((d, v') :: al)) : J P n ops Q (⟨some d, .call { callee := .builtin .append, args := #[x, y], argTypes := #[t, t] }, ty, pos, aft, none⟩ :: rest) L R al := J5 he hx hy hsz hpos hp hm hb k
theorem li {α : Type} [Enc α] {t el : TypeId} {sz bytes len : Nat} {z : Value} {parts : List (Nat × Operand)} {vs : List Value} (xs : List α) (he : ElemOf P t el sz z bytes) (ha : evL n al (parts.map (·.2)) = some vs) (hrd : ∀ j, (∀ q ∈ R, q.p j) → RdV xs vs j) (k : ∀ v, J P n ops Q rest L (sl v xs :: R) ((d, v) :: al)) (hsz : Enc.sz α = sz := by exact rfl) (hidx : parts.map (·.1) = List.range' 0 len := by exact rfl) (hlv : vs.length = len := by exact rfl) (hsmall : Nat.ble (len * sz) 1000 = true := by exact rfl) (hsm2 : Nat.ble len 1000 = true := by exact rfl) : J P n ops Q (⟨some d, .buildSlice t len parts.toArray, ty, pos, aft, none⟩ :: rest) L R al :=
 Wp xs he hsz ha hidx hlv hsmall hsm2 hrd fun v => J.shut .hd (k v)
theorem liO {α : Type} [Enc α] {t el : TypeId} {sz bytes len : Nat} {z : Value} {parts : List (Nat × Operand)} {vs : List Value} (xs : List α) (he : ElemOf P t el sz z bytes) (ha : evL n al (parts.map (·.2)) = some vs) (hrd : ∀ j, (∀ q ∈ R, q.p j) → RdV xs vs j) (k : ∀ v, J P n ops Q rest (row el v xs :: L) R ((d, v) :: al)) (hsz : Enc.sz α = sz := by exact rfl) (hidx : parts.map (·.1) = List.range' 0 len := by exact rfl) (hlv : vs.length = len := by exact rfl) (hsmall : Nat.ble (len * sz) 1000 = true := by exact rfl) (hsm2 : Nat.ble len 1000 = true := by exact rfl) : J P n ops Q (⟨some d, .buildSlice t len parts.toArray, ty, pos, aft, none⟩ :: rest) L R al := Wp xs he hsz ha hidx hlv hsmall hsm2 hrd k
theorem Gb {α : Type} [Enc α] {j : Mem} : RdV ([] : List α) [] j := trivial
theorem Z7 {α : Type} [Enc α] {u : Value} {ys : List α} (hm : sl u ys ∈ R := by exact mm) : ∀ j, (∀ q ∈ R, q.p j) → RdV [ys] [u] j := fun j h => by
 have hs := h _ hm
 obtain ⟨base, cap, hv, _⟩ := id hs
 exact ⟨⟨[u], by rw [hv]; rfl, u, rfl, hs⟩, trivial⟩
theorem rd_0 {α : Type} [Enc α] [El0 α] {x : α} {v : Value} {cs : List Value} (hr : ∀ j, Enc.rd x cs j) (hv : v.cells = cs.toArray := by exact rfl) : ∀ j, (∀ q ∈ R, q.p j) → RdV [x] [v] j := fun j _ => ⟨⟨cs, hv, hr j⟩, trivial⟩
theorem cl {γ : Type} {val : γ → Value} {Lf : γ → List Chunk} {Rf : γ → List Fact} {f : FuncId} {args : List Operand} {ts : Array TypeId} {vs : List Value} (hf : ∀ args w, (callFunc f args).run P w = .ok (.enter f args) w) (hc : ∀ w, St L R w → Calls P f vs.toArray w (Bs val Lf Rf)) (k : ∀ g, J P n ops Q rest (Lf g) (Rf g) ((d, val g) :: al)) (ha : evL n al args = some vs := by exact rfl) : J P n ops Q (⟨some d, .call { callee := .value (.func f), args := args.toArray, argTypes := ts }, ty, pos, aft, none⟩ :: rest) L R al := An hf ha hc k
theorem cd {t : Nat} {a b : Code} {p : Prop} {hd : Decidable p} (hT : p → JC P n a Q L R ((t, .bool true) :: al)) (hF : ¬ p → JC P n b Q L R ((t, .bool false) :: al)) (hc : ev n al (.tmp t) = some (.bool (decide p)) := by exact rfl) : JC P n (.cond (.tmp t) a b) Q L R al :=
 A9 hc (fun h => hT (of_decide_eq_true h)) (fun h => hF (of_decide_eq_false h))
theorem cT {c : Operand} {a b : Code} (h : JC P n a Q L R al) (hc : ev n al c = some (.bool true) := by exact rfl) : JC P n (.cond c a b) Q L R al := Ts hc h
theorem cF_ {c : Operand} {a b : Code} (h : JC P n b Q L R al) (hc : ev n al c = some (.bool false) := by exact rfl) : JC P n (.cond c a b) Q L R al := Lv hc h
theorem cTp {t : Nat} {a b : Code} {p : Prop} {hd : Decidable p} (hp : p) (h : JC P n a Q L R al) (hc : ev n al (.tmp t) = some (.bool (decide p)) := by exact rfl) : JC P n (.cond (.tmp t) a b) Q L R al := Ts (by rw [hc, decide_eq_true hp]) h
theorem cFp {t : Nat} {a b : Code} {p : Prop} {hd : Decidable p} (hp : ¬ p) (h : JC P n b Q L R al) (hc : ev n al (.tmp t) = some (.bool (decide p)) := by exact rfl) : JC P n (.cond (.tmp t) a b) Q L R al := Lv (by rw [hc, decide_eq_false hp]) h
theorem jg {t : Nat} {p : Prop} {hd : Decidable p} {l : List Oper} (hT : p → J P n ops Q l L R ((t, .bool true) :: al)) (hF : ¬ p → J P n ops Q l L R ((t, .bool false) :: al)) (hc : ev n al (.tmp t) = some (.bool (decide p)) := by exact rfl) : J P n ops Q l L R al :=
 Jr hc (fun h => hT (of_decide_eq_true h)) (fun h => hF (of_decide_eq_false h))
theorem jgx {t : Nat} {p : Prop} {hd : Decidable p} {l : List Oper} (hc : ev n al (.tmp t) = some (.bool (decide p))) (hT : p → J P n ops Q l L R ((t, .bool true) :: al)) (hF : ¬ p → J P n ops Q l L R ((t, .bool false) :: al)) : J P n ops Q l L R al := jg hT hF hc
theorem cdx {t : Nat} {a b : Code} {p : Prop} {hd : Decidable p} (hc : ev n al (.tmp t) = some (.bool (decide p))) (hT : p → JC P n a Q L R ((t, .bool true) :: al)) (hF : ¬ p → JC P n b Q L R ((t, .bool false) :: al)) : JC P n (.cond (.tmp t) a b) Q L R al := cd hT hF hc
theorem Cs {a : Code} {K : Act → World → Prop} (t : Nat) (v : Value) (hx : JC P n a (Exit.then (fun a' w => ∃ B, a' = mkA n ((t, v) :: al) B ∧ St L R w) Q) L R al) (hy : JX n (Exit.then K Q) .normal L R ((t, v) :: al)) : JC P n a (Exit.then K Q) L R al := by
 intro B w hs
 refine wp_mono (hx B w hs) ?_
 intro e a' w' hq
 cases e with
 | normal => obtain ⟨B1, rfl, hs1⟩ := hq; exact hy B1 w' hs1
 | exit id => exact hq
 | goto l => exact hq
 | ret => exact hq
 | panic c => exact hq
 | outgrown => exact hq
theorem Aq {L1 : List Chunk} {R1 : List Fact} {al2 : List (Nat × Value)} (hal : Rs al n al2) (hst : ∀ w, St L R w → St L1 R1 w) : JX n (Exit.then (fun a' w => ∃ B, a' = mkA n al2 B ∧ St L1 R1 w) Q) .normal L R al := by
 intro B w hs
 obtain ⟨B', hB⟩ := Sg hal B
 exact ⟨B', hB, hst w hs⟩
inductive Keep : List Nat → List (Nat × Value) → List (Nat × Value) → List (Nat × Value) → Prop
 | nil {ts acc} : Keep ts [] acc acc
 | yes {ts ts' : List Nat} {t v r acc out} : ts.contains t = true → ts.erase t = ts' → Keep ts' r ((t, v) :: acc) out → Keep ts ((t, v) :: r) acc out
 | no {ts t v r acc out} : ts.contains t = false → Keep ts r acc out → Keep ts ((t, v) :: r) acc out
theorem Sj {d t : Nat} {u : Value} {r : List (Nat × Value)} (h : d ≠ t) : I5 ((d, u) :: r) t = I5 r t := by
 simp only [I5]
 cases hb : Nat.beq d t with
 | true => exact absurd (Nat.eq_of_beq_eq_true hb) h
 | false => rfl
theorem W4 {d : Nat} {u : Value} {r : List (Nat × Value)} : I5 ((d, u) :: r) d = some u := by simp [I5]
theorem Keep.sub_aux {ts : List Nat} {al acc out : List (Nat × Value)} (h : Keep ts al acc out) : ∀ t v, I5 out t = some v → (∀ t, ts.count t ≤ 1) → I5 acc t = some v ∨ (I5 al t = some v ∧ t ∈ ts) := by
 induction h with
 | nil => intro t v h _; exact .inl h
 | @yes ts ts' d u r acc out h1 h2 h3 ih =>
  intro t v h hn
  subst h2
  have hd : d ∈ ts := by simpa using h1
  rcases ih t v h (fun s => Nat.le_trans (List.Sublist.count_le _ List.erase_sublist) (hn s)) with e | ⟨e1, e2⟩
  ·by_cases hdt : d = t
   ·subst hdt
    rw [W4] at e
    right; rw [W4]; exact ⟨e, hd⟩
   ·rw [Sj hdt] at e; exact .inl e
  ·by_cases hdt : d = t
   ·subst hdt
    exfalso
    have h4 := List.count_erase_self (a := d) (l := ts)
    have h5 := hn d
    have h6 : 0 < (ts.erase d).count d := List.count_pos_iff.2 e2
    omega
   ·right; rw [Sj hdt]; exact ⟨e1, List.mem_of_mem_erase e2⟩
 | @no ts d u r acc out h1 h3 ih =>
  intro t v h hn
  rcases ih t v h hn with e | ⟨e1, e2⟩
  ·exact .inl e
  ·right
   have hdt : d ≠ t := by intro e; subst e; simp at h1; exact h1 e2
   rw [Sj hdt]; exact ⟨e1, e2⟩
def Ql : List Nat → Bool
 | [] => true
 | x :: r => !(r.contains x) && Ql r
theorem K9 : ∀ {l : List Nat}, Ql l = true → ∀ t, l.count t ≤ 1
 | [], _, t => by simp
 | x :: r, h, t => by
  simp only [Ql, Bool.and_eq_true, Bool.not_eq_true', List.contains_eq_mem, decide_eq_false_iff_not] at h
  rw [List.count_cons]
  have := K9 h.2 t
  by_cases hx : x = t
  ·subst hx; rw [List.count_eq_zero_of_not_mem h.1]; simp
  ·simp [hx]; exact this
theorem Aap {ts : List Nat} {al al' : List (Nat × Value)} (h : Keep ts al [] al') (hn : Ql ts = true) (B : Nat → Value) : ∃ B', mkA n al B = mkA n al' B' := by
 refine ⟨fun t => (I5 al t).getD (B t), ?_⟩
 unfold mkA
 simp only [Act.mk.injEq, and_true]
 congr 1
 funext i
 cases hl : I5 al' i with
 | none => simp
 | some v =>
  rcases h.sub_aux i v hl (K9 hn) with e | e
  ·cases e
  ·simp [e.1]
theorem kp {c : Code} (ts : List Nat) {al' : List (Nat × Value)} (k : JC P n c Q L R al') (h : Keep ts al [] al' := by repeat (first | exact .nil | apply Keep.yes rfl rfl | apply Keep.no rfl)) (hn : Ql ts = true := by exact rfl) : JC P n c Q L R al := by
 intro B w hs
 obtain ⟨B', hB⟩ := Aap h hn B
 rw [hB]; exact k B' w hs
theorem alT {al' : List (Nat × Value)} (h : Rs al n al' := by repeat (first | exact trivial | refine ⟨rfl, ?_⟩)) : Rs al n al' := h
end
section
variable {P : Program} {n : Nat} {Q : Exit → Act → World → Prop} {rest : List Oper} {L L' : List Chunk} {R : List Fact} {al : List (Nat × Value)} {d : Nat} {ty : TypeId} {pos : String} {aft : Array Edge}
theorem gy {l : List Oper} {dst : Option Tmp} {op : Go.Op} {i : Nat} {b : Bool} (k : J P n l.toArray Q (⟨dst, op, ty, pos, aft, none⟩ :: rest) L R al) (hv : gv n al l i = some b := by exact rfl) : J P n l.toArray Q (⟨dst, op, ty, pos, aft, some (i, b)⟩ :: rest) L R al := J.guardYes hv k
variable {Sh : Rho → (Nat → Bool) → List Chunk} {R0 : List Fact} {al0 : List (Nat × Value)} {its : List Item} {i : Nat}
theorem dgy {l : List Oper} {dst : Option Tmp} {op : Go.Op} {q : Nat} {b : Bool} (k : DN P n l.toArray Q Sh R0 al0 i ⟨dst, op, ty, pos, aft, none⟩ rest its) (hv : ∀ ρ, gv n (Eh its al0 ρ) l q = some b := by exact fun _ => rfl) : DN P n l.toArray Q Sh R0 al0 i ⟨dst, op, ty, pos, aft, some (q, b)⟩ rest its := Vl hv k
theorem dgn {l : List Oper} {op : Go.Op} {q : Nat} {b : Bool} (k : DJ P n l.toArray Q Sh R0 al0 (i + 1) rest (⟨i, some d, fun _ => undef, fun _ => [], fun _ => []⟩ :: its)) (hv : ∀ ρ, gv n (Eh its al0 ρ) l q = some (!b) := by exact fun _ => rfl) (hSh : ∀ ρ g S, S i = false → Sh (Rho.set ρ i g) (upS S i) = Sh ρ S := by exact fun _ _ _ _ => rfl) : DN P n l.toArray Q Sh R0 al0 i ⟨some d, op, ty, pos, aft, some (q, b)⟩ rest its := Xz hv hSh k
theorem dgu {l : List Oper} {op : Go.Op} {q : Nat} {b : Bool} (k : DJ P n l.toArray Q Sh R0 al0 (i + 1) rest (⟨i, some d, fun _ => undef, fun _ => [], fun _ => []⟩ :: its)) (hv : ∀ ρ, gu n (Eh its al0 ρ) l q = true := by exact fun _ => rfl) (hSh : ∀ ρ g S, S i = false → Sh (Rho.set ρ i g) (upS S i) = Sh ρ S := by exact fun _ _ _ _ => rfl) : DN P n l.toArray Q Sh R0 al0 i ⟨some d, op, ty, pos, aft, some (q, b)⟩ rest its := Q6 hv hSh k
end
end Go.Proofs.YtbigiimomnfpdaaGreat
namespace Go.Proofs.YtbigiimomnfpdaaGreat
open Go
def Mw : Value → Bool
 | .slice none _ _ => true
 | _ => false
theorem Abv {P : Program} {T e : TypeId} {k : Nat} {b : Option Addr} {l c : Nat} (ht : P.underlying T = some (.slice e)) (w : World) : (Op.equalIn (k + 1) T (.slice b l c) (.slice none 0 0)).run P w = .ok (Mw (.slice b l c)) w := by
 unfold Op.equalIn
 cases b <;> simp [Cy ht, Mw]
section
variable {P : Program} {n : Nat} {ops : Array Oper} {Q : Exit → Act → World → Prop} {rest : List Oper} {L L' : List Chunk} {R : List Fact} {al : List (Nat × Value)} {d : Nat} {x y : Operand} {T ty : TypeId} {pos : String} {aft : Array Edge}
theorem Aff {e U : TypeId} {v : Value} {len : Nat} (ht : P.underlying T = some (.slice e)) (hl : Dv L R v len) (hx : ev n al x = some v := by exact rfl) : A2 P n al L R ⟨some d, .binOp .eql T x (.const (.slice none 0 0)) U, ty, pos, aft, none⟩ (.bool (Mw v)) :=
 ⟨rfl, fun ρ w h hs => by
  obtain ⟨base, cap, rfl, _⟩ := hl w hs
  have e1 : ρ (.const (.slice none 0 0)) = .slice none 0 0 := h _ (by simp [Op.operands]) _ rfl
  have e2 := h x (by simp [Op.operands]) _ hx
  have g : (eqGuard .eql T x (.const (.slice none 0 0)) (.slice base len cap) (.slice none 0 0)).run P w = .ok () w := by
   unfold eqGuard; rfl
  have e : (binOp .eql T (.slice base len cap) (.slice none 0 0)).run P w = .ok (.bool (Mw (.slice base len cap))) w := by
   show (Op.equal T (.slice base len cap) (.slice none 0 0) >>= fun r => Pure.pure (Value.bool r)).run P w = _
   rw [Sem.run_bind]
   have : (Op.equal T (.slice base len cap) (.slice none 0 0)).run P w = .ok (Mw (.slice base len cap)) w := by
    rw [show Op.equal T (.slice base len cap) (.slice none 0 0) = Op.equalIn (9999 + 1) T (.slice base len cap) (.slice none 0 0) from rfl, Abv ht w]
   rw [this]; rfl
  have : (execOp ρ ⟨some d, .binOp .eql T x (.const (.slice none 0 0)) U, ty, pos, aft, none⟩) = (do let v ← (do eqGuard .eql T x (.const (.slice none 0 0)) (.slice base len cap) (.slice none 0 0); binOp .eql T (.slice base len cap) (.slice none 0 0)); pure (Next.value v)) := by
   simp only [execOp, e1, e2]
  rw [this]
  simp [g, e]⟩
theorem nil_of {α : Type} [Enc α] {v : Value} {xs : List α} {w : World} (hm : sl v xs ∈ R) (hs : St L R w) (h : Mw v = true) : xs = [] := by
 obtain ⟨base, cap, rfl, _, hc⟩ := hs.fact hm
 cases base with
 | none =>
  apply Classical.byContradiction
  intro hne
  obtain ⟨a, _, _, _, _, h1, _⟩ := hc hne
  cases h1
 | some a => cases h
theorem JC.nilOf {α : Type} [Enc α] {c : Code} {v : Value} {xs : List α} (h : Mw v = true) (hm : sl v xs ∈ R) (k : xs = [] → JC P n c Q L R al) : JC P n c Q L R al := JC.know (fun w hs => nil_of hm hs h) k
theorem q_sl {e : TypeId} {sz len cap lo hi : Nat} {a : Addr} {low high : Option Operand} (ht : Dd P T e sz) (hx : ev n al x = some (.slice (some a) len cap) := by exact rfl)
  (hlo : (match low with | none => lo = 0 | some y => ev n al y = some (vi (lo : Int))) := by exact rfl) (hhi : (match high with | none => hi = len | some y => ev n al y = some (vi (hi : Int))) := by exact rfl) (h1 : lo ≤ hi := by omega) (h2 : hi ≤ cap := by omega) : A2 P n al L R ⟨some d, .slice T x low high none, ty, pos, aft, none⟩ (.slice (if cap = lo then some a else some (a.add (lo * sz))) (hi - lo) (cap - lo)) :=
 ⟨rfl, fun ρ w h hs => by
  show (Instr.sliceAt T (ρ x) (low.map ρ) (high.map ρ) none >>= fun v => Pure.pure (Next.value v)).run P w = _
  rw [h x (by simp [Op.operands]) _ hx, Sem.run_bind]
  have hlo' : (low.map ρ = none ∧ lo = 0) ∨ low.map ρ = some (vi (lo : Int)) := by
   cases low with
   | none => exact .inl ⟨rfl, hlo⟩
   | some y => right; simp only [Option.map_some]; rw [h y (by simp [Op.operands]) _ hlo]
  have hhi' : (high.map ρ = none ∧ hi = len) ∨ high.map ρ = some (vi (hi : Int)) := by
   cases high with
   | none => exact .inl ⟨rfl, hhi⟩
   | some y => right; simp only [Option.map_some]; rw [h y (by simp [Op.operands]) _ hhi]
  have e1 : (0 : Int) ≤ (lo : Int) ∧ (lo : Int) ≤ (hi : Int) := by omega
  have e2 : (0 : Int) ≤ (hi : Int) ∧ (hi : Int) ≤ (cap : Int) := by omega
  have : (Instr.sliceAt T (.slice (some a) len cap) (low.map ρ) (high.map ρ) none).run P w = .ok (.slice (if cap = lo then some a else some (a.add (lo * sz))) (hi - lo) (cap - lo)) w := by
   rcases hlo' with ⟨a1, a2⟩ | a1 <;> rcases hhi' with ⟨b1, b2⟩ | b1 <;> rw [a1, b1] <;>
    simp [Instr.sliceAt, Instr.slice, Instr.sliceBounds, Instr.sliceBound, Cy ht.1, ht.2, asIntOf, e1, e2, h1, h2] <;> (try subst a2) <;> (try subst b2) <;> (try simp) <;> (try omega)
  rw [this]; rfl⟩
end
section
variable {P : Program} {n : Nat} {L : List Chunk} {R : List Fact} {al : List (Nat × Value)} {d : Nat} {x y : Operand} {T ty : TypeId} {pos : String} {aft : Array Edge}
theorem Aax {α : Type} {c : Prop} [Decidable c] {a b : α} : (if c then some a else some b) = some (if c then a else b) := by split <;> rfl
theorem q_sl0 {e : TypeId} {sz len cap hi : Nat} {a : Addr} {high : Option Operand} (ht : Dd P T e sz) (hx : ev n al x = some (.slice (some a) len cap)) (hhi : match high with | none => hi = len | some y => ev n al y = some (vi (hi : Int))) (h2 : hi ≤ cap) : A2 P n al L R ⟨some d, .slice T x none high none, ty, pos, aft, none⟩ (.slice (some a) hi cap) := by
 have := q_sl (P := P) (L := L) (R := R) (d := d) (ty := ty) (pos := pos) (aft := aft) (lo := 0) (low := none) ht hx rfl hhi (Nat.zero_le _) h2
 simpa [Addr.add] using this
theorem q_slN {e : TypeId} {sz len cap lo hi : Nat} {a : Addr} {low high : Option Operand} (ht : Dd P T e sz) (hx : ev n al x = some (.slice (some a) len cap)) (hlo : match low with | none => lo = 0 | some y => ev n al y = some (vi (lo : Int))) (hhi : match high with | none => hi = len | some y => ev n al y = some (vi (hi : Int))) (h1 : lo ≤ hi) (h2 : hi ≤ cap) : A2 P n al L R ⟨some d, .slice T x low high none, ty, pos, aft, none⟩ (.slice (some (if cap = lo then a else a.add (lo * sz))) (hi - lo) (cap - lo)) := by
 have := q_sl (P := P) (L := L) (R := R) (d := d) (ty := ty) (pos := pos) (aft := aft) ht hx hlo hhi h1 h2
 rw [Aax] at this; exact this
end
def rdL {α : Type} [Enc α] (xs : List α) (cs : List Value) : Fact := ⟨RdL xs cs, fun _ _ h hr => hr.mono h⟩
section
variable {P : Program} {n : Nat} {ops : Array Oper} {Q : Exit → Act → World → Prop} {rest : List Oper} {L L' : List Chunk} {R : List Fact} {al : List (Nat × Value)} {d : Nat} {x y : Operand} {T ty : TypeId} {pos : String} {aft : Array Edge}
variable {α : Type} [Enc α] {v : Value} {xs : List α}
theorem Aev {w : World} (hne : xs ≠ []) (hs : St (row T v xs :: L) R w) : ∃ g cap cs, v = .slice (some ⟨g, 0, none⟩) xs.length cap ∧ xs.length ≤ cap ∧ cap ≤ maxLen ∧ xs.length ≤ maxN ∧ cs.length = cap * Enc.sz α ∧ St (blk g T cs :: L) (rdL xs (cs.take (xs.length * Enc.sz α)) :: R) w ∧ (∀ u ∈ cs.take (xs.length * Enc.sz α), u.oneCell' = true) := by
 obtain ⟨m, j, hd, hm, hj, ⟨m1, m2, hd', h1, h2, hc, hst⟩, hr⟩ := hs
 obtain ⟨h0, hv | ⟨g, cap, cur, cs, hv, hg, hcap, hml, hsz, htk, hrd⟩⟩ := hc
 ·exact absurd hv.2 hne
 ·subst htk
  refine ⟨g, cap, cur.toList, hv, hcap, hml, h0, by simpa using hsz, ⟨m, j, hd, hm, hj, ⟨m1, m2, hd', h1, h2, by simpa [blk, blkO] using hg, hst⟩, fun f hf => ?_⟩, hrd.one⟩
  cases List.mem_cons.1 hf with
  | inl e => rw [e]; exact hrd
  | inr e => exact hr f e
theorem Aje {w : World} {g cap : Nat} {cs : List Value} (hN : xs.length ≤ maxN) (hcap : xs.length ≤ cap) (hml : cap ≤ maxLen) (hcl : cs.length = cap * Enc.sz α) (hrd : ∀ j, (∀ f ∈ R, f.p j) → RdL xs (cs.take (xs.length * Enc.sz α)) j) (hs : St (blk g T cs :: L) R w) : St (row T (.slice (some ⟨g, 0, none⟩) xs.length cap) xs :: L) R w := by
 obtain ⟨m, j, hd, hm, hj, ⟨m1, m2, hd', h1, h2, hc, hst⟩, hr⟩ := hs
 exact ⟨m, j, hd, hm, hj, ⟨m1, m2, hd', h1, h2, ⟨hN, .inr ⟨g, cap, cs.toArray, _, rfl, hc, hcap, hml, by simpa using hcl, rfl, hrd j hr⟩⟩, hst⟩, hr⟩
theorem ap_in {t e : TypeId} {bytes g i j m cap c2 : Nat} {a : Addr} {z : Value} {cs : List Value} (he : ElemOf P t e 1 z bytes) (hx : ev n al x = some (.slice (some ⟨g, 0, none⟩) i cap)) (hy : ev n al y = some (.slice (some a) m c2)) (ha : m ≠ 0 → a = ⟨g, j, none⟩)
  (hp : Pick L (blk g e cs) L') (hcl : cs.length = cap) (hj : j + m ≤ cap) (hroom : i + m ≤ cap) (h1 : ∀ u ∈ (cs.drop j).take m, u.oneCell' = true)
  (k : J P n ops Q rest (blk g e (cs.take i ++ (cs.drop j).take m ++ cs.drop (i + m)) :: L') R ((d, .slice (some ⟨g, 0, none⟩) (i + m) cap) :: al)) :
  J P n ops Q (⟨some d, .call { callee := .builtin .append, args := #[x, y], argTypes := #[t, t] }, ty, pos, aft, none⟩ :: rest) L R al :=
 J.yield (L' := blk g e (cs.take i ++ (cs.drop j).take m ++ cs.drop (i + m)) :: L') (R' := R) rfl rfl (fun B w hs => by
  obtain ⟨ti, hi, hz, hisz, hiby⟩ := he.info
  have hs' := hs.pick hp
  have hgw : w.heap[g]? = some (.cells cs.toArray e (0, 0)) := hs'.blk_get
  by_cases hm : m = 0
  ·subst hm
   refine ⟨w, Fs ?_, ?_⟩
   ·rw [Bf hx, Bf hy]
    have hfirst : (Builtin.firstCells 1 0 (.slice (some a) 0 c2)).run P w = .ok #[] w := by simp [Builtin.firstCells, loadCells, loadCellsFrom]
    simp [Builtin.append_, Cy he.und, sizeOf, typeInfo, hi, hisz, Builtin.lenOf, hfirst, show i ≤ cap by omega, storeCells]
   ·simpa using hs'
  ·have ha' := ha hm
   subst ha'
   have hnl : ((cs.drop j).take m).length = m * 1 := by simp; omega
   have hnc : ∀ (k : Nat) c, ((cs.drop j).take m)[k]? = some c → w.cell? ((⟨g, j, none⟩ : Addr).add k) = some c := by
    intro k c hk
    rw [Gw, F0 hgw]
    rw [List.getElem?_take] at hk
    split at hk
    ·rw [List.getElem?_drop] at hk; simpa using hk
    ·cases hk
   have hrun := run_append_room (P := P) (w := w) t ty e ti he.und hi g i cap cs.toArray hgw ⟨g, j, none⟩ m c2 ((cs.drop j).take m) (by rw [hisz]; exact hnl) hnc h1 hroom (by rw [hisz, hnl]; simp; omega)
   refine ⟨_, Fs (by rw [Bf hx, Bf hy]; exact hrun), ?_⟩
   rw [hisz, hnl]
   simp only [Nat.mul_one]
   exact hs'.blk_set (C9 hgw).1 (C9 hgw).2 rfl rfl) k
theorem clr {t e : TypeId} {bytes g o c2 : Nat} {z : Value} {cs : List Value} (he : ElemOf P t e 1 z bytes) (hz : ∀ w, (zeroValue e).run P w = .ok z w) (hzc : z.cells = #[z]) (hz1 : z.oneCell' = true) (hx : ev n al x = some (.slice (some ⟨g, o, none⟩) 1 c2))
  (hp : Pick L (blk g e cs) L') (hcl : o + 1 ≤ cs.length)
  (k : ∀ cs', cs' = cs.take o ++ [z] ++ cs.drop (o + 1) → J P n ops Q rest (blk g e cs' :: L') R al) :
  J P n ops Q (⟨none, .call { callee := .builtin .clear, args := #[x], argTypes := #[t] }, ty, pos, aft, none⟩ :: rest) L R al := by
 refine J.step rfl fun B w hs => .inl ?_
 have hs' := hs.pick hp
 have hgw : w.heap[g]? = some (.cells cs.toArray e (0, 0)) := hs'.blk_get
 have hzl : (Builtin.zeroCells z.cells 1).toList = [z] := by
  rw [hzc]; unfold Builtin.zeroCells; simp [List.range_succ]
 have hst := run_storeCells_at P g o e ([z]) 0 cs.toArray w hgw (by simpa using hcl) (fun u hu => by cases List.mem_singleton.1 hu; exact hz1)
 have e1 : (Builtin.clear_ #[t] ty #[(mkA n al B).eval x]).run P w = .ok (.tuple #[]) (w.setRow g (cs.take o ++ [z] ++ cs.drop (o + 1)).toArray) := by
  rw [Bf hx]
  simp [Builtin.clear_, Cy he.und, hz, hzl] at hst ⊢
  rw [hst]; rfl
 have e2 : (execOp (mkA n al B).eval ⟨none, .call { callee := .builtin .clear, args := #[x], argTypes := #[t] }, ty, pos, aft, none⟩).run P w = .ok (.value (.tuple #[])) (w.setRow g (cs.take o ++ [z] ++ cs.drop (o + 1)).toArray) := by
  simp [execOp, resolve, invoke, builtin, e1]
 unfold Oper.wp
 rw [e2, Oper.upon_value, Mt]
 exact k _ rfl B _ (hs'.blk_set (C9 hgw).1 (C9 hgw).2 rfl rfl)
end
theorem frz {P : Program} {γ : Type} {f : FuncId} {args : Array Value} {w : World} {α : Type} [Enc α] {T : TypeId} {xs : List α} {val p : γ → Value} {L : γ → List Chunk} {R : γ → List Fact} (h : Calls P f args w (Bs val (fun g => row T (p g) xs :: L g) R)) : Calls P f args w (Bs val L (fun g => sl (p g) xs :: R g)) :=
 h.mono fun e w' ⟨g, h1, h2⟩ => ⟨g, h1, h2.shut⟩
section
variable {P : Program} {n : Nat} {ops : Array Oper} {Q : Exit → Act → World → Prop} {rest : List Oper} {L L' : List Chunk} {R : List Fact} {al : List (Nat × Value)} {d : Nat} {x y : Operand} {T ty : TypeId} {pos : String} {aft : Array Edge}
theorem Es {α : Type} {l : List α} {k : Nat} (d : α) (h : k < l.length) : l.take (k + 1) = l.take k ++ [l.getD k d] := by
 rw [List.take_add_one, getD_some d h]; rfl
theorem l_Sr {β : Type} [Enc β] {T' : TypeId} {v : Value} {xs : List (List β)} {i : Nat} (hT : ∀ w, (isAgg T).run P w = .ok false w) (hx : ev n al x = some (ep v 1 i 0)) (hp : Pick L (row T' v xs) L') (hi : i < xs.length)
  (k : ∀ u, J P n ops Q rest L (sl u (xs.getD i []) :: R) ((d, u) :: al)) : J P n ops Q (⟨some d, .load T x, ty, pos, aft, none⟩ :: rest) L R al :=
 Uv (α := List β) (f := 0) hT hx hp (getD_some [] hi) (fun cs m h => by obtain ⟨u, h1, h2⟩ := h; exact ⟨u, by rw [h1]; rfl, h2⟩) k
theorem s_Sr {β : Type} [Enc β] {T' : TypeId} {v c : Value} {xs : List (List β)} {ys : List β} {i : Nat} (hsz : ∀ w, (sizeOf T).run P w = .ok 1 w) (hx : ev n al x = some (ep v 1 i 0)) (hy : ev n al y = some c) (hm : sl c ys ∈ R) (hp : Pick L (row T' v xs) L') (hi : i < xs.length)
  (k : J P n ops Q rest (row T' v (xs.set i ys) :: L') R al) : J P n ops Q (⟨none, .store T x y, ty, pos, aft, none⟩ :: rest) L R al :=
 fun B w hs => by
  have hc : c.cells = #[c] ∧ c.oneCell' = true := by obtain ⟨base, cap, rfl, _⟩ := hs.fact hm; exact ⟨rfl, rfl⟩
  exact I2 (α := List β) (f := 0) (cs := [c]) (e := xs.getD i []) (e' := ys) hsz hx hy hc.1 rfl (by intro u hu; cases List.mem_singleton.1 hu; exact hc.2) hp (getD_some [] hi)
   (fun ds m hr => by obtain ⟨u, h1, _⟩ := hr; rw [h1]; exact Nat.le_refl _) (fun j hj ds hr => by obtain ⟨u, h1, _⟩ := hr; rw [h1]; exact ⟨c, rfl, hj _ hm⟩) k B w hs
end
end Go.Proofs.YtbigiimomnfpdaaGreat
namespace Go.Proofs.YtbigiimomnfpdaaGreat
open Go
section
variable {P : Program} {n : Nat} {Q : Exit → Act → World → Prop} {Sh : Rho → (Nat → Bool) → List Chunk} {R0 : List Fact} {al0 : List (Nat × Value)}
variable {ops : Array Oper} {i : Nat} {rest : List Oper} {its : List Item} {d : Nat} {x y : Operand} {T ty : TypeId} {pos : String} {aft : Array Edge}
def Jw (ops : Array Oper) (Sh : Rho → (Nat → Bool) → List Chunk) (i : Nat) : Prop := ∀ ρ g S, S i = false → (∀ j, Bef ops i j → S j = false) → Sh (Rho.set ρ i g) (upS S i) = Sh ρ S
theorem Aby {γ : Type} [Gh γ] {o : Oper} {val : γ → Value} {F : γ → List Fact} {C : γ → List Chunk} (hg : o.guard = none) (hd : o.dst = some d) (hSh : Jw ops Sh i)
  (h : ∀ ρ S a L' R' w (K : Act → World → Prop), Now ops n Sh R0 al0 i its o ρ S a L' R' w → (∀ g w', St (C g ++ (Sh ρ S ++ L')) (F g ++ R') w' → K (a.put (some d) (val g)) w') → o.wp P a w K Q)
  (k : DJ P n ops Q Sh R0 al0 (i + 1) rest (⟨i, some d, fun ρ => val (Gh.dec (ρ i)), fun ρ => F (Gh.dec (ρ i)), fun ρ => C (Gh.dec (ρ i))⟩ :: its)) : DJ P n ops Q Sh R0 al0 i (o :: rest) its := by
 refine dj ⟨⟨i, some d, fun ρ => val (Gh.dec (ρ i)), fun ρ => F (Gh.dec (ρ i)), fun ρ => C (Gh.dec (ρ i))⟩, rfl, hd.symm, Ind.self (h := fun g => val (Gh.dec g)), Ind.self (h := fun g => F (Gh.dec g)), Ind.self (h := fun g => C (Gh.dec g)), ?_, k⟩
 intro ρ S a L' R' w K hS hbef haft hag hdep hbase hst hK
 rw [if_pos (by simp [Region.wanted, hg])]
 left
 refine h ρ S a L' R' w K ⟨hS, hag, hdep, hbase, hst⟩ ?_
 intro g w' hs'
 have e : (Rho.set ρ i (Gh.enc g)) i = Gh.enc g := by simp [Rho.set]
 have := hK (Gh.enc g) w'
 simp only [e, Gh.ok, hd, hSh ρ (Gh.enc g) S hS haft] at this
 refine this (hs'.perm ?_)
 rw [← List.append_assoc, ← List.append_assoc]
 exact List.Perm.append_right _ List.perm_append_comm
theorem e_p {op : Oper} {v : Rho → Value} (hp : ∀ ρ S, A2 P n (Eh its al0 ρ) (Sh ρ S) R0 op (v ρ)) (hi : Ind ops i v) (hSh : Jw ops Sh i)
  (k : DJ P n ops Q Sh R0 al0 (i + 1) rest (⟨i, some d, v, fun _ => [], fun _ => []⟩ :: its)) (hd : op.dst = some d := by exact rfl) : DJ P n ops Q Sh R0 al0 i (op :: rest) its := by
 refine dj ⟨⟨i, some d, v, fun _ => [], fun _ => []⟩, rfl, hd.symm, hi, Ind.const _, Ind.const _, ?_, k⟩
 intro ρ S a L' R' w K hS hbef haft hag hdep hbase hst hK
 have hp0 := hp ρ S
 rw [if_pos (by simp [Region.wanted, hp0.1])]
 left
 unfold Oper.wp
 have h : Now ops n Sh R0 al0 i its op ρ S a L' R' w := ⟨hS, hag, hdep, hbase, hst⟩
 rw [hp0.2 _ w (fun x hx u hu => Cp h.agree hx hu) (h.st.fewer h.base), Oper.upon_value]
 have hsh := hSh ρ (ρ i) S hS haft
 rw [Rho.set_same] at hsh
 have := hK (ρ i) w
 rw [Rho.set_same] at this
 exact this (by rw [hsh]; exact hst)
theorem Ib {op : Oper} {v : Value} (hp : ∀ ρ S, S i = false → (∀ j, Bef ops j i → S j = true) → (∀ j, Bef ops i j → S j = false) → A2 P n (Eh its al0 ρ) (Sh ρ S) R0 op v) (hSh : Jw ops Sh i)
  (k : DJ P n ops Q Sh R0 al0 (i + 1) rest (⟨i, some d, fun _ => v, fun _ => [], fun _ => []⟩ :: its)) (hpure : op.guard = none := by exact rfl) (hd : op.dst = some d := by exact rfl) : DJ P n ops Q Sh R0 al0 i (op :: rest) its := by
 refine dj ⟨⟨i, some d, fun _ => v, fun _ => [], fun _ => []⟩, rfl, hd.symm, Ind.const _, Ind.const _, Ind.const _, ?_, k⟩
 intro ρ S a L' R' w K hS hbef haft hag hdep hbase hst hK
 have hp0 := hp ρ S hS hbef haft
 rw [if_pos (by simp [Region.wanted, hp0.1])]
 left
 unfold Oper.wp
 have h : Now ops n Sh R0 al0 i its op ρ S a L' R' w := ⟨hS, hag, hdep, hbase, hst⟩
 rw [hp0.2 _ w (fun x hx u hu => Cp h.agree hx hu) (h.st.fewer h.base), Oper.upon_value]
 have hsh := hSh ρ (ρ i) S hS haft
 rw [Rho.set_same] at hsh
 have := hK (ρ i) w
 rw [Rho.set_same] at this
 exact this (by rw [hsh]; exact hst)
theorem C5 {s : Bool} {x y : List Value} {f : Nat} {c : Value} (hx : x[f]? = some c) (hy : y[f]? = some c) : (bif s then x else y)[f]? = some c := by cases s <;> assumption
theorem Jy {op : Oper} {v : Value} (hp : ∀ ρ S, A2 P n (Eh its al0 ρ) (Sh ρ S) R0 op v) (hSh : Jw ops Sh i)
 (k : DJ P n ops Q Sh R0 al0 (i + 1) rest (⟨i, some d, fun _ => v, fun _ => [], fun _ => []⟩ :: its)) (hd : op.dst = some d := by exact rfl) : DJ P n ops Q Sh R0 al0 i (op :: rest) its := e_p hp (Ind.const _) hSh k hd
theorem Bu {γ : Type} [Gh γ] {val : γ → Value} {F : γ → List Fact} {f : FuncId} {args : List Operand} {ts : Array TypeId} {vs : Rho → List Value} (hf : ∀ args w, (callFunc f args).run P w = .ok (.enter f args) w)
  (ha : ∀ ρ, evL n (Eh its al0 ρ) args = some (vs ρ)) (hc : ∀ ρ L' R' w, Deps ops R0 its i ρ R' → St L' R' w → Calls P f (vs ρ).toArray w (Bs val (fun _ => L') (fun g => F g ++ R'))) (hSh : Jw ops Sh i)
  (k : DJ P n ops Q Sh R0 al0 (i + 1) rest (⟨i, some d, fun ρ => val (Gh.dec (ρ i)), fun ρ => F (Gh.dec (ρ i)), fun ρ => []⟩ :: its)) :
  DJ P n ops Q Sh R0 al0 i (⟨some d, .call { callee := .value (.func f), args := args.toArray, argTypes := ts }, ty, pos, aft, none⟩ :: rest) its :=
 Aby (C := fun _ => []) rfl rfl hSh (fun ρ S a L' R' w K h hK => by
  unfold Oper.wp
  rw [Ke hf rfl, Oper.upon_enter, List.map_toArray, Gj h.agree (fun x hx => by simp [Op.operands, Call.operands, hx]) (ha ρ)]
  refine (hc ρ _ _ w ⟨h.base, h.deps⟩ h.st).mono ?_
  rintro e w' ⟨g, rfl, hs'⟩
  exact hK g w' hs') k
theorem Iu {γ : Type} [Gh γ] {val : γ → Value} {F : γ → List Fact} {f : FuncId} {args : List Operand} {ts : Array TypeId} {vs caps : List Value} (hx : ∀ ρ, ev n (Eh its al0 ρ) x = some (.func (.func f) #[] caps.toArray)) (hf : ∀ args w, (callFunc f args).run P w = .ok (.enter f args) w)
  (ha : ∀ ρ, evL n (Eh its al0 ρ) args = some vs) (hc : ∀ ρ S L' R' w, St (Sh ρ S ++ L') R' w → Deps ops R0 its i ρ R' → Calls P f (vs ++ caps).toArray w (Bs val (fun _ => Sh ρ S ++ L') (fun g => F g ++ R'))) (hSh : Jw ops Sh i)
  (k : DJ P n ops Q Sh R0 al0 (i + 1) rest (⟨i, some d, fun ρ => val (Gh.dec (ρ i)), fun ρ => F (Gh.dec (ρ i)), fun ρ => []⟩ :: its)) :
  DJ P n ops Q Sh R0 al0 i (⟨some d, .call { callee := .value x, args := args.toArray, argTypes := ts }, ty, pos, aft, none⟩ :: rest) its :=
 Aby (C := fun _ => []) rfl rfl hSh (fun ρ S a L' R' w K h hK => by
  unfold Oper.wp
  have e1 : a.eval x = .func (.func f) #[] caps.toArray := Cp h.agree (by simp [Op.operands, Call.operands]) (hx ρ)
  rw [N9 hf e1, Oper.upon_enter, List.map_toArray, Gj h.agree (fun x hx => by simp [Op.operands, Call.operands, hx]) (ha ρ), List.append_toArray]
  refine (hc ρ S L' R' w h.st ⟨h.base, h.deps⟩).mono ?_
  rintro e w' ⟨g, rfl, hs'⟩
  exact hK g w' hs') k
theorem Fe {α : Type} [Enc α] {t el : TypeId} {sz bytes len : Nat} {z : Value} {parts : List (Nat × Operand)} {vs : Rho → List Value} (xs : List α) (he : ElemOf P t el sz z bytes) (hsz : Enc.sz α = sz)
  (ha : ∀ ρ, evL n (Eh its al0 ρ) (parts.map (·.2)) = some (vs ρ)) (hidx : parts.map (·.1) = List.range' 0 len) (hlv : ∀ ρ, (vs ρ).length = len) (hsmall : Nat.ble (len * sz) 1000 = true) (hsm2 : Nat.ble len 1000 = true)
  (hrd : ∀ ρ R', Deps ops R0 its i ρ R' → ∀ j, (∀ q ∈ R', q.p j) → RdV xs (vs ρ) j) (hSh : Jw ops Sh i)
  (k : DJ P n ops Q Sh R0 al0 (i + 1) rest (⟨i, some d, fun ρ => (Gh.dec (ρ i) : Value), fun ρ => [sl (Gh.dec (ρ i) : Value) xs], fun _ => []⟩ :: its)) :
  DJ P n ops Q Sh R0 al0 i (⟨some d, .buildSlice t len parts.toArray, ty, pos, aft, none⟩ :: rest) its :=
 Aby (γ := Value) (val := fun v => v) (F := fun v => [sl v xs]) (C := fun _ => []) rfl rfl hSh (fun ρ S ac L' R' w K h hK => by
  obtain ⟨j, hj, hrj⟩ := h.st.ex
  have hrd' := hrd ρ R' ⟨h.base, h.deps⟩
  obtain ⟨h1, h2, h3⟩ := (hrd' j hrj).list
  have hlen := hlv ρ
  have hb := Nat.le_of_ble_eq_true hsmall
  have hb2 := Nat.le_of_ble_eq_true hsm2
  have hrun := Gy (vs := vs ρ) he (fun v hv => by rw [h2 v hv, hsz]) (by rw [hlen]; exact hb) w
  have e : (execOp ac.eval ⟨some d, .buildSlice t len parts.toArray, ty, pos, aft, none⟩).run P w = .ok (.value (.slice (some ⟨w.heap.size, 0, none⟩) len len)) (w.alloc (.cells ((vs ρ).flatMap fun v => v.cells.toList).toArray el)) := by
   show (Instr.buildSlice t len (parts.toArray.map fun (i, x) => (i, ac.eval x)) >>= fun v => Pure.pure (Next.value v)).run P w = _
   have hp : (parts.toArray.map fun (i, x) => (i, ac.eval x)) = ((parts.map (·.1)).zip (vs ρ)).toArray := by
    rw [← Gj h.agree (fun x hx => by simpa [Op.operands] using hx) (ha ρ)]
    simp only [List.map_toArray, List.map_map, List.zip_map', Function.comp_def]
   rw [hp, hidx, Sem.run_bind, ← hlen, hrun]; rfl
  unfold Oper.wp
  rw [e, Oper.upon_value]
  refine hK _ _ ?_
  obtain ⟨m, j', hd, hmw, hjw, hst, hr⟩ := h.st
  have hnew : St (row el (.slice (some ⟨w.heap.size, 0, none⟩) len len) xs :: (Sh ρ S ++ L')) R' (w.alloc (.cells ((vs ρ).flatMap fun v => v.cells.toList).toArray el)) := by
   obtain ⟨g1, g2, g3⟩ := (hrd' j' hr).list
   have hcl : ((vs ρ).flatMap fun v => v.cells.toList).length = len * sz := by rw [g3.len, g1, hlen, hsz]
   exact St.newC hd hmw hjw hst hr rfl rfl rfl ⟨by rw [g1, hlen]; have : maxN = 16777216 := rfl; omega, .inr ⟨w.heap.size, len, _, _, by rw [g1, hlen], Eu _ _, by rw [g1, hlen]; exact Nat.le_refl _, by unfold maxLen; omega, by rw [hsz]; simpa using hcl, rfl, by
    rw [g1, hlen, hsz, ← hcl, List.toList_toArray, List.take_length]; exact g3⟩⟩
  exact hnew.shut) k
theorem Aeb {α : Type} [Enc α] {t el : TypeId} {sz bytes : Nat} {z : Value} {zc : List Value} {a : Int} {x0 : α} (he : ElemOf P t el sz z bytes) (hsz : Enc.sz α = sz) (hpos : 0 < sz) (hx : ∀ ρ, ev n (Eh its al0 ρ) x = some (vi a)) (hy : ∀ ρ, ev n (Eh its al0 ρ) y = some (vi a))
 (hzc : z.cells = zc.toArray) (hrd : ∀ j, Enc.rd x0 zc j) (h0 : 0 ≤ a) (hN : a ≤ 16777216) (hSh : ∀ ρ g S, S i = false → Sh (Rho.set ρ i g) (upS S i) = Sh ρ S)
 (k : DJ P n ops Q Sh R0 al0 (i + 1) rest (⟨i, some d, fun ρ => (Gh.dec (ρ i) : Value), fun ρ => [sl (Gh.dec (ρ i) : Value) (List.replicate a.toNat x0)], fun _ => []⟩ :: its)) :
 DJ P n ops Q Sh R0 al0 i (⟨some d, .makeSlice t x y, ty, pos, aft, none⟩ :: rest) its := dj (d_make he hsz hpos hx hy hzc hrd h0 hN hSh k)
theorem Hy {z : Value} {cs : List Value} (hz : ∀ w, (zeroValue T).run P w = .ok z w) (hv : z.cells = cs.toArray) (hSh : ∀ ρ (b : Nat) S, S i = false → (∀ j, Bef ops i j → S j = false) → (Sh (Rho.set ρ i (Gh.enc b)) (upS S i)).Perm (blk b T cs :: Sh ρ S))
 (k : DJ P n ops Q Sh R0 al0 (i + 1) rest (⟨i, some d, fun ρ => bp (Gh.dec (γ := Nat) (ρ i)) 0, fun _ => [], fun _ => []⟩ :: its)) : DJ P n ops Q Sh R0 al0 i (⟨some d, .alloc T, ty, pos, aft, none⟩ :: rest) its := dj (X0 hz hv hSh k)
theorem Ail {f : Nat} {vs us : Rho → List Value} {v : Rho → Value} {sz : Nat} {T0 : TypeId} (bb : Rho → Nat) (hsz : ∀ w, (sizeOf T).run P w = .ok sz w) (hx : ∀ ρ, ev n (Eh its al0 ρ) x = some (bp (bb ρ) f)) (hy : ∀ ρ, ev n (Eh its al0 ρ) y = some (v ρ)) (hv : ∀ ρ, (v ρ).cells = (us ρ).toArray) (hl : ∀ ρ, (us ρ).length = sz)
  (h1 : ∀ ρ R' w L', Deps ops R0 its i ρ R' → St L' R' w → ∀ u ∈ us ρ, u.oneCell' = true) (hf : ∀ ρ, Nat.ble (f + sz) (vs ρ).length = true)
  (hSh : ∀ ρ g S, S i = false → (∀ j, Bef ops j i → S j = true) → (∀ j, Bef ops i j → S j = false) → ∃ L1, (Sh ρ S).Perm (blk (bb ρ) T0 (vs ρ) :: L1) ∧ (Sh (Rho.set ρ i g) (upS S i)).Perm (blk (bb ρ) T0 ((vs ρ).take f ++ us ρ ++ (vs ρ).drop (f + sz)) :: L1))
  (k : DJ P n ops Q Sh R0 al0 (i + 1) rest (⟨i, none, fun _ => undef, fun _ => [], fun _ => []⟩ :: its)) : DJ P n ops Q Sh R0 al0 i (⟨none, .store T x y, ty, pos, aft, none⟩ :: rest) its := by
 refine dj ⟨⟨i, none, fun _ => undef, fun _ => [], fun _ => []⟩, rfl, rfl, Ind.const _, Ind.const _, Ind.const _, ?_, k⟩
 intro ρ S a L' R' w K hS hbef haft hag hdep hbase hst hK
 rw [if_pos (by simp [Region.wanted])]
 left
 unfold Oper.wp
 obtain ⟨L1, p1, p2⟩ := hSh ρ (ρ i) S hS hbef haft
 have hs' : St (blk (bb ρ) T0 (vs ρ) :: (L1 ++ L')) R' w := hst.perm (p1.append_right L')
 have hone := h1 ρ R' w _ ⟨hbase, hdep⟩ hst
 have hfit : f + (us ρ).length ≤ (vs ρ).length := by rw [hl]; exact Nat.le_of_ble_eq_true (hf ρ)
 have e : (execOp a.eval ⟨none, .store T x y, ty, pos, aft, none⟩).run P w = .ok .skip (w.setRow (bb ρ) ((vs ρ).take f ++ us ρ ++ (vs ρ).drop (f + (us ρ).length)).toArray) := by
  refine Fa ?_
  rw [Cp hag (by simp [Op.operands]) (hx ρ), Cp hag (by simp [Op.operands]) (hy ρ)]
  have := run_storeCells_at P (bb ρ) f T0 (us ρ) 0 (vs ρ).toArray w hs'.blk_get (by simpa using hfit) hone
  simp only [Nat.add_zero] at this
  have hl' := hl ρ
  simp [Instr.storeAt, Instr.sureAddr, storeVar, hsz, hv, bp, hl', this]
 rw [e, Oper.upon_skip]
 refine hK (ρ i) _ ?_
 have hnew := hs'.blk_set (C9 (us := (vs ρ).take f ++ us ρ ++ (vs ρ).drop (f + (us ρ).length)) hs'.blk_get).1 (C9 hs'.blk_get).2 rfl rfl
 rw [hl] at hnew ⊢
 exact hnew.perm (p2.symm.append_right L')
end
inductive Ins : List Chunk → List Chunk → Chunk → Prop
 | hd {r x} : Ins ([x] ++ r) r x
 | hc {r x} : Ins (x :: r) r x
 | tl {r r' x c} : Ins r' r x → Ins (c :: r') (c :: r) x
 | ap {r r' x P} : Ins r' r x → Ins (P ++ r') (P ++ r) x
theorem Ins.perm {l' l : List Chunk} {x : Chunk} (h : Ins l' l x) : l'.Perm (x :: l) := by
 induction h with
 | hd => exact .refl _
 | hc => exact .refl _
 | tl _ ih => exact (ih.cons _).trans (.swap ..)
 | ap _ ih => exact (ih.append_left _).trans List.perm_middle
inductive Pos : List Chunk → List Chunk → Chunk → Chunk → List Chunk → Prop
 | hd {r x x'} : Pos ([x] ++ r) ([x'] ++ r) x x' r
 | hc {r x x'} : Pos (x :: r) (x' :: r) x x' r
 | tl {r r' x x' c L1} : Pos r r' x x' L1 → Pos (c :: r) (c :: r') x x' (c :: L1)
 | ap {r r' x x' P L1} : Pos r r' x x' L1 → Pos (P ++ r) (P ++ r') x x' (P ++ L1)
theorem Pos.ex {l l' L1 : List Chunk} {x x' : Chunk} (h : Pos l l' x x' L1) : ∃ L1, l.Perm (x :: L1) ∧ l'.Perm (x' :: L1) := by
 induction h with
 | hd => exact ⟨_, .refl _, .refl _⟩
 | hc => exact ⟨_, .refl _, .refl _⟩
 | tl _ ih => obtain ⟨L1, h1, h2⟩ := ih; exact ⟨_ :: L1, (h1.cons _).trans (.swap ..), (h2.cons _).trans (.swap ..)⟩
 | ap _ ih => obtain ⟨L1, h1, h2⟩ := ih; exact ⟨_ ++ L1, (h1.append_left _).trans List.perm_middle, (h2.append_left _).trans List.perm_middle⟩
section
variable {P : Program} {n : Nat} {ops : Array Oper} {Q : Exit → Act → World → Prop} {rest : List Oper} {L L' : List Chunk} {R : List Fact} {al : List (Nat × Value)} {d : Nat} {x y : Operand} {T ty : TypeId} {pos : String} {aft : Array Edge}
theorem s_W {α : Type} [Enc α] {T' : TypeId} {v : Value} {xs : List α} {i sz : Nat} {cs : List Value} (e' : α) (hsz : ∀ w, (sizeOf T).run P w = .ok sz w) (hx : ev n al x = some (ep v sz i 0)) (hy : ev n al y = some (.agg cs.toArray)) (hes : Enc.sz α = sz) (hp : Pick L (row T' v xs) L') (hi : i < xs.length) (hrd : ∀ j, (∀ q ∈ R, q.p j) → Enc.rd e' cs j)
  (k : J P n ops Q rest (row T' v (xs.set i e') :: L') R al) : J P n ops Q (⟨none, .store T x y, ty, pos, aft, none⟩ :: rest) L R al := fun B w hs => by
 obtain ⟨j, _, hr⟩ := hs.ex
 have hl := Enc.len _ _ _ (hrd j hr)
 subst hes
 obtain ⟨e, he⟩ : ∃ e, xs[i]? = some e := ⟨xs[i], List.getElem?_eq_getElem hi⟩
 refine I2 (α := α) (f := 0) (cs := cs) (e := e) (e' := e') hsz hx hy rfl hl (Enc.one _ _ _ (hrd j hr)) hp he (fun ds m hr => by rw [Enc.len _ _ _ hr, hl]; omega) (fun j hj ds hr => ?_) k B w hs
 have hd := Enc.len _ _ _ hr
 have : ds.take 0 ++ cs ++ ds.drop (0 + cs.length) = cs := by rw [List.drop_of_length_le (by omega)]; simp
 rw [this]; exact hrd j hj
theorem Dw {u : Value} {e : Entry} (hm : sl u e.last ∈ R) (hw : e.wf) : ∀ j, (∀ q ∈ R, q.p j) → Enc.rd e (e.cells u) j := fun j h => ⟨u, rfl, h _ hm, hw⟩
theorem Wm {u : Value} {e : Core} (hm : sl u e.lines ∈ R) (hw : e.wait.wf) : ∀ j, (∀ q ∈ R, q.p j) → Enc.rd e (e.cells u) j := fun j h => ⟨u, rfl, h _ hm, hw⟩
theorem rdLine {e : Line} (hw : e.wf) : ∀ j, (∀ q ∈ R, q.p j) → Enc.rd e e.cells j := fun j h => ⟨rfl, hw⟩
theorem Il {e : Msg} (hw : e.wf) : ∀ j, (∀ q ∈ R, q.p j) → RdV [e] [.agg e.cells.toArray] j := fun j _ => ⟨⟨_, rfl, rfl, hw⟩, trivial⟩
theorem F2 {e : Done} (hw : e.wf) : ∀ j, (∀ q ∈ R, q.p j) → RdV [e] [.agg e.cells.toArray] j := fun j _ => ⟨⟨_, rfl, rfl, hw⟩, trivial⟩
end
end Go.Proofs.YtbigiimomnfpdaaGreat
namespace Go.Proofs.YtbigiimomnfpdaaGreat
open Go
section
variable {P : Program} {n : Nat} {Q : Exit → Act → World → Prop} {Sh : Rho → (Nat → Bool) → List Chunk} {R0 : List Fact} {al0 : List (Nat × Value)}
variable {ops : Array Oper} {i : Nat} {rest : List Oper} {its : List Item} {x y : Operand} {T ty : TypeId} {pos : String} {aft : Array Edge}
theorem Eb {f : Nat} {vs : Rho → List Value} {v : Rho → Value} {T0 : TypeId} (bb : Rho → Nat) (hsz : ∀ w, (sizeOf T).run P w = .ok 1 w) (hx : ∀ ρ, ev n (Eh its al0 ρ) x = some (bp (bb ρ) f)) (hy : ∀ ρ, ev n (Eh its al0 ρ) y = some (v ρ))
  (h1 : ∀ ρ S R' w L', (∀ j, Bef ops j i → S j = true) → Deps ops R0 its i ρ R' → St (Sh ρ S ++ L') R' w → (v ρ).oneCell' = true) (hf : ∀ ρ, Nat.ble (f + 1) (vs ρ).length = true)
  (hSh : ∀ ρ g S, S i = false → (∀ j, Bef ops j i → S j = true) → (∀ j, Bef ops i j → S j = false) → ∃ L1, (Sh ρ S).Perm (blk (bb ρ) T0 (vs ρ) :: L1) ∧ (Sh (Rho.set ρ i g) (upS S i)).Perm (blk (bb ρ) T0 ((vs ρ).take f ++ [v ρ] ++ (vs ρ).drop (f + 1)) :: L1))
  (k : DJ P n ops Q Sh R0 al0 (i + 1) rest (⟨i, none, fun _ => undef, fun _ => [], fun _ => []⟩ :: its)) : DJ P n ops Q Sh R0 al0 i (⟨none, .store T x y, ty, pos, aft, none⟩ :: rest) its := by
 refine dj ⟨⟨i, none, fun _ => undef, fun _ => [], fun _ => []⟩, rfl, rfl, Ind.const _, Ind.const _, Ind.const _, ?_, k⟩
 intro ρ S a L' R' w K hS hbef haft hag hdep hbase hst hK
 rw [if_pos (by simp [Region.wanted])]
 left
 unfold Oper.wp
 obtain ⟨L1, p1, p2⟩ := hSh ρ (ρ i) S hS hbef haft
 have hs' : St (blk (bb ρ) T0 (vs ρ) :: (L1 ++ L')) R' w := hst.perm (p1.append_right L')
 have hone := h1 ρ S R' w _ hbef ⟨hbase, hdep⟩ hst
 have hone' : ∀ u ∈ [v ρ], u.oneCell' = true := by intro u hu; cases List.mem_singleton.1 hu; exact hone
 have hfit : f + [v ρ].length ≤ (vs ρ).length := Nat.le_of_ble_eq_true (hf ρ)
 have hc := Hh hone
 have e : (execOp a.eval ⟨none, .store T x y, ty, pos, aft, none⟩).run P w = .ok .skip (w.setRow (bb ρ) ((vs ρ).take f ++ [v ρ] ++ (vs ρ).drop (f + 1)).toArray) := by
  refine Fa ?_
  rw [Cp hag (by simp [Op.operands]) (hx ρ), Cp hag (by simp [Op.operands]) (hy ρ)]
  have := run_storeCells_at P (bb ρ) f T0 [v ρ] 0 (vs ρ).toArray w hs'.blk_get (by simpa using hfit) hone'
  simp only [Nat.add_zero, List.length_cons, List.length_nil, Nat.zero_add] at this
  simp [Instr.storeAt, Instr.sureAddr, storeVar, hsz, hc, bp, this]
 rw [e, Oper.upon_skip]
 refine hK (ρ i) _ ?_
 have hnew := hs'.blk_set (C9 (us := (vs ρ).take f ++ [v ρ] ++ (vs ρ).drop (f + 1)) hs'.blk_get).1 (C9 hs'.blk_get).2 rfl rfl
 exact hnew.perm (p2.symm.append_right L')
theorem e_pd {op : Oper} {d : Nat} {v : Rho → Value} (hp : ∀ ρ S R' L' w, Deps ops R0 its i ρ R' → St (Sh ρ S ++ L') R' w → A2 P n (Eh its al0 ρ) (Sh ρ S) R0 op (v ρ)) (hi : Ind ops i v) (hSh : Jw ops Sh i)
  (k : DJ P n ops Q Sh R0 al0 (i + 1) rest (⟨i, some d, v, fun _ => [], fun _ => []⟩ :: its)) (hg : op.guard = none := by exact rfl) (hd : op.dst = some d := by exact rfl) : DJ P n ops Q Sh R0 al0 i (op :: rest) its := by
 refine dj ⟨⟨i, some d, v, fun _ => [], fun _ => []⟩, rfl, hd.symm, hi, Ind.const _, Ind.const _, ?_, k⟩
 intro ρ S a L' R' w K hS hbef haft hag hdep hbase hst hK
 have hp0 := hp ρ S R' L' w ⟨hbase, hdep⟩ hst
 rw [if_pos (by simp [Region.wanted, hg])]
 left
 unfold Oper.wp
 have h : Now ops n Sh R0 al0 i its op ρ S a L' R' w := ⟨hS, hag, hdep, hbase, hst⟩
 rw [hp0.2 _ w (fun x hx u hu => Cp h.agree hx hu) (h.st.fewer h.base), Oper.upon_value]
 have hsh := hSh ρ (ρ i) S hS haft
 rw [Rho.set_same] at hsh
 have := hK (ρ i) w
 rw [Rho.set_same] at this
 exact this (by rw [hsh]; exact hst)
theorem Bx {α : Type} [Enc α] {L L' : List Chunk} {R : List Fact} {w : World} {T : TypeId} {v : Value} {xs : List α} (hp : Pick L (row T v xs) L') (hs : St L R w) : v.oneCell' = true := isSlice.one (St.fact (List.Mem.head _) (hs.pick hp).shut)
theorem En {α : Type} [Enc α] {f k sz : Nat} {hv : Value} {xs : List α} {vs : Rho → List Value} {v : Rho → Value} {T0 : TypeId} (hes : Enc.sz α = sz) (hsz : ∀ w, (sizeOf T).run P w = .ok 1 w) (hx : ∀ ρ, ev n (Eh its al0 ρ) x = some (ep hv sz k f)) (hy : ∀ ρ, ev n (Eh its al0 ρ) y = some (v ρ))
  (h1 : ∀ ρ S R' w L', (∀ j, Bef ops j i → S j = true) → Deps ops R0 its i ρ R' → St (Sh ρ S ++ L') R' w → (v ρ).oneCell' = true) (hf : ∀ ρ, Nat.ble (f + 1) (vs ρ).length = true)
  (hSh : ∀ ρ g S, S i = false → (∀ j, Bef ops j i → S j = true) → (∀ j, Bef ops i j → S j = false) → ∃ L1, (Sh ρ S).Perm (foc T0 hv xs k (vs ρ) :: L1) ∧ (Sh (Rho.set ρ i g) (upS S i)).Perm (foc T0 hv xs k ((vs ρ).take f ++ [v ρ] ++ (vs ρ).drop (f + 1)) :: L1))
  (kk : DJ P n ops Q Sh R0 al0 (i + 1) rest (⟨i, none, fun _ => undef, fun _ => [], fun _ => []⟩ :: its)) : DJ P n ops Q Sh R0 al0 i (⟨none, .store T x y, ty, pos, aft, none⟩ :: rest) its := by
 refine dj ⟨⟨i, none, fun _ => undef, fun _ => [], fun _ => []⟩, rfl, rfl, Ind.const _, Ind.const _, Ind.const _, ?_, kk⟩
 intro ρ S a L' R' w K hS hbef haft hag hdep hbase hst hK
 rw [if_pos (by simp [Region.wanted])]
 left
 unfold Oper.wp
 obtain ⟨L1, p1, p2⟩ := hSh ρ (ρ i) S hS hbef haft
 have hs' : St (foc T0 hv xs k (vs ρ) :: (L1 ++ L')) R' w := hst.perm (p1.append_right L')
 have hone := h1 ρ S R' w _ hbef ⟨hbase, hdep⟩ hst
 have hone' : ∀ u ∈ [v ρ], u.oneCell' = true := by intro u hu; cases List.mem_singleton.1 hu; exact hone
 have hfit : f + [v ρ].length ≤ (vs ρ).length := Nat.le_of_ble_eq_true (hf ρ)
 have hc := Hh hone
 subst hes
 obtain ⟨g, cap, cur, hv', hg, hfit', hst'⟩ := Q0 hs' hone' hfit
 have e : (execOp a.eval ⟨none, .store T x y, ty, pos, aft, none⟩).run P w = .ok .skip (w.setRow g (cur.toList.take (k * Enc.sz α + f) ++ [v ρ] ++ cur.toList.drop (k * Enc.sz α + f + [v ρ].length)).toArray) := by
  refine Fa ?_
  rw [Cp hag (by simp [Op.operands]) (hx ρ), Cp hag (by simp [Op.operands]) (hy ρ), hv', Lk, Gw]
  have := run_storeCells_at P g (k * Enc.sz α + f) T0 [v ρ] 0 cur w hg (by simpa using hfit') hone'
  simp only [Nat.add_zero, List.length_cons, List.length_nil, Nat.zero_add] at this ⊢
  simp [Instr.storeAt, Instr.sureAddr, storeVar, hsz, hc, this]
 rw [e, Oper.upon_skip]
 refine hK (ρ i) _ ?_
 exact hst'.perm (p2.symm.append_right L')
theorem Fi {α : Type} [Enc α] {t e : TypeId} {d sz bytes : Nat} {z : Value} {xs ys : List α} {v : Value} {u : Rho → Value} (he : ElemOf P t e sz z bytes) (hx : ∀ ρ, ev n (Eh its al0 ρ) x = some v) (hy : ∀ ρ, ev n (Eh its al0 ρ) y = some (u ρ)) (hsz : Enc.sz α = sz) (hpos : 0 < sz)
  (hm : ∀ ρ R', Deps ops R0 its i ρ R' → sl (u ρ) ys ∈ R') (hb : xs.length + ys.length ≤ maxN)
  (hSh : ∀ ρ (g : Value) S, S i = false → (∀ j, Bef ops j i → S j = true) → (∀ j, Bef ops i j → S j = false) → ∃ L1, (Sh ρ S).Perm (row e v xs :: L1) ∧ (Sh (Rho.set ρ i (Gh.enc g)) (upS S i)).Perm (row e g (xs ++ ys) :: L1))
  (k : DJ P n ops Q Sh R0 al0 (i + 1) rest (⟨i, some d, fun ρ => (Gh.dec (ρ i) : Value), fun _ => [], fun _ => []⟩ :: its)) :
  DJ P n ops Q Sh R0 al0 i (⟨some d, .call { callee := .builtin .append, args := #[x, y], argTypes := #[t, t] }, ty, pos, aft, none⟩ :: rest) its := by
 refine dj ⟨⟨i, some d, fun ρ => (Gh.dec (ρ i) : Value), fun _ => [], fun _ => []⟩, rfl, rfl, Ind.self (h := fun g => (Gh.dec g : Value)), Ind.const _, Ind.const _, ?_, k⟩
 intro ρ S a L' R' w K hS hbef haft hag hdep hbase hst hK
 rw [if_pos (by simp [Region.wanted])]
 left
 unfold Oper.wp
 obtain ⟨L1, p1, _⟩ := hSh ρ undef S hS hbef haft
 have hs' : St (row e v xs :: (L1 ++ L')) R' w := hst.perm (p1.append_right L')
 obtain ⟨v', w', h1, h2⟩ := Hi (ty := ty) he hsz hpos hs' (hm ρ R' ⟨hbase, hdep⟩) hb
 have hx' := Cp hag (by simp [Op.operands, Call.operands]) (hx ρ)
 have hy' := Cp hag (by simp [Op.operands, Call.operands]) (hy ρ)
 rw [Fs (w' := w') (v := v') (by rw [hx', hy']; exact h1), Oper.upon_value]
 obtain ⟨L2, q1, q2⟩ := hSh ρ v' S hS hbef haft
 have e2 : (Rho.set ρ i (Gh.enc v')) i = Gh.enc v' := by simp [Rho.set]
 have h3 := h2
 have hL : L1.Perm L2 := (List.perm_cons _).1 (p1.symm.trans q1)
 have := hK (Gh.enc v') w' ((h3.perm ((hL.append_right L').cons _)).perm (by
  refine List.Perm.trans ?_ (q2.symm.append_right L')
  exact List.Perm.refl _))
 simp only [e2, Gh.ok] at this
 exact this
theorem Abx {α : Type} [Enc α] {v : Value} {xs : List α} {k sz : Nat} {T0 : TypeId} {e' : α} {c : Rho → Value} {cs : Rho → List Value} (hsz : ∀ w, (sizeOf T).run P w = .ok sz w) (hes : Enc.sz α = sz) (hi : k < xs.length)
  (hx : ∀ ρ, ev n (Eh its al0 ρ) x = some (ep v sz k 0)) (hy : ∀ ρ, ev n (Eh its al0 ρ) y = some (c ρ)) (hc : ∀ ρ, (c ρ).oneCell' = true → (c ρ).cells = (cs ρ).toArray) (hone : ∀ ρ R' w L', Deps ops R0 its i ρ R' → St L' R' w → (c ρ).oneCell' = true)
  (hrd : ∀ ρ R', Deps ops R0 its i ρ R' → ∀ j, (∀ q ∈ R', q.p j) → Enc.rd e' (cs ρ) j)
  (hSh : ∀ ρ g S, S i = false → (∀ j, Bef ops j i → S j = true) → (∀ j, Bef ops i j → S j = false) → ∃ L1, (Sh ρ S).Perm (row T0 v xs :: L1) ∧ (Sh (Rho.set ρ i g) (upS S i)).Perm (row T0 v (xs.set k e') :: L1))
  (kk : DJ P n ops Q Sh R0 al0 (i + 1) rest (⟨i, none, fun _ => undef, fun _ => [], fun _ => []⟩ :: its)) : DJ P n ops Q Sh R0 al0 i (⟨none, .store T x y, ty, pos, aft, none⟩ :: rest) its := by
 refine dj ⟨⟨i, none, fun _ => undef, fun _ => [], fun _ => []⟩, rfl, rfl, Ind.const _, Ind.const _, Ind.const _, ?_, kk⟩
 intro ρ S a L' R' w K hS hbef haft hag hdep hbase hst hK
 rw [if_pos (by simp [Region.wanted])]
 left
 unfold Oper.wp
 obtain ⟨L1, p1, p2⟩ := hSh ρ (ρ i) S hS hbef haft
 have hs' : St (row T0 v xs :: (L1 ++ L')) R' w := hst.perm (p1.append_right L')
 have hdeps : Deps ops R0 its i ρ R' := ⟨hbase, hdep⟩
 have h1c := hone ρ R' w _ hdeps hst
 obtain ⟨j0, _, hr0⟩ := hst.ex
 have hrd0 := hrd ρ R' hdeps
 have hl := Enc.len _ _ _ (hrd0 j0 hr0)
 have h1 := Enc.one _ _ _ (hrd0 j0 hr0)
 obtain ⟨e, he⟩ : ∃ e, xs[k]? = some e := ⟨xs[k], List.getElem?_eq_getElem hi⟩
 subst hes
 have hf : ∀ ds m, Enc.rd e ds m → 0 + (cs ρ).length ≤ ds.length := fun ds m hr => by rw [Enc.len _ _ _ hr, hl]; omega
 have hw : ∀ j, (∀ q ∈ R', q.p j) → ∀ ds, Enc.rd e ds j → Enc.rd e' (ds.take 0 ++ cs ρ ++ ds.drop (0 + (cs ρ).length)) j := fun j hj ds hr => by
  have hd := Enc.len _ _ _ hr
  have : ds.take 0 ++ cs ρ ++ ds.drop (0 + (cs ρ).length) = cs ρ := by rw [List.drop_of_length_le (by omega)]; simp
  rw [this]; exact hrd0 j hj
 obtain ⟨g, cap, cur, hv, hg, hfit, hst'⟩ := Mf (w' := w) hs' he hf hw
 have hcx := hc ρ h1c
 have e9 : (execOp a.eval ⟨none, .store T x y, ty, pos, aft, none⟩).run P w = .ok .skip (w.setRow g (cur.toList.take (k * Enc.sz α + 0) ++ cs ρ ++ cur.toList.drop (k * Enc.sz α + 0 + (cs ρ).length)).toArray) := by
  refine Fa ?_
  rw [Cp hag (by simp [Op.operands]) (hx ρ), Cp hag (by simp [Op.operands]) (hy ρ), hv, Lk, Gw]
  have := run_storeCells_at P g (k * Enc.sz α + 0) T0 (cs ρ) 0 cur w hg (by simpa using hfit) h1
  simp only [Nat.add_zero, Nat.zero_add] at this ⊢
  rw [hl] at this ⊢
  simp [Instr.storeAt, Instr.sureAddr, storeVar, hsz, hcx, hl, this]
 rw [e9, Oper.upon_skip]
 refine hK (ρ i) _ ?_
 exact hst'.perm (p2.symm.append_right L')
end
end Go.Proofs.YtbigiimomnfpdaaGreat
