/- This file proves parts of what its law needs: each part is told ahead of it. No conditions. -/
import Derived.Test.YtkgijpngobgfjaaLM1
import Derived.Laws.StructEq
set_option linter.unusedVariables false
set_option linter.unusedSimpArgs false
namespace Go.Proofs.Ytkgijpngobgfjaa
open Go
def cF (v : Value) (sz i : Nat) (cs : List Value) : Fact :=
 ⟨fun m => ∃ a cells T fz, ep v sz i 0 = .pointer (some a) ∧ (∀ f, ep v sz i f = .pointer (some (a.add f))) ∧ a.spot = none ∧ m (a.block + 1) = some (.ob (.cells cells T fz)) ∧ ∀ (k : Nat) c, cs[k]? = some c → cells[a.off + k]? = some c,
  fun m m' h ⟨a, cells, T, fz, h1, h2, h3, h4, h5⟩ => ⟨a, cells, T, fz, h1, h2, h3, h _ _ h4, h5⟩⟩
section
variable {P : Program} {n : Nat} {ops : Array Oper} {Q : Exit → Act → World → Prop} {rest : List Oper} {L L' : List Chunk} {R : List Fact} {al : List (Nat × Value)} {d : Nat} {x y : Operand} {T ty : TypeId} {pos : String} {aft : Array Edge}
theorem Ala {v : Value} {sz i f : Nat} {cs ds : List Value} (hm : cF v sz i cs ∈ R) (hd : ∀ (k : Nat) c, ds[k]? = some c → cs[f + k]? = some c) : Cw L R (ep v sz i f) ds := by
 intro w hs
 obtain ⟨m, hle, hr⟩ := hs.ex
 obtain ⟨a, cells, T, fz, h1, h2, h3, h4, h5⟩ := hr _ hm
 refine ⟨a.add f, h2 f, fun k c hk => ?_⟩
 rw [Gu, Fp h3, Gd (J9 (hle _ _ h4))]
 exact h5 _ _ (hd k c hk)
theorem Aln {v : Value} {sz i f : Nat} {cs : List Value} {c : Value} (hm : cF v sz i cs ∈ R) (hc : cs[f]? = some c) : Cw L R (ep v sz i f) [c] :=
 Ala hm fun k c' hk => by
  match k, hk with
  | 0, hk => simp at hk; subst hk; exact hc
  | k + 1, hk => simp at hk
theorem at_cN {v : Value} {sz i f k : Nat} {cs : List Value} (hm : cF v sz i cs ∈ R) : Cw L R (ep v sz i f) ((cs.drop f).take k) :=
 Ala hm fun j c hk => by
  rw [List.getElem?_take] at hk
  split at hk
  ·rw [List.getElem?_drop] at hk; exact hk
  ·cases hk
theorem Aba {v : Value} {sz i : Nat} {cs : List Value} (hm : cF v sz i cs ∈ R) : Cw L R (ep v sz i 0) cs := Ala hm fun k c hk => by rw [Nat.zero_add]; exact hk
variable {α : Type} [Enc α] {v : Value} {xs : List α} {i : Nat} {e : α}
theorem Yb {m : Mem} (h : isSlice v xs m) (hi : xs[i]? = some e) : ∃ cs, Enc.rd e cs m ∧ (cF v (Enc.sz α) i cs).p m := by
 obtain ⟨base, cap, hv, hn, hc⟩ := h
 have hne : xs ≠ [] := by intro h0; rw [h0] at hi; simp at hi
 obtain ⟨a, cells, T, fz, cs, h1, h2, h3, h4, h5⟩ := hc hne
 obtain ⟨p, c, q, e1, e2, e3, _⟩ := h5.get hi
 subst h1
 refine ⟨c, e3, a.add (i * Enc.sz α), cells, T, fz, by rw [hv, N3, Nat.add_zero], fun f => by rw [hv, N3, Gu], by rw [Fp h2], by rw [Fp h2]; exact h3, fun k u hk => ?_⟩
 rw [Fp h2]
 have hcs : cs[i * Enc.sz α + k]? = some u := by
  rw [e1, List.append_assoc, List.getElem?_append_right (by omega), show i * Enc.sz α + k - p.length = k by omega, List.getElem?_append_left]
  ·exact hk
  ·exact (List.getElem?_eq_some_iff.1 hk).1
 rw [← h4, List.getElem?_take] at hcs
 split at hcs
 ·rw [List.getElem?_drop] at hcs
  rw [← Array.getElem?_toList, ← hcs, Nat.add_assoc]
 ·cases hcs
end
class El0 (α : Type) [Enc α] where
 cs : α → List Value
 wf : α → Prop
 df : α
 ok : ∀ (x : α) ds m, Enc.rd x ds m → ds = cs x ∧ wf x
class El1 (α : Type) (β : outParam Type) [Enc α] [Enc β] where
 cs : Value → α → List Value
 wf : α → Prop
 df : α
 sub : α → List β
 ok : ∀ (x : α) ds m, Enc.rd x ds m → ∃ u, ds = cs u x ∧ isSlice u (sub x) m ∧ wf x
instance e0Int : El0 Int := ⟨fun x => [vi x], An, 0, fun _ _ _ h => h⟩
instance e0Byte : El0 UInt8 := ⟨fun x => [vb x], fun _ => True, 0, fun _ _ _ h => ⟨h, trivial⟩⟩
instance e0Msg : El0 Msg := ⟨Msg.cells, Msg.wf, zMsg, fun _ _ _ h => h⟩
instance e0Line : El0 Line := ⟨Line.cells, Line.wf, zLine, fun _ _ _ h => h⟩
instance e0Op : El0 Op := ⟨Op.cells, Op.wf, zOp, fun _ _ _ h => h⟩
instance e0Done : El0 Done := ⟨Done.cells, Done.wf, zDone, fun _ _ _ h => h⟩
instance e0Step : El0 Step := ⟨Step.cells, Step.wf, zStep, fun _ _ _ h => h⟩
instance e1List {β : Type} [Enc β] : El1 (List β) β := ⟨fun u _ => [u], fun _ => True, [], fun x => x, fun _ _ _ h => by obtain ⟨u, h1, h2⟩ := h; exact ⟨u, h1, h2, trivial⟩⟩
instance e1Core : El1 Core Line := ⟨fun u x => x.cells u, fun x => x.wait.wf, Fa, fun x => x.lines, fun _ _ _ h => h⟩
instance e1Entry : El1 Entry Int := ⟨fun u x => x.cells u, fun x => x.wf, A5, fun x => x.last, fun _ _ _ h => h⟩
section
variable {P : Program} {n : Nat} {ops : Array Oper} {Q : Exit → Act → World → Prop} {L L' : List Chunk} {R : List Fact} {al : List (Nat × Value)}
variable {α β : Type} [Enc α] [Enc β] {v : Value} {xs : List α}
theorem St.open0 [El0 α] {w : World} (i : Nat) (hm : sl v xs ∈ R) (hi : i < xs.length) (hs : St L R w) : El0.wf (xs.getD i El0.df) ∧ St L (cF v (Enc.sz α) i (El0.cs (xs.getD i El0.df)) :: R) w := by
 obtain ⟨m, j, hd, hmw, hjw, hst, hr⟩ := hs
 obtain ⟨cs, h1, h2⟩ := Yb (hr _ hm) (getD_some El0.df hi)
 obtain ⟨rfl, h4⟩ := El0.ok _ _ _ h1
 refine ⟨h4, m, j, hd, hmw, hjw, hst, fun g hg => ?_⟩
 cases List.mem_cons.1 hg with
 | inl e => rw [e]; exact h2
 | inr e => exact hr g e
theorem St.open1 [El1 α β] {w : World} (i : Nat) (hm : sl v xs ∈ R) (hi : i < xs.length) (hs : St L R w) : El1.wf (xs.getD i El1.df) ∧ ∃ u, St L (cF v (Enc.sz α) i (El1.cs u (xs.getD i El1.df)) :: sl u (El1.sub (xs.getD i El1.df)) :: R) w := by
 obtain ⟨m, j, hd, hmw, hjw, hst, hr⟩ := hs
 obtain ⟨cs, h1, h2⟩ := Yb (hr _ hm) (getD_some El1.df hi)
 obtain ⟨u, rfl, h3, h4⟩ := El1.ok _ _ _ h1
 refine ⟨h4, u, m, j, hd, hmw, hjw, hst, fun g hg => ?_⟩
 cases List.mem_cons.1 hg with
 | inl e => rw [e]; exact h2
 | inr e => cases List.mem_cons.1 e with
  | inl e => rw [e]; exact h3
  | inr e => exact hr g e
theorem JC.open0 [El0 α] {c : Code} (i : Nat) (hm : sl v xs ∈ R) (hi : i < xs.length) (k : El0.wf (xs.getD i El0.df) → JC P n c Q L (cF v (Enc.sz α) i (El0.cs (xs.getD i El0.df)) :: R) al) : JC P n c Q L R al :=
 fun B w hs => let h := hs.open0 i hm hi; k h.1 B w h.2
theorem J.open0 [El0 α] {l : List Oper} (i : Nat) (hm : sl v xs ∈ R) (hi : i < xs.length) (k : El0.wf (xs.getD i El0.df) → J P n ops Q l L (cF v (Enc.sz α) i (El0.cs (xs.getD i El0.df)) :: R) al) : J P n ops Q l L R al :=
 fun B w hs => let h := hs.open0 i hm hi; k h.1 B w h.2
theorem JC.open1 [El1 α β] {c : Code} (i : Nat) (hm : sl v xs ∈ R) (hi : i < xs.length) (k : El1.wf (xs.getD i El1.df) → ∀ u, JC P n c Q L (cF v (Enc.sz α) i (El1.cs u (xs.getD i El1.df)) :: sl u (El1.sub (xs.getD i El1.df)) :: R) al) : JC P n c Q L R al :=
 fun B w hs => let ⟨h, u, h'⟩ := hs.open1 i hm hi; k h u B w h'
theorem J.open1 [El1 α β] {l : List Oper} (i : Nat) (hm : sl v xs ∈ R) (hi : i < xs.length) (k : El1.wf (xs.getD i El1.df) → ∀ u, J P n ops Q l L (cF v (Enc.sz α) i (El1.cs u (xs.getD i El1.df)) :: sl u (El1.sub (xs.getD i El1.df)) :: R) al) : J P n ops Q l L R al :=
 fun B w hs => let ⟨h, u, h'⟩ := hs.open1 i hm hi; k h u B w h'
end
def Raw (k : Nat) : Type := { l : List Value // l.length = k ∧ ∀ u ∈ l, u.oneCell' = true }
instance instEncRaw {k : Nat} : Enc (Raw k) where
 sz := k
 rd x cs _ := cs = x.1
 mono _ _ _ _ _ h := h
 len x cs _ h := by rw [h]; exact x.2.1
 one x cs _ h := by rw [h]; exact x.2.2
def foc {α : Type} [Enc α] (T : TypeId) (v : Value) (xs : List α) (i : Nat) (cs : List Value) : Chunk :=
 ⟨fun m j => ∃ rs : List (Raw (Enc.sz α)), (row T v rs).p m j ∧ rs.length = xs.length ∧ (∃ r, rs[i]? = some r ∧ r.1 = cs) ∧ ∀ (k : Nat) e r, k ≠ i → xs[k]? = some e → rs[k]? = some r → Enc.rd e r.1 j,
  fun m j j' h ⟨rs, h1, h2, h3, h4⟩ => ⟨rs, (row T v rs).mono _ _ _ h h1, h2, h3, fun k e r hk he hr => Enc.mono _ _ _ _ h (h4 k e r hk he hr)⟩⟩
section
variable {α : Type} [Enc α]
theorem RdL.raw {m : Mem} : ∀ {xs : List α} {cs : List Value}, RdL xs cs m → ∃ rs : List (Raw (Enc.sz α)), RdL rs cs m ∧ rs.length = xs.length ∧ ∀ (k : Nat) e r, xs[k]? = some e → rs[k]? = some r → Enc.rd e r.1 m
 | [], cs, h => ⟨[], h, rfl, fun k e r h' => by simp at h'⟩
 | x :: xs, cs, ⟨c1, c2, h1, h2, h3⟩ => by
  obtain ⟨rs, e1, e2, e3⟩ := RdL.raw h3
  obtain ⟨r0, hr0⟩ : ∃ r0 : Raw (Enc.sz α), r0.1 = c1 := ⟨⟨c1, Enc.len _ _ _ h2, Enc.one _ _ _ h2⟩, rfl⟩
  refine ⟨r0 :: rs, ⟨c1, c2, h1, hr0.symm, e1⟩, by simp [e2], fun k e r hx hr => ?_⟩
  cases k with
  | zero =>
   have ex : x = e := by simpa using hx
   have er : r0 = r := by simpa using hr
   rw [← ex, ← er, hr0]; exact h2
  | succ k => exact e3 k e r (by simpa using hx) (by simpa using hr)
theorem RdL.typed {m : Mem} : ∀ {xs : List α} {rs : List (Raw (Enc.sz α))} {cs : List Value}, RdL rs cs m → rs.length = xs.length → (∀ (k : Nat) e r, xs[k]? = some e → rs[k]? = some r → Enc.rd e r.1 m) → RdL xs cs m
 | [], [], cs, h, _, _ => h
 | [], _ :: _, _, _, hl, _ => by simp at hl
 | _ :: _, [], _, _, hl, _ => by simp at hl
 | x :: xs, r :: rs, cs, ⟨c1, c2, h1, h2, h3⟩, hl, hr => by
  refine ⟨c1, c2, h1, ?_, RdL.typed h3 (by simpa using hl) (fun k e r' hx hr' => hr (k + 1) e r' (by simpa using hx) (by simpa using hr'))⟩
  have := hr 0 x r rfl rfl
  rw [show c1 = r.1 from h2]; exact this
theorem Jg {T : TypeId} {v : Value} {xs : List α} {m j : Mem} (h : (row T v xs).p m j) : ∃ rs : List (Raw (Enc.sz α)), (row T v rs).p m j ∧ rs.length = xs.length ∧ ∀ (k : Nat) e r, xs[k]? = some e → rs[k]? = some r → Enc.rd e r.1 j := by
 obtain ⟨h0, hv | ⟨g, cap, cur, cs, hv, hg, hcap, hml, hsz, htk, hrd⟩⟩ := h
 ·exact ⟨[], ⟨Nat.zero_le _, .inl ⟨hv.1, rfl⟩⟩, by rw [hv.2]; rfl, fun k e r hx => by rw [hv.2] at hx; simp at hx⟩
 ·obtain ⟨rs, e1, e2, e3⟩ := hrd.raw
  exact ⟨rs, ⟨by rw [e2]; exact h0, .inr ⟨g, cap, cur, cs, by rw [e2]; exact hv, hg, by rw [e2]; exact hcap, hml, hsz, by rw [e2]; exact htk, e1⟩⟩, e2, e3⟩
theorem O8 {T : TypeId} {v : Value} {xs : List α} {rs : List (Raw (Enc.sz α))} {m j : Mem} (h : (row T v rs).p m j) (hl : rs.length = xs.length) (hr : ∀ (k : Nat) e r, xs[k]? = some e → rs[k]? = some r → Enc.rd e r.1 j) : (row T v xs).p m j := by
 obtain ⟨h0, hv | ⟨g, cap, cur, cs, hv, hg, hcap, hml, hsz, htk, hrd⟩⟩ := h
 ·have : xs = [] := by rw [hv.2] at hl; exact List.length_eq_zero_iff.1 hl.symm
  exact ⟨by rw [← hl]; exact h0, .inl ⟨hv.1, this⟩⟩
 ·exact ⟨by rw [← hl]; exact h0, .inr ⟨g, cap, cur, cs, by rw [← hl]; exact hv, hg, by rw [← hl]; exact hcap, hml, hsz, by rw [← hl]; exact htk, hrd.typed hl hr⟩⟩
end
section
variable {P : Program} {n : Nat} {ops : Array Oper} {Q : Exit → Act → World → Prop} {rest : List Oper} {L L' : List Chunk} {R : List Fact} {al : List (Nat × Value)} {d : Nat} {x y : Operand} {T ty : TypeId} {pos : String} {aft : Array Edge}
variable {α β : Type} [Enc α] [Enc β] {v : Value} {xs : List α} {i : Nat}
theorem St.focus {w : World} (hi : i < xs.length) (hs : St (row T v xs :: L) R w) : ∃ cs, St (foc T v xs i cs :: L) R w ∧ cs.length = Enc.sz α ∧ ∃ j e, xs[i]? = some e ∧ Enc.rd e cs j ∧ Mem.le j (Ck w) ∧ ∀ f ∈ R, f.p j := by
 obtain ⟨m, j, hd, hm, hj, ⟨m1, m2, hd', h1, h2, hc, hst⟩, hr⟩ := hs
 obtain ⟨rs, e1, e2, e3⟩ := Jg hc
 have hi' : i < rs.length := by omega
 refine ⟨(rs[i]'hi').1, ⟨m, j, hd, hm, hj, ⟨m1, m2, hd', h1, h2, ⟨rs, e1, e2, ⟨_, List.getElem?_eq_getElem hi', rfl⟩, fun k e r _ => e3 k e r⟩, hst⟩, hr⟩, (rs[i]'hi').2.1, j, xs[i], List.getElem?_eq_getElem hi, e3 i _ _ (List.getElem?_eq_getElem hi) (List.getElem?_eq_getElem hi'), hj, hr⟩
theorem St.focus0 [El0 α] {w : World} (hi : i < xs.length) (hs : St (row T v xs :: L) R w) : El0.wf (xs.getD i El0.df) ∧ St (foc T v xs i (El0.cs (xs.getD i El0.df)) :: L) R w := by
 obtain ⟨cs, h1, h2, j, e, h3, h4, h5, h6⟩ := hs.focus hi
 have : xs.getD i El0.df = e := by simp [List.getD_eq_getElem?_getD, h3]
 rw [this]
 obtain ⟨rfl, hw⟩ := El0.ok _ _ _ h4
 exact ⟨hw, h1⟩
theorem St.focus1 [El1 α β] {w : World} (hi : i < xs.length) (hs : St (row T v xs :: L) R w) : El1.wf (xs.getD i El1.df) ∧ ∃ u, St (foc T v xs i (El1.cs u (xs.getD i El1.df)) :: L) (sl u (El1.sub (xs.getD i El1.df)) :: R) w := by
 obtain ⟨m, j, hd, hm, hj, ⟨m1, m2, hd', h1, h2, hc, hst⟩, hr⟩ := hs
 obtain ⟨rs, e1, e2, e3⟩ := Jg hc
 have hi' : i < rs.length := by omega
 have hx : xs.getD i El1.df = xs[i] := by simp [List.getD_eq_getElem?_getD, hi]
 rw [hx]
 obtain ⟨u, g1, g2, g3⟩ := El1.ok _ _ _ (e3 i _ _ (List.getElem?_eq_getElem hi) (List.getElem?_eq_getElem hi'))
 refine ⟨g3, u, m, j, hd, hm, hj, ⟨m1, m2, hd', h1, h2, ⟨rs, e1, e2, ⟨_, List.getElem?_eq_getElem hi', g1⟩, fun k e r _ => e3 k e r⟩, hst⟩, fun f hf => ?_⟩
 cases List.mem_cons.1 hf with
 | inl e => rw [e]; exact g2
 | inr e => exact hr f e
theorem St.unfocus {w : World} {cs : List Value} {e : α} (he : ∀ j, (∀ f ∈ R, f.p j) → Enc.rd e cs j) (hs : St (foc T v xs i cs :: L) R w) : St (row T v (xs.set i e) :: L) R w := by
 obtain ⟨m, j, hd, hm, hj, ⟨m1, m2, hd', h1, h2, ⟨rs, e1, e2, ⟨r0, e3, e4⟩, e5⟩, hst⟩, hr⟩ := hs
 refine ⟨m, j, hd, hm, hj, ⟨m1, m2, hd', h1, h2, O8 e1 (by simpa using e2) (fun k e' r hx hk => ?_), hst⟩, hr⟩
 by_cases h : k = i
 ·subst h
  have hlt : k < xs.length := by
   have := (List.getElem?_eq_some_iff.1 e3).1; omega
  rw [List.getElem?_set_self hlt] at hx
  cases hx
  rw [e3] at hk; cases hk
  rw [e4]; exact he j hr
 ·rw [List.getElem?_set_ne (Ne.symm h)] at hx
  exact e5 k e' r h hx hk
theorem Zo {w : World} {cs : List Value} (hs : St (foc T v xs i cs :: L) R w) : ∃ rs : List (Raw (Enc.sz α)), St (row T v rs :: L) R w ∧ ∃ r, rs[i]? = some r ∧ r.1 = cs := by
 obtain ⟨m, j, hd, hm, hj, ⟨m1, m2, hd', h1, h2, ⟨rs, e1, e2, e3, e5⟩, hst⟩, hr⟩ := hs
 exact ⟨rs, ⟨m, j, hd, hm, hj, ⟨m1, m2, hd', h1, h2, e1, hst⟩, hr⟩, e3⟩
theorem Agm {f sz : Nat} {cs ds : List Value} (hp : Pick L (foc T v xs i cs) L') (hsz : Enc.sz α = sz) (hd : ∀ (k : Nat) c, ds[k]? = some c → cs[f + k]? = some c) : Cw L R (ep v sz i f) ds := by
 subst hsz
 intro w hs
 obtain ⟨rs, h1, r, h2, h3⟩ := Zo (hs.pick hp)
 exact Alm (α := Raw (Enc.sz α)) (L := row T v rs :: L') (f := f) .hd h2 (fun cs' m hr k c hk => by rw [show cs' = r.1 from hr, h3]; exact hd k c hk) w h1
theorem at_f1 {f sz : Nat} {cs : List Value} {c : Value} (hp : Pick L (foc T v xs i cs) L') (hsz : Enc.sz α = sz) (hc : cs[f]? = some c) : Cw L R (ep v sz i f) [c] :=
 Agm hp hsz fun k c' hk => by
  match k, hk with
  | 0, hk => simp at hk; subst hk; exact hc
  | k + 1, hk => simp at hk
theorem Nm {sz : Nat} {cs : List Value} (hp : Pick L (foc T v xs i cs) L') (hsz : Enc.sz α = sz) : Cw L R (ep v sz i 0) cs := Agm hp hsz fun k c hk => by rw [Nat.zero_add]; exact hk
theorem Rq {w : World} {f : Nat} {cs us : List Value} (hs : St (foc T v xs i cs :: L) R w) (h1 : ∀ u ∈ us, u.oneCell' = true) (hf : f + us.length ≤ cs.length) :
  ∃ g cap cur, v = .slice (some ⟨g, 0, none⟩) xs.length cap ∧ w.heap[g]? = some (.cells cur T (0, 0)) ∧ i * Enc.sz α + f + us.length ≤ cur.size ∧
   St (foc T v xs i (cs.take f ++ us ++ cs.drop (f + us.length)) :: L) R (w.setRow g (cur.toList.take (i * Enc.sz α + f) ++ us ++ cur.toList.drop (i * Enc.sz α + f + us.length)).toArray) := by
 obtain ⟨m, j, hd, hm, hj, ⟨m1, m2, hd', g1, g2, ⟨rs, e1, e2, ⟨r0, e3, e4⟩, e5⟩, hst⟩, hr⟩ := hs
 have hlen : (cs.take f ++ us ++ cs.drop (f + us.length)).length = cs.length := by simp; omega
 have hcs : cs.length = Enc.sz α := by rw [← e4]; exact r0.2.1
 let r1 : Raw (Enc.sz α) := ⟨cs.take f ++ us ++ cs.drop (f + us.length), by rw [hlen]; exact hcs, fun u hu => by
  rcases List.mem_append.1 hu with h | h
  ·rcases List.mem_append.1 h with h | h
   ·exact r0.2.2 u (by rw [e4]; exact List.mem_of_mem_take h)
   ·exact h1 u h
  ·exact r0.2.2 u (by rw [e4]; exact List.mem_of_mem_drop h)⟩
 -- one piece for all others, with what is Eg of them
 have hK : St (row T v rs :: L) (⟨fun m => ∀ (k : Nat) e r, k ≠ i → xs[k]? = some e → rs[k]? = some r → Enc.rd e r.1 m, fun m m' h hp k e r hk he hr' => Enc.mono _ _ _ _ h (hp k e r hk he hr')⟩ :: R) w :=
  ⟨m, j, hd, hm, hj, ⟨m1, m2, hd', g1, g2, e1, hst⟩, fun q hq => by
   cases List.mem_cons.1 hq with
   | inl e => rw [e]; exact e5
   | inr e => exact hr q e⟩
 obtain ⟨g, cap, cur, hv, hg, hfit, hst'⟩ := Qw (w' := w) (e := r0) (e' := r1) (f := f) (cs := us) hK e3 (fun ds m hr => by rw [show ds = r0.1 from hr, e4]; exact hf) (fun j _ ds hr => by
  rw [show ds = r0.1 from hr, e4]; rfl)
 refine ⟨g, cap, cur, by rw [hv, e2], hg, hfit, ?_⟩
 obtain ⟨m', j', hd2, hm', hj', ⟨n1, n2, hd3, k1, k2, hc', hst2⟩, hr'⟩ := hst'
 have hilt : i < rs.length := (List.getElem?_eq_some_iff.1 e3).1
 refine ⟨m', j', hd2, hm', hj', ⟨n1, n2, hd3, k1, k2, ⟨rs.set i r1, hc', by simpa using e2, ⟨r1, List.getElem?_set_self hilt, rfl⟩, fun k e r hk he hrk => ?_⟩, hst2⟩, fun q hq => hr' q (List.mem_cons_of_mem _ hq)⟩
 rw [List.getElem?_set_ne (Ne.symm hk)] at hrk
 exact hr' _ (List.mem_cons_self ..) k e r hk he hrk
theorem Abx {f sz k : Nat} {c : Value} {cs us : List Value} {T' : TypeId} (hsz : ∀ w, (sizeOf T).run P w = .ok k w) (hx : ev n al x = some (ep v sz i f)) (hy : ev n al y = some c) (hc : c.cells = us.toArray) (hl : us.length = k) (h1 : ∀ u ∈ us, u.oneCell' = true)
  (hp : Pick L (foc T' v xs i cs) L') (hes : Enc.sz α = sz) (hf : Nat.ble (f + us.length) cs.length = true) {cs' : List Value} (hcs : cs.take f ++ us ++ cs.drop (f + us.length) = cs')
  (kk : J P n ops Q rest (foc T' v xs i cs' :: L') R al) : J P n ops Q (⟨none, .store T x y, ty, pos, aft, none⟩ :: rest) L R al :=
 J.skip rfl rfl (fun B w hs => by
  subst hes
  obtain ⟨g, cap, cur, hv, hg, hfit, hst⟩ := Rq (hs.pick hp) h1 (Nat.le_of_ble_eq_true hf)
  refine ⟨_, Fj ?_, by rw [← hcs]; exact hst⟩
  rw [Bd hx, Bd hy, hv, N3, Ik]
  have := run_storeCells_at P g (i * Enc.sz α + f) T' us 0 cur w hg (by simpa using hfit) h1
  simp only [Nat.add_zero, Nat.zero_add] at this ⊢
  subst hl
  simp [Instr.storeAt, Instr.sureAddr, storeVar, hsz, hc, this]) kk
theorem J.focus0 [El0 α] {l : List Oper} (i : Nat) (hp : Pick L (row T v xs) L') (hi : i < xs.length) (k : El0.wf (xs.getD i El0.df) → J P n ops Q l (foc T v xs i (El0.cs (xs.getD i El0.df)) :: L') R al) : J P n ops Q l L R al :=
 fun B w hs => let h := (hs.pick hp).focus0 hi; k h.1 B w h.2
theorem JC.focus0 [El0 α] {c : Code} (i : Nat) (hp : Pick L (row T v xs) L') (hi : i < xs.length) (k : El0.wf (xs.getD i El0.df) → JC P n c Q (foc T v xs i (El0.cs (xs.getD i El0.df)) :: L') R al) : JC P n c Q L R al :=
 fun B w hs => let h := (hs.pick hp).focus0 hi; k h.1 B w h.2
theorem JC.focus1 [El1 α β] {c : Code} (i : Nat) (hp : Pick L (row T v xs) L') (hi : i < xs.length) (k : El1.wf (xs.getD i El1.df) → ∀ u, JC P n c Q (foc T v xs i (El1.cs u (xs.getD i El1.df)) :: L') (sl u (El1.sub (xs.getD i El1.df)) :: R) al) : JC P n c Q L R al :=
 fun B w hs => let ⟨h, u, h'⟩ := (hs.pick hp).focus1 hi; k h u B w h'
theorem J.unfocus {l : List Oper} {cs : List Value} (e : α) (hp : Pick L (foc T v xs i cs) L') (he : ∀ j, (∀ f ∈ R, f.p j) → Enc.rd e cs j) (k : J P n ops Q l (row T v (xs.set i e) :: L') R al) : J P n ops Q l L R al :=
 fun B w hs => k B w ((hs.pick hp).unfocus he)
theorem JC.unfocus {c : Code} {cs : List Value} (e : α) (hp : Pick L (foc T v xs i cs) L') (he : ∀ j, (∀ f ∈ R, f.p j) → Enc.rd e cs j) (k : JC P n c Q (row T v (xs.set i e) :: L') R al) : JC P n c Q L R al :=
 fun B w hs => k B w ((hs.pick hp).unfocus he)
end
end Go.Proofs.Ytkgijpngobgfjaa
namespace Go.Proofs.Ytkgijpngobgfjaa
open Go
section
variable {P : Program} {n : Nat} {ops : Array Oper} {Q : Exit → Act → World → Prop} {rest : List Oper} {L L' : List Chunk} {R : List Fact} {al : List (Nat × Value)} {d : Nat} {x y : Operand} {T ty : TypeId} {pos : String} {aft : Array Edge}
theorem mm {f : Fact} (h : f ∈ R := by first | assumption | exact .head _ | (refine .tail _ ?_; first | assumption | exact .head _ | (refine .tail _ ?_; first | assumption | exact .head _ | (refine .tail _ ?_; first | assumption | exact .head _ | (refine .tail _ ?_; first | assumption | exact .head _ | (refine .tail _ ?_; first | assumption | exact .head _ | (refine .tail _ ?_; first | assumption | exact .head _ | (refine .tail _ ?_; first | assumption | exact .head _ | (refine .tail _ ?_; first | assumption | exact .head _ | (refine .tail _ ?_; first | assumption | exact .head _ | (refine .tail _ ?_; first | assumption | exact .head _ | (refine .tail _ ?_; first | assumption | exact .head _ | (refine .tail _ ?_; first | assumption | exact .head _ | (refine .tail _ ?_; first | assumption | exact .head _ | (refine .tail _ ?_; first | assumption | exact .head _ | (refine .tail _ ?_; first | assumption | exact .head _ | (refine .tail _ ?_; first | assumption | exact .head _ | (refine .tail _ ?_; first | assumption | exact .head _ | (refine .tail _ ?_; first | assumption | exact .head _ | (refine .tail _ ?_; first | assumption | exact .head _ | (refine .tail _ ?_; first | assumption | exact .head _ | (refine .tail _ ?_; first | assumption | exact .head _ | (refine .tail _ ?_; first | assumption | exact .head _ | (refine .tail _ ?_; first | assumption | exact .head _ | (refine .tail _ ?_; first | assumption | exact .head _ | (refine .tail _ ?_; first | assumption | exact .head _ | (refine .tail _ ?_; first | assumption | exact .head _))))))))))))))))))))))))))) : f ∈ R := h
theorem pkk {c : Chunk} (h : Pick L c L' := by first | exact .hd | (apply Pick.tl; first | exact .hd | (apply Pick.tl; first | exact .hd | (apply Pick.tl; first | exact .hd | (apply Pick.tl; first | exact .hd | (apply Pick.tl; first | exact .hd | (apply Pick.tl; first | exact .hd | (apply Pick.tl; first | exact .hd | (apply Pick.tl; first | exact .hd | (apply Pick.tl; first | exact .hd | (apply Pick.tl; first | exact .hd | (apply Pick.tl; first | exact .hd | (apply Pick.tl; exact .hd))))))))))))) : Pick L c L' := h
theorem Ae {R' : List Fact} {w : World} (hs : St L R w) (hl : LSub L L' := by repeat (first | exact .refl | exact .nil | (apply LSub.cons; focus (exact pkk)) | apply LSub.drop)) (hf : FSub R R' := by repeat (first | exact FSub.refl | exact FSub.nil | (apply FSub.cons; focus (exact mm)) | apply FSub.drop)) : St L' R' w := hs.sub hl hf
theorem Ahg {w : World} (hs : St L R w) (hl : LSub L L' := by repeat (first | exact .refl | (apply LSub.cons; focus (exact pkk)) | exact .nil)) : St L' R w := hs.sub hl (fun f h => h)
theorem H1 : ∀ u ∈ ([] : List Value), u.oneCell' = true := fun _ h => by cases h
theorem Dl {c : Value} {l : List Value} (hc : c.oneCell' = true) (hl : ∀ u ∈ l, u.oneCell' = true) : ∀ u ∈ c :: l, u.oneCell' = true := fun u h => by
 cases List.mem_cons.1 h with
 | inl e => rw [e]; exact hc
 | inr e => exact hl u e
theorem Ug {v : Value} (hx : ev n al x = some v := by exact rfl) : Au P n al L R ⟨some d, .move x, ty, pos, aft, none⟩ v :=
 ⟨rfl, fun ρ w h _ => by show Result.ok (Next.value _) w = _; rw [h x (by simp [Op.operands]) _ hx]⟩
theorem Di {v : Value} (hx : ev n al x = some v := by exact rfl) : Au P n al L R ⟨some d, .assign x, ty, pos, aft, none⟩ v :=
 ⟨rfl, fun ρ w h _ => by show Result.ok (Next.value _) w = _; rw [h x (by simp [Op.operands]) _ hx]⟩
theorem Fx {c : Operand} {v : Value} (hc : ev n al c = some (.bool true) := by exact rfl) (hx : ev n al x = some v := by exact rfl) : Au P n al L R ⟨some d, .pick c x y, ty, pos, aft, none⟩ v :=
 ⟨rfl, fun ρ w h _ => by simp [execOp, h c (by simp [Op.operands]) _ hc, h x (by simp [Op.operands]) _ hx, asBool, bind, pure, Sem.bind, Sem.run]⟩
theorem Ahx {c : Operand} {v : Value} (hc : ev n al c = some (.bool false) := by exact rfl) (hy : ev n al y = some v := by exact rfl) : Au P n al L R ⟨some d, .pick c x y, ty, pos, aft, none⟩ v :=
 ⟨rfl, fun ρ w h _ => by simp [execOp, h c (by simp [Op.operands]) _ hc, h y (by simp [Op.operands]) _ hy, asBool, bind, pure, Sem.bind, Sem.run]⟩
theorem Wl {b : Bool} (hx : ev n al x = some (.bool b) := by exact rfl) : Au P n al L R ⟨some d, .unOp .not T x, ty, pos, aft, none⟩ (.bool (!b)) :=
 ⟨rfl, fun ρ w h _ => by simp [execOp, h x (by simp [Op.operands]) _ hx, Op.unary]⟩
theorem E1 {b : Bool} (hx : ev n al x = some (.bool b)) (hb : b = true) : Au P n al L R ⟨some d, .unOp .not T x, ty, pos, aft, none⟩ (.bool false) := by
 have := Wl (P := P) (L := L) (R := R) (T := T) (d := d) (ty := ty) (pos := pos) (aft := aft) hx
 rw [hb] at this; exact this
theorem Agd {b : Bool} (hx : ev n al x = some (.bool b)) (hb : b = false) : Au P n al L R ⟨some d, .unOp .not T x, ty, pos, aft, none⟩ (.bool true) := by
 have := Wl (P := P) (L := L) (R := R) (T := T) (d := d) (ty := ty) (pos := pos) (aft := aft) hx
 rw [hb] at this; exact this
theorem Xq {k : IntKind} {a b : Int} (w : World) : (binOp .eql T (.int k a) (.int k b)).run P w = .ok (.bool (decide (a = b))) w := by rw [Ali]; by_cases h : a = b <;> simp [h]
theorem Xo {k : IntKind} {a b : Int} (w : World) : (binOp .neq T (.int k a) (.int k b)).run P w = .ok (.bool (decide (a ≠ b))) w := by rw [Afl]; by_cases h : a = b <;> simp [h]
theorem Fz {op : BinOp} {k k' : IntKind} {a b : Int} {v : Value} {U : TypeId} (hv : ∀ w : World, (binOp op T (.int k a) (.int k' b)).run P w = .ok v w) (hx : ev n al x = some (.int k a) := by exact rfl) (hy : ev n al y = some (.int k' b) := by exact rfl) : Au P n al L R ⟨some d, .binOp op T x y U, ty, pos, aft, none⟩ v := Al hx hy hv
theorem Sr {a b : Int} {U : TypeId} (hx : ev n al x = some (vi a) := by exact rfl) (hy : ev n al y = some (vi b) := by exact rfl) (h1 : -9223372036854775808 ≤ a + b := by omega) (h2 : a + b ≤ 9223372036854775807 := by omega) : Au P n al L R ⟨some d, .binOp .add T x y U, ty, pos, aft, none⟩ (vi (a + b)) := Al hx hy (Xr h1 h2)
theorem Uh {a b : Nat} {U : TypeId} (hx : ev n al x = some (vi (a : Int)) := by exact rfl) (hy : ev n al y = some (vi (b : Int)) := by exact rfl) (h2 : a + b ≤ 9223372036854775807 := by omega) : Au P n al L R ⟨some d, .binOp .add T x y U, ty, pos, aft, none⟩ (vi ((a + b : Nat) : Int)) := Al hx hy (Agx h2)
theorem Acd {a b : Int} {U : TypeId} (hx : ev n al x = some (vi a) := by exact rfl) (hy : ev n al y = some (vi b) := by exact rfl) (h1 : -9223372036854775808 ≤ a * b := by omega) (h2 : a * b ≤ 9223372036854775807 := by omega) : Au P n al L R ⟨some d, .binOp .mul T x y U, ty, pos, aft, none⟩ (vi (a * b)) := Al hx hy (Afm h1 h2)
def EpOk (L : List Chunk) (R : List Fact) (v : Value) (sz i : Nat) : Prop := ∀ w, St L R w → ∃ a : Addr, ∀ f, ep v sz i f = .pointer (some (a.add f))
theorem ok_c {v : Value} {sz i : Nat} {cs : List Value} (hm : cF v sz i cs ∈ R) : EpOk L R v sz i := fun w hs => by
 obtain ⟨m, hle, hr⟩ := hs.ex
 obtain ⟨a, cells, T, fz, h1, h2, h3, h4, h5⟩ := hr _ hm
 exact ⟨a, h2⟩
theorem ok_l {v : Value} {sz i len : Nat} (hl : D4 L R v len) (h0 : 0 < len) : EpOk L R v sz i := fun w hs => by
 obtain ⟨base, cap, rfl, hb⟩ := hl w hs
 obtain ⟨a, rfl⟩ := hb h0
 exact ⟨a.add (i * sz), fun f => by rw [N3, Gu]⟩
theorem Abg {α : Type} [Enc α] {v : Value} {sz i : Nat} {xs : List α} {cs : List Value} (hp : Pick L (foc T v xs i cs) L') : EpOk L R v sz i := fun w hs => by
 obtain ⟨rs, h1, r, h2, h3⟩ := Zo (hs.pick hp)
 have hlt : i < rs.length := (List.getElem?_eq_some_iff.1 h2).1
 exact ok_l (Ev .hd) (by omega) w h1
def EpAll (v : Value) (sz i : Nat) : Prop := ∃ a : Addr, ∀ f, ep v sz i f = .pointer (some (a.add f))
theorem ok_a {v : Value} {sz i : Nat} (h : EpAll v sz i) : EpOk L R v sz i := fun _ _ => h
theorem EpAll.one {v : Value} {sz i f : Nat} (h : EpAll v sz i) : (ep v sz i f).oneCell' = true := by
 obtain ⟨a, ha⟩ := h
 rw [ha]; rfl
theorem at_a1 {L0 : List Chunk} {R0 : List Fact} {v : Value} {sz i f : Nat} {cs : List Value} {c : Value} (h : Cw L0 R0 (ep v sz i 0) cs) (he : EpAll v sz i) (hl : LSub L L0) (hf : FSub R R0) (hc : cs[f]? = some c) : Cw L R (ep v sz i f) [c] := by
 intro w hs
 obtain ⟨a, ha⟩ := he
 obtain ⟨b, hb, hk⟩ := h w (hs.sub hl hf)
 rw [ha, show a.add 0 = a by simp [Addr.add]] at hb
 cases hb
 refine ⟨a.add f, ha f, fun k c' hk' => ?_⟩
 match k, hk' with
 | 0, hk' =>
  have e : c = c' := by simpa using hk'
  rw [Gu, ← e]; exact hk f c hc
 | k + 1, hk' => simp at hk'
theorem Xw {b f fld off : Nat} (hf : Ar P T fld off) (hx : ev n al x = some (bp b f) := by exact rfl) : Au P n al L R ⟨some d, .fieldAddr T x fld, ty, pos, aft, none⟩ (bp b (f + off)) :=
 ⟨rfl, fun ρ w h _ => Jb (by rw [h x (by simp [Op.operands]) _ hx]; show (Instr.fieldAt T (.pointer (some ⟨b, f, none⟩)) fld).run P w = _; rw [Md hf, Ik]; rfl)⟩
theorem Xv {v : Value} {sz i f fld off : Nat} (hf : Ar P T fld off) (hx : ev n al x = some (ep v sz i f) := by exact rfl) (hok : EpOk L R v sz i := by first | exact ok_c mm | exact Abg pkk | exact ok_a (by assumption) | exact ok_l (Ev pkk) (by omega) | exact ok_l (Fc mm) (by omega)) : Au P n al L R ⟨some d, .fieldAddr T x fld, ty, pos, aft, none⟩ (ep v sz i (f + off)) :=
 ⟨rfl, fun ρ w h hs => Jb (by
  obtain ⟨a, ha⟩ := hok w hs
  rw [h x (by simp [Op.operands]) _ hx, ha, Md hf, Gu, ha])⟩
theorem q_nb {b f : Nat} (hx : ev n al x = some (bp b f) := by exact rfl) : Au P n al L R ⟨some d, .nilCheck x, ty, pos, aft, none⟩ (bp b f) :=
 ⟨rfl, fun ρ w h _ => by simp only [execOp, h x (by simp [Op.operands]) _ hx]; rfl⟩
theorem q_ne {v : Value} {sz i f : Nat} (hx : ev n al x = some (ep v sz i f) := by exact rfl) (hok : EpOk L R v sz i := by first | exact ok_c mm | exact Abg pkk | exact ok_a (by assumption) | exact ok_l (Ev pkk) (by omega) | exact ok_l (Fc mm) (by omega)) : Au P n al L R ⟨some d, .nilCheck x, ty, pos, aft, none⟩ (ep v sz i f) :=
 ⟨rfl, fun ρ w h hs => by
  obtain ⟨a, ha⟩ := hok w hs
  simp only [execOp, h x (by simp [Op.operands]) _ hx, ha]; rfl⟩
theorem C3 {α : Type} [Enc α] {v : Value} {i : Nat} {xs : List α} {cs : List Value} (hp : Pick L (foc T v xs i cs) L') : D4 L R v xs.length := fun w hs => by
 obtain ⟨m, j, hd, hm, hj, ⟨m1, m2, hd', h1, h2, ⟨rs, e1, e2, e3, e5⟩, hst⟩, hr⟩ := hs.pick hp
 have h : D4 (row T v rs :: L') R v rs.length := Ev .hd
 rw [e2] at h
 exact h w ⟨m, j, hd, hm, hj, ⟨m1, m2, hd', h1, h2, e1, hst⟩, hr⟩
theorem Gb {v : Value} {e : TypeId} {sz len i : Nat} (ht : C5 P T e sz) (hx : ev n al x = some v := by exact rfl) (hy : ev n al y = some (vi (i : Int)) := by exact rfl) (hl : D4 L R v len := by first | exact Ev pkk | exact C3 pkk | exact Fc mm) (h1 : i < len := by first | assumption | omega | (simp only [List.length_nil, List.length_cons, List.length_append, List.length_take, List.length_drop, List.length_set, List.length_replicate, Int.toNat_natCast]; omega) | decide) : Au P n al L R ⟨some d, .indexAddr T x y, ty, pos, aft, none⟩ (ep v sz i 0) := Hz ht hx hy hl h1
theorem Ks {v : Value} {e : TypeId} {sz len : Nat} {i : Int} (ht : C5 P T e sz) (hx : ev n al x = some v := by exact rfl) (hy : ev n al y = some (vi i) := by exact rfl) (hl : D4 L R v len := by first | exact Ev pkk | exact C3 pkk | exact Fc mm) (h0 : 0 ≤ i := by first | assumption | omega | (simp only [List.length_nil, List.length_cons, List.length_append, List.length_take, List.length_drop, List.length_set, List.length_replicate, Int.toNat_natCast]; omega) | decide) (h1 : i < len := by first | assumption | omega | (simp only [List.length_nil, List.length_cons, List.length_append, List.length_take, List.length_drop, List.length_set, List.length_replicate, Int.toNat_natCast]; omega) | decide) : Au P n al L R ⟨some d, .indexAddr T x y, ty, pos, aft, none⟩ (ep v sz i.toNat 0) :=
 Hz ht hx (by rw [hy, Int.toNat_of_nonneg h0]) hl (by omega)
theorem Qy {t e : TypeId} {v : Value} {len : Nat} (ht : P.underlying t = some (.slice e)) (hx : ev n al x = some v := by exact rfl) (hl : D4 L R v len := by first | exact Ev pkk | exact C3 pkk | exact Fc mm) : Au P n al L R ⟨some d, .call { callee := .builtin .len, args := #[x], argTypes := #[t] }, ty, pos, aft, none⟩ (vi (len : Int)) :=
 ⟨rfl, fun ρ w h hs => by
  obtain ⟨base, cap, rfl, _⟩ := hl w hs
  have hx' := h x (by simp [Op.operands, Call.operands]) _ hx
  have e1 : (Builtin.len_ #[t] ty #[ρ x]).run P w = .ok (vi (len : Int)) w := by
   rw [hx']; simp [Builtin.len_, Dd ht, goInt]
  exact Vh e1⟩
theorem q_x {vs : List Value} {i : Nat} {v : Value} (hx : ev n al x = some (.tuple vs.toArray) := by exact rfl) (hv : vs[i]? = some v := by exact rfl) : Au P n al L R ⟨some d, .extract x i, ty, pos, aft, none⟩ v :=
 ⟨rfl, fun ρ w h _ => by simp [execOp, h x (by simp [Op.operands]) _ hx, Instr.extract, hv]⟩
theorem D8 {p c : Value} (hT : ∀ w, (isAgg T).run P w = .ok false w) (hx : ev n al x = some p := by exact rfl) (hc : Cw L R p [c] := by first | exact Bt pkk (by exact rfl) | exact Aln mm (by exact rfl) | exact at_f1 pkk rfl (by exact rfl) | exact at_a1 (by assumption) (by assumption) (by repeat (first | exact .refl | exact .nil | (apply LSub.cons; focus (exact pkk)) | apply LSub.drop)) (by repeat (first | exact FSub.refl | exact FSub.nil | (apply FSub.cons; focus (exact mm)) | apply FSub.drop)) (by exact rfl)) : Au P n al L R ⟨some d, .load T x, ty, pos, aft, none⟩ c :=
 ⟨rfl, fun ρ w h hs => by
  obtain ⟨a, rfl, hk⟩ := hc w hs
  exact Ie (by rw [h x (by simp [Op.operands]) _ hx]; exact J4 hT (by simpa [Addr.add] using hk 0 c rfl))⟩
theorem Age {p : Value} {cs : List Value} {sz : Nat} (hT : ∀ w, (isAgg T).run P w = .ok true w) (hsz : ∀ w, (sizeOf T).run P w = .ok sz w) (hx : ev n al x = some p := by exact rfl) (hc : Cw L R p cs := by first | exact Sb pkk | exact Aba mm | exact Nm pkk rfl) (hl : cs.length = sz := by exact rfl) : Au P n al L R ⟨some d, .load T x, ty, pos, aft, none⟩ (.agg cs.toArray) :=
 ⟨rfl, fun ρ w h hs => by
  obtain ⟨a, rfl, hk⟩ := hc w hs
  exact Ie (by rw [h x (by simp [Op.operands]) _ hx]; exact Qv hT hsz hl hk)⟩
theorem Fr {b f : Nat} {vs : List Value} {T0 : TypeId} (sz : Nat) (hT : ∀ w, (isAgg T).run P w = .ok true w) (hsz : ∀ w, (sizeOf T).run P w = .ok sz w) (hx : ev n al x = some (bp b f) := by exact rfl) (hp : Pick L (blk b T0 vs) L' := by exact pkk) (hl : ((vs.drop f).take sz).length = sz := by exact rfl) : Au P n al L R ⟨some d, .load T x, ty, pos, aft, none⟩ (.agg ((vs.drop f).take sz).toArray) := Age hT hsz hx (Alo hp) hl
theorem Ace {v : Value} {k i f : Nat} {vs : List Value} (sz : Nat) (hT : ∀ w, (isAgg T).run P w = .ok true w) (hsz : ∀ w, (sizeOf T).run P w = .ok sz w) (hx : ev n al x = some (ep v k i f) := by exact rfl) (hm : cF v k i vs ∈ R := by exact mm) (hl : ((vs.drop f).take sz).length = sz := by exact rfl) : Au P n al L R ⟨some d, .load T x, ty, pos, aft, none⟩ (.agg ((vs.drop f).take sz).toArray) := Age hT hsz hx (at_cN hm) hl
def W6 (places : List (Nat × Nat)) : List Value → List (Nat × List Value) → Option (List Value)
 | cells, [] => some cells
 | cells, (i, c) :: rest => match places[i]? with
  | none => none
  | some (off, size) => match Nat.beq c.length size with
   | false => none
   | true => match Mm cells off c with
    | none => none
    | some cells' => W6 places cells' rest
def Ov : List Value → List (List Value) → Prop
 | [], [] => True
 | v :: vs, c :: cs => v.cells.toList = c ∧ Ov vs cs
 | _, _ => False
theorem R4 {v : Value} (h : v.oneCell' = true) : v.cells.toList = [v] := by
 cases v <;> first | rfl | (simp [Value.oneCell'] at h)
theorem Zs (places : List (Nat × Nat)) : ∀ (idx : List Nat) (vs : List Value) (css : List (List Value)) (cells cs : List Value), Ov vs css → W6 places cells (idx.zip css) = some cs → Po places cells (idx.zip vs) = some cs
 | [], _, _, cells, cs, _, h => by simpa [W6, Po] using h
 | _ :: _, [], [], cells, cs, _, h => by simpa [W6, Po] using h
 | _ :: _, [], _ :: _, _, _, hc, _ => by cases hc
 | _ :: _, _ :: _, [], _, _, hc, _ => by cases hc
 | i :: idx, v :: vs, c :: css, cells, cs, hc, h => by
  obtain ⟨hv, hc⟩ := hc
  have hsz : v.cells.size = c.length := by rw [← hv, Array.length_toList]
  simp only [List.zip_cons_cons, W6, Po] at h ⊢
  rw [hsz, hv]
  cases hp : places[i]? with
  | none => rw [hp] at h; cases h
  | some q =>
   obtain ⟨off, size⟩ := q
   rw [hp] at h
   simp only at h ⊢
   cases hb : Nat.beq c.length size with
   | false => rw [hb] at h; cases h
   | true =>
    rw [hb] at h
    simp only at h ⊢
    cases hq : Mm cells off c with
    | none => rw [hq] at h; cases h
    | some c' => rw [hq] at h; exact Zs places idx vs css c' cs hc h
theorem cl_nil : Ov [] [] := trivial
theorem Akt {v : Value} {c : List Value} {vs : List Value} {cs : List (List Value)} (h : v.cells.toList = c) (h' : Ov vs cs) : Ov (v :: vs) (c :: cs) := ⟨h, h'⟩
theorem Fs {zc cs : List Value} {places : List (Nat × Nat)} {parts : List (Nat × Operand)} {vs : List Value} {css : List (List Value)} (hT : Db P T zc places) (ha : evL n al (parts.map (·.2)) = some vs := by exact rfl) (hc : Ov vs css := by repeat (first | exact cl_nil | apply Akt (by first | exact R4 (by assumption) | exact rfl))) (h' : W6 places zc ((parts.map (·.1)).zip css) = some cs := by exact rfl) : Au P n al L R ⟨some d, .build T parts.toArray, ty, pos, aft, none⟩ (.agg cs.toArray) := Yo hT ha (Zs _ _ _ _ _ _ hc h')
theorem Fg {zc cs : List Value} {places : List (Nat × Nat)} {parts : List (Nat × Operand)} {vs : List Value} (hT : Db P T zc places) (ha : evL n al (parts.map (·.2)) = some vs := by exact rfl) (h' : Po places zc ((parts.map (·.1)).zip vs) = some cs := by exact rfl) : Au P n al L R ⟨some d, .build T parts.toArray, ty, pos, aft, none⟩ (.agg cs.toArray) := Yo hT ha h'
theorem ob {op : Oper} {v : Value} (hp : Au P n al L R op v) (k : J P n ops Q rest L R ((d, v) :: al)) (hd : op.dst = some d := by exact rfl) : J P n ops Q (op :: rest) L R al := r_p hp hd k
theorem dc {Sh : Rho → (Nat → Bool) → List Chunk} {R0 : List Fact} {al0 : List (Nat × Value)} {i : Nat} {its : List Item} {op : Oper} {v : Value} (hp : ∀ ρ S, Au P n (Ed its al0 ρ) (Sh ρ S) R0 op v)
 (k : DJ P n ops Q Sh R0 al0 (i + 1) rest (⟨i, some d, fun _ => v, fun _ => [], fun _ => []⟩ :: its)) (hd : op.dst = some d := by exact rfl) (hSh : ∀ ρ g S, S i = false → Sh (Rho.set ρ i g) (upS S i) = Sh ρ S := by exact fun _ _ _ _ => rfl) : DN P n ops Q Sh R0 al0 i op rest its := d_pc hp hd hSh k
theorem s_b {b f : Nat} {vs : List Value} {T0 : TypeId} {c : Value} (hsz : ∀ w, (sizeOf T).run P w = .ok 1 w) (k : ∀ cs', vs.set f c = cs' → J P n ops Q rest (blk b T0 cs' :: L') R al) (hx : ev n al x = some (bp b f) := by exact rfl) (hy : ev n al y = some c := by exact rfl) (hp : Pick L (blk b T0 vs) L' := by exact pkk) (h1 : c.oneCell' = true := by first | exact rfl | assumption | simp [*]) (hf : Nat.blt f vs.length = true := by exact rfl) : J P n ops Q (⟨none, .store T x y, ty, pos, aft, none⟩ :: rest) L R al :=
 Aby hsz hx hy h1 hp hf (k _ rfl)
theorem Kj {v : Value} (h : v.oneCell' = true) : v.cells = #[v] := Array.toList_inj.1 (R4 h)
theorem s_f {α : Type} [Enc α] {v : Value} {xs : List α} {i f sz : Nat} {cs : List Value} {T0 : TypeId} {c : Value} (hsz : ∀ w, (sizeOf T).run P w = .ok 1 w) (k : ∀ cs', cs.set f c = cs' → J P n ops Q rest (foc T0 v xs i cs' :: L') R al) (hx : ev n al x = some (ep v sz i f) := by exact rfl) (hy : ev n al y = some c := by exact rfl) (hp : Pick L (foc T0 v xs i cs) L' := by exact pkk) (hes : Enc.sz α = sz := by exact rfl) (hc : c.cells = #[c] := by first | exact rfl | exact Kj (by assumption)) (h1 : c.oneCell' = true := by first | exact rfl | assumption | simp [*]) (hf : Nat.blt f cs.length = true := by exact rfl) : J P n ops Q (⟨none, .store T x y, ty, pos, aft, none⟩ :: rest) L R al :=
 Abx (us := [c]) hsz hx hy hc rfl (by intro u hu; cases List.mem_singleton.1 hu; exact h1) hp hes (Nat.ble_eq_true_of_le (blt_iff.1 hf)) (by rw [List.set_eq_take_append_cons_drop, if_pos (blt_iff.1 hf)]; simp) (k _ rfl)
theorem s_N {b f : Nat} {vs cs : List Value} {T0 : TypeId} {sz : Nat} (new : List Value) (hsz : ∀ w, (sizeOf T).run P w = .ok sz w) (k : J P n ops Q rest (blk b T0 new :: L') R al) (hx : ev n al x = some (bp b f) := by exact rfl) (hy : ev n al y = some (.agg cs.toArray) := by exact rfl) (hp : Pick L (blk b T0 vs) L' := by exact pkk) (hl : cs.length = sz := by exact rfl) (h1 : ∀ u ∈ cs, u.oneCell' = true := by repeat (first | exact H1 | refine Dl (by first | exact rfl | assumption) ?_)) (hf : Nat.ble (f + sz) vs.length = true := by exact rfl) (hn : vs.take f ++ cs ++ vs.drop (f + sz) = new := by exact rfl) : J P n ops Q (⟨none, .store T x y, ty, pos, aft, none⟩ :: rest) L R al :=
 Ud hsz hx hy hl h1 hp hf (by rw [hn]; exact k)
theorem s_B {b : Nat} {vs cs : List Value} {T0 : TypeId} {sz : Nat} (hsz : ∀ w, (sizeOf T).run P w = .ok sz w) (k : J P n ops Q rest (blk b T0 cs :: L') R al) (hx : ev n al x = some (bp b 0) := by exact rfl) (hy : ev n al y = some (.agg cs.toArray) := by exact rfl) (hp : Pick L (blk b T0 vs) L' := by exact pkk) (hl : cs.length = sz := by exact rfl) (h1 : ∀ u ∈ cs, u.oneCell' = true := by repeat (first | exact H1 | refine Dl (by first | exact rfl | assumption) ?_)) (hf : vs.length = sz := by exact rfl) : J P n ops Q (⟨none, .store T x y, ty, pos, aft, none⟩ :: rest) L R al :=
 Wi hsz hx hy hl h1 hp hf k
theorem bx {v : Value} {cs : List Value} (k : ∀ b, J P n ops Q rest (blk b T cs :: L) R ((d, bp b 0) :: al)) (hx : ev n al x = some v := by exact rfl) (hv : v.cells = cs.toArray := by exact rfl) : J P n ops Q (⟨some d, .box T x, ty, pos, aft, none⟩ :: rest) L R al := r_box hx hv k
theorem al_ {z : Value} {cs : List Value} (hz : ∀ w, (zeroValue T).run P w = .ok z w) (k : ∀ b, J P n ops Q rest (blk b T cs :: L) R ((d, bp b 0) :: al)) (hv : z.cells = cs.toArray := by exact rfl) : J P n ops Q (⟨some d, .alloc T, ty, pos, aft, none⟩ :: rest) L R al := Ahw hz hv k
theorem ap {α : Type} [Enc α] {t e : TypeId} {sz bytes : Nat} {z : Value} {xs ys : List α} {v u : Value} (he : ElemOf P t e sz z bytes) (hx : ev n al x = some v := by exact rfl) (hy : ev n al y = some u := by exact rfl) (hp : Pick L (row e v xs) L' := by exact pkk) (hm : sl u ys ∈ R := by exact mm) (hsz : Enc.sz α = sz := by exact rfl) (hpos : 0 < sz := by decide) (hb : ∀ w, St L R w → xs.length + ys.length ≤ maxN) (k : ∀ v', J P n ops Q rest (row e v' (xs ++ ys) :: L') R ((d, v') :: al)) : J P n ops Q (⟨some d, .call { callee := .builtin .append, args := #[x, y], argTypes := #[t, t] }, ty, pos, aft, none⟩ :: rest) L R al := Uf he hx hy hsz hpos hp hm hb k
theorem li {α : Type} [Enc α] {t el : TypeId} {sz bytes len : Nat} {z : Value} {parts : List (Nat × Operand)} {vs : List Value} (xs : List α) (he : ElemOf P t el sz z bytes) (ha : evL n al (parts.map (·.2)) = some vs) (hrd : ∀ j, (∀ q ∈ R, q.p j) → RdV xs vs j) (k : ∀ v, J P n ops Q rest L (sl v xs :: R) ((d, v) :: al)) (hsz : Enc.sz α = sz := by exact rfl) (hidx : parts.map (·.1) = List.range' 0 len := by exact rfl) (hlv : vs.length = len := by exact rfl) (hsmall : Nat.ble (len * sz) 1000 = true := by exact rfl) (hsm2 : Nat.ble len 1000 = true := by exact rfl) : J P n ops Q (⟨some d, .buildSlice t len parts.toArray, ty, pos, aft, none⟩ :: rest) L R al :=
 r_lit xs he hsz ha hidx hlv hsmall hsm2 hrd fun v => J.shut .hd (k v)
theorem liO {α : Type} [Enc α] {t el : TypeId} {sz bytes len : Nat} {z : Value} {parts : List (Nat × Operand)} {vs : List Value} (xs : List α) (he : ElemOf P t el sz z bytes) (ha : evL n al (parts.map (·.2)) = some vs) (hrd : ∀ j, (∀ q ∈ R, q.p j) → RdV xs vs j) (k : ∀ v, J P n ops Q rest (row el v xs :: L) R ((d, v) :: al)) (hsz : Enc.sz α = sz := by exact rfl) (hidx : parts.map (·.1) = List.range' 0 len := by exact rfl) (hlv : vs.length = len := by exact rfl) (hsmall : Nat.ble (len * sz) 1000 = true := by exact rfl) (hsm2 : Nat.ble len 1000 = true := by exact rfl) : J P n ops Q (⟨some d, .buildSlice t len parts.toArray, ty, pos, aft, none⟩ :: rest) L R al := r_lit xs he hsz ha hidx hlv hsmall hsm2 hrd k
theorem Uc {α : Type} [Enc α] {j : Mem} : RdV ([] : List α) [] j := trivial
theorem Ahs {α : Type} [Enc α] {u : Value} {ys : List α} (hm : sl u ys ∈ R := by exact mm) : ∀ j, (∀ q ∈ R, q.p j) → RdV [ys] [u] j := fun j h => by
 have hs := h _ hm
 obtain ⟨base, cap, hv, _⟩ := id hs
 exact ⟨⟨[u], by rw [hv]; rfl, u, rfl, hs⟩, trivial⟩
theorem rd_0 {α : Type} [Enc α] [El0 α] {x : α} {v : Value} {cs : List Value} (hr : ∀ j, Enc.rd x cs j) (hv : v.cells = cs.toArray := by exact rfl) : ∀ j, (∀ q ∈ R, q.p j) → RdV [x] [v] j := fun j _ => ⟨⟨cs, hv, hr j⟩, trivial⟩
theorem cd {t : Nat} {a b : Code} {p : Prop} {hd : Decidable p} (hT : p → JC P n a Q L R ((t, .bool true) :: al)) (hF : ¬ p → JC P n b Q L R ((t, .bool false) :: al)) (hc : ev n al (.tmp t) = some (.bool (decide p)) := by exact rfl) : JC P n (.cond (.tmp t) a b) Q L R al :=
 Cc hc (fun h => hT (of_decide_eq_true h)) (fun h => hF (of_decide_eq_false h))
theorem cT {c : Operand} {a b : Code} (h : JC P n a Q L R al) (hc : ev n al c = some (.bool true) := by exact rfl) : JC P n (.cond c a b) Q L R al := Acw hc h
theorem cF_ {c : Operand} {a b : Code} (h : JC P n b Q L R al) (hc : ev n al c = some (.bool false) := by exact rfl) : JC P n (.cond c a b) Q L R al := Uz hc h
theorem jg {t : Nat} {p : Prop} {hd : Decidable p} {l : List Oper} (hT : p → J P n ops Q l L R ((t, .bool true) :: al)) (hF : ¬ p → J P n ops Q l L R ((t, .bool false) :: al)) (hc : ev n al (.tmp t) = some (.bool (decide p)) := by exact rfl) : J P n ops Q l L R al :=
 S5 hc (fun h => hT (of_decide_eq_true h)) (fun h => hF (of_decide_eq_false h))
theorem jgx {t : Nat} {p : Prop} {hd : Decidable p} {l : List Oper} (hc : ev n al (.tmp t) = some (.bool (decide p))) (hT : p → J P n ops Q l L R ((t, .bool true) :: al)) (hF : ¬ p → J P n ops Q l L R ((t, .bool false) :: al)) : J P n ops Q l L R al := jg hT hF hc
theorem cdx {t : Nat} {a b : Code} {p : Prop} {hd : Decidable p} (hc : ev n al (.tmp t) = some (.bool (decide p))) (hT : p → JC P n a Q L R ((t, .bool true) :: al)) (hF : ¬ p → JC P n b Q L R ((t, .bool false) :: al)) : JC P n (.cond (.tmp t) a b) Q L R al := cd hT hF hc
theorem Dn {a : Code} {K : Act → World → Prop} (t : Nat) (v : Value) (hx : JC P n a (Exit.then (fun a' w => ∃ B, a' = mkA n ((t, v) :: al) B ∧ St L R w) Q) L R al) (hy : JX n (Exit.then K Q) .normal L R ((t, v) :: al)) : JC P n a (Exit.then K Q) L R al := by
 intro B w hs
 refine wp_mono (hx B w hs) ?_
 intro e a' w' hq
 cases e with
 | normal => obtain ⟨B1, rfl, hs1⟩ := hq; exact hy B1 w' hs1
 | exit id => exact hq
 | goto l => exact hq
 | ret => exact hq
 | panic c => exact hq
 | outgrown => exact hq
theorem Ao {L1 : List Chunk} {R1 : List Fact} {al2 : List (Nat × Value)} (hal : Sc al n al2) (hst : ∀ w, St L R w → St L1 R1 w) : JX n (Exit.then (fun a' w => ∃ B, a' = mkA n al2 B ∧ St L1 R1 w) Q) .normal L R al := by
 intro B w hs
 obtain ⟨B', hB⟩ := Sx hal B
 exact ⟨B', hB, hst w hs⟩
inductive Keep : List Nat → List (Nat × Value) → List (Nat × Value) → List (Nat × Value) → Prop
 | nil {ts acc} : Keep ts [] acc acc
 | yes {ts ts' : List Nat} {t v r acc out} : ts.contains t = true → ts.erase t = ts' → Keep ts' r ((t, v) :: acc) out → Keep ts ((t, v) :: r) acc out
 | no {ts t v r acc out} : ts.contains t = false → Keep ts r acc out → Keep ts ((t, v) :: r) acc out
theorem S0 {d t : Nat} {u : Value} {r : List (Nat × Value)} (h : d ≠ t) : It ((d, u) :: r) t = It r t := by
 simp only [It]
 cases hb : Nat.beq d t with
 | true => exact absurd (Nat.eq_of_beq_eq_true hb) h
 | false => rfl
theorem Yv {d : Nat} {u : Value} {r : List (Nat × Value)} : It ((d, u) :: r) d = some u := by simp [It]
theorem Keep.sub_aux {ts : List Nat} {al acc out : List (Nat × Value)} (h : Keep ts al acc out) : ∀ t v, It out t = some v → (∀ t, ts.count t ≤ 1) → It acc t = some v ∨ (It al t = some v ∧ t ∈ ts) := by
 induction h with
 | nil => intro t v h _; exact .inl h
 | @yes ts ts' d u r acc out h1 h2 h3 ih =>
  intro t v h hn
  subst h2
  have hd : d ∈ ts := by simpa using h1
  rcases ih t v h (fun s => Nat.le_trans (List.Sublist.count_le _ List.erase_sublist) (hn s)) with e | ⟨e1, e2⟩
  ·by_cases hdt : d = t
   ·subst hdt
    rw [Yv] at e
    right; rw [Yv]; exact ⟨e, hd⟩
   ·rw [S0 hdt] at e; exact .inl e
  ·by_cases hdt : d = t
   ·subst hdt
    exfalso
    have h4 := List.count_erase_self (a := d) (l := ts)
    have h5 := hn d
    have h6 : 0 < (ts.erase d).count d := List.count_pos_iff.2 e2
    omega
   ·right; rw [S0 hdt]; exact ⟨e1, List.mem_of_mem_erase e2⟩
 | @no ts d u r acc out h1 h3 ih =>
  intro t v h hn
  rcases ih t v h hn with e | ⟨e1, e2⟩
  ·exact .inl e
  ·right
   have hdt : d ≠ t := by intro e; subst e; simp at h1; exact h1 e2
   rw [S0 hdt]; exact ⟨e1, e2⟩
def Q3 : List Nat → Bool
 | [] => true
 | x :: r => !(r.contains x) && Q3 r
theorem Li : ∀ {l : List Nat}, Q3 l = true → ∀ t, l.count t ≤ 1
 | [], _, t => by simp
 | x :: r, h, t => by
  simp only [Q3, Bool.and_eq_true, Bool.not_eq_true', List.contains_eq_mem, decide_eq_false_iff_not] at h
  rw [List.count_cons]
  have := Li h.2 t
  by_cases hx : x = t
  ·subst hx; rw [List.count_eq_zero_of_not_mem h.1]; simp
  ·simp [hx]; exact this
theorem Aco {ts : List Nat} {al al' : List (Nat × Value)} (h : Keep ts al [] al') (hn : Q3 ts = true) (B : Nat → Value) : ∃ B', mkA n al B = mkA n al' B' := by
 refine ⟨fun t => (It al t).getD (B t), ?_⟩
 unfold mkA
 simp only [Act.mk.injEq, and_true]
 congr 1
 funext i
 cases hl : It al' i with
 | none => simp
 | some v =>
  rcases h.sub_aux i v hl (Li hn) with e | e
  ·cases e
  ·simp [e.1]
theorem kp {c : Code} (ts : List Nat) {al' : List (Nat × Value)} (k : JC P n c Q L R al') (h : Keep ts al [] al' := by repeat (first | exact .nil | apply Keep.yes rfl rfl | apply Keep.no rfl)) (hn : Q3 ts = true := by exact rfl) : JC P n c Q L R al := by
 intro B w hs
 obtain ⟨B', hB⟩ := Aco h hn B
 rw [hB]; exact k B' w hs
theorem alT {al' : List (Nat × Value)} (h : Sc al n al' := by repeat (first | exact trivial | refine ⟨rfl, ?_⟩)) : Sc al n al' := h
end
section
variable {P : Program} {n : Nat} {Q : Exit → Act → World → Prop} {rest : List Oper} {L L' : List Chunk} {R : List Fact} {al : List (Nat × Value)} {d : Nat} {ty : TypeId} {pos : String} {aft : Array Edge}
theorem gy {l : List Oper} {dst : Option Tmp} {op : Go.Op} {i : Nat} {b : Bool} (k : J P n l.toArray Q (⟨dst, op, ty, pos, aft, none⟩ :: rest) L R al) (hv : gv n al l i = some b := by exact rfl) : J P n l.toArray Q (⟨dst, op, ty, pos, aft, some (i, b)⟩ :: rest) L R al := J.guardYes hv k
variable {Sh : Rho → (Nat → Bool) → List Chunk} {R0 : List Fact} {al0 : List (Nat × Value)} {its : List Item} {i : Nat}
theorem dgy {l : List Oper} {dst : Option Tmp} {op : Go.Op} {q : Nat} {b : Bool} (k : DN P n l.toArray Q Sh R0 al0 i ⟨dst, op, ty, pos, aft, none⟩ rest its) (hv : ∀ ρ, gv n (Ed its al0 ρ) l q = some b := by exact fun _ => rfl) : DN P n l.toArray Q Sh R0 al0 i ⟨dst, op, ty, pos, aft, some (q, b)⟩ rest its := Xa hv k
theorem dgn {l : List Oper} {op : Go.Op} {q : Nat} {b : Bool} (k : DJ P n l.toArray Q Sh R0 al0 (i + 1) rest (⟨i, some d, fun _ => undef, fun _ => [], fun _ => []⟩ :: its)) (hv : ∀ ρ, gv n (Ed its al0 ρ) l q = some (!b) := by exact fun _ => rfl) (hSh : ∀ ρ g S, S i = false → Sh (Rho.set ρ i g) (upS S i) = Sh ρ S := by exact fun _ _ _ _ => rfl) : DN P n l.toArray Q Sh R0 al0 i ⟨some d, op, ty, pos, aft, some (q, b)⟩ rest its := Z5 hv hSh k
theorem dgu {l : List Oper} {op : Go.Op} {q : Nat} {b : Bool} (k : DJ P n l.toArray Q Sh R0 al0 (i + 1) rest (⟨i, some d, fun _ => undef, fun _ => [], fun _ => []⟩ :: its)) (hv : ∀ ρ, gu n (Ed its al0 ρ) l q = true := by exact fun _ => rfl) (hSh : ∀ ρ g S, S i = false → Sh (Rho.set ρ i g) (upS S i) = Sh ρ S := by exact fun _ _ _ _ => rfl) : DN P n l.toArray Q Sh R0 al0 i ⟨some d, op, ty, pos, aft, some (q, b)⟩ rest its := Rw hv hSh k
end
end Go.Proofs.Ytkgijpngobgfjaa
namespace Go.Proofs.Ytkgijpngobgfjaa
open Go
def Mx : Value → Bool
 | .slice none _ _ => true
 | _ => false
theorem Aei {P : Program} {T e : TypeId} {k : Nat} {b : Option Addr} {l c : Nat} (ht : P.underlying T = some (.slice e)) (w : World) : (Op.equalIn (k + 1) T (.slice b l c) (.slice none 0 0)).run P w = .ok (Mx (.slice b l c)) w := by
 unfold Op.equalIn
 cases b <;> simp [Dd ht, Mx]
section
variable {P : Program} {n : Nat} {ops : Array Oper} {Q : Exit → Act → World → Prop} {rest : List Oper} {L L' : List Chunk} {R : List Fact} {al : List (Nat × Value)} {d : Nat} {x y : Operand} {T ty : TypeId} {pos : String} {aft : Array Edge}
theorem Acc {e U : TypeId} {v : Value} {len : Nat} (ht : P.underlying T = some (.slice e)) (hl : D4 L R v len) (hx : ev n al x = some v := by exact rfl) : Au P n al L R ⟨some d, .binOp .eql T x (.const (.slice none 0 0)) U, ty, pos, aft, none⟩ (.bool (Mx v)) :=
 ⟨rfl, fun ρ w h hs => by
  obtain ⟨base, cap, rfl, _⟩ := hl w hs
  have e1 : ρ (.const (.slice none 0 0)) = .slice none 0 0 := h _ (by simp [Op.operands]) _ rfl
  have e2 := h x (by simp [Op.operands]) _ hx
  have g : (eqGuard .eql T x (.const (.slice none 0 0)) (.slice base len cap) (.slice none 0 0)).run P w = .ok () w := by
   unfold eqGuard; rfl
  have e : (binOp .eql T (.slice base len cap) (.slice none 0 0)).run P w = .ok (.bool (Mx (.slice base len cap))) w := by
   show (Op.equal T (.slice base len cap) (.slice none 0 0) >>= fun r => Pure.pure (Value.bool r)).run P w = _
   rw [Sem.run_bind]
   have : (Op.equal T (.slice base len cap) (.slice none 0 0)).run P w = .ok (Mx (.slice base len cap)) w := by
    rw [show Op.equal T (.slice base len cap) (.slice none 0 0) = Op.equalIn (9999 + 1) T (.slice base len cap) (.slice none 0 0) from rfl, Aei ht w]
   rw [this]; rfl
  have : (execOp ρ ⟨some d, .binOp .eql T x (.const (.slice none 0 0)) U, ty, pos, aft, none⟩) = (do let v ← (do eqGuard .eql T x (.const (.slice none 0 0)) (.slice base len cap) (.slice none 0 0); binOp .eql T (.slice base len cap) (.slice none 0 0)); pure (Next.value v)) := by
   simp only [execOp, e1, e2]
  rw [this]
  simp [g, e]⟩
theorem nil_of {α : Type} [Enc α] {v : Value} {xs : List α} {w : World} (hm : sl v xs ∈ R) (hs : St L R w) (h : Mx v = true) : xs = [] := by
 obtain ⟨base, cap, rfl, _, hc⟩ := hs.fact hm
 cases base with
 | none =>
  apply Classical.byContradiction
  intro hne
  obtain ⟨a, _, _, _, _, h1, _⟩ := hc hne
  cases h1
 | some a => cases h
theorem JC.nilOf {α : Type} [Enc α] {c : Code} {v : Value} {xs : List α} (h : Mx v = true) (hm : sl v xs ∈ R) (k : xs = [] → JC P n c Q L R al) : JC P n c Q L R al := JC.know (fun w hs => nil_of hm hs h) k
theorem q_sl {e : TypeId} {sz len cap lo hi : Nat} {a : Addr} {low high : Option Operand} (ht : C5 P T e sz) (hx : ev n al x = some (.slice (some a) len cap) := by exact rfl)
  (hlo : (match low with | none => lo = 0 | some y => ev n al y = some (vi (lo : Int))) := by exact rfl) (hhi : (match high with | none => hi = len | some y => ev n al y = some (vi (hi : Int))) := by exact rfl) (h1 : lo ≤ hi := by omega) (h2 : hi ≤ cap := by omega) : Au P n al L R ⟨some d, .slice T x low high none, ty, pos, aft, none⟩ (.slice (if cap = lo then some a else some (a.add (lo * sz))) (hi - lo) (cap - lo)) :=
 ⟨rfl, fun ρ w h hs => by
  show (Instr.sliceAt T (ρ x) (low.map ρ) (high.map ρ) none >>= fun v => Pure.pure (Next.value v)).run P w = _
  rw [h x (by simp [Op.operands]) _ hx, Sem.run_bind]
  have hlo' : (low.map ρ = none ∧ lo = 0) ∨ low.map ρ = some (vi (lo : Int)) := by
   cases low with
   | none => exact .inl ⟨rfl, hlo⟩
   | some y => right; simp only [Option.map_some]; rw [h y (by simp [Op.operands]) _ hlo]
  have hhi' : (high.map ρ = none ∧ hi = len) ∨ high.map ρ = some (vi (hi : Int)) := by
   cases high with
   | none => exact .inl ⟨rfl, hhi⟩
   | some y => right; simp only [Option.map_some]; rw [h y (by simp [Op.operands]) _ hhi]
  have e1 : (0 : Int) ≤ (lo : Int) ∧ (lo : Int) ≤ (hi : Int) := by omega
  have e2 : (0 : Int) ≤ (hi : Int) ∧ (hi : Int) ≤ (cap : Int) := by omega
  have : (Instr.sliceAt T (.slice (some a) len cap) (low.map ρ) (high.map ρ) none).run P w = .ok (.slice (if cap = lo then some a else some (a.add (lo * sz))) (hi - lo) (cap - lo)) w := by
   rcases hlo' with ⟨a1, a2⟩ | a1 <;> rcases hhi' with ⟨b1, b2⟩ | b1 <;> rw [a1, b1] <;>
    simp [Instr.sliceAt, Instr.slice, Instr.sliceBounds, Instr.sliceBound, Dd ht.1, ht.2, asIntOf, e1, e2, h1, h2] <;> (try subst a2) <;> (try subst b2) <;> (try simp) <;> (try omega)
  rw [this]; rfl⟩
end
section
variable {P : Program} {n : Nat} {L : List Chunk} {R : List Fact} {al : List (Nat × Value)} {d : Nat} {x y : Operand} {T ty : TypeId} {pos : String} {aft : Array Edge}
theorem Acx {α : Type} {c : Prop} [Decidable c] {a b : α} : (if c then some a else some b) = some (if c then a else b) := by split <;> rfl
theorem q_sl0 {e : TypeId} {sz len cap hi : Nat} {a : Addr} {high : Option Operand} (ht : C5 P T e sz) (hx : ev n al x = some (.slice (some a) len cap)) (hhi : match high with | none => hi = len | some y => ev n al y = some (vi (hi : Int))) (h2 : hi ≤ cap) : Au P n al L R ⟨some d, .slice T x none high none, ty, pos, aft, none⟩ (.slice (some a) hi cap) := by
 have := q_sl (P := P) (L := L) (R := R) (d := d) (ty := ty) (pos := pos) (aft := aft) (lo := 0) (low := none) ht hx rfl hhi (Nat.zero_le _) h2
 simpa [Addr.add] using this
theorem q_slN {e : TypeId} {sz len cap lo hi : Nat} {a : Addr} {low high : Option Operand} (ht : C5 P T e sz) (hx : ev n al x = some (.slice (some a) len cap)) (hlo : match low with | none => lo = 0 | some y => ev n al y = some (vi (lo : Int))) (hhi : match high with | none => hi = len | some y => ev n al y = some (vi (hi : Int))) (h1 : lo ≤ hi) (h2 : hi ≤ cap) : Au P n al L R ⟨some d, .slice T x low high none, ty, pos, aft, none⟩ (.slice (some (if cap = lo then a else a.add (lo * sz))) (hi - lo) (cap - lo)) := by
 have := q_sl (P := P) (L := L) (R := R) (d := d) (ty := ty) (pos := pos) (aft := aft) ht hx hlo hhi h1 h2
 rw [Acx] at this; exact this
end
def rdL {α : Type} [Enc α] (xs : List α) (cs : List Value) : Fact := ⟨RdL xs cs, fun _ _ h hr => hr.mono h⟩
section
variable {P : Program} {n : Nat} {ops : Array Oper} {Q : Exit → Act → World → Prop} {rest : List Oper} {L L' : List Chunk} {R : List Fact} {al : List (Nat × Value)} {d : Nat} {x y : Operand} {T ty : TypeId} {pos : String} {aft : Array Edge}
variable {α : Type} [Enc α] {v : Value} {xs : List α}
theorem Ahn {w : World} (hne : xs ≠ []) (hs : St (row T v xs :: L) R w) : ∃ g cap cs, v = .slice (some ⟨g, 0, none⟩) xs.length cap ∧ xs.length ≤ cap ∧ cap ≤ maxLen ∧ xs.length ≤ maxN ∧ cs.length = cap * Enc.sz α ∧ St (blk g T cs :: L) (rdL xs (cs.take (xs.length * Enc.sz α)) :: R) w ∧ (∀ u ∈ cs.take (xs.length * Enc.sz α), u.oneCell' = true) := by
 obtain ⟨m, j, hd, hm, hj, ⟨m1, m2, hd', h1, h2, hc, hst⟩, hr⟩ := hs
 obtain ⟨h0, hv | ⟨g, cap, cur, cs, hv, hg, hcap, hml, hsz, htk, hrd⟩⟩ := hc
 ·exact absurd hv.2 hne
 ·subst htk
  refine ⟨g, cap, cur.toList, hv, hcap, hml, h0, by simpa using hsz, ⟨m, j, hd, hm, hj, ⟨m1, m2, hd', h1, h2, by simpa [blk, blkO] using hg, hst⟩, fun f hf => ?_⟩, hrd.one⟩
  cases List.mem_cons.1 hf with
  | inl e => rw [e]; exact hrd
  | inr e => exact hr f e
theorem Ald {w : World} {g cap : Nat} {cs : List Value} (hN : xs.length ≤ maxN) (hcap : xs.length ≤ cap) (hml : cap ≤ maxLen) (hcl : cs.length = cap * Enc.sz α) (hrd : ∀ j, (∀ f ∈ R, f.p j) → RdL xs (cs.take (xs.length * Enc.sz α)) j) (hs : St (blk g T cs :: L) R w) : St (row T (.slice (some ⟨g, 0, none⟩) xs.length cap) xs :: L) R w := by
 obtain ⟨m, j, hd, hm, hj, ⟨m1, m2, hd', h1, h2, hc, hst⟩, hr⟩ := hs
 exact ⟨m, j, hd, hm, hj, ⟨m1, m2, hd', h1, h2, ⟨hN, .inr ⟨g, cap, cs.toArray, _, rfl, hc, hcap, hml, by simpa using hcl, rfl, hrd j hr⟩⟩, hst⟩, hr⟩
theorem ap_in {t e : TypeId} {bytes g i j m cap c2 : Nat} {a : Addr} {z : Value} {cs : List Value} (he : ElemOf P t e 1 z bytes) (hx : ev n al x = some (.slice (some ⟨g, 0, none⟩) i cap)) (hy : ev n al y = some (.slice (some a) m c2)) (ha : m ≠ 0 → a = ⟨g, j, none⟩)
  (hp : Pick L (blk g e cs) L') (hcl : cs.length = cap) (hj : j + m ≤ cap) (hroom : i + m ≤ cap) (h1 : ∀ u ∈ (cs.drop j).take m, u.oneCell' = true)
  (k : J P n ops Q rest (blk g e (cs.take i ++ (cs.drop j).take m ++ cs.drop (i + m)) :: L') R ((d, .slice (some ⟨g, 0, none⟩) (i + m) cap) :: al)) :
  J P n ops Q (⟨some d, .call { callee := .builtin .append, args := #[x, y], argTypes := #[t, t] }, ty, pos, aft, none⟩ :: rest) L R al :=
 J.yield (L' := blk g e (cs.take i ++ (cs.drop j).take m ++ cs.drop (i + m)) :: L') (R' := R) rfl rfl (fun B w hs => by
  obtain ⟨ti, hi, hz, hisz, hiby⟩ := he.info
  have hs' := hs.pick hp
  have hgw : w.heap[g]? = some (.cells cs.toArray e (0, 0)) := hs'.blk_get
  by_cases hm : m = 0
  ·subst hm
   refine ⟨w, Gc ?_, ?_⟩
   ·rw [Bd hx, Bd hy]
    have hfirst : (Builtin.firstCells 1 0 (.slice (some a) 0 c2)).run P w = .ok #[] w := by simp [Builtin.firstCells, loadCells, loadCellsFrom]
    simp [Builtin.append_, Dd he.und, sizeOf, typeInfo, hi, hisz, Builtin.lenOf, hfirst, show i ≤ cap by omega, storeCells]
   ·simpa using hs'
  ·have ha' := ha hm
   subst ha'
   have hnl : ((cs.drop j).take m).length = m * 1 := by simp; omega
   have hnc : ∀ (k : Nat) c, ((cs.drop j).take m)[k]? = some c → w.cell? ((⟨g, j, none⟩ : Addr).add k) = some c := by
    intro k c hk
    rw [Ik, Gd hgw]
    rw [List.getElem?_take] at hk
    split at hk
    ·rw [List.getElem?_drop] at hk; simpa using hk
    ·cases hk
   have hrun := run_append_room (P := P) (w := w) t ty e ti he.und hi g i cap cs.toArray hgw ⟨g, j, none⟩ m c2 ((cs.drop j).take m) (by rw [hisz]; exact hnl) hnc h1 hroom (by rw [hisz, hnl]; simp; omega)
   refine ⟨_, Gc (by rw [Bd hx, Bd hy]; exact hrun), ?_⟩
   rw [hisz, hnl]
   simp only [Nat.mul_one]
   exact hs'.blk_set (Cx hgw).1 (Cx hgw).2 rfl rfl) k
theorem clr {t e : TypeId} {bytes g o c2 : Nat} {z : Value} {cs : List Value} (he : ElemOf P t e 1 z bytes) (hz : ∀ w, (zeroValue e).run P w = .ok z w) (hzc : z.cells = #[z]) (hz1 : z.oneCell' = true) (hx : ev n al x = some (.slice (some ⟨g, o, none⟩) 1 c2))
  (hp : Pick L (blk g e cs) L') (hcl : o + 1 ≤ cs.length)
  (k : ∀ cs', cs' = cs.take o ++ [z] ++ cs.drop (o + 1) → J P n ops Q rest (blk g e cs' :: L') R al) :
  J P n ops Q (⟨none, .call { callee := .builtin .clear, args := #[x], argTypes := #[t] }, ty, pos, aft, none⟩ :: rest) L R al := by
 refine J.step rfl fun B w hs => .inl ?_
 have hs' := hs.pick hp
 have hgw : w.heap[g]? = some (.cells cs.toArray e (0, 0)) := hs'.blk_get
 have hzl : (Builtin.zeroCells z.cells 1).toList = [z] := by
  rw [hzc]; unfold Builtin.zeroCells; simp [List.range_succ]
 have hst := run_storeCells_at P g o e ([z]) 0 cs.toArray w hgw (by simpa using hcl) (fun u hu => by cases List.mem_singleton.1 hu; exact hz1)
 have e1 : (Builtin.clear_ #[t] ty #[(mkA n al B).eval x]).run P w = .ok (.tuple #[]) (w.setRow g (cs.take o ++ [z] ++ cs.drop (o + 1)).toArray) := by
  rw [Bd hx]
  simp [Builtin.clear_, Dd he.und, hz, hzl] at hst ⊢
  rw [hst]; rfl
 have e2 : (execOp (mkA n al B).eval ⟨none, .call { callee := .builtin .clear, args := #[x], argTypes := #[t] }, ty, pos, aft, none⟩).run P w = .ok (.value (.tuple #[])) (w.setRow g (cs.take o ++ [z] ++ cs.drop (o + 1)).toArray) := by
  simp [execOp, resolve, invoke, builtin, e1]
 unfold Oper.wp
 rw [e2, Oper.upon_value, Mu]
 exact k _ rfl B _ (hs'.blk_set (Cx hgw).1 (Cx hgw).2 rfl rfl)
end
theorem frz {P : Program} {γ : Type} {f : FuncId} {args : Array Value} {w : World} {α : Type} [Enc α] {T : TypeId} {xs : List α} {val p : γ → Value} {L : γ → List Chunk} {R : γ → List Fact} (h : Calls P f args w (Cd val (fun g => row T (p g) xs :: L g) R)) : Calls P f args w (Cd val L (fun g => sl (p g) xs :: R g)) :=
 h.mono fun e w' ⟨g, h1, h2⟩ => ⟨g, h1, h2.shut⟩
section
variable {P : Program} {n : Nat} {ops : Array Oper} {Q : Exit → Act → World → Prop} {rest : List Oper} {L L' : List Chunk} {R : List Fact} {al : List (Nat × Value)} {d : Nat} {x y : Operand} {T ty : TypeId} {pos : String} {aft : Array Edge}
theorem Hu {α : Type} {l : List α} {k : Nat} (d : α) (h : k < l.length) : l.take (k + 1) = l.take k ++ [l.getD k d] := by
 rw [List.take_add_one, getD_some d h]; rfl
theorem l_Sr {β : Type} [Enc β] {T' : TypeId} {v : Value} {xs : List (List β)} {i : Nat} (hT : ∀ w, (isAgg T).run P w = .ok false w) (hx : ev n al x = some (ep v 1 i 0)) (hp : Pick L (row T' v xs) L') (hi : i < xs.length)
  (k : ∀ u, J P n ops Q rest L (sl u (xs.getD i []) :: R) ((d, u) :: al)) : J P n ops Q (⟨some d, .load T x, ty, pos, aft, none⟩ :: rest) L R al :=
 Wk (α := List β) (f := 0) hT hx hp (getD_some [] hi) (fun cs m h => by obtain ⟨u, h1, h2⟩ := h; exact ⟨u, by rw [h1]; rfl, h2⟩) k
theorem s_Sr {β : Type} [Enc β] {T' : TypeId} {v c : Value} {xs : List (List β)} {ys : List β} {i : Nat} (hsz : ∀ w, (sizeOf T).run P w = .ok 1 w) (hx : ev n al x = some (ep v 1 i 0)) (hy : ev n al y = some c) (hm : sl c ys ∈ R) (hp : Pick L (row T' v xs) L') (hi : i < xs.length)
  (k : J P n ops Q rest (row T' v (xs.set i ys) :: L') R al) : J P n ops Q (⟨none, .store T x y, ty, pos, aft, none⟩ :: rest) L R al :=
 fun B w hs => by
  have hc : c.cells = #[c] ∧ c.oneCell' = true := by obtain ⟨base, cap, rfl, _⟩ := hs.fact hm; exact ⟨rfl, rfl⟩
  exact Iq (α := List β) (f := 0) (cs := [c]) (e := xs.getD i []) (e' := ys) hsz hx hy hc.1 rfl (by intro u hu; cases List.mem_singleton.1 hu; exact hc.2) hp (getD_some [] hi)
   (fun ds m hr => by obtain ⟨u, h1, _⟩ := hr; rw [h1]; exact Nat.le_refl _) (fun j hj ds hr => by obtain ⟨u, h1, _⟩ := hr; rw [h1]; exact ⟨c, rfl, hj _ hm⟩) k B w hs
end
end Go.Proofs.Ytkgijpngobgfjaa
namespace Go.Proofs.Ytkgijpngobgfjaa
open Go
section
variable {P : Program} {n : Nat} {Q : Exit → Act → World → Prop} {Sh : Rho → (Nat → Bool) → List Chunk} {R0 : List Fact} {al0 : List (Nat × Value)}
variable {ops : Array Oper} {i : Nat} {rest : List Oper} {its : List Item} {d : Nat} {x y : Operand} {T ty : TypeId} {pos : String} {aft : Array Edge}
def Km (ops : Array Oper) (Sh : Rho → (Nat → Bool) → List Chunk) (i : Nat) : Prop := ∀ ρ g S, S i = false → (∀ j, Bef ops i j → S j = false) → Sh (Rho.set ρ i g) (upS S i) = Sh ρ S
theorem Akm {γ : Type} [Gh γ] {o : Oper} {val : γ → Value} {F : γ → List Fact} {C : γ → List Chunk} (hg : o.guard = none) (hd : o.dst = some d) (hSh : Km ops Sh i)
  (h : ∀ ρ S a L' R' w (K : Act → World → Prop), Now ops n Sh R0 al0 i its o ρ S a L' R' w → (∀ g w', St (C g ++ (Sh ρ S ++ L')) (F g ++ R') w' → K (a.put (some d) (val g)) w') → o.wp P a w K Q)
  (k : DJ P n ops Q Sh R0 al0 (i + 1) rest (⟨i, some d, fun ρ => val (Gh.dec (ρ i)), fun ρ => F (Gh.dec (ρ i)), fun ρ => C (Gh.dec (ρ i))⟩ :: its)) : DJ P n ops Q Sh R0 al0 i (o :: rest) its := by
 refine dj ⟨⟨i, some d, fun ρ => val (Gh.dec (ρ i)), fun ρ => F (Gh.dec (ρ i)), fun ρ => C (Gh.dec (ρ i))⟩, rfl, hd.symm, Ind.self (h := fun g => val (Gh.dec g)), Ind.self (h := fun g => F (Gh.dec g)), Ind.self (h := fun g => C (Gh.dec g)), ?_, k⟩
 intro ρ S a L' R' w K hS hbef haft hag hdep hbase hst hK
 rw [if_pos (by simp [Region.wanted, hg])]
 left
 refine h ρ S a L' R' w K ⟨hS, hag, hdep, hbase, hst⟩ ?_
 intro g w' hs'
 have e : (Rho.set ρ i (Gh.enc g)) i = Gh.enc g := by simp [Rho.set]
 have := hK (Gh.enc g) w'
 simp only [e, Gh.ok, hd, hSh ρ (Gh.enc g) S hS haft] at this
 refine this (hs'.perm ?_)
 rw [← List.append_assoc, ← List.append_assoc]
 exact List.Perm.append_right _ List.perm_append_comm
theorem e_p {op : Oper} {v : Rho → Value} (hp : ∀ ρ S, Au P n (Ed its al0 ρ) (Sh ρ S) R0 op (v ρ)) (hi : Ind ops i v) (hSh : Km ops Sh i)
  (k : DJ P n ops Q Sh R0 al0 (i + 1) rest (⟨i, some d, v, fun _ => [], fun _ => []⟩ :: its)) (hd : op.dst = some d := by exact rfl) : DJ P n ops Q Sh R0 al0 i (op :: rest) its := by
 refine dj ⟨⟨i, some d, v, fun _ => [], fun _ => []⟩, rfl, hd.symm, hi, Ind.const _, Ind.const _, ?_, k⟩
 intro ρ S a L' R' w K hS hbef haft hag hdep hbase hst hK
 have hp0 := hp ρ S
 rw [if_pos (by simp [Region.wanted, hp0.1])]
 left
 unfold Oper.wp
 have h : Now ops n Sh R0 al0 i its op ρ S a L' R' w := ⟨hS, hag, hdep, hbase, hst⟩
 rw [hp0.2 _ w (fun x hx u hu => Cs h.agree hx hu) (h.st.fewer h.base), Oper.upon_value]
 have hsh := hSh ρ (ρ i) S hS haft
 rw [Rho.set_same] at hsh
 have := hK (ρ i) w
 rw [Rho.set_same] at this
 exact this (by rw [hsh]; exact hst)
theorem Jr {op : Oper} {v : Value} (hp : ∀ ρ S, S i = false → (∀ j, Bef ops j i → S j = true) → (∀ j, Bef ops i j → S j = false) → Au P n (Ed its al0 ρ) (Sh ρ S) R0 op v) (hSh : Km ops Sh i)
  (k : DJ P n ops Q Sh R0 al0 (i + 1) rest (⟨i, some d, fun _ => v, fun _ => [], fun _ => []⟩ :: its)) (hpure : op.guard = none := by exact rfl) (hd : op.dst = some d := by exact rfl) : DJ P n ops Q Sh R0 al0 i (op :: rest) its := by
 refine dj ⟨⟨i, some d, fun _ => v, fun _ => [], fun _ => []⟩, rfl, hd.symm, Ind.const _, Ind.const _, Ind.const _, ?_, k⟩
 intro ρ S a L' R' w K hS hbef haft hag hdep hbase hst hK
 have hp0 := hp ρ S hS hbef haft
 rw [if_pos (by simp [Region.wanted, hp0.1])]
 left
 unfold Oper.wp
 have h : Now ops n Sh R0 al0 i its op ρ S a L' R' w := ⟨hS, hag, hdep, hbase, hst⟩
 rw [hp0.2 _ w (fun x hx u hu => Cs h.agree hx hu) (h.st.fewer h.base), Oper.upon_value]
 have hsh := hSh ρ (ρ i) S hS haft
 rw [Rho.set_same] at hsh
 have := hK (ρ i) w
 rw [Rho.set_same] at this
 exact this (by rw [hsh]; exact hst)
theorem Da {s : Bool} {x y : List Value} {f : Nat} {c : Value} (hx : x[f]? = some c) (hy : y[f]? = some c) : (bif s then x else y)[f]? = some c := by cases s <;> assumption
theorem K7 {op : Oper} {v : Value} (hp : ∀ ρ S, Au P n (Ed its al0 ρ) (Sh ρ S) R0 op v) (hSh : Km ops Sh i)
 (k : DJ P n ops Q Sh R0 al0 (i + 1) rest (⟨i, some d, fun _ => v, fun _ => [], fun _ => []⟩ :: its)) (hd : op.dst = some d := by exact rfl) : DJ P n ops Q Sh R0 al0 i (op :: rest) its := e_p hp (Ind.const _) hSh k hd
theorem G8 {γ : Type} [Gh γ] {val : γ → Value} {F : γ → List Fact} {f : FuncId} {args : List Operand} {ts : Array TypeId} {vs : Rho → List Value} (hf : ∀ args w, (callFunc f args).run P w = .ok (.enter f args) w)
  (ha : ∀ ρ, evL n (Ed its al0 ρ) args = some (vs ρ)) (hc : ∀ ρ L' R' w, Deps ops R0 its i ρ R' → St L' R' w → Calls P f (vs ρ).toArray w (Cd val (fun _ => L') (fun g => F g ++ R'))) (hSh : Km ops Sh i)
  (k : DJ P n ops Q Sh R0 al0 (i + 1) rest (⟨i, some d, fun ρ => val (Gh.dec (ρ i)), fun ρ => F (Gh.dec (ρ i)), fun ρ => []⟩ :: its)) :
  DJ P n ops Q Sh R0 al0 i (⟨some d, .call { callee := .value (.func f), args := args.toArray, argTypes := ts }, ty, pos, aft, none⟩ :: rest) its :=
 Akm (C := fun _ => []) rfl rfl hSh (fun ρ S a L' R' w K h hK => by
  unfold Oper.wp
  rw [Kc hf rfl, Oper.upon_enter, List.map_toArray, Hb h.agree (fun x hx => by simp [Op.operands, Call.operands, hx]) (ha ρ)]
  refine (hc ρ _ _ w ⟨h.base, h.deps⟩ h.st).mono ?_
  rintro e w' ⟨g, rfl, hs'⟩
  exact hK g w' hs') k
theorem Lr {α : Type} [Enc α] {t el : TypeId} {sz bytes len : Nat} {z : Value} {parts : List (Nat × Operand)} {vs : Rho → List Value} (xs : List α) (he : ElemOf P t el sz z bytes) (hsz : Enc.sz α = sz)
  (ha : ∀ ρ, evL n (Ed its al0 ρ) (parts.map (·.2)) = some (vs ρ)) (hidx : parts.map (·.1) = List.range' 0 len) (hlv : ∀ ρ, (vs ρ).length = len) (hsmall : Nat.ble (len * sz) 1000 = true) (hsm2 : Nat.ble len 1000 = true)
  (hrd : ∀ ρ R', Deps ops R0 its i ρ R' → ∀ j, (∀ q ∈ R', q.p j) → RdV xs (vs ρ) j) (hSh : Km ops Sh i)
  (k : DJ P n ops Q Sh R0 al0 (i + 1) rest (⟨i, some d, fun ρ => (Gh.dec (ρ i) : Value), fun ρ => [sl (Gh.dec (ρ i) : Value) xs], fun _ => []⟩ :: its)) :
  DJ P n ops Q Sh R0 al0 i (⟨some d, .buildSlice t len parts.toArray, ty, pos, aft, none⟩ :: rest) its :=
 Akm (γ := Value) (val := fun v => v) (F := fun v => [sl v xs]) (C := fun _ => []) rfl rfl hSh (fun ρ S ac L' R' w K h hK => by
  obtain ⟨j, hj, hrj⟩ := h.st.ex
  have hrd' := hrd ρ R' ⟨h.base, h.deps⟩
  obtain ⟨h1, h2, h3⟩ := (hrd' j hrj).list
  have hlen := hlv ρ
  have hb := Nat.le_of_ble_eq_true hsmall
  have hb2 := Nat.le_of_ble_eq_true hsm2
  have hrun := Gp (vs := vs ρ) he (fun v hv => by rw [h2 v hv, hsz]) (by rw [hlen]; exact hb) w
  have e : (execOp ac.eval ⟨some d, .buildSlice t len parts.toArray, ty, pos, aft, none⟩).run P w = .ok (.value (.slice (some ⟨w.heap.size, 0, none⟩) len len)) (w.alloc (.cells ((vs ρ).flatMap fun v => v.cells.toList).toArray el)) := by
   show (Instr.buildSlice t len (parts.toArray.map fun (i, x) => (i, ac.eval x)) >>= fun v => Pure.pure (Next.value v)).run P w = _
   have hp : (parts.toArray.map fun (i, x) => (i, ac.eval x)) = ((parts.map (·.1)).zip (vs ρ)).toArray := by
    rw [← Hb h.agree (fun x hx => by simpa [Op.operands] using hx) (ha ρ)]
    simp only [List.map_toArray, List.map_map, List.zip_map', Function.comp_def]
   rw [hp, hidx, Sem.run_bind, ← hlen, hrun]; rfl
  unfold Oper.wp
  rw [e, Oper.upon_value]
  refine hK _ _ ?_
  obtain ⟨m, j', hd, hmw, hjw, hst, hr⟩ := h.st
  have hnew : St (row el (.slice (some ⟨w.heap.size, 0, none⟩) len len) xs :: (Sh ρ S ++ L')) R' (w.alloc (.cells ((vs ρ).flatMap fun v => v.cells.toList).toArray el)) := by
   obtain ⟨g1, g2, g3⟩ := (hrd' j' hr).list
   have hcl : ((vs ρ).flatMap fun v => v.cells.toList).length = len * sz := by rw [g3.len, g1, hlen, hsz]
   exact St.newC hd hmw hjw hst hr rfl rfl rfl ⟨by rw [g1, hlen]; have : maxN = 16777216 := rfl; omega, .inr ⟨w.heap.size, len, _, _, by rw [g1, hlen], Em _ _, by rw [g1, hlen]; exact Nat.le_refl _, by unfold maxLen; omega, by rw [hsz]; simpa using hcl, rfl, by
    rw [g1, hlen, hsz, ← hcl, List.toList_toArray, List.take_length]; exact g3⟩⟩
  exact hnew.shut) k
theorem Ng {z : Value} {cs : List Value} (hz : ∀ w, (zeroValue T).run P w = .ok z w) (hv : z.cells = cs.toArray) (hSh : ∀ ρ (b : Nat) S, S i = false → (∀ j, Bef ops i j → S j = false) → (Sh (Rho.set ρ i (Gh.enc b)) (upS S i)).Perm (blk b T cs :: Sh ρ S))
 (k : DJ P n ops Q Sh R0 al0 (i + 1) rest (⟨i, some d, fun ρ => bp (Gh.dec (γ := Nat) (ρ i)) 0, fun _ => [], fun _ => []⟩ :: its)) : DJ P n ops Q Sh R0 al0 i (⟨some d, .alloc T, ty, pos, aft, none⟩ :: rest) its := dj (Z6 hz hv hSh k)
theorem Akl {f : Nat} {vs us : Rho → List Value} {v : Rho → Value} {sz : Nat} {T0 : TypeId} (bb : Rho → Nat) (hsz : ∀ w, (sizeOf T).run P w = .ok sz w) (hx : ∀ ρ, ev n (Ed its al0 ρ) x = some (bp (bb ρ) f)) (hy : ∀ ρ, ev n (Ed its al0 ρ) y = some (v ρ)) (hv : ∀ ρ, (v ρ).cells = (us ρ).toArray) (hl : ∀ ρ, (us ρ).length = sz)
  (h1 : ∀ ρ R' w L', Deps ops R0 its i ρ R' → St L' R' w → ∀ u ∈ us ρ, u.oneCell' = true) (hf : ∀ ρ, Nat.ble (f + sz) (vs ρ).length = true)
  (hSh : ∀ ρ g S, S i = false → (∀ j, Bef ops j i → S j = true) → (∀ j, Bef ops i j → S j = false) → ∃ L1, (Sh ρ S).Perm (blk (bb ρ) T0 (vs ρ) :: L1) ∧ (Sh (Rho.set ρ i g) (upS S i)).Perm (blk (bb ρ) T0 ((vs ρ).take f ++ us ρ ++ (vs ρ).drop (f + sz)) :: L1))
  (k : DJ P n ops Q Sh R0 al0 (i + 1) rest (⟨i, none, fun _ => undef, fun _ => [], fun _ => []⟩ :: its)) : DJ P n ops Q Sh R0 al0 i (⟨none, .store T x y, ty, pos, aft, none⟩ :: rest) its := by
 refine dj ⟨⟨i, none, fun _ => undef, fun _ => [], fun _ => []⟩, rfl, rfl, Ind.const _, Ind.const _, Ind.const _, ?_, k⟩
 intro ρ S a L' R' w K hS hbef haft hag hdep hbase hst hK
 rw [if_pos (by simp [Region.wanted])]
 left
 unfold Oper.wp
 obtain ⟨L1, p1, p2⟩ := hSh ρ (ρ i) S hS hbef haft
 have hs' : St (blk (bb ρ) T0 (vs ρ) :: (L1 ++ L')) R' w := hst.perm (p1.append_right L')
 have hone := h1 ρ R' w _ ⟨hbase, hdep⟩ hst
 have hfit : f + (us ρ).length ≤ (vs ρ).length := by rw [hl]; exact Nat.le_of_ble_eq_true (hf ρ)
 have e : (execOp a.eval ⟨none, .store T x y, ty, pos, aft, none⟩).run P w = .ok .skip (w.setRow (bb ρ) ((vs ρ).take f ++ us ρ ++ (vs ρ).drop (f + (us ρ).length)).toArray) := by
  refine Fj ?_
  rw [Cs hag (by simp [Op.operands]) (hx ρ), Cs hag (by simp [Op.operands]) (hy ρ)]
  have := run_storeCells_at P (bb ρ) f T0 (us ρ) 0 (vs ρ).toArray w hs'.blk_get (by simpa using hfit) hone
  simp only [Nat.add_zero] at this
  have hl' := hl ρ
  simp [Instr.storeAt, Instr.sureAddr, storeVar, hsz, hv, bp, hl', this]
 rw [e, Oper.upon_skip]
 refine hK (ρ i) _ ?_
 have hnew := hs'.blk_set (Cx (us := (vs ρ).take f ++ us ρ ++ (vs ρ).drop (f + (us ρ).length)) hs'.blk_get).1 (Cx hs'.blk_get).2 rfl rfl
 rw [hl] at hnew ⊢
 exact hnew.perm (p2.symm.append_right L')
end
inductive Ins : List Chunk → List Chunk → Chunk → Prop
 | hd {r x} : Ins ([x] ++ r) r x
 | hc {r x} : Ins (x :: r) r x
 | tl {r r' x c} : Ins r' r x → Ins (c :: r') (c :: r) x
 | ap {r r' x P} : Ins r' r x → Ins (P ++ r') (P ++ r) x
theorem Ins.perm {l' l : List Chunk} {x : Chunk} (h : Ins l' l x) : l'.Perm (x :: l) := by
 induction h with
 | hd => exact .refl _
 | hc => exact .refl _
 | tl _ ih => exact (ih.cons _).trans (.swap ..)
 | ap _ ih => exact (ih.append_left _).trans List.perm_middle
inductive Pos : List Chunk → List Chunk → Chunk → Chunk → List Chunk → Prop
 | hd {r x x'} : Pos ([x] ++ r) ([x'] ++ r) x x' r
 | hc {r x x'} : Pos (x :: r) (x' :: r) x x' r
 | tl {r r' x x' c L1} : Pos r r' x x' L1 → Pos (c :: r) (c :: r') x x' (c :: L1)
 | ap {r r' x x' P L1} : Pos r r' x x' L1 → Pos (P ++ r) (P ++ r') x x' (P ++ L1)
theorem Pos.ex {l l' L1 : List Chunk} {x x' : Chunk} (h : Pos l l' x x' L1) : ∃ L1, l.Perm (x :: L1) ∧ l'.Perm (x' :: L1) := by
 induction h with
 | hd => exact ⟨_, .refl _, .refl _⟩
 | hc => exact ⟨_, .refl _, .refl _⟩
 | tl _ ih => obtain ⟨L1, h1, h2⟩ := ih; exact ⟨_ :: L1, (h1.cons _).trans (.swap ..), (h2.cons _).trans (.swap ..)⟩
 | ap _ ih => obtain ⟨L1, h1, h2⟩ := ih; exact ⟨_ ++ L1, (h1.append_left _).trans List.perm_middle, (h2.append_left _).trans List.perm_middle⟩
section
variable {P : Program} {n : Nat} {ops : Array Oper} {Q : Exit → Act → World → Prop} {rest : List Oper} {L L' : List Chunk} {R : List Fact} {al : List (Nat × Value)} {d : Nat} {x y : Operand} {T ty : TypeId} {pos : String} {aft : Array Edge}
theorem s_W {α : Type} [Enc α] {T' : TypeId} {v : Value} {xs : List α} {i sz : Nat} {cs : List Value} (e' : α) (hsz : ∀ w, (sizeOf T).run P w = .ok sz w) (hx : ev n al x = some (ep v sz i 0)) (hy : ev n al y = some (.agg cs.toArray)) (hes : Enc.sz α = sz) (hp : Pick L (row T' v xs) L') (hi : i < xs.length) (hrd : ∀ j, (∀ q ∈ R, q.p j) → Enc.rd e' cs j)
  (k : J P n ops Q rest (row T' v (xs.set i e') :: L') R al) : J P n ops Q (⟨none, .store T x y, ty, pos, aft, none⟩ :: rest) L R al := fun B w hs => by
 obtain ⟨j, _, hr⟩ := hs.ex
 have hl := Enc.len _ _ _ (hrd j hr)
 subst hes
 obtain ⟨e, he⟩ : ∃ e, xs[i]? = some e := ⟨xs[i], List.getElem?_eq_getElem hi⟩
 refine Iq (α := α) (f := 0) (cs := cs) (e := e) (e' := e') hsz hx hy rfl hl (Enc.one _ _ _ (hrd j hr)) hp he (fun ds m hr => by rw [Enc.len _ _ _ hr, hl]; omega) (fun j hj ds hr => ?_) k B w hs
 have hd := Enc.len _ _ _ hr
 have : ds.take 0 ++ cs ++ ds.drop (0 + cs.length) = cs := by rw [List.drop_of_length_le (by omega)]; simp
 rw [this]; exact hrd j hj
theorem Dk {u : Value} {e : Entry} (hm : sl u e.last ∈ R) (hw : e.wf) : ∀ j, (∀ q ∈ R, q.p j) → Enc.rd e (e.cells u) j := fun j h => ⟨u, rfl, h _ hm, hw⟩
theorem Agc {u : Value} {e : Core} (hm : sl u e.lines ∈ R) (hw : e.wait.wf) : ∀ j, (∀ q ∈ R, q.p j) → Enc.rd e (e.cells u) j := fun j h => ⟨u, rfl, h _ hm, hw⟩
theorem Yj {e : Msg} (hw : e.wf) : ∀ j, (∀ q ∈ R, q.p j) → RdV [e] [.agg e.cells.toArray] j := fun j _ => ⟨⟨_, rfl, rfl, hw⟩, trivial⟩
theorem Ml {e : Done} (hw : e.wf) : ∀ j, (∀ q ∈ R, q.p j) → RdV [e] [.agg e.cells.toArray] j := fun j _ => ⟨⟨_, rfl, rfl, hw⟩, trivial⟩
end
end Go.Proofs.Ytkgijpngobgfjaa
namespace Go.Proofs.Ytkgijpngobgfjaa
open Go
section
variable {P : Program} {n : Nat} {Q : Exit → Act → World → Prop} {Sh : Rho → (Nat → Bool) → List Chunk} {R0 : List Fact} {al0 : List (Nat × Value)}
variable {ops : Array Oper} {i : Nat} {rest : List Oper} {its : List Item} {x y : Operand} {T ty : TypeId} {pos : String} {aft : Array Edge}
theorem D3 {f : Nat} {vs : Rho → List Value} {v : Rho → Value} {T0 : TypeId} (bb : Rho → Nat) (hsz : ∀ w, (sizeOf T).run P w = .ok 1 w) (hx : ∀ ρ, ev n (Ed its al0 ρ) x = some (bp (bb ρ) f)) (hy : ∀ ρ, ev n (Ed its al0 ρ) y = some (v ρ))
  (h1 : ∀ ρ S R' w L', (∀ j, Bef ops j i → S j = true) → Deps ops R0 its i ρ R' → St (Sh ρ S ++ L') R' w → (v ρ).oneCell' = true) (hf : ∀ ρ, Nat.ble (f + 1) (vs ρ).length = true)
  (hSh : ∀ ρ g S, S i = false → (∀ j, Bef ops j i → S j = true) → (∀ j, Bef ops i j → S j = false) → ∃ L1, (Sh ρ S).Perm (blk (bb ρ) T0 (vs ρ) :: L1) ∧ (Sh (Rho.set ρ i g) (upS S i)).Perm (blk (bb ρ) T0 ((vs ρ).take f ++ [v ρ] ++ (vs ρ).drop (f + 1)) :: L1))
  (k : DJ P n ops Q Sh R0 al0 (i + 1) rest (⟨i, none, fun _ => undef, fun _ => [], fun _ => []⟩ :: its)) : DJ P n ops Q Sh R0 al0 i (⟨none, .store T x y, ty, pos, aft, none⟩ :: rest) its := by
 refine dj ⟨⟨i, none, fun _ => undef, fun _ => [], fun _ => []⟩, rfl, rfl, Ind.const _, Ind.const _, Ind.const _, ?_, k⟩
 intro ρ S a L' R' w K hS hbef haft hag hdep hbase hst hK
 rw [if_pos (by simp [Region.wanted])]
 left
 unfold Oper.wp
 obtain ⟨L1, p1, p2⟩ := hSh ρ (ρ i) S hS hbef haft
 have hs' : St (blk (bb ρ) T0 (vs ρ) :: (L1 ++ L')) R' w := hst.perm (p1.append_right L')
 have hone := h1 ρ S R' w _ hbef ⟨hbase, hdep⟩ hst
 have hone' : ∀ u ∈ [v ρ], u.oneCell' = true := by intro u hu; cases List.mem_singleton.1 hu; exact hone
 have hfit : f + [v ρ].length ≤ (vs ρ).length := Nat.le_of_ble_eq_true (hf ρ)
 have hc := Kj hone
 have e : (execOp a.eval ⟨none, .store T x y, ty, pos, aft, none⟩).run P w = .ok .skip (w.setRow (bb ρ) ((vs ρ).take f ++ [v ρ] ++ (vs ρ).drop (f + 1)).toArray) := by
  refine Fj ?_
  rw [Cs hag (by simp [Op.operands]) (hx ρ), Cs hag (by simp [Op.operands]) (hy ρ)]
  have := run_storeCells_at P (bb ρ) f T0 [v ρ] 0 (vs ρ).toArray w hs'.blk_get (by simpa using hfit) hone'
  simp only [Nat.add_zero, List.length_cons, List.length_nil, Nat.zero_add] at this
  simp [Instr.storeAt, Instr.sureAddr, storeVar, hsz, hc, bp, this]
 rw [e, Oper.upon_skip]
 refine hK (ρ i) _ ?_
 have hnew := hs'.blk_set (Cx (us := (vs ρ).take f ++ [v ρ] ++ (vs ρ).drop (f + 1)) hs'.blk_get).1 (Cx hs'.blk_get).2 rfl rfl
 exact hnew.perm (p2.symm.append_right L')
theorem e_pd {op : Oper} {d : Nat} {v : Rho → Value} (hp : ∀ ρ S R' L' w, Deps ops R0 its i ρ R' → St (Sh ρ S ++ L') R' w → Au P n (Ed its al0 ρ) (Sh ρ S) R0 op (v ρ)) (hi : Ind ops i v) (hSh : Km ops Sh i)
  (k : DJ P n ops Q Sh R0 al0 (i + 1) rest (⟨i, some d, v, fun _ => [], fun _ => []⟩ :: its)) (hg : op.guard = none := by exact rfl) (hd : op.dst = some d := by exact rfl) : DJ P n ops Q Sh R0 al0 i (op :: rest) its := by
 refine dj ⟨⟨i, some d, v, fun _ => [], fun _ => []⟩, rfl, hd.symm, hi, Ind.const _, Ind.const _, ?_, k⟩
 intro ρ S a L' R' w K hS hbef haft hag hdep hbase hst hK
 have hp0 := hp ρ S R' L' w ⟨hbase, hdep⟩ hst
 rw [if_pos (by simp [Region.wanted, hg])]
 left
 unfold Oper.wp
 have h : Now ops n Sh R0 al0 i its op ρ S a L' R' w := ⟨hS, hag, hdep, hbase, hst⟩
 rw [hp0.2 _ w (fun x hx u hu => Cs h.agree hx hu) (h.st.fewer h.base), Oper.upon_value]
 have hsh := hSh ρ (ρ i) S hS haft
 rw [Rho.set_same] at hsh
 have := hK (ρ i) w
 rw [Rho.set_same] at this
 exact this (by rw [hsh]; exact hst)
theorem Bm {α : Type} [Enc α] {L L' : List Chunk} {R : List Fact} {w : World} {T : TypeId} {v : Value} {xs : List α} (hp : Pick L (row T v xs) L') (hs : St L R w) : v.oneCell' = true := isSlice.one (St.fact (List.Mem.head _) (hs.pick hp).shut)
theorem D2 {α : Type} [Enc α] {f k sz : Nat} {hv : Value} {xs : List α} {vs : Rho → List Value} {v : Rho → Value} {T0 : TypeId} (hes : Enc.sz α = sz) (hsz : ∀ w, (sizeOf T).run P w = .ok 1 w) (hx : ∀ ρ, ev n (Ed its al0 ρ) x = some (ep hv sz k f)) (hy : ∀ ρ, ev n (Ed its al0 ρ) y = some (v ρ))
  (h1 : ∀ ρ S R' w L', (∀ j, Bef ops j i → S j = true) → Deps ops R0 its i ρ R' → St (Sh ρ S ++ L') R' w → (v ρ).oneCell' = true) (hf : ∀ ρ, Nat.ble (f + 1) (vs ρ).length = true)
  (hSh : ∀ ρ g S, S i = false → (∀ j, Bef ops j i → S j = true) → (∀ j, Bef ops i j → S j = false) → ∃ L1, (Sh ρ S).Perm (foc T0 hv xs k (vs ρ) :: L1) ∧ (Sh (Rho.set ρ i g) (upS S i)).Perm (foc T0 hv xs k ((vs ρ).take f ++ [v ρ] ++ (vs ρ).drop (f + 1)) :: L1))
  (kk : DJ P n ops Q Sh R0 al0 (i + 1) rest (⟨i, none, fun _ => undef, fun _ => [], fun _ => []⟩ :: its)) : DJ P n ops Q Sh R0 al0 i (⟨none, .store T x y, ty, pos, aft, none⟩ :: rest) its := by
 refine dj ⟨⟨i, none, fun _ => undef, fun _ => [], fun _ => []⟩, rfl, rfl, Ind.const _, Ind.const _, Ind.const _, ?_, kk⟩
 intro ρ S a L' R' w K hS hbef haft hag hdep hbase hst hK
 rw [if_pos (by simp [Region.wanted])]
 left
 unfold Oper.wp
 obtain ⟨L1, p1, p2⟩ := hSh ρ (ρ i) S hS hbef haft
 have hs' : St (foc T0 hv xs k (vs ρ) :: (L1 ++ L')) R' w := hst.perm (p1.append_right L')
 have hone := h1 ρ S R' w _ hbef ⟨hbase, hdep⟩ hst
 have hone' : ∀ u ∈ [v ρ], u.oneCell' = true := by intro u hu; cases List.mem_singleton.1 hu; exact hone
 have hfit : f + [v ρ].length ≤ (vs ρ).length := Nat.le_of_ble_eq_true (hf ρ)
 have hc := Kj hone
 subst hes
 obtain ⟨g, cap, cur, hv', hg, hfit', hst'⟩ := Rq hs' hone' hfit
 have e : (execOp a.eval ⟨none, .store T x y, ty, pos, aft, none⟩).run P w = .ok .skip (w.setRow g (cur.toList.take (k * Enc.sz α + f) ++ [v ρ] ++ cur.toList.drop (k * Enc.sz α + f + [v ρ].length)).toArray) := by
  refine Fj ?_
  rw [Cs hag (by simp [Op.operands]) (hx ρ), Cs hag (by simp [Op.operands]) (hy ρ), hv', N3, Ik]
  have := run_storeCells_at P g (k * Enc.sz α + f) T0 [v ρ] 0 cur w hg (by simpa using hfit') hone'
  simp only [Nat.add_zero, List.length_cons, List.length_nil, Nat.zero_add] at this ⊢
  simp [Instr.storeAt, Instr.sureAddr, storeVar, hsz, hc, this]
 rw [e, Oper.upon_skip]
 refine hK (ρ i) _ ?_
 exact hst'.perm (p2.symm.append_right L')
theorem Eo {α : Type} [Enc α] {t e : TypeId} {d sz bytes : Nat} {z : Value} {xs ys : List α} {v : Value} {u : Rho → Value} (he : ElemOf P t e sz z bytes) (hx : ∀ ρ, ev n (Ed its al0 ρ) x = some v) (hy : ∀ ρ, ev n (Ed its al0 ρ) y = some (u ρ)) (hsz : Enc.sz α = sz) (hpos : 0 < sz)
  (hm : ∀ ρ R', Deps ops R0 its i ρ R' → sl (u ρ) ys ∈ R') (hb : xs.length + ys.length ≤ maxN)
  (hSh : ∀ ρ (g : Value) S, S i = false → (∀ j, Bef ops j i → S j = true) → (∀ j, Bef ops i j → S j = false) → ∃ L1, (Sh ρ S).Perm (row e v xs :: L1) ∧ (Sh (Rho.set ρ i (Gh.enc g)) (upS S i)).Perm (row e g (xs ++ ys) :: L1))
  (k : DJ P n ops Q Sh R0 al0 (i + 1) rest (⟨i, some d, fun ρ => (Gh.dec (ρ i) : Value), fun _ => [], fun _ => []⟩ :: its)) :
  DJ P n ops Q Sh R0 al0 i (⟨some d, .call { callee := .builtin .append, args := #[x, y], argTypes := #[t, t] }, ty, pos, aft, none⟩ :: rest) its := by
 refine dj ⟨⟨i, some d, fun ρ => (Gh.dec (ρ i) : Value), fun _ => [], fun _ => []⟩, rfl, rfl, Ind.self (h := fun g => (Gh.dec g : Value)), Ind.const _, Ind.const _, ?_, k⟩
 intro ρ S a L' R' w K hS hbef haft hag hdep hbase hst hK
 rw [if_pos (by simp [Region.wanted])]
 left
 unfold Oper.wp
 obtain ⟨L1, p1, _⟩ := hSh ρ undef S hS hbef haft
 have hs' : St (row e v xs :: (L1 ++ L')) R' w := hst.perm (p1.append_right L')
 obtain ⟨v', w', h1, h2⟩ := Lb (ty := ty) he hsz hpos hs' (hm ρ R' ⟨hbase, hdep⟩) hb
 have hx' := Cs hag (by simp [Op.operands, Call.operands]) (hx ρ)
 have hy' := Cs hag (by simp [Op.operands, Call.operands]) (hy ρ)
 rw [Gc (w' := w') (v := v') (by rw [hx', hy']; exact h1), Oper.upon_value]
 obtain ⟨L2, q1, q2⟩ := hSh ρ v' S hS hbef haft
 have e2 : (Rho.set ρ i (Gh.enc v')) i = Gh.enc v' := by simp [Rho.set]
 have h3 := h2
 have hL : L1.Perm L2 := (List.perm_cons _).1 (p1.symm.trans q1)
 have := hK (Gh.enc v') w' ((h3.perm ((hL.append_right L').cons _)).perm (by
  refine List.Perm.trans ?_ (q2.symm.append_right L')
  exact List.Perm.refl _))
 simp only [e2, Gh.ok] at this
 exact this
end
set_option maxHeartbeats 1000000
set_option maxRecDepth 8000
class CFo (T f : Nat) (off : outParam Nat) : Prop where
 h : Ar Try.prog T f off
class CAg (T : Nat) : Prop where
 h : ∀ w, (isAgg T).run Try.prog w = .ok true w
class CNa (T : Nat) : Prop where
 h : ∀ w, (isAgg T).run Try.prog w = .ok false w
class CSz (T : Nat) (sz : outParam Nat) : Prop where
 h : ∀ w, (sizeOf T).run Try.prog w = .ok sz w
class CSo (T : Nat) (e sz : outParam Nat) : Prop where
 h : C5 Try.prog T e sz
class CUs (T : Nat) (e : outParam Nat) : Prop where
 h : Try.prog.underlying T = some (.slice e)
class CSt (T : Nat) (zc : outParam (List Value)) (pl : outParam (List (Nat × Nat))) : Prop where
 h : Db Try.prog T zc pl
instance : CNa 3 := ⟨Try.isAgg3⟩
instance : CSz 3 1 := ⟨Try.sizeOf3⟩
instance : CNa 4 := ⟨Try.isAgg4⟩
instance : CSz 4 1 := ⟨Try.sizeOf4⟩
instance : CNa 5 := ⟨Try.isAgg5⟩
instance : CNa 23 := ⟨Try.isAgg23⟩
instance : CSo 23 55 4 := ⟨Ya⟩
instance : CUs 23 55 := ⟨Try.underlying23⟩
instance : CNa 24 := ⟨Try.isAgg24⟩
instance : CSz 24 1 := ⟨Try.sizeOf24⟩
instance : CSo 24 84 10 := ⟨Qt⟩
instance : CUs 24 84 := ⟨Try.underlying24⟩
instance : CNa 25 := ⟨Try.isAgg25⟩
instance : CSz 25 1 := ⟨Try.sizeOf25⟩
instance : CSo 25 94 1 := ⟨Qs⟩
instance : CUs 25 94 := ⟨Try.underlying25⟩
instance : CFo 27 0 0 := ⟨Akg⟩
instance : CFo 27 1 1 := ⟨Akf⟩
instance : CFo 27 2 2 := ⟨Ake⟩
instance : CSt 27 (Try.t27.zero.getD undef).cells.toList [(0, 1), (1, 1), (2, 1)] := ⟨I3⟩
instance : CAg 27 := ⟨Try.isAgg27⟩
instance : CSz 27 3 := ⟨Try.sizeOf27⟩
instance : CNa 29 := ⟨Try.isAgg29⟩
instance : CSo 29 50 5 := ⟨L8⟩
instance : CUs 29 50 := ⟨Try.underlying29⟩
instance : CFo 34 0 0 := ⟨Akd⟩
instance : CFo 34 1 1 := ⟨Akc⟩
instance : CSt 34 (Try.t34.zero.getD undef).cells.toList [(0, 1), (1, 1)] := ⟨st_34⟩
instance : CAg 34 := ⟨Try.isAgg34⟩
instance : CSz 34 2 := ⟨Try.sizeOf34⟩
instance : CFo 36 0 0 := ⟨Hk⟩
instance : CFo 36 1 1 := ⟨Akb⟩
instance : CFo 36 2 2 := ⟨Aka⟩
instance : CSt 36 (Try.t36.zero.getD undef).cells.toList [(0, 1), (1, 1), (2, 1)] := ⟨X7⟩
instance : CAg 36 := ⟨Try.isAgg36⟩
instance : CSz 36 3 := ⟨Try.sizeOf36⟩
instance : CFo 38 0 0 := ⟨Ajz⟩
instance : CFo 38 1 1 := ⟨Ajy⟩
instance : CFo 38 2 2 := ⟨Ajx⟩
instance : CFo 38 3 3 := ⟨Ajw⟩
instance : CFo 38 4 4 := ⟨Ajv⟩
instance : CSt 38 (Try.t38.zero.getD undef).cells.toList [(0, 1), (1, 1), (2, 1), (3, 1), (4, 3)] := ⟨st_38⟩
instance : CAg 38 := ⟨Try.isAgg38⟩
instance : CSz 38 7 := ⟨Try.sizeOf38⟩
instance : CSo 40 38 7 := ⟨so_40⟩
instance : CUs 40 38 := ⟨Try.underlying40⟩
instance : CNa 47 := ⟨Try.isAgg47⟩
instance : CSo 47 58 1 := ⟨X9⟩
instance : CUs 47 58 := ⟨Try.underlying47⟩
instance : CFo 50 0 0 := ⟨Aju⟩
instance : CFo 50 1 1 := ⟨Ajt⟩
instance : CFo 50 2 4 := ⟨M9⟩
instance : CSt 50 (Try.t50.zero.getD undef).cells.toList [(0, 1), (1, 3), (4, 1)] := ⟨Hy⟩
instance : CAg 50 := ⟨Try.isAgg50⟩
instance : CSz 50 5 := ⟨Try.sizeOf50⟩
instance : CFo 52 0 0 := ⟨Ajs⟩
instance : CFo 52 1 1 := ⟨Ajr⟩
instance : CFo 52 2 2 := ⟨Ajq⟩
instance : CFo 52 3 3 := ⟨Ajp⟩
instance : CFo 52 4 4 := ⟨Ajo⟩
instance : CFo 52 5 5 := ⟨Ajn⟩
instance : CFo 52 6 6 := ⟨Ajm⟩
instance : CNa 53 := ⟨Try.isAgg53⟩
instance : CSo 53 52 7 := ⟨Lo⟩
instance : CUs 53 52 := ⟨Try.underlying53⟩
instance : CFo 55 0 0 := ⟨Ajl⟩
instance : CFo 55 1 1 := ⟨Ajk⟩
instance : CSt 55 (Try.t55.zero.getD undef).cells.toList [(0, 1), (1, 3)] := ⟨Nx⟩
instance : CAg 55 := ⟨Try.isAgg55⟩
instance : CSz 55 4 := ⟨Try.sizeOf55⟩
instance : CNa 57 := ⟨Try.isAgg57⟩
instance : CSz 57 1 := ⟨Try.sizeOf57⟩
instance : CSo 57 3 1 := ⟨Ahi⟩
instance : CUs 57 3 := ⟨Try.underlying57⟩
instance : CNa 58 := ⟨Try.isAgg58⟩
instance : CSz 58 1 := ⟨Try.sizeOf58⟩
instance : CSo 58 36 3 := ⟨Ahh⟩
instance : CUs 58 36 := ⟨Try.underlying58⟩
instance : CSt 73 (Try.t73.zero.getD undef).cells.toList [(0, 1), (1, 1)] := ⟨st_73⟩
instance : CFo 79 0 0 := ⟨Ajj⟩
instance : CFo 79 1 3 := ⟨Aji⟩
instance : CFo 79 2 4 := ⟨Ajh⟩
instance : CSt 79 (Try.t79.zero.getD undef).cells.toList [(0, 3), (3, 1), (4, 1)] := ⟨st_79⟩
instance : CFo 84 0 0 := ⟨Ajg⟩
instance : CFo 84 1 1 := ⟨Ajf⟩
instance : CFo 84 2 2 := ⟨Aje⟩
instance : CFo 84 3 3 := ⟨Ajd⟩
instance : CFo 84 4 4 := ⟨Ajc⟩
instance : CFo 84 5 5 := ⟨Ajb⟩
instance : CFo 84 6 6 := ⟨Aja⟩
instance : CFo 84 7 7 := ⟨M8⟩
instance : CFo 84 8 8 := ⟨Aiz⟩
instance : CFo 84 9 9 := ⟨Aiy⟩
instance : CSt 84 (Try.t84.zero.getD undef).cells.toList [(0, 1), (1, 1), (2, 1), (3, 1), (4, 1), (5, 1), (6, 1), (7, 1), (8, 1), (9, 1)] := ⟨st_84⟩
instance : CAg 84 := ⟨Try.isAgg84⟩
instance : CSz 84 10 := ⟨Try.sizeOf84⟩
instance : CNa 90 := ⟨Try.isAgg90⟩
instance : CSo 90 115 8 := ⟨so_90⟩
instance : CUs 90 115 := ⟨Try.underlying90⟩
instance : CNa 94 := ⟨Try.isAgg94⟩
instance : CUs 94 5 := ⟨Try.underlying94⟩
instance : CFo 110 0 0 := ⟨Aee⟩
instance : CFo 110 1 4 := ⟨Aed⟩
instance : CFo 110 2 5 := ⟨Aec⟩
instance : CFo 110 3 6 := ⟨Aeb⟩
instance : CFo 110 4 7 := ⟨Aea⟩
instance : CSt 110 (Try.t110.zero.getD undef).cells.toList [(0, 4), (4, 1), (5, 1), (6, 1), (7, 1)] := ⟨st_110⟩
instance : CFo 115 0 0 := ⟨Adz⟩
instance : CFo 115 1 1 := ⟨Ady⟩
instance : CFo 115 2 2 := ⟨Adx⟩
instance : CFo 115 3 3 := ⟨Adw⟩
instance : CFo 115 4 4 := ⟨Adv⟩
instance : CFo 115 5 5 := ⟨Adu⟩
instance : CFo 115 6 6 := ⟨Adt⟩
instance : CFo 115 7 7 := ⟨Ads⟩
instance : CAg 115 := ⟨Try.isAgg115⟩
instance : CSz 115 8 := ⟨Try.sizeOf115⟩
instance : CNa 137 := ⟨Try.isAgg137⟩
instance : CFo 140 0 0 := ⟨Adr⟩
instance : CFo 140 1 1 := ⟨Adq⟩
instance : CFo 140 2 2 := ⟨Adp⟩
instance : CFo 140 3 3 := ⟨Ado⟩
instance : CSt 140 (Try.t140.zero.getD undef).cells.toList [(0, 1), (1, 1), (2, 1), (3, 1)] := ⟨st_140⟩
section
variable {n : Nat} {Q : Exit → Act → World → Prop} {ops : Array Oper} {rest : List Oper} {L : List Chunk} {R : List Fact} {al al' : List (Nat × Value)} {d k : Nat} {x y z : Operand} {T ty U : TypeId} {pos : String} {aft : Array Edge} {v : Value} {l l' : List Oper}
theorem kmv (h : Au Try.prog n al L R ⟨some d, .move x, ty, pos, aft, none⟩ v) : Au Try.prog n al L R ⟨some d, .move x, ty, pos, aft, none⟩ v := h
theorem kas (h : Au Try.prog n al L R ⟨some d, .assign x, ty, pos, aft, none⟩ v) : Au Try.prog n al L R ⟨some d, .assign x, ty, pos, aft, none⟩ v := h
theorem kfa {i : Nat} (h : Au Try.prog n al L R ⟨some d, .fieldAddr T x i, ty, pos, aft, none⟩ v) : Au Try.prog n al L R ⟨some d, .fieldAddr T x i, ty, pos, aft, none⟩ v := h
theorem kld (h : Au Try.prog n al L R ⟨some d, .load T x, ty, pos, aft, none⟩ v) : Au Try.prog n al L R ⟨some d, .load T x, ty, pos, aft, none⟩ v := h
theorem knc (h : Au Try.prog n al L R ⟨some d, .nilCheck x, ty, pos, aft, none⟩ v) : Au Try.prog n al L R ⟨some d, .nilCheck x, ty, pos, aft, none⟩ v := h
theorem kpk (h : Au Try.prog n al L R ⟨some d, .pick x y z, ty, pos, aft, none⟩ v) : Au Try.prog n al L R ⟨some d, .pick x y z, ty, pos, aft, none⟩ v := h
theorem kix (h : Au Try.prog n al L R ⟨some d, .indexAddr T x y, ty, pos, aft, none⟩ v) : Au Try.prog n al L R ⟨some d, .indexAddr T x y, ty, pos, aft, none⟩ v := h
theorem kxt {i : Nat} (h : Au Try.prog n al L R ⟨some d, .extract x i, ty, pos, aft, none⟩ v) : Au Try.prog n al L R ⟨some d, .extract x i, ty, pos, aft, none⟩ v := h
theorem kun (h : Au Try.prog n al L R ⟨some d, .unOp .not T x, ty, pos, aft, none⟩ v) : Au Try.prog n al L R ⟨some d, .unOp .not T x, ty, pos, aft, none⟩ v := h
theorem kle (h : Au Try.prog n al L R ⟨some d, .call { callee := .builtin .len, args := #[x], argTypes := #[T] }, ty, pos, aft, none⟩ v) : Au Try.prog n al L R ⟨some d, .call { callee := .builtin .len, args := #[x], argTypes := #[T] }, ty, pos, aft, none⟩ v := h
theorem kbd {ps : Array (Nat × Operand)} (h : Au Try.prog n al L R ⟨some d, .build T ps, ty, pos, aft, none⟩ v) : Au Try.prog n al L R ⟨some d, .build T ps, ty, pos, aft, none⟩ v := h
theorem kbe (h : Au Try.prog n al L R ⟨some d, .binOp .eql T x y U, ty, pos, aft, none⟩ v) : Au Try.prog n al L R ⟨some d, .binOp .eql T x y U, ty, pos, aft, none⟩ v := h
theorem kbn (h : Au Try.prog n al L R ⟨some d, .binOp .neq T x y U, ty, pos, aft, none⟩ v) : Au Try.prog n al L R ⟨some d, .binOp .neq T x y U, ty, pos, aft, none⟩ v := h
theorem kbl (h : Au Try.prog n al L R ⟨some d, .binOp .lss T x y U, ty, pos, aft, none⟩ v) : Au Try.prog n al L R ⟨some d, .binOp .lss T x y U, ty, pos, aft, none⟩ v := h
theorem kbg (h : Au Try.prog n al L R ⟨some d, .binOp .gtr T x y U, ty, pos, aft, none⟩ v) : Au Try.prog n al L R ⟨some d, .binOp .gtr T x y U, ty, pos, aft, none⟩ v := h
theorem kbh (h : Au Try.prog n al L R ⟨some d, .binOp .geq T x y U, ty, pos, aft, none⟩ v) : Au Try.prog n al L R ⟨some d, .binOp .geq T x y U, ty, pos, aft, none⟩ v := h
theorem kba (h : Au Try.prog n al L R ⟨some d, .binOp .add T x y U, ty, pos, aft, none⟩ v) : Au Try.prog n al L R ⟨some d, .binOp .add T x y U, ty, pos, aft, none⟩ v := h
theorem kbu (h : Au Try.prog n al L R ⟨some d, .binOp .mul T x y U, ty, pos, aft, none⟩ v) : Au Try.prog n al L R ⟨some d, .binOp .mul T x y U, ty, pos, aft, none⟩ v := h
structure Run (n : Nat) (ops : Array Oper) (Q : Exit → Act → World → Prop) (L : List Chunk) (R : List Fact) (k : Nat) (l : List Oper) (al : List (Nat × Value)) (l' : List Oper) (al' : List (Nat × Value)) : Prop where
 go : J Try.prog n ops Q l' L R al' → J Try.prog n ops Q l L R al
theorem R0 : Run n ops Q L R 0 l al l al := ⟨fun h => h⟩
theorem Rc {op : Oper} (hp : Au Try.prog n al L R op v) (hd : op.dst = some d) (h : Run n ops Q L R k rest ((d, v) :: al) l' al') : Run n ops Q L R (k + 1) (op :: rest) al l' al' := ⟨fun kk => ob hp (h.go kk) hd⟩
theorem Rgy {dst : Option Tmp} {op : Go.Op} {i : Nat} {b : Bool} {m : List Oper} (hv : gv n al m i = some b) (h : Run n m.toArray Q L R (k + 1) (⟨dst, op, ty, pos, aft, none⟩ :: rest) al l' al') : Run n m.toArray Q L R (k + 1) (⟨dst, op, ty, pos, aft, some (i, b)⟩ :: rest) al l' al' := ⟨fun kk => J.guardYes hv (h.go kk)⟩
theorem Rgn {op : Go.Op} {i : Nat} {b : Bool} {m : List Oper} (hv : gv n al m i = some (!b)) (h : Run n m.toArray Q L R k rest ((d, undef) :: al) l' al') : Run n m.toArray Q L R (k + 1) (⟨some d, op, ty, pos, aft, some (i, b)⟩ :: rest) al l' al' := ⟨fun kk => J.guardNo hv (h.go kk)⟩
theorem RgU {op : Go.Op} {i : Nat} {b : Bool} {m : List Oper} (hv : gu n al m i = true) (h : Run n m.toArray Q L R k rest ((d, undef) :: al) l' al') : Run n m.toArray Q L R (k + 1) (⟨some d, op, ty, pos, aft, some (i, b)⟩ :: rest) al l' al' := ⟨fun kk => J.guardUndef hv (h.go kk)⟩
theorem mr (h : Run n ops Q L R k l al l' al' := by repeat (first | exact R0 | (apply Rc; (focus (first | (apply kmv; exact Ug) | (apply kas; exact Di) | (apply kfa; first | exact Xw CFo.h | exact Xv CFo.h) | (apply kld; first | exact D8 CNa.h | exact Age CAg.h CSz.h | exact Fr _ CAg.h CSz.h | exact Ace _ CAg.h CSz.h | exact q_lNf _ CAg.h CSz.h) | (apply knc; first | exact q_nb | exact q_ne) | (apply kpk; first | exact Fx | exact Ahx) | (apply kix; first | exact Gb CSo.h | exact Ks CSo.h) | (apply kxt; exact q_x) | (apply kun; first | exact q_notD | exact Wl) | (apply kle; exact Qy CUs.h) | (apply kbd; first | exact Fg CSt.h | exact Fs CSt.h) | (apply kbe; exact Fz Xq) | (apply kbn; exact Fz Xo) | (apply kbl; exact Fz P4) | (apply kbm; exact Fz Xp) | (apply kbg; exact Fz Tm) | (apply kbh; exact Fz Tn) | (apply kba; first | exact Uh | exact Sr) | (apply kbs; exact q_sub) | (apply kbu; exact Acd))); (focus exact rfl)) | (apply Rgy; (focus exact rfl)) | (apply Rgn; (focus exact rfl)) | (apply RgU; (focus exact rfl)))) : Run n ops Q L R k l al l' al' := h
theorem rn1 (kk : J Try.prog n ops Q l' L R al') (h : Run n ops Q L R 1 l al l' al' := by exact mr) : J Try.prog n ops Q l L R al := h.go kk
theorem rn2 (kk : J Try.prog n ops Q l' L R al') (h : Run n ops Q L R 2 l al l' al' := by exact mr) : J Try.prog n ops Q l L R al := h.go kk
theorem rn3 (kk : J Try.prog n ops Q l' L R al') (h : Run n ops Q L R 3 l al l' al' := by exact mr) : J Try.prog n ops Q l L R al := h.go kk
theorem rn4 (kk : J Try.prog n ops Q l' L R al') (h : Run n ops Q L R 4 l al l' al' := by exact mr) : J Try.prog n ops Q l L R al := h.go kk
theorem rn5 (kk : J Try.prog n ops Q l' L R al') (h : Run n ops Q L R 5 l al l' al' := by exact mr) : J Try.prog n ops Q l L R al := h.go kk
theorem rn6 (kk : J Try.prog n ops Q l' L R al') (h : Run n ops Q L R 6 l al l' al' := by exact mr) : J Try.prog n ops Q l L R al := h.go kk
theorem rn7 (kk : J Try.prog n ops Q l' L R al') (h : Run n ops Q L R 7 l al l' al' := by exact mr) : J Try.prog n ops Q l L R al := h.go kk
theorem rn8 (kk : J Try.prog n ops Q l' L R al') (h : Run n ops Q L R 8 l al l' al' := by exact mr) : J Try.prog n ops Q l L R al := h.go kk
theorem rn9 (kk : J Try.prog n ops Q l' L R al') (h : Run n ops Q L R 9 l al l' al' := by exact mr) : J Try.prog n ops Q l L R al := h.go kk
theorem rn10 (kk : J Try.prog n ops Q l' L R al') (h : Run n ops Q L R 10 l al l' al' := by exact mr) : J Try.prog n ops Q l L R al := h.go kk
theorem rn12 (kk : J Try.prog n ops Q l' L R al') (h : Run n ops Q L R 12 l al l' al' := by exact mr) : J Try.prog n ops Q l L R al := h.go kk
theorem rn32 (kk : J Try.prog n ops Q l' L R al') (h : Run n ops Q L R 32 l al l' al' := by exact mr) : J Try.prog n ops Q l L R al := h.go kk
variable {Sh : Rho → (Nat → Bool) → List Chunk} {R0' : List Fact} {al0 : List (Nat × Value)} {its its' : List Item} {i i' : Nat}
structure DRun (n : Nat) (ops : Array Oper) (Q : Exit → Act → World → Prop) (Sh : Rho → (Nat → Bool) → List Chunk) (R0 : List Fact) (al0 : List (Nat × Value)) (k i : Nat) (l : List Oper) (its : List Item) (i' : Nat) (l' : List Oper) (its' : List Item) : Prop where
 go : DJ Try.prog n ops Q Sh R0 al0 i' l' its' → DJ Try.prog n ops Q Sh R0 al0 i l its
theorem D0 : DRun n ops Q Sh R0' al0 0 i l its i l its := ⟨fun h => h⟩
theorem Dc {op : Oper} (hp : ∀ ρ S, Au Try.prog n (Ed its al0 ρ) (Sh ρ S) R0' op v) (hSh : Km ops Sh i) (hd : op.dst = some d) (h : DRun n ops Q Sh R0' al0 k (i + 1) rest (⟨i, some d, fun _ => v, fun _ => [], fun _ => []⟩ :: its) i' l' its') : DRun n ops Q Sh R0' al0 (k + 1) i (op :: rest) its i' l' its' := ⟨fun kk => K7 hp hSh (h.go kk) hd⟩
theorem Dp {op : Oper} {v : Rho → Value} (hp : ∀ ρ S, Au Try.prog n (Ed its al0 ρ) (Sh ρ S) R0' op (v ρ)) (hi : Ind ops i v) (hSh : Km ops Sh i) (hd : op.dst = some d) (h : DRun n ops Q Sh R0' al0 k (i + 1) rest (⟨i, some d, v, fun _ => [], fun _ => []⟩ :: its) i' l' its') : DRun n ops Q Sh R0' al0 (k + 1) i (op :: rest) its i' l' its' := ⟨fun kk => e_p hp hi hSh (h.go kk) hd⟩
theorem Dgc {op : Go.Op} {q : Nat} {b : Bool} {m : List Oper} (hv : ∀ ρ, gv n (Ed its al0 ρ) m q = some b) (hp : ∀ ρ S, Au Try.prog n (Ed its al0 ρ) (Sh ρ S) R0' ⟨some d, op, ty, pos, aft, none⟩ v) (hSh : ∀ ρ g S, S i = false → Sh (Rho.set ρ i g) (upS S i) = Sh ρ S) (h : DRun n m.toArray Q Sh R0' al0 k (i + 1) rest (⟨i, some d, fun _ => v, fun _ => [], fun _ => []⟩ :: its) i' l' its') : DRun n m.toArray Q Sh R0' al0 (k + 1) i (⟨some d, op, ty, pos, aft, some (q, b)⟩ :: rest) its i' l' its' := ⟨fun kk => dj (dgy (dc hp (h.go kk) rfl hSh) hv)⟩
theorem Dgn {op : Go.Op} {q : Nat} {b : Bool} {m : List Oper} (hv : ∀ ρ, gv n (Ed its al0 ρ) m q = some (!b)) (hSh : ∀ ρ g S, S i = false → Sh (Rho.set ρ i g) (upS S i) = Sh ρ S) (h : DRun n m.toArray Q Sh R0' al0 k (i + 1) rest (⟨i, some d, fun _ => undef, fun _ => [], fun _ => []⟩ :: its) i' l' its') : DRun n m.toArray Q Sh R0' al0 (k + 1) i (⟨some d, op, ty, pos, aft, some (q, b)⟩ :: rest) its i' l' its' := ⟨fun kk => dj (dgn (h.go kk) hv hSh)⟩
theorem Dgu {op : Go.Op} {q : Nat} {b : Bool} {m : List Oper} (hv : ∀ ρ, gu n (Ed its al0 ρ) m q = true) (hSh : ∀ ρ g S, S i = false → Sh (Rho.set ρ i g) (upS S i) = Sh ρ S) (h : DRun n m.toArray Q Sh R0' al0 k (i + 1) rest (⟨i, some d, fun _ => undef, fun _ => [], fun _ => []⟩ :: its) i' l' its') : DRun n m.toArray Q Sh R0' al0 (k + 1) i (⟨some d, op, ty, pos, aft, some (q, b)⟩ :: rest) its i' l' its' := ⟨fun kk => dj (dgu (h.go kk) hv hSh)⟩
theorem mdr (h : DRun n ops Q Sh R0' al0 k i l its i' l' its' := by repeat (first | exact D0 | (apply Dc; (focus (intro _ _; first | (apply kmv; exact Ug) | (apply kas; exact Di) | (apply kfa; first | exact Xw CFo.h | exact Xv CFo.h) | (apply kld; first | exact D8 CNa.h | exact Age CAg.h CSz.h | exact Fr _ CAg.h CSz.h | exact Ace _ CAg.h CSz.h | exact q_lNf _ CAg.h CSz.h) | (apply knc; first | exact q_nb | exact q_ne) | (apply kpk; first | exact Fx | exact Ahx) | (apply kix; first | exact Gb CSo.h | exact Ks CSo.h) | (apply kxt; exact q_x) | (apply kun; first | exact q_notD | exact Wl) | (apply kle; exact Qy CUs.h) | (apply kbd; first | exact Fg CSt.h | exact Fs CSt.h) | (apply kbe; exact Fz Xq) | (apply kbn; exact Fz Xo) | (apply kbl; exact Fz P4) | (apply kbm; exact Fz Xp) | (apply kbg; exact Fz Tm) | (apply kbh; exact Fz Tn) | (apply kba; first | exact Uh | exact Sr) | (apply kbs; exact q_sub) | (apply kbu; exact Acd))); (focus exact (fun _ _ _ _ _ => rfl)); (focus exact rfl)) | (apply Dgc; (focus exact (fun _ => rfl)); (focus (intro _ _; first | (apply kmv; exact Ug) | (apply kas; exact Di) | (apply kfa; first | exact Xw CFo.h | exact Xv CFo.h) | (apply kld; first | exact D8 CNa.h | exact Age CAg.h CSz.h | exact Fr _ CAg.h CSz.h | exact Ace _ CAg.h CSz.h | exact q_lNf _ CAg.h CSz.h) | (apply knc; first | exact q_nb | exact q_ne) | (apply kpk; first | exact Fx | exact Ahx) | (apply kix; first | exact Gb CSo.h | exact Ks CSo.h) | (apply kxt; exact q_x) | (apply kun; first | exact q_notD | exact Wl) | (apply kle; exact Qy CUs.h) | (apply kbd; first | exact Fg CSt.h | exact Fs CSt.h) | (apply kbe; exact Fz Xq) | (apply kbn; exact Fz Xo) | (apply kbl; exact Fz P4) | (apply kbm; exact Fz Xp) | (apply kbg; exact Fz Tm) | (apply kbh; exact Fz Tn) | (apply kba; first | exact Uh | exact Sr) | (apply kbs; exact q_sub) | (apply kbu; exact Acd))); (focus exact (fun _ _ _ _ => rfl))) | (apply Dgn; (focus exact (fun _ => rfl)); (focus exact (fun _ _ _ _ => rfl))) | (apply Dgu; (focus exact (fun _ => rfl)); (focus exact (fun _ _ _ _ => rfl))) | (apply Dp; (focus (intro _ _; first | (apply kmv; exact Ug) | (apply kas; exact Di) | (apply kfa; first | exact Xw CFo.h | exact Xv CFo.h) | (apply kld; first | exact D8 CNa.h | exact Age CAg.h CSz.h | exact Fr _ CAg.h CSz.h | exact Ace _ CAg.h CSz.h | exact q_lNf _ CAg.h CSz.h) | (apply knc; first | exact q_nb | exact q_ne) | (apply kpk; first | exact Fx | exact Ahx) | (apply kix; first | exact Gb CSo.h | exact Ks CSo.h) | (apply kxt; exact q_x) | (apply kun; first | exact q_notD | exact Wl) | (apply kle; exact Qy CUs.h) | (apply kbd; first | exact Fg CSt.h | exact Fs CSt.h) | (apply kbe; exact Fz Xq) | (apply kbn; exact Fz Xo) | (apply kbl; exact Fz P4) | (apply kbm; exact Fz Xp) | (apply kbg; exact Fz Tm) | (apply kbh; exact Fz Tn) | (apply kba; first | exact Uh | exact Sr) | (apply kbs; exact q_sub) | (apply kbu; exact Acd))); (focus exact (fun _ _ _ _ _ => rfl)); (focus exact (fun _ _ _ _ _ => rfl)); (focus exact rfl)))) : DRun n ops Q Sh R0' al0 k i l its i' l' its' := h
theorem dn1 (kk : DJ Try.prog n ops Q Sh R0' al0 i' l' its') (h : DRun n ops Q Sh R0' al0 1 i l its i' l' its' := by exact mdr) : DJ Try.prog n ops Q Sh R0' al0 i l its := h.go kk
theorem dn2 (kk : DJ Try.prog n ops Q Sh R0' al0 i' l' its') (h : DRun n ops Q Sh R0' al0 2 i l its i' l' its' := by exact mdr) : DJ Try.prog n ops Q Sh R0' al0 i l its := h.go kk
theorem dn3 (kk : DJ Try.prog n ops Q Sh R0' al0 i' l' its') (h : DRun n ops Q Sh R0' al0 3 i l its i' l' its' := by exact mdr) : DJ Try.prog n ops Q Sh R0' al0 i l its := h.go kk
theorem dn4 (kk : DJ Try.prog n ops Q Sh R0' al0 i' l' its') (h : DRun n ops Q Sh R0' al0 4 i l its i' l' its' := by exact mdr) : DJ Try.prog n ops Q Sh R0' al0 i l its := h.go kk
theorem dn5 (kk : DJ Try.prog n ops Q Sh R0' al0 i' l' its') (h : DRun n ops Q Sh R0' al0 5 i l its i' l' its' := by exact mdr) : DJ Try.prog n ops Q Sh R0' al0 i l its := h.go kk
theorem dn6 (kk : DJ Try.prog n ops Q Sh R0' al0 i' l' its') (h : DRun n ops Q Sh R0' al0 6 i l its i' l' its' := by exact mdr) : DJ Try.prog n ops Q Sh R0' al0 i l its := h.go kk
theorem dn7 (kk : DJ Try.prog n ops Q Sh R0' al0 i' l' its') (h : DRun n ops Q Sh R0' al0 7 i l its i' l' its' := by exact mdr) : DJ Try.prog n ops Q Sh R0' al0 i l its := h.go kk
theorem dn8 (kk : DJ Try.prog n ops Q Sh R0' al0 i' l' its') (h : DRun n ops Q Sh R0' al0 8 i l its i' l' its' := by exact mdr) : DJ Try.prog n ops Q Sh R0' al0 i l its := h.go kk
theorem dn9 (kk : DJ Try.prog n ops Q Sh R0' al0 i' l' its') (h : DRun n ops Q Sh R0' al0 9 i l its i' l' its' := by exact mdr) : DJ Try.prog n ops Q Sh R0' al0 i l its := h.go kk
theorem dn10 (kk : DJ Try.prog n ops Q Sh R0' al0 i' l' its') (h : DRun n ops Q Sh R0' al0 10 i l its i' l' its' := by exact mdr) : DJ Try.prog n ops Q Sh R0' al0 i l its := h.go kk
theorem dn11 (kk : DJ Try.prog n ops Q Sh R0' al0 i' l' its') (h : DRun n ops Q Sh R0' al0 11 i l its i' l' its' := by exact mdr) : DJ Try.prog n ops Q Sh R0' al0 i l its := h.go kk
theorem dn12 (kk : DJ Try.prog n ops Q Sh R0' al0 i' l' its') (h : DRun n ops Q Sh R0' al0 12 i l its i' l' its' := by exact mdr) : DJ Try.prog n ops Q Sh R0' al0 i l its := h.go kk
theorem dn13 (kk : DJ Try.prog n ops Q Sh R0' al0 i' l' its') (h : DRun n ops Q Sh R0' al0 13 i l its i' l' its' := by exact mdr) : DJ Try.prog n ops Q Sh R0' al0 i l its := h.go kk
theorem dn14 (kk : DJ Try.prog n ops Q Sh R0' al0 i' l' its') (h : DRun n ops Q Sh R0' al0 14 i l its i' l' its' := by exact mdr) : DJ Try.prog n ops Q Sh R0' al0 i l its := h.go kk
theorem dn16 (kk : DJ Try.prog n ops Q Sh R0' al0 i' l' its') (h : DRun n ops Q Sh R0' al0 16 i l its i' l' its' := by exact mdr) : DJ Try.prog n ops Q Sh R0' al0 i l its := h.go kk
theorem dn18 (kk : DJ Try.prog n ops Q Sh R0' al0 i' l' its') (h : DRun n ops Q Sh R0' al0 18 i l its i' l' its' := by exact mdr) : DJ Try.prog n ops Q Sh R0' al0 i l its := h.go kk
theorem dn27 (kk : DJ Try.prog n ops Q Sh R0' al0 i' l' its') (h : DRun n ops Q Sh R0' al0 27 i l its i' l' its' := by exact mdr) : DJ Try.prog n ops Q Sh R0' al0 i l its := h.go kk
theorem dn29 (kk : DJ Try.prog n ops Q Sh R0' al0 i' l' its') (h : DRun n ops Q Sh R0' al0 29 i l its i' l' its' := by exact mdr) : DJ Try.prog n ops Q Sh R0' al0 i l its := h.go kk
end
structure Hold (p : Prop) : Prop where
 h : p
theorem sc {p q : Prop} (k : p) (h : Hold p → q := by intro h; (first | refine s_b CSz.h ?_ | refine s_f CSz.h ?_); intro cs hcs; simp only [Nat.zero_add, Nat.add_zero, Nat.reduceAdd, List.set_cons_zero, List.set_cons_succ, Config.cells, Msg.cells, Line.cells, Op.cells, Done.cells, Step.cells, Core.cells, Entry.cells, Chip.cells, El0.cs, El1.cs] at hcs; subst hcs; exact h.h) : q := h ⟨k⟩
theorem bm {n : Nat} {Q : Exit → Act → World → Prop} {id id' : Nat} {L : List Chunk} {R : List Fact} {al : List (Nat × Value)} (h : JX n Q (.exit id') L R al) (hne : Nat.beq id' id = false := by with_unfolding_all exact rfl) : JX n (Exit.inBlock id Q) (.exit id') L R al := H4 hne h
theorem Gl {p q : Prop} (k : p) (h : Hold p → q := by intro h; (repeat (with_reducible first | refine J.nil ?_ | refine Bc ?_ | refine Dh ?_ | refine Gk ?_ | refine Lk ?_ | refine Ey ?_ | refine D9 ?_ | refine Hg ?_ | refine H5 ?_ | refine Kz ?_ | refine Fh ?_ | refine Fi ?_ | refine bm ?_)); exact h.h) : q := h ⟨k⟩
theorem Glc {p q : Prop} (k : p) (h : Hold p → q := by intro h; (repeat (first | (with_reducible first | refine J.nil ?_ | refine Bc ?_ | refine Dh ?_ | refine Gk ?_ | refine Lk ?_ | refine Ey ?_ | refine D9 ?_ | refine Hg ?_ | refine H5 ?_ | refine Kz ?_ | refine Fh ?_ | refine Fi ?_ | refine bm ?_) | refine cF_ ?_ | refine cT ?_)); exact h.h) : q := h ⟨k⟩
theorem Gmc {p q : Prop} (k : p) (h : Hold p → q := by intro h; (repeat (first | (with_reducible first | refine J.nil ?_ | refine Bc ?_ | refine Dh ?_ | refine Gk ?_ | refine Lk ?_ | refine Ey ?_ | refine D9 ?_ | refine Hg ?_ | refine H5 ?_ | refine Kz ?_ | refine Fh ?_ | refine Fi ?_ | refine bm ?_) | refine cF_ ?_ | refine cT ?_)); refine Aa ?_; exact h.h) : q := h ⟨k⟩
theorem Gm {p q : Prop} (k : p) (h : Hold p → q := by intro h; (repeat (with_reducible first | refine J.nil ?_ | refine Bc ?_ | refine Dh ?_ | refine Gk ?_ | refine Lk ?_ | refine Ey ?_ | refine D9 ?_ | refine Hg ?_ | refine H5 ?_ | refine Kz ?_ | refine Fh ?_ | refine Fi ?_ | refine bm ?_)); refine Aa ?_; exact h.h) : q := h ⟨k⟩
section
variable {n : Nat} {Q : Exit → Act → World → Prop} {ops : Array Oper} {rest : List Oper} {L : List Chunk} {R : List Fact} {al al' : List (Nat × Value)} {d k : Nat} {x y z : Operand} {T ty U : TypeId} {pos : String} {aft : Array Edge} {v : Value} {l l' : List Oper}
variable {p : Prop}
theorem Ga1 (kk : p) (h : Run n ops Q L R 1 l al l' al' := by exact mr) (hg : Hold p → J Try.prog n ops Q l' L R al' := by intro h; exact Gl h.h) : J Try.prog n ops Q l L R al := h.go (hg ⟨kk⟩)
theorem Ga2 (kk : p) (h : Run n ops Q L R 2 l al l' al' := by exact mr) (hg : Hold p → J Try.prog n ops Q l' L R al' := by intro h; exact Gl h.h) : J Try.prog n ops Q l L R al := h.go (hg ⟨kk⟩)
theorem Ga3 (kk : p) (h : Run n ops Q L R 3 l al l' al' := by exact mr) (hg : Hold p → J Try.prog n ops Q l' L R al' := by intro h; exact Gl h.h) : J Try.prog n ops Q l L R al := h.go (hg ⟨kk⟩)
theorem Ga4 (kk : p) (h : Run n ops Q L R 4 l al l' al' := by exact mr) (hg : Hold p → J Try.prog n ops Q l' L R al' := by intro h; exact Gl h.h) : J Try.prog n ops Q l L R al := h.go (hg ⟨kk⟩)
theorem Ga5 (kk : p) (h : Run n ops Q L R 5 l al l' al' := by exact mr) (hg : Hold p → J Try.prog n ops Q l' L R al' := by intro h; exact Gl h.h) : J Try.prog n ops Q l L R al := h.go (hg ⟨kk⟩)
theorem Ga6 (kk : p) (h : Run n ops Q L R 6 l al l' al' := by exact mr) (hg : Hold p → J Try.prog n ops Q l' L R al' := by intro h; exact Gl h.h) : J Try.prog n ops Q l L R al := h.go (hg ⟨kk⟩)
theorem Ga7 (kk : p) (h : Run n ops Q L R 7 l al l' al' := by exact mr) (hg : Hold p → J Try.prog n ops Q l' L R al' := by intro h; exact Gl h.h) : J Try.prog n ops Q l L R al := h.go (hg ⟨kk⟩)
theorem Ga8 (kk : p) (h : Run n ops Q L R 8 l al l' al' := by exact mr) (hg : Hold p → J Try.prog n ops Q l' L R al' := by intro h; exact Gl h.h) : J Try.prog n ops Q l L R al := h.go (hg ⟨kk⟩)
theorem Ga9 (kk : p) (h : Run n ops Q L R 9 l al l' al' := by exact mr) (hg : Hold p → J Try.prog n ops Q l' L R al' := by intro h; exact Gl h.h) : J Try.prog n ops Q l L R al := h.go (hg ⟨kk⟩)
theorem Ga10 (kk : p) (h : Run n ops Q L R 10 l al l' al' := by exact mr) (hg : Hold p → J Try.prog n ops Q l' L R al' := by intro h; exact Gl h.h) : J Try.prog n ops Q l L R al := h.go (hg ⟨kk⟩)
theorem Ga11 (kk : p) (h : Run n ops Q L R 11 l al l' al' := by exact mr) (hg : Hold p → J Try.prog n ops Q l' L R al' := by intro h; exact Gl h.h) : J Try.prog n ops Q l L R al := h.go (hg ⟨kk⟩)
theorem Ga12 (kk : p) (h : Run n ops Q L R 12 l al l' al' := by exact mr) (hg : Hold p → J Try.prog n ops Q l' L R al' := by intro h; exact Gl h.h) : J Try.prog n ops Q l L R al := h.go (hg ⟨kk⟩)
theorem Ga13 (kk : p) (h : Run n ops Q L R 13 l al l' al' := by exact mr) (hg : Hold p → J Try.prog n ops Q l' L R al' := by intro h; exact Gl h.h) : J Try.prog n ops Q l L R al := h.go (hg ⟨kk⟩)
theorem Ga15 (kk : p) (h : Run n ops Q L R 15 l al l' al' := by exact mr) (hg : Hold p → J Try.prog n ops Q l' L R al' := by intro h; exact Gl h.h) : J Try.prog n ops Q l L R al := h.go (hg ⟨kk⟩)
theorem Ga16 (kk : p) (h : Run n ops Q L R 16 l al l' al' := by exact mr) (hg : Hold p → J Try.prog n ops Q l' L R al' := by intro h; exact Gl h.h) : J Try.prog n ops Q l L R al := h.go (hg ⟨kk⟩)
theorem Ga17 (kk : p) (h : Run n ops Q L R 17 l al l' al' := by exact mr) (hg : Hold p → J Try.prog n ops Q l' L R al' := by intro h; exact Gl h.h) : J Try.prog n ops Q l L R al := h.go (hg ⟨kk⟩)
theorem Ga18 (kk : p) (h : Run n ops Q L R 18 l al l' al' := by exact mr) (hg : Hold p → J Try.prog n ops Q l' L R al' := by intro h; exact Gl h.h) : J Try.prog n ops Q l L R al := h.go (hg ⟨kk⟩)
theorem Ga20 (kk : p) (h : Run n ops Q L R 20 l al l' al' := by exact mr) (hg : Hold p → J Try.prog n ops Q l' L R al' := by intro h; exact Gl h.h) : J Try.prog n ops Q l L R al := h.go (hg ⟨kk⟩)
theorem Ga22 (kk : p) (h : Run n ops Q L R 22 l al l' al' := by exact mr) (hg : Hold p → J Try.prog n ops Q l' L R al' := by intro h; exact Gl h.h) : J Try.prog n ops Q l L R al := h.go (hg ⟨kk⟩)
theorem Ga27 (kk : p) (h : Run n ops Q L R 27 l al l' al' := by exact mr) (hg : Hold p → J Try.prog n ops Q l' L R al' := by intro h; exact Gl h.h) : J Try.prog n ops Q l L R al := h.go (hg ⟨kk⟩)
theorem Ga32 (kk : p) (h : Run n ops Q L R 32 l al l' al' := by exact mr) (hg : Hold p → J Try.prog n ops Q l' L R al' := by intro h; exact Gl h.h) : J Try.prog n ops Q l L R al := h.go (hg ⟨kk⟩)
theorem Gb1 (kk : p) (h : Run n ops Q L R 1 l al l' al' := by exact mr) (hg : Hold p → J Try.prog n ops Q l' L R al' := by intro h; exact Gm h.h) : J Try.prog n ops Q l L R al := h.go (hg ⟨kk⟩)
theorem Gb2 (kk : p) (h : Run n ops Q L R 2 l al l' al' := by exact mr) (hg : Hold p → J Try.prog n ops Q l' L R al' := by intro h; exact Gm h.h) : J Try.prog n ops Q l L R al := h.go (hg ⟨kk⟩)
theorem Gb3 (kk : p) (h : Run n ops Q L R 3 l al l' al' := by exact mr) (hg : Hold p → J Try.prog n ops Q l' L R al' := by intro h; exact Gm h.h) : J Try.prog n ops Q l L R al := h.go (hg ⟨kk⟩)
theorem Gb5 (kk : p) (h : Run n ops Q L R 5 l al l' al' := by exact mr) (hg : Hold p → J Try.prog n ops Q l' L R al' := by intro h; exact Gm h.h) : J Try.prog n ops Q l L R al := h.go (hg ⟨kk⟩)
theorem Gb6 (kk : p) (h : Run n ops Q L R 6 l al l' al' := by exact mr) (hg : Hold p → J Try.prog n ops Q l' L R al' := by intro h; exact Gm h.h) : J Try.prog n ops Q l L R al := h.go (hg ⟨kk⟩)
theorem Gb7 (kk : p) (h : Run n ops Q L R 7 l al l' al' := by exact mr) (hg : Hold p → J Try.prog n ops Q l' L R al' := by intro h; exact Gm h.h) : J Try.prog n ops Q l L R al := h.go (hg ⟨kk⟩)
theorem Gc1 (kk : p) (h : Run n ops Q L R 1 l al l' al' := by exact mr) (hg : Hold p → J Try.prog n ops Q l' L R al' := by intro h; exact Glc h.h) : J Try.prog n ops Q l L R al := h.go (hg ⟨kk⟩)
theorem Gc2 (kk : p) (h : Run n ops Q L R 2 l al l' al' := by exact mr) (hg : Hold p → J Try.prog n ops Q l' L R al' := by intro h; exact Glc h.h) : J Try.prog n ops Q l L R al := h.go (hg ⟨kk⟩)
theorem Gc5 (kk : p) (h : Run n ops Q L R 5 l al l' al' := by exact mr) (hg : Hold p → J Try.prog n ops Q l' L R al' := by intro h; exact Glc h.h) : J Try.prog n ops Q l L R al := h.go (hg ⟨kk⟩)
theorem Gc6 (kk : p) (h : Run n ops Q L R 6 l al l' al' := by exact mr) (hg : Hold p → J Try.prog n ops Q l' L R al' := by intro h; exact Glc h.h) : J Try.prog n ops Q l L R al := h.go (hg ⟨kk⟩)
theorem Gc7 (kk : p) (h : Run n ops Q L R 7 l al l' al' := by exact mr) (hg : Hold p → J Try.prog n ops Q l' L R al' := by intro h; exact Glc h.h) : J Try.prog n ops Q l L R al := h.go (hg ⟨kk⟩)
theorem Gc8 (kk : p) (h : Run n ops Q L R 8 l al l' al' := by exact mr) (hg : Hold p → J Try.prog n ops Q l' L R al' := by intro h; exact Glc h.h) : J Try.prog n ops Q l L R al := h.go (hg ⟨kk⟩)
theorem Gc10 (kk : p) (h : Run n ops Q L R 10 l al l' al' := by exact mr) (hg : Hold p → J Try.prog n ops Q l' L R al' := by intro h; exact Glc h.h) : J Try.prog n ops Q l L R al := h.go (hg ⟨kk⟩)
theorem Gc11 (kk : p) (h : Run n ops Q L R 11 l al l' al' := by exact mr) (hg : Hold p → J Try.prog n ops Q l' L R al' := by intro h; exact Glc h.h) : J Try.prog n ops Q l L R al := h.go (hg ⟨kk⟩)
theorem Gc12 (kk : p) (h : Run n ops Q L R 12 l al l' al' := by exact mr) (hg : Hold p → J Try.prog n ops Q l' L R al' := by intro h; exact Glc h.h) : J Try.prog n ops Q l L R al := h.go (hg ⟨kk⟩)
theorem Gc15 (kk : p) (h : Run n ops Q L R 15 l al l' al' := by exact mr) (hg : Hold p → J Try.prog n ops Q l' L R al' := by intro h; exact Glc h.h) : J Try.prog n ops Q l L R al := h.go (hg ⟨kk⟩)
theorem Gc17 (kk : p) (h : Run n ops Q L R 17 l al l' al' := by exact mr) (hg : Hold p → J Try.prog n ops Q l' L R al' := by intro h; exact Glc h.h) : J Try.prog n ops Q l L R al := h.go (hg ⟨kk⟩)
theorem Gc18 (kk : p) (h : Run n ops Q L R 18 l al l' al' := by exact mr) (hg : Hold p → J Try.prog n ops Q l' L R al' := by intro h; exact Glc h.h) : J Try.prog n ops Q l L R al := h.go (hg ⟨kk⟩)
theorem Gc19 (kk : p) (h : Run n ops Q L R 19 l al l' al' := by exact mr) (hg : Hold p → J Try.prog n ops Q l' L R al' := by intro h; exact Glc h.h) : J Try.prog n ops Q l L R al := h.go (hg ⟨kk⟩)
theorem Gd1 (kk : p) (h : Run n ops Q L R 1 l al l' al' := by exact mr) (hg : Hold p → J Try.prog n ops Q l' L R al' := by intro h; exact Gmc h.h) : J Try.prog n ops Q l L R al := h.go (hg ⟨kk⟩)
theorem Gd2 (kk : p) (h : Run n ops Q L R 2 l al l' al' := by exact mr) (hg : Hold p → J Try.prog n ops Q l' L R al' := by intro h; exact Gmc h.h) : J Try.prog n ops Q l L R al := h.go (hg ⟨kk⟩)
theorem Gd4 (kk : p) (h : Run n ops Q L R 4 l al l' al' := by exact mr) (hg : Hold p → J Try.prog n ops Q l' L R al' := by intro h; exact Gmc h.h) : J Try.prog n ops Q l L R al := h.go (hg ⟨kk⟩)
theorem Gd5 (kk : p) (h : Run n ops Q L R 5 l al l' al' := by exact mr) (hg : Hold p → J Try.prog n ops Q l' L R al' := by intro h; exact Gmc h.h) : J Try.prog n ops Q l L R al := h.go (hg ⟨kk⟩)
theorem Gd6 (kk : p) (h : Run n ops Q L R 6 l al l' al' := by exact mr) (hg : Hold p → J Try.prog n ops Q l' L R al' := by intro h; exact Gmc h.h) : J Try.prog n ops Q l L R al := h.go (hg ⟨kk⟩)
theorem Gd10 (kk : p) (h : Run n ops Q L R 10 l al l' al' := by exact mr) (hg : Hold p → J Try.prog n ops Q l' L R al' := by intro h; exact Gmc h.h) : J Try.prog n ops Q l L R al := h.go (hg ⟨kk⟩)
theorem jd_ {id : Nat} (Sh : Rho → (Nat → Bool) → List Chunk) (k : DJ Try.prog n l.toArray Q Sh R al 0 l []) (hsl : O4 l.toArray = true := by kernel_rfl) (hed : K6 l.toArray = true := by kernel_rfl) (hL : ∀ ρ, Sh ρ (fun _ => false) = L := by exact fun _ => rfl) : JC Try.prog n (.region id l.toArray true) Q L R al := S4 Aif hsl hed Sh hL k
theorem Bv {id : Nat} (k : DJ Try.prog n l.toArray Q (fun _ _ => L) R al 0 l []) (hsl : O4 l.toArray = true := by kernel_rfl) (hed : K6 l.toArray = true := by kernel_rfl) : JC Try.prog n (.region id l.toArray true) Q L R al := S4 Aif hsl hed (fun _ _ => L) (fun _ => rfl) k
variable {Sh : Rho → (Nat → Bool) → List Chunk} {R0 : List Fact} {al0 : List (Nat × Value)} {its : List Item} {i : Nat} {q : Rho → Prop}
theorem dnl (k : ∀ ρ, q ρ) (h : ∀ ρ, Hold (q ρ) → JX n Q .normal (F3 its ρ ++ Sh ρ (fun j => Nat.blt j i)) (facts its ρ ++ R0) (Ed its al0 ρ) := by intro ρ h; simp only [F3, facts, Ed, List.append_nil, List.nil_append, List.cons_append]; exact h.h) : DJ Try.prog n ops Q Sh R0 al0 i [] its := d_nilC fun ρ => h ρ ⟨k ρ⟩
theorem dtl {o : Oper} (k : ∀ ρ, q ρ) (ht : Lc ops i = true := by kernel_rfl) (h : ∀ ρ, Hold (q ρ) → J Try.prog n ops Q (o :: rest) (F3 its ρ ++ Sh ρ (fun j => Nat.blt j i)) (facts its ρ ++ R0) (Ed its al0 ρ) := by intro ρ h; simp only [F3, facts, Ed, List.append_nil, List.nil_append, List.cons_append]; exact h.h) : DJ Try.prog n ops Q Sh R0 al0 i (o :: rest) its := Z2 ht fun ρ => h ρ ⟨k ρ⟩
theorem djc {op : Oper} (hp : ∀ ρ S, Au Try.prog n (Ed its al0 ρ) (Sh ρ S) R0 op v) (k : DJ Try.prog n ops Q Sh R0 al0 (i + 1) rest (⟨i, some d, fun _ => v, fun _ => [], fun _ => []⟩ :: its)) (hd : op.dst = some d := by exact rfl) (hSh : ∀ ρ g S, S i = false → Sh (Rho.set ρ i g) (upS S i) = Sh ρ S := by exact fun _ _ _ _ => rfl) : DJ Try.prog n ops Q Sh R0 al0 i (op :: rest) its := dj (dc hp k hd hSh)
theorem epc {op : Oper} (hp : ∀ ρ S, Au Try.prog n (Ed its al0 ρ) (Sh ρ S) R0 op v) (k : DJ Try.prog n ops Q Sh R0 al0 (i + 1) rest (⟨i, some d, fun _ => v, fun _ => [], fun _ => []⟩ :: its)) (hSh : Km ops Sh i := by exact fun _ _ _ _ _ => rfl) (hd : op.dst = some d := by exact rfl) : DJ Try.prog n ops Q Sh R0 al0 i (op :: rest) its := K7 hp hSh k hd
theorem epp {op : Oper} {v : Rho → Value} (hp : ∀ ρ S, Au Try.prog n (Ed its al0 ρ) (Sh ρ S) R0 op (v ρ)) (k : DJ Try.prog n ops Q Sh R0 al0 (i + 1) rest (⟨i, some d, v, fun _ => [], fun _ => []⟩ :: its)) (hi : Ind ops i v := by first | exact Ind.const _ | exact fun _ _ _ _ _ => rfl | exact Ind.self | exact Ind.gh _ 3 rfl) (hSh : Km ops Sh i := by exact fun _ _ _ _ _ => rfl) (hd : op.dst = some d := by exact rfl) : DJ Try.prog n ops Q Sh R0 al0 i (op :: rest) its := e_p hp hi hSh k hd
def befs (ops : Array Oper) (i : Nat) (l : List Nat) : Bool := l.all fun j => Nv ops 9 j i
def afts (ops : Array Oper) (i : Nat) (l : List Nat) : Bool := l.all fun j => Nv ops 9 i j
def AllS (S : Nat → Bool) (b : Bool) : List Nat → Prop
 | [] => True
 | j :: r => S j = b ∧ AllS S b r
theorem AllS.mk {S : Nat → Bool} {b : Bool} : ∀ {l : List Nat}, (∀ j, j ∈ l → S j = b) → AllS S b l
 | [], _ => trivial
 | j :: r, h => ⟨h j (.head _), AllS.mk fun j hj => h j (.tail _ hj)⟩
theorem Rho.at_ne {ρ : Rho} {i j : Nat} {g : G} (h : Nat.beq j i = false) : Rho.set ρ i g j = ρ j := by
 have : j ≠ i := fun e => by rw [e, Nat.beq_refl] at h; cases h
 simp [Rho.set, this]
theorem upS_at {S : Nat → Bool} {i : Nat} : upS S i i = true := by simp [upS]
theorem upS_no {S : Nat → Bool} {i j : Nat} (h : Nat.beq j i = false) : upS S i j = S j := by simp [upS, h]
theorem es_ (T0 : TypeId) (f : Nat) (bz az : List Nat) (bb : Rho → Nat) (vs us : Rho → List Value) {v : Rho → Value} {sz : Nat} (hsz : ∀ w, (sizeOf T).run Try.prog w = .ok sz w) (k : DJ Try.prog n ops Q Sh R0 al0 (i + 1) rest (⟨i, none, fun _ => undef, fun _ => [], fun _ => []⟩ :: its)) (hx : ∀ ρ, ev n (Ed its al0 ρ) x = some (bp (bb ρ) f) := by exact fun _ => rfl) (hy : ∀ ρ, ev n (Ed its al0 ρ) y = some (v ρ) := by exact fun _ => rfl) (hv : ∀ ρ, (v ρ).cells = (us ρ).toArray := by exact fun _ => rfl) (hl : ∀ ρ, (us ρ).length = sz := by exact fun _ => rfl)
  (h1 : ∀ ρ R' w L', Deps ops R0 its i ρ R' → St L' R' w → ∀ u ∈ us ρ, u.oneCell' = true := by exact fun _ _ _ _ _ _ => by first | (intro u hu; revert u hu; simp [Value.oneCell', Config.cells, Msg.cells, Line.cells, Op.cells, Done.cells, Step.cells]; done) | (repeat (first | exact H1 | refine Dl (by first | exact rfl | assumption) ?_))) (hf : ∀ ρ, Nat.ble (f + sz) (vs ρ).length = true := by exact fun _ => rfl) (hb : befs ops i bz = true := by kernel_rfl) (ha : afts ops i az = true := by kernel_rfl)
  (hSh : ∀ ρ g S, S i = false → AllS S true bz → AllS S false az → ∃ L1, (Sh ρ S).Perm (blk (bb ρ) T0 (vs ρ) :: L1) ∧ (Sh (Rho.set ρ i g) (upS S i)).Perm (blk (bb ρ) T0 ((vs ρ).take f ++ us ρ ++ (vs ρ).drop (f + sz)) :: L1) := by intro ρ g S hS hB hA; simp only [AllS, and_true] at hB hA; simp +decide only [upS_at, upS_no, Rho.at_ne, hS, hB, hA, cond_true, cond_false]; exact Pos.ex (by repeat (first | exact .hd | exact .hc | apply Pos.tl | apply Pos.ap))) : DJ Try.prog n ops Q Sh R0 al0 i (⟨none, .store T x y, ty, pos, aft, none⟩ :: rest) its :=
 Akl bb hsz hx hy hv hl h1 hf (fun ρ g S hS hB hA => hSh ρ g S hS (AllS.mk fun j hj => hB j ⟨9, List.all_eq_true.1 hb j hj⟩) (AllS.mk fun j hj => hA j ⟨9, List.all_eq_true.1 ha j hj⟩)) k
end
section
variable {P : Program} {n : Nat} {L L' L1 : List Chunk} {R : List Fact} {al : List (Nat × Value)} {γ : Type} {val : γ → Value} {Lf : γ → List Chunk} {Rf : γ → List Fact} {fn : Func} {e : Exit} {t u s r : Nat} {v v1 v2 v3 v4 : Value} {ty : TypeId} {sz b : Nat} {cs : List Value} {T0 : TypeId} {Q : Exit → Act → World → Prop} {c : Code}
theorem cq_ (L' : List Chunk) (k : JC P n c Q L' R al) (h : ∀ w, St L R w → St L' R w := by exact fun w hs => Ae hs) : JC P n c Q L R al := JC.conseq h k
theorem xq_ (L' : List Chunk) (k : JX n Q e L' R al) (h : ∀ w, St L R w → St L' R w := by exact fun w hs => hs) : JX n Q e L R al := JX.conseq h k
theorem Bq (g : γ) (he : e = .normal ∨ e = .ret := by first | exact .inr rfl | exact .inl rfl) (hf : fn.results = #[.tmp t] := by exact rfl) (h0 : ev n al (.tmp t) = some v1 := by exact rfl) (hv : v1 = val g := by rfl) (hs : ∀ w, St L R w → St (Lf g) (Rf g) w := by exact fun w hs => Ae hs) : JX n (bodyPost P fn (Cd val Lf Rf)) e L R al := A1 he (fun B w _ => res1 hf h0 B w) (fun w h => ⟨g, hv, hs w h⟩)
theorem Wg (g : γ) (hT : ∀ w, (isAgg ty).run P w = .ok true w) (hsz : ∀ w, (sizeOf ty).run P w = .ok sz w) (he : e = .normal ∨ e = .ret := by first | exact .inr rfl | exact .inl rfl) (hf : fn.results = #[.cell t ty] := by exact rfl) (h0 : ev n al (.tmp t) = some (bp b 0) := by exact rfl)  (hp : Pick L (blk b T0 cs) L1 := by exact pkk) (hl : cs.length = sz := by exact rfl) (hv : (.agg cs.toArray) = val g := by rfl) (hs : ∀ w, St L R w → St (Lf g) (Rf g) w := by exact fun w hs => Ae hs) : JX n (bodyPost P fn (Cd val Lf Rf)) e L R al := A1 he (fun B w hw => resC1 hf h0  hT hsz hp hl B w hw) (fun w h => ⟨g, hv, hs w h⟩)
theorem D5 (g : γ) (he : e = .normal ∨ e = .ret := by first | exact .inr rfl | exact .inl rfl) (hf : fn.results = #[.tmp t, .tmp u] := by exact rfl) (h0 : ev n al (.tmp t) = some v1 := by exact rfl) (h1 : ev n al (.tmp u) = some v2 := by exact rfl) (hv : (.tuple #[v1, v2]) = val g := by rfl) (hs : ∀ w, St L R w → St (Lf g) (Rf g) w := by exact fun w hs => Ae hs) : JX n (bodyPost P fn (Cd val Lf Rf)) e L R al := A1 he (fun B w _ => res2 hf h0 h1 B w) (fun w h => ⟨g, hv, hs w h⟩)
theorem O6 (g : γ) (hT : ∀ w, (isAgg ty).run P w = .ok true w) (hsz : ∀ w, (sizeOf ty).run P w = .ok sz w) (he : e = .normal ∨ e = .ret := by first | exact .inr rfl | exact .inl rfl) (hf : fn.results = #[.cell t ty, .tmp u] := by exact rfl) (h0 : ev n al (.tmp t) = some (bp b 0) := by exact rfl) (h1 : ev n al (.tmp u) = some v2 := by exact rfl) (hp : Pick L (blk b T0 cs) L1 := by exact pkk) (hl : cs.length = sz := by exact rfl) (hv : (.tuple #[.agg cs.toArray, v2]) = val g := by rfl) (hs : ∀ w, St L R w → St (Lf g) (Rf g) w := by exact fun w hs => Ae hs) : JX n (bodyPost P fn (Cd val Lf Rf)) e L R al := A1 he (fun B w hw => resC2 hf h0 h1 hT hsz hp hl B w hw) (fun w h => ⟨g, hv, hs w h⟩)
theorem Gy (g : γ) (he : e = .normal ∨ e = .ret := by first | exact .inr rfl | exact .inl rfl) (hf : fn.results = #[.tmp t, .tmp u, .tmp s] := by exact rfl) (h0 : ev n al (.tmp t) = some v1 := by exact rfl) (h1 : ev n al (.tmp u) = some v2 := by exact rfl) (h2 : ev n al (.tmp s) = some v3 := by exact rfl) (hv : (.tuple #[v1, v2, v3]) = val g := by rfl) (hs : ∀ w, St L R w → St (Lf g) (Rf g) w := by exact fun w hs => Ae hs) : JX n (bodyPost P fn (Cd val Lf Rf)) e L R al := A1 he (fun B w _ => res3 hf h0 h1 h2 B w) (fun w h => ⟨g, hv, hs w h⟩)
theorem Eu (g : γ) (hT : ∀ w, (isAgg ty).run P w = .ok true w) (hsz : ∀ w, (sizeOf ty).run P w = .ok sz w) (he : e = .normal ∨ e = .ret := by first | exact .inr rfl | exact .inl rfl) (hf : fn.results = #[.cell t ty, .tmp u, .tmp s] := by exact rfl) (h0 : ev n al (.tmp t) = some (bp b 0) := by exact rfl) (h1 : ev n al (.tmp u) = some v2 := by exact rfl) (h2 : ev n al (.tmp s) = some v3 := by exact rfl) (hp : Pick L (blk b T0 cs) L1 := by exact pkk) (hl : cs.length = sz := by exact rfl) (hv : (.tuple #[.agg cs.toArray, v2, v3]) = val g := by rfl) (hs : ∀ w, St L R w → St (Lf g) (Rf g) w := by exact fun w hs => Ae hs) : JX n (bodyPost P fn (Cd val Lf Rf)) e L R al := A1 he (fun B w hw => resC3 hf h0 h1 h2 hT hsz hp hl B w hw) (fun w h => ⟨g, hv, hs w h⟩)
theorem I4 (g : γ) (hT : ∀ w, (isAgg ty).run P w = .ok true w) (hsz : ∀ w, (sizeOf ty).run P w = .ok sz w) (he : e = .normal ∨ e = .ret := by first | exact .inr rfl | exact .inl rfl) (hf : fn.results = #[.cell t ty, .tmp u, .tmp s, .tmp r] := by exact rfl) (h0 : ev n al (.tmp t) = some (bp b 0) := by exact rfl) (h1 : ev n al (.tmp u) = some v2 := by exact rfl) (h2 : ev n al (.tmp s) = some v3 := by exact rfl) (h3 : ev n al (.tmp r) = some v4 := by exact rfl) (hp : Pick L (blk b T0 cs) L1 := by exact pkk) (hl : cs.length = sz := by exact rfl) (hv : (.tuple #[.agg cs.toArray, v2, v3, v4]) = val g := by rfl) (hs : ∀ w, St L R w → St (Lf g) (Rf g) w := by exact fun w hs => Ae hs) : JX n (bodyPost P fn (Cd val Lf Rf)) e L R al := A1 he (fun B w hw => resC4 hf h0 h1 h2 h3 hT hsz hp hl B w hw) (fun w h => ⟨g, hv, hs w h⟩)
end
section
variable {P : Program} {n : Nat} {ops : Array Oper} {Q : Exit → Act → World → Prop} {rest : List Oper} {L : List Chunk} {R : List Fact} {al : List (Nat × Value)} {d : Nat} {x y : Operand} {T U ty : TypeId} {pos : String} {aft : Array Edge} {k k' : IntKind} {a b : Int}
theorem C8 (kk : J P n ops Q rest L R ((d, .bool true) :: al)) (hx : ev n al x = some (.int k a) := by exact rfl) (hy : ev n al y = some (.int k b) := by exact rfl) (h : a = b := by omega) : J P n ops Q (⟨some d, .binOp .eql T x y U, ty, pos, aft, none⟩ :: rest) L R al := ob (Al hx hy (Ay h)) kk
theorem A4 (kk : J P n ops Q rest L R ((d, .bool false) :: al)) (hx : ev n al x = some (.int k a) := by exact rfl) (hy : ev n al y = some (.int k b) := by exact rfl) (h : a ≠ b := by omega) : J P n ops Q (⟨some d, .binOp .eql T x y U, ty, pos, aft, none⟩ :: rest) L R al := ob (Al hx hy (Bh h)) kk
theorem Aic (kk : J P n ops Q rest L R ((d, .bool true) :: al)) (hx : ev n al x = some (.int k a) := by exact rfl) (hy : ev n al y = some (.int k b) := by exact rfl) (h : a ≠ b := by omega) : J P n ops Q (⟨some d, .binOp .neq T x y U, ty, pos, aft, none⟩ :: rest) L R al := ob (Al hx hy (Ju h)) kk
theorem Ms (kk : J P n ops Q rest L R ((d, .bool false) :: al)) (hx : ev n al x = some (.int k a) := by exact rfl) (hy : ev n al y = some (.int k b) := by exact rfl) (h : a = b := by omega) : J P n ops Q (⟨some d, .binOp .neq T x y U, ty, pos, aft, none⟩ :: rest) L R al := ob (Al hx hy (Dx h)) kk
theorem Dt (kk : J P n ops Q rest L R ((d, .bool true) :: al)) (hx : ev n al x = some (.int k a) := by exact rfl) (hy : ev n al y = some (.int k b) := by exact rfl) (h : a < b := by omega) : J P n ops Q (⟨some d, .binOp .lss T x y U, ty, pos, aft, none⟩ :: rest) L R al := ob (Al hx hy (Tj h)) kk
theorem A3 (kk : J P n ops Q rest L R ((d, .bool false) :: al)) (hx : ev n al x = some (.int k a) := by exact rfl) (hy : ev n al y = some (.int k b) := by exact rfl) (h : ¬ a < b := by omega) : J P n ops Q (⟨some d, .binOp .lss T x y U, ty, pos, aft, none⟩ :: rest) L R al := ob (Al hx hy (Dr h)) kk
theorem oleqT (kk : J P n ops Q rest L R ((d, .bool true) :: al)) (hx : ev n al x = some (.int k a) := by exact rfl) (hy : ev n al y = some (.int k b) := by exact rfl) (h : a ≤ b := by omega) : J P n ops Q (⟨some d, .binOp .leq T x y U, ty, pos, aft, none⟩ :: rest) L R al := ob (Al hx hy (Aat h)) kk
theorem oleqF (kk : J P n ops Q rest L R ((d, .bool false) :: al)) (hx : ev n al x = some (.int k a) := by exact rfl) (hy : ev n al y = some (.int k b) := by exact rfl) (h : ¬ a ≤ b := by omega) : J P n ops Q (⟨some d, .binOp .leq T x y U, ty, pos, aft, none⟩ :: rest) L R al := ob (Al hx hy (Tk h)) kk
theorem Ft (kk : J P n ops Q rest L R ((d, .bool true) :: al)) (hx : ev n al x = some (.int k a) := by exact rfl) (hy : ev n al y = some (.int k b) := by exact rfl) (h : b < a := by omega) : J P n ops Q (⟨some d, .binOp .gtr T x y U, ty, pos, aft, none⟩ :: rest) L R al := ob (Al hx hy (La h)) kk
theorem De (kk : J P n ops Q rest L R ((d, .bool false) :: al)) (hx : ev n al x = some (.int k a) := by exact rfl) (hy : ev n al y = some (.int k b) := by exact rfl) (h : ¬ b < a := by omega) : J P n ops Q (⟨some d, .binOp .gtr T x y U, ty, pos, aft, none⟩ :: rest) L R al := ob (Al hx hy (Tl h)) kk
theorem J8 (kk : J P n ops Q rest L R ((d, .bool true) :: al)) (hx : ev n al x = some (.int k a) := by exact rfl) (hy : ev n al y = some (.int k b) := by exact rfl) (h : b ≤ a := by omega) : J P n ops Q (⟨some d, .binOp .geq T x y U, ty, pos, aft, none⟩ :: rest) L R al := ob (Al hx hy (P5 h)) kk
theorem D6 (kk : J P n ops Q rest L R ((d, .bool false) :: al)) (hx : ev n al x = some (.int k a) := by exact rfl) (hy : ev n al y = some (.int k b) := by exact rfl) (h : ¬ b ≤ a := by omega) : J P n ops Q (⟨some d, .binOp .geq T x y U, ty, pos, aft, none⟩ :: rest) L R al := ob (Al hx hy (Dy h)) kk
theorem meT {A B : Prop} (h : A := by first | exact congrArg (fun b => some (Value.bool b)) (decide_eq_true (by omega)).symm | exact congrArg (fun b => some (Value.bool b)) (by simp; omega)) (g : B := by exact alT) : A ∧ B := ⟨h, g⟩
theorem meF {A B : Prop} (h : A := by first | exact congrArg (fun b => some (Value.bool b)) (decide_eq_false (by omega)).symm | exact congrArg (fun b => some (Value.bool b)) (by simp; omega)) (g : B := by exact alT) : A ∧ B := ⟨h, g⟩
theorem cdy {t : Nat} {a b : Code} {p : Prop} {hd : Decidable p} (hT : p → JC P n a Q L R ((t, .bool true) :: al)) (hF : ¬ p → JC P n b Q L R ((t, .bool false) :: al)) (hc : ev n al (.tmp t) = some (.bool (decide p)) := by exact rfl) : JC P n (.cond (.tmp t) a b) Q L R al := cdx hc hT hF
theorem pex {l l' : List Chunk} {x x' : Chunk} {L1 : List Chunk} (h : Pos l l' x x' L1 := by repeat (first | exact .hd | exact .hc | apply Pos.tl | apply Pos.ap)) : ∃ L1, l.Perm (x :: L1) ∧ l'.Perm (x' :: L1) := h.ex
end
section
variable {n : Nat} {Q : Exit → Act → World → Prop} {ops : Array Oper} {rest : List Oper} {d : Nat} {x y : Operand} {ty : TypeId} {pos : String} {aft : Array Edge} {Sh : Rho → (Nat → Bool) → List Chunk} {R0 : List Fact} {al0 : List (Nat × Value)} {its : List Item} {i : Nat} {v : Value}
theorem djm (kk : DJ Try.prog n ops Q Sh R0 al0 (i + 1) rest (⟨i, some d, fun _ => v, fun _ => [], fun _ => []⟩ :: its)) (hx : ∀ (ρ : Rho) (_ : Nat → Bool), ev n (Ed its al0 ρ) x = some v := by exact fun _ _ => rfl) (hSh : ∀ ρ g S, S i = false → Sh (Rho.set ρ i g) (upS S i) = Sh ρ S := by exact fun _ _ _ _ => rfl) : DJ Try.prog n ops Q Sh R0 al0 i (⟨some d, .move x, ty, pos, aft, none⟩ :: rest) its := djc (fun ρ S => Ug (hx ρ S)) kk rfl hSh
theorem djf {c : Operand} (kk : DJ Try.prog n ops Q Sh R0 al0 (i + 1) rest (⟨i, some d, fun _ => v, fun _ => [], fun _ => []⟩ :: its)) (hc : ∀ (ρ : Rho) (_ : Nat → Bool), ev n (Ed its al0 ρ) c = some (.bool false) := by exact fun _ _ => rfl) (hy : ∀ (ρ : Rho) (_ : Nat → Bool), ev n (Ed its al0 ρ) y = some v := by exact fun _ _ => rfl) (hSh : ∀ ρ g S, S i = false → Sh (Rho.set ρ i g) (upS S i) = Sh ρ S := by exact fun _ _ _ _ => rfl) : DJ Try.prog n ops Q Sh R0 al0 i (⟨some d, .pick c x y, ty, pos, aft, none⟩ :: rest) its := djc (fun ρ S => Ahx (hc ρ S) (hy ρ S)) kk rfl hSh
theorem epg (j f : Nat) (kk : DJ Try.prog n ops Q Sh R0 al0 (i + 1) rest (⟨i, some d, fun ρ => Gh.dec (γ := Value) (ρ j), fun _ => [], fun _ => []⟩ :: its)) (hx : ∀ (ρ : Rho) (_ : Nat → Bool), ev n (Ed its al0 ρ) x = some (Gh.dec (γ := Value) (ρ j)) := by exact fun _ _ => rfl) (hj : Nv ops f j i = true := by exact rfl) (hSh : Km ops Sh i := by exact fun _ _ _ _ _ => rfl) : DJ Try.prog n ops Q Sh R0 al0 i (⟨some d, .assign x, ty, pos, aft, none⟩ :: rest) its := e_p (fun ρ S => Di (hx ρ S)) (Ind.gh (h := fun g => ((Gh.dec (γ := Value) g) : Value)) j f hj) hSh kk rfl
end
structure KpZ (q : Prop) : Prop where
  out : q
def BkZ (p q : Prop) : Prop := KpZ q → p
theorem ZK {p q : Prop} (k : q) (h : BkZ p q := by
 intro kZ
 refine Gm ?_
 refine rn2 ?_
 exact kZ.out) : p := h ⟨k⟩
theorem Zcf {p q : Prop} (k : q) (h : BkZ p q := by
 intro kZ
 refine A4 ?_
 refine rn3 ?_
 refine gy ?_
 refine A4 ?_
 refine Gd2 ?_
 refine rn2 ?_
 refine A4 ?_
 refine Gc1 ?_
 refine kp [5, 6, 7, 8, 9, 10, 11, 76, 77, 78, 79, 80, 81, 82, 83, 84, 85, 86, 87, 88, 89, 90, 91, 92, 93, 94, 95, 96, 97, 98] ?_
 refine Bv ?_
 refine dn2 ?_
 exact kZ.out) : p := h ⟨k⟩
theorem ZaB {p q : Prop} (k : q) (h : BkZ p q := by
 intro kZ
 refine djc (fun _ _ => Al rfl rfl (Bh (by omega))) ?_
 exact kZ.out) : p := h ⟨k⟩
theorem ZZ {p q : Prop} (k : q) (h : BkZ p q := by
 intro kZ
 refine djf ?_
 refine djm ?_
 exact kZ.out) : p := h ⟨k⟩
theorem Za3 {p q : Prop} (k : q) (h : BkZ p q := by
 intro kZ
 refine ZaB ?_
 refine djm ?_
 refine dn1 ?_
 refine ZZ ?_
 refine dn5 ?_
 refine ZZ ?_
 exact kZ.out) : p := h ⟨k⟩
theorem Zae {p q : Prop} (k : q) (h : BkZ p q := by
 intro kZ
 refine djc (fun _ _ => Di) ?_
 refine dnl ?_; intro ρ
 revert ρ
 exact kZ.out) : p := h ⟨k⟩
theorem ZaC {p q : Prop} (k : q) (h : BkZ p q := by
 intro kZ
 refine dn7 ?_
 refine djf ?_
 refine Zae ?_;intro ρ
 refine Glc ?_
 revert ρ
 exact kZ.out) : p := h ⟨k⟩
theorem Zas {p q : Prop} (k : q) (h : BkZ p q := by
 intro kZ
 refine Bv ?_
 refine dn2 ?_
 exact kZ.out) : p := h ⟨k⟩
theorem Zbi {p q : Prop} (k : q) (h : BkZ p q := by
 intro kZ
 refine dnl ?_; intro ρ
 refine ZK ?_
 refine Zcf ?_
 refine Za3 ?_
 refine ZaC ?_;intro ρ
 refine Zas ?_
 revert ρ
 exact kZ.out) : p := h ⟨k⟩
theorem Zb3 {p q : Prop} (k : q) (h : BkZ p q := by
 intro kZ
 refine Gl ?_
 refine cq_ (row 52 vL (Ac ⟨ls, q⟩ id home m).1.lines :: blk b18 110 [vL, vi (Ac ⟨ls, q⟩ id home m).1.wait.kind, vi (Ac ⟨ls, q⟩ id home m).1.wait.line, vi (Ac ⟨ls, q⟩ id home m).1.wait.value, vi id, vi home, g1, g2] :: row 115 g1 (Ac ⟨ls, q⟩ id home m).2.1 :: row 50 g2 (Ac ⟨ls, q⟩ id home m).2.2 :: blk b8 55 [.slice none 0 0, vi 0, vi 0, vi 0] :: L) ?_
 refine JC.shut (v := vL) (xs := (Ac ⟨ls, q⟩ id home m).1.lines) .hd ?_
 refine JC.shut (v := g1) (xs := (Ac ⟨ls, q⟩ id home m).2.1) pkk ?_
 refine JC.shut (v := g2) (xs := (Ac ⟨ls, q⟩ id home m).2.2) pkk ?_
 refine cq_ (blk b8 55 [.slice none 0 0, vi 0, vi 0, vi 0] :: blk b18 110 [vL, vi (Ac ⟨ls, q⟩ id home m).1.wait.kind, vi (Ac ⟨ls, q⟩ id home m).1.wait.line, vi (Ac ⟨ls, q⟩ id home m).1.wait.value, vi id, vi home, g1, g2] :: L) ?_
 refine jd_ (fun ρ S => blk b8 55 (bif S 12 then [vL, vi (Ac ⟨ls, q⟩ id home m).1.wait.kind, vi (Ac ⟨ls, q⟩ id home m).1.wait.line, vi (Ac ⟨ls, q⟩ id home m).1.wait.value] else [.slice none 0 0, vi 0, vi 0, vi 0]) :: blk b18 110 [vL, vi (Ac ⟨ls, q⟩ id home m).1.wait.kind, vi (Ac ⟨ls, q⟩ id home m).1.wait.line, vi (Ac ⟨ls, q⟩ id home m).1.wait.value, vi id, vi home, g1, g2] :: L) ?_
 refine dn3 ?_
 refine K7 (v := .agg ([vL, vi (Ac ⟨ls, q⟩ id home m).1.wait.kind, vi (Ac ⟨ls, q⟩ id home m).1.wait.line, vi (Ac ⟨ls, q⟩ id home m).1.wait.value]).toArray) (fun _ _ => Fr (b := b18) (f := 0) (vs := [vL, vi (Ac ⟨ls, q⟩ id home m).1.wait.kind, vi (Ac ⟨ls, q⟩ id home m).1.wait.line, vi (Ac ⟨ls, q⟩ id home m).1.wait.value, vi id, vi home, g1, g2]) 4 Try.isAgg55 Try.sizeOf55) (fun _ _ _ _ _ => rfl) ?_
 refine dn8 ?_
 refine es_ 55 0 [] [] (fun ρ => b8) (fun ρ => [.slice none 0 0, vi 0, vi 0, vi 0]) (fun ρ => [vL, vi (Ac ⟨ls, q⟩ id home m).1.wait.kind, vi (Ac ⟨ls, q⟩ id home m).1.wait.line, vi (Ac ⟨ls, q⟩ id home m).1.wait.value]) Try.sizeOf55 ?_
 refine dn2 ?_
 refine dnl ?_; intro ρ
 refine xq_ (blk b8 55 [vL, vi (Ac ⟨ls, q⟩ id home m).1.wait.kind, vi (Ac ⟨ls, q⟩ id home m).1.wait.line, vi (Ac ⟨ls, q⟩ id home m).1.wait.value] :: blk b18 110 [vL, vi (Ac ⟨ls, q⟩ id home m).1.wait.kind, vi (Ac ⟨ls, q⟩ id home m).1.wait.line, vi (Ac ⟨ls, q⟩ id home m).1.wait.value, vi id, vi home, g1, g2] :: L) ?_
 refine Gl ?_
 revert ρ
 exact kZ.out) : p := h ⟨k⟩
theorem Zb4 {p q : Prop} (k : q) (h : BkZ p q := by
 intro kZ
 refine Zas ?_
 refine djc (fun _ _ => Al rfl rfl (Dr (by omega))) ?_
 refine djm ?_
 refine dn4 ?_
 exact kZ.out) : p := h ⟨k⟩
theorem Zcg {p q : Prop} (k : q) (h : BkZ p q := by
 intro kZ
 refine H0 (v := v0) m.line mm (by omega) (by omega) (fun hEw u => ?_)
 have hE : EB (Ai l m.line) := hb m.line.toNat (by omega)
 have hE0 := hE
 unfold EB Entry.wf An at hE0
 have hL : (Ai l m.line).last.length ≤ 4 := hla m.line.toNat (by omega)
 refine JC.know (p := u.oneCell' = true) (fun w hs => isSlice.one (hs.fact (.tail _ (.head _)))) (fun hone => ?_)
 refine JC.know (p := ∀ x ∈ (Ai l m.line).last, An x) (fun w hs => H7 (.tail _ (.head _)) hs) (fun hlin => ?_)
 refine Zb4 ?_
 revert hEw u hE hE0 hL hone hlin
 exact kZ.out) : p := h ⟨k⟩
theorem Zaf {p q : Prop} (k : q) (h : BkZ p q := by
 intro kZ
 refine Gb2 ?_
 refine rn1 ?_
 exact kZ.out) : p := h ⟨k⟩
theorem Zch {p q : Prop} (k : q) (h : BkZ p q := by
 intro kZ
 refine Ak Try.call48 rfl (fun w hs => Gt (u := u) (c := ⟨ls, q⟩) hs mm) ?_; intro vL
 refine J.know (p := vL.oneCell' = true) (fun w hs => Bm .hd hs) (fun honeV => ?_)
 refine rn3 ?_
 revert vL honeV
 exact kZ.out) : p := h ⟨k⟩
theorem Zbj {p q : Prop} (k : q) (h : BkZ p q := by
 intro kZ
 refine Gm ?_
 refine bx ?_; intro b4
 refine bx ?_; intro b7
 refine al_ (cs := [.slice none 0 0, vi 0, vi 0, vi 0]) Try.zeroValue55 ?_; intro b8
 refine Zaf ?_
 refine Zch ?_;intro vL honeV
 refine bx ?_; intro b18
 refine Ga1 ?_
 refine cq_ (row 52 vL ls :: blk b18 110 [vL, vi q.kind, vi q.line, vi q.value, vi id, vi home, .slice none 0 0, .slice none 0 0] :: blk b8 55 [.slice none 0 0, vi 0, vi 0, vi 0] :: blk b7 115 m.cells :: blk b4 55 [u, vi q.kind, vi q.line, vi q.value] :: L) ?_
 revert b4 b7 b8 vL honeV b18
 exact kZ.out) : p := h ⟨k⟩
theorem ZL {p q : Prop} (k : q) (h : BkZ p q := by
 intro kZ
 refine Aa ?_
 refine rn3 ?_
 exact kZ.out) : p := h ⟨k⟩
theorem ZV {p q : Prop} (k : q) (h : BkZ p q := by
 intro kZ
 refine JC.rowNil 115 Msg ?_
 exact kZ.out) : p := h ⟨k⟩
theorem ZaD {p q : Prop} (k : q) (h : BkZ p q := by
 intro kZ
 refine dc (fun _ _ => Al rfl rfl (Dy (show ¬ ((Ai l m.line).last.length : Int) ≤ m.src by omega))) ?_
 refine djf ?_
 refine dnl ?_; intro ρ
 refine Glc ?_
 refine JC.know (p := EpAll g13.1 10 m.line.toNat) (fun w hs => Abg (α := Entry) (xs := l) pkk w hs) (fun hA => ?_)
 have honeE : (ep g13.1 10 m.line.toNat 0).oneCell' = true := hA.one
 refine kp [1, 5, 6, 7, 8, 9, 42, 43, 44, 45] ?_
 refine ZL ?_
 refine ob (Ks (v := g13.1) (i := m.line) Qt (hl := C3 (α := Entry) (xs := l) pkk)) ?_
 refine Gb1 ?_
 refine rn5 ?_
 refine bx ?_; intro b51
 refine Ga1 ?_
 refine ZV ?_
 revert ρ hA honeE b51
 exact kZ.out) : p := h ⟨k⟩
theorem Zci {p q : Prop} (k : q) (h : BkZ p q := by
 intro kZ
 refine kp [2, 3, 4, 5, 16, 17, 18, 19, 20, 21, 22, 23, 24, 25, 26, 27, 28, 29, 30, 31, 32, 33, 34, 35, 36, 37, 38, 39, 40, 41, 42, 43, 44, 45, 46, 47, 48, 49, 50, 51, 52, 53, 54, 55, 56, 57, 58, 59, 60, 61, 62, 63, 64, 65, 66, 67, 68, 69, 70] ?_
 exact kZ.out) : p := h ⟨k⟩
theorem Zan {p q : Prop} (k : q) (h : BkZ p q := by
 intro kZ
 refine Zci ?_
 refine ZL ?_
 exact kZ.out) : p := h ⟨k⟩
theorem Zb5 {p q : Prop} (k : q) (h : BkZ p q := by
 intro kZ
 have honec : cv.oneCell' = true := isSlice.one (hs.fact hcv)
 have honeh : hv.oneCell' = true := isSlice.one (hs.fact hhv)
 revert honec honeh
 exact kZ.out) : p := h ⟨k⟩
theorem Zba {p q : Prop} (k : q) (h : BkZ p q := by
 intro kZ
 refine Zb5 ?_;intro honec honeh
 have honef : fv.oneCell' = true := isSlice.one (hs.fact hfv)
 revert honec honeh honef
 exact kZ.out) : p := h ⟨k⟩
theorem ZaE {p q : Prop} (k : q) (h : BkZ p q := by
 intro kZ
 have hnc := h.nc
 have hnh := h.nh
 have hn1 := h.n1
 have hn2 := h.l1
 refine Zba ?_;intro honec honeh honef
 have hn64 : An (x.cores.length : Int) := by unfold An; omega
 have hop : s.op.wf := ⟨hsn.2.2.2.2.1, hsn.2.2.2.2.2.1, hsn.2.2.2.2.2.2⟩
 refine Ah Try.func23 rfl Try.ntmps23 rfl hs ?_
 revert hnc hnh hn1 hn2 honec honeh honef hn64 hop
 exact kZ.out) : p := h ⟨k⟩
theorem Zbb {p q : Prop} (k : q) (h : BkZ p q := by
 intro kZ
 refine dn8 ?_
 refine es_ 55 0 [] [] (fun ρ => b8) (fun ρ => [.slice none 0 0, vi 0, vi 0, vi 0]) (fun ρ => [vL, vi q.kind, vi q.line, vi q.value]) Try.sizeOf55 ?_
 exact kZ.out) : p := h ⟨k⟩
theorem Zb6 {p q : Prop} (k : q) (h : BkZ p q := by
 intro kZ
 refine cq_ (blk b8 55 [.slice none 0 0, vi 0, vi 0, vi 0] :: blk b18 110 [vL, vi q.kind, vi q.line, vi q.value, vi id, vi home, v74, .slice none 0 0] :: L) ?_
 refine jd_ (fun ρ S => blk b8 55 (bif S 12 then [vL, vi q.kind, vi q.line, vi q.value] else [.slice none 0 0, vi 0, vi 0, vi 0]) :: blk b18 110 [vL, vi q.kind, vi q.line, vi q.value, vi id, vi home, v74, .slice none 0 0] :: L) ?_
 refine dn3 ?_
 refine K7 (v := .agg ([vL, vi q.kind, vi q.line, vi q.value]).toArray) (fun _ _ => Fr (b := b18) (f := 0) (vs := [vL, vi q.kind, vi q.line, vi q.value, vi id, vi home, v74, .slice none 0 0]) 4 Try.isAgg55 Try.sizeOf55) (fun _ _ _ _ _ => rfl) ?_
 refine Zbb ?_
 refine dn2 ?_
 refine dnl ?_; intro ρ
 refine xq_ (blk b8 55 [vL, vi q.kind, vi q.line, vi q.value] :: blk b18 110 [vL, vi q.kind, vi q.line, vi q.value, vi id, vi home, v74, .slice none 0 0] :: L) ?_
 refine Gl ?_
 revert ρ
 exact kZ.out) : p := h ⟨k⟩
theorem Zb7 {p q : Prop} (k : q) (h : BkZ p q := by
 intro kZ
 refine kp [0, 5, 13, 14, 15, 16, 17, 18, 19, 20, 21, 22] ?_
 refine Aa ?_
 refine rn8 ?_
 refine ob (Al rfl rfl (Ij (b := (r.left.length + 1)) (by omega) (by omega))) ?_
 refine rn1 ?_
 refine Ak Try.call45 rfl (fun w hs => S2 (x := r.x) (D := r.done) (s := ⟨6, ((q / 8 % (r.left.length + 1) : Nat) : Int), 0, 0, zOp⟩) (Ae (L' := blk b1 79 [cv, hv, fv, lv, dv] :: row 50 dv r.done :: row 58 lv r.left :: L) hs) mm mm mm (by unfold Step.wf An zOp; have := Nat.mod_le (q / 8) r.x.frames.length; have := Nat.mod_le (q / 8 / 2) r.x.frames.length; have := Nat.mod_le (q / 8) (r.left.length + 1); simp only; omega) h hD) ?_; intro v23
 refine Gl ?_
 have er : D7 r m = ⟨doX r.x ⟨6, ((q / 8 % (r.left.length + 1) : Nat) : Int), 0, 0, zOp⟩, r.left, doD r.x ⟨6, ((q / 8 % (r.left.length + 1) : Nat) : Int), 0, 0, zOp⟩ r.done⟩ := by rw [← Kr]; unfold D7; rw [hq0]; rw [if_neg (by omega), if_neg (by omega), if_neg (by omega)]
 rw [er]
 revert v23 er
 exact kZ.out) : p := h ⟨k⟩
theorem Zb8 {p q : Prop} (k : q) (h : BkZ p q := by
 intro kZ
 refine Glc ?_
 refine kp [5, 6, 7, 8, 9, 10, 11, 178, 179, 180, 181, 182, 183, 184, 185, 186, 187, 188, 189, 190, 191, 192, 193, 194, 195, 196, 197, 198, 199, 200] ?_
 refine Zas ?_
 exact kZ.out) : p := h ⟨k⟩
theorem Zat {p q : Prop} (k : q) (h : BkZ p q := by
 intro kZ
 refine djc (fun _ _ => Al rfl rfl (Ay (by omega))) ?_
 exact kZ.out) : p := h ⟨k⟩
theorem ZaF {p q : Prop} (k : q) (h : BkZ p q := by
 intro kZ
 refine Zat ?_
 refine djm ?_
 refine dn1 ?_
 exact kZ.out) : p := h ⟨k⟩
theorem Zbk {p q : Prop} (k : q) (h : BkZ p q := by
 intro kZ
 refine Za3 ?_
 refine dn9 ?_
 refine djf ?_
 refine Zae ?_;intro ρ
 refine Zb8 ?_
 refine ZaF ?_
 refine djc (fun _ _ => Fx) ?_
 refine djm ?_
 revert ρ
 exact kZ.out) : p := h ⟨k⟩
theorem Zcj {p q : Prop} (k : q) (h : BkZ p q := by
 intro kZ
 refine dnl ?_; intro ρ
 refine xq_ (blk bk 110 [vL, vi q.kind, vi q.line, vi q.value, vi id, vi home, vo, (Gh.dec (γ := Value) (ρ 16))] :: row 50 (Gh.dec (γ := Value) (ρ 16)) (ds ++ [(⟨id, q, 0⟩ : Done)]) :: foc 52 vL ls m.line.toNat [vi 0, vi 0, vi 0, vi l.serial, vi m.turn, vi m.turn, vi l.value] :: row 115 vo ms :: blk bm 115 m.cells :: (LX)) ?_
 generalize (Gh.dec (γ := Value) (ρ 15)) = v120
 generalize (Gh.dec (γ := Value) (ρ 16)) = v121
 refine Gl ?_
 refine kp [0, 1, 4, 124, 125, 126, 127, 128] ?_
 refine Aa ?_
 refine rn1 ?_
 refine ob (Fg (cs := zOp.cells) X7) ?_
 refine rn3 ?_
 refine s_N [vL, vi 0, vi 0, vi 0, vi id, vi home, vo, v121] Try.sizeOf36 ?_
 refine Gl ?_
 refine Bv ?_
 refine dn13 ?_
 refine dtl ?_; intro ρ
 refine Ak Try.call73 rfl (fun w hs => E5 (vL := vL) (vd := v121) (q := zOp) (id := id) (home := home) (ms := ms) (kind := 9) (line := m.line) (serial := 0) (turn := m.turn) (value := l.value) (LX := foc 52 vL ls m.line.toNat [vi 0, vi 0, vi 0, vi l.serial, vi m.turn, vi m.turn, vi l.value] :: row 50 v121 (ds ++ [(⟨id, q, 0⟩ : Done)]) :: blk bm 115 m.cells :: LX) (Ae hs) hn (by unfold Msg.wf An; simp only; omega)) ?_; intro v142
 refine Gl ?_
 have ef : Cv l m.kind m.turn = { l with seen := m.turn, gave := m.turn, given := l.value, state := 0, value := 0, want := 0 } := by unfold Cv; rw [if_pos ht95]
 have er : (Ac ⟨ls, q⟩ id home m) = (⟨ls.set m.line.toNat ({ l with seen := m.turn, gave := m.turn, given := l.value, state := 0, value := 0, want := 0 }), zOp⟩, [Ba 9 id home m.line m.turn l.value], [⟨id, q, 0⟩]) := by rw [Iu hl hi hk, if_pos (by unfold E3; omega), ef, if_pos ht95, if_pos ht95]
 rw [er]
 revert v120 v121 ρ v142 ef er
 exact kZ.out) : p := h ⟨k⟩
theorem ZA {p q : Prop} (k : q) (h : BkZ p q := by
 intro kZ
 refine Aa ?_
 refine rn2 ?_
 exact kZ.out) : p := h ⟨k⟩
theorem ZaG {p q : Prop} (k : q) (h : BkZ p q := by
 intro kZ
 refine JC.slNil (List UInt8) ?_
 exact kZ.out) : p := h ⟨k⟩
theorem Zaa {p q : Prop} (k : q) (h : BkZ p q := by
 intro kZ
 refine JC.slNil Done ?_
 exact kZ.out) : p := h ⟨k⟩
theorem ZaO {p q : Prop} (k : q) (h : BkZ p q := by
 intro kZ
 refine JC.slNil Core ?_
 refine JC.slNil Entry ?_
 refine ZaG ?_
 refine Zaa ?_
 exact kZ.out) : p := h ⟨k⟩
theorem Zbl {p q : Prop} (k : q) (h : BkZ p q := by
 intro kZ
 refine ob (Fg (cs := [.slice none 0 0, .slice none 0 0, .slice none 0 0]) I3) ?_
 exact kZ.out) : p := h ⟨k⟩
theorem Zb9 {p q : Prop} (k : q) (h : BkZ p q := by
 intro kZ
 refine s_B (cs := [.slice none 0 0, .slice none 0 0, .slice none 0 0]) Try.sizeOf27 ?_
 exact kZ.out) : p := h ⟨k⟩
theorem Zbm {p q : Prop} (k : q) (h : BkZ p q := by
 intro kZ
 refine Aa ?_
 refine Zbl ?_
 refine rn1 ?_
 refine Zb9 ?_
 exact kZ.out) : p := h ⟨k⟩
theorem ZaP {p q : Prop} (k : q) (h : BkZ p q := by
 intro kZ
 refine ZaO ?_
 refine Zbm ?_
 refine Ga2 ?_
 exact kZ.out) : p := h ⟨k⟩
theorem ZE {p q : Prop} (k : q) (h : BkZ p q := by
 intro kZ
 refine rn4 ?_
 refine gy ?_
 exact kZ.out) : p := h ⟨k⟩
theorem Zbn {p q : Prop} (k : q) (h : BkZ p q := by
 intro kZ
 refine Zae ?_;intro ρ
 refine ZK ?_
 refine Zcf ?_
 refine ZaF ?_
 refine djc (fun _ _ => Fx) ?_
 refine djm ?_
 revert ρ
 exact kZ.out) : p := h ⟨k⟩
theorem ZaH {p q : Prop} (k : q) (h : BkZ p q := by
 intro kZ
 have hid0 := hid
 have hhome0 := hhome
 unfold An at hid0 hhome0
 revert hid0 hhome0
 exact kZ.out) : p := h ⟨k⟩
theorem ZaI {p q : Prop} (k : q) (h : BkZ p q := by
 intro kZ
 have hlen := Bx hu hs
 have hone0 : u.oneCell' = true := isSlice.one (hs.fact hu)
 have hn4 : ls.length ≤ 4 := hk.n
 have hm0 := hm
 unfold Msg.wf An at hm0
 refine ZaH ?_;intro hid0 hhome0
 refine Ah Try.func57 rfl Try.ntmps57 rfl hs ?_
 revert hlen hone0 hn4 hm0 hid0 hhome0
 exact kZ.out) : p := h ⟨k⟩
theorem ZaJ {p q : Prop} (k : q) (h : BkZ p q := by
 intro kZ
 refine J.know (p := cY.oneCell' = true ∧ hY.oneCell' = true ∧ fY.oneCell' = true) (fun w hs => ⟨Bm .hd hs, isSlice.one (hs.fact (mm (f := sl hY x.home))), isSlice.one (hs.fact (mm (f := sl fY x.frames)))⟩) (fun h12 => ?_)
 revert h12
 exact kZ.out) : p := h ⟨k⟩
theorem ZC {p q : Prop} (k : q) (h : BkZ p q := by
 intro kZ
 refine Aa ?_
 refine rn1 ?_
 exact kZ.out) : p := h ⟨k⟩
theorem Zbc {p q : Prop} (k : q) (h : BkZ p q := by
 intro kZ
 refine al_ (cs := [.slice none 0 0, .slice none 0 0, .slice none 0 0]) Try.zeroValue27 ?_; intro b7
 revert b7
 exact kZ.out) : p := h ⟨k⟩
theorem ZaK {p q : Prop} (k : q) (h : BkZ p q := by
 intro kZ
 refine Zbc ?_;intro b7
 refine s_B (cs := [cY, hY, fY]) Try.sizeOf27 ?_
 refine Gm ?_
 refine Gb1 ?_
 refine Gb1 ?_
 refine Gb2 ?_
 revert b7
 exact kZ.out) : p := h ⟨k⟩
theorem ZF {p q : Prop} (k : q) (h : BkZ p q := by
 intro kZ
 refine rn3 ?_
 refine gy ?_
 exact kZ.out) : p := h ⟨k⟩
theorem Zck {p q : Prop} (k : q) (h : BkZ p q := by
 intro kZ
 refine cq_ (blk b8 55 [.slice none 0 0, vi 0, vi 0, vi 0] :: blk b18 110 [vL, vi q.kind, vi q.line, vi q.value, vi id, vi home, .slice none 0 0, .slice none 0 0] :: L) ?_
 refine jd_ (fun ρ S => blk b8 55 (bif S 12 then [vL, vi q.kind, vi q.line, vi q.value] else [.slice none 0 0, vi 0, vi 0, vi 0]) :: blk b18 110 [vL, vi q.kind, vi q.line, vi q.value, vi id, vi home, .slice none 0 0, .slice none 0 0] :: L) ?_
 refine dn3 ?_
 refine K7 (v := .agg ([vL, vi q.kind, vi q.line, vi q.value]).toArray) (fun _ _ => Fr (b := b18) (f := 0) (vs := [vL, vi q.kind, vi q.line, vi q.value, vi id, vi home, .slice none 0 0, .slice none 0 0]) 4 Try.isAgg55 Try.sizeOf55) (fun _ _ _ _ _ => rfl) ?_
 refine Zbb ?_
 refine dn2 ?_
 refine dnl ?_; intro ρ
 refine xq_ (blk b8 55 [vL, vi q.kind, vi q.line, vi q.value] :: blk b18 110 [vL, vi q.kind, vi q.line, vi q.value, vi id, vi home, .slice none 0 0, .slice none 0 0] :: L) ?_
 refine Gl ?_
 revert ρ
 exact kZ.out) : p := h ⟨k⟩
theorem ZbA {p q : Prop} (k : q) (h : BkZ p q := by
 intro kZ
 refine al_ (cs := [.slice none 0 0, .slice none 0 0, .slice none 0 0]) Try.zeroValue27 ?_; intro b4
 revert b4
 exact kZ.out) : p := h ⟨k⟩
theorem ZaL {p q : Prop} (k : q) (h : BkZ p q := by
 intro kZ
 refine Gm ?_
 refine bx ?_; intro b2
 refine bx ?_; intro b3
 refine ZbA ?_;intro b4
 refine Zaf ?_
 revert b2 b3 b4
 exact kZ.out) : p := h ⟨k⟩
theorem ZB {p q : Prop} (k : q) (h : BkZ p q := by
 intro kZ
 refine Gm ?_
 refine Ga1 ?_
 exact kZ.out) : p := h ⟨k⟩
theorem Zao {p q : Prop} (k : q) (h : BkZ p q := by
 intro kZ
 refine ob (Aw Try.underlying3 Try.underlying5 rfl (Cr _)) ?_
 exact kZ.out) : p := h ⟨k⟩
theorem Zbo {p q : Prop} (k : q) (h : BkZ p q := by
 intro kZ
 refine JC.slNil Line ?_
 refine JC.slNil Msg ?_
 refine Zaa ?_
 refine kp [1, 2, 4, 7, 8, 9, 10, 11, 46] ?_
 refine Aa ?_
 refine ob (Fg (cs := [.slice none 0 0, vi 0, vi 0, vi 0]) Nx) ?_
 refine s_B Try.sizeOf55 ?_
 refine Ga3 ?_
 have er : (Aj ⟨ls, q0⟩ id home q) = (Fa, [], [], 3) := Afk (by omega) (by omega)
 rw [er]
 revert er
 exact kZ.out) : p := h ⟨k⟩
theorem Zau {p q : Prop} (k : q) (h : BkZ p q := by
 intro kZ
 have hEB : EB (Af (Ai l m.line) id m).1 := Ds hE hm (by omega)
 refine JC.shut (v := uo) (xs := (Af (Ai l m.line) id m).1.last) pkk ?_
 refine JC.unfocus (Af (Ai l m.line) id m).1 pkk (Dk mm hEB.1) ?_
 refine JC.shut (v := g13.1) pkk ?_
 revert hEB
 exact kZ.out) : p := h ⟨k⟩
theorem Zav {p q : Prop} (k : q) (h : BkZ p q := by
 intro kZ
 refine Bv ?_
 refine dn7 ?_
 refine dnl ?_; intro ρ
 refine Gl ?_
 have er : Am l id m = (l.set m.line.toNat (Af (Ai l m.line) id m).1, (Af (Ai l m.line) id m).2) := by unfold Am; rw [if_neg (by omega)]
 rw [er]
 revert ρ er
 exact kZ.out) : p := h ⟨k⟩
theorem ZbB {p q : Prop} (k : q) (h : BkZ p q := by
 intro kZ
 refine Zau ?_;intro hEB
 refine kp [6, 7, 8, 10, 239, 240, 241, 242, 243] ?_
 refine Zav ?_;intro ρ er
 revert hEB ρ er
 exact kZ.out) : p := h ⟨k⟩
theorem Za4 {p q : Prop} (k : q) (h : BkZ p q := by
 intro kZ
 refine Gm ?_
 refine bx ?_; intro b5
 refine Zaf ?_
 refine Ak Try.call46 rfl (fun w hs => Hh (l := l) hs mm) ?_; intro g13
 refine Ga1 ?_
 revert b5 g13
 exact kZ.out) : p := h ⟨k⟩
theorem ZW {p q : Prop} (k : q) (h : BkZ p q := by
 intro kZ
 refine rn2 ?_
 refine sc ?_
 exact kZ.out) : p := h ⟨k⟩
theorem Zcl {p q : Prop} (k : q) (h : BkZ p q := by
 intro kZ
 refine Gm ?_
 refine rn3 ?_
 refine sc ?_
 refine Gm ?_
 refine rn4 ?_
 refine sc ?_
 refine ZW ?_
 refine Gl ?_
 refine cq_ (blk bk 110 [vL, vi q.kind, vi q.line, vi q.value, vi id, vi home, vo, vd] :: row 50 vd ds :: foc 52 vL ls m.line.toNat [vi 0, vi 0, vi 0, vi l.serial, vi m.turn, vi m.turn, vi l.value] :: row 115 vo ms :: blk bm 115 m.cells :: LX) ?_
 refine jd_ (fun ρ S => blk bk 110 (bif S 19 then [vL, vi q.kind, vi q.line, vi q.value, vi id, vi home, vo, (Gh.dec (γ := Value) (ρ 16))] else [vL, vi q.kind, vi q.line, vi q.value, vi id, vi home, vo, vd]) :: (bif S 16 then row 50 (Gh.dec (γ := Value) (ρ 16)) (ds ++ [(⟨id, q, 0⟩ : Done)]) else row 50 vd ds) :: foc 52 vL ls m.line.toNat [vi 0, vi 0, vi 0, vi l.serial, vi m.turn, vi m.turn, vi l.value] :: row 115 vo ms :: blk bm 115 m.cells :: (LX)) ?_
 refine dn4 ?_
 exact kZ.out) : p := h ⟨k⟩
theorem Zag {p q : Prop} (k : q) (h : BkZ p q := by
 intro kZ
 refine djc (fun _ _ => Fx) ?_
 exact kZ.out) : p := h ⟨k⟩
theorem Za5 {p q : Prop} (k : q) (h : BkZ p q := by
 intro kZ
 have hlen := Bx h0 hs
 have hm0 := hm
 unfold Msg.wf An at hm0
 have hid0 := hid
 unfold An at hid0
 refine Ah Try.func56 rfl Try.ntmps56 rfl hs ?_
 revert hlen hm0 hid0
 exact kZ.out) : p := h ⟨k⟩
theorem ZbC {p q : Prop} (k : q) (h : BkZ p q := by
 intro kZ
 refine e_p (v := fun ρ => (Gh.dec (γ := Value × Value) (ρ 6)).1) (fun _ _ => q_x) (Ind.gh (h := fun g => ((Gh.dec (γ := Value × Value) g).1 : Value)) 6 1 rfl) (fun _ _ _ _ _ => rfl) ?_
 refine e_p (v := fun ρ => (Gh.dec (γ := Value × Value) (ρ 6)).2) (fun _ _ => q_x) (Ind.gh (h := fun g => ((Gh.dec (γ := Value × Value) g).2 : Value)) 6 1 rfl) (fun _ _ _ _ _ => rfl) ?_
 exact kZ.out) : p := h ⟨k⟩
theorem ZbD {p q : Prop} (k : q) (h : BkZ p q := by
 intro kZ
 refine e_p (v := fun ρ => (Gh.dec (γ := Value × Value) (ρ 6)).1) (fun _ _ => Di) (Ind.gh (h := fun g => ((Gh.dec (γ := Value × Value) g).1 : Value)) 6 0 rfl) (fun _ _ _ _ _ => rfl) ?_
 refine e_p (v := fun ρ => (Gh.dec (γ := Value × Value) (ρ 6)).2) (fun _ _ => Di) (Ind.gh (h := fun g => ((Gh.dec (γ := Value × Value) g).2 : Value)) 6 0 rfl) (fun _ _ _ _ _ => rfl) ?_
 exact kZ.out) : p := h ⟨k⟩
theorem Za6 {p q : Prop} (k : q) (h : BkZ p q := by
 intro kZ
 refine kp [0, 3, 4, 5, 6] ?_
 refine Aa ?_
 refine Ga3 ?_
 have er : Bj m o = ([], 0, 3) := Dj (by omega) (by omega)
 rw [er]
 revert er
 exact kZ.out) : p := h ⟨k⟩
theorem Zap {p q : Prop} (k : q) (h : BkZ p q := by
 intro kZ
 refine A3 ?_
 refine rn6 ?_
 refine gy ?_
 refine D6 ?_
 exact kZ.out) : p := h ⟨k⟩
theorem Zaw {p q : Prop} (k : q) (h : BkZ p q := by
 intro kZ
 refine dc (fun _ _ => Al rfl rfl (Dy (by omega))) ?_
 refine ZZ ?_
 refine dn2 ?_
 exact kZ.out) : p := h ⟨k⟩
theorem ZG {p q : Prop} (k : q) (h : BkZ p q := by
 intro kZ
 refine A4 ?_
 refine Gd1 ?_
 exact kZ.out) : p := h ⟨k⟩
theorem Za7 {p q : Prop} (k : q) (h : BkZ p q := by
 intro kZ
 refine dc (fun _ _ => Al rfl rfl (Dr (by omega))) ?_
 refine ZZ ?_
 refine dn9 ?_
 exact kZ.out) : p := h ⟨k⟩
theorem ZD {p q : Prop} (k : q) (h : BkZ p q := by
 intro kZ
 refine Gm ?_
 refine Ga2 ?_
 exact kZ.out) : p := h ⟨k⟩
theorem ZbE {p q : Prop} (k : q) (h : BkZ p q := by
 intro kZ
 refine ZaO ?_
 refine Aa ?_
 refine Zbl ?_
 refine Zb9 ?_
 refine Ga2 ?_
 exact kZ.out) : p := h ⟨k⟩
theorem Zbp {p q : Prop} (k : q) (h : BkZ p q := by
 intro kZ
 refine JC.slNil Line ?_
 refine JC.slNil Msg ?_
 refine Zaa ?_
 refine Aa ?_
 refine ob (Fg (cs := [.slice none 0 0, vi 0, vi 0, vi 0]) Nx) ?_
 refine s_B Try.sizeOf55 ?_
 refine Ga3 ?_
 exact kZ.out) : p := h ⟨k⟩
theorem ZM {p q : Prop} (k : q) (h : BkZ p q := by
 intro kZ
 refine Gm ?_
 refine Gb1 ?_
 exact kZ.out) : p := h ⟨k⟩
theorem ZbF {p q : Prop} (k : q) (h : BkZ p q := by
 intro kZ
 refine JC.conseq (L' := row 52 vL ls :: blk b68 110 [vL, vi q0.kind, vi q0.line, vi q0.value, vi id, vi home, .slice none 0 0, .slice none 0 0] :: blk b8 55 [.slice none 0 0, vi 0, vi 0, vi 0] :: blk b7 36 q.cells :: L) (fun w hs => Ae (D1 hl hlw (hs.pick pkk))) ?_
 exact kZ.out) : p := h ⟨k⟩
theorem Zbq {p q : Prop} (k : q) (h : BkZ p q := by
 intro kZ
 refine Hj (ls := ls) (l := l) (i := m.line) pkk hl (by omega) (by omega) (fun hlw hA => ?_)
 have hlw0 := hlw
 unfold Line.wf An at hlw0
 have honeL : (ep vL 7 m.line.toNat 0).oneCell' = true := hA.one
 refine Bv ?_
 revert hlw hA hlw0 honeL
 exact kZ.out) : p := h ⟨k⟩
theorem Zcm {p q : Prop} (k : q) (h : BkZ p q := by
 intro kZ
 refine kp [0, 1, 96, 97, 98, 99, 100, 101, 102, 103, 104] ?_
 refine Bv ?_
 refine dn9 ?_
 refine dtl ?_; intro ρ
 refine Ak Try.call73 rfl (fun w hs => E5 (vL := vL) (vd := vd) (q := q) (id := id) (home := home) (ms := ms) (kind := 10) (line := m.line) (serial := 0) (turn := m.turn) (value := 0) (LX := foc 52 vL ls m.line.toNat [vi l.state, vi l.value, vi l.want, vi l.serial, vi l.seen, vi l.gave, vi l.given] :: row 50 vd ds :: blk bm 115 m.cells :: LX) (Ae hs) hn (by unfold Msg.wf An; simp only; omega)) ?_; intro v105
 refine Gl ?_
 revert ρ v105
 exact kZ.out) : p := h ⟨k⟩
theorem ZH {p q : Prop} (k : q) (h : BkZ p q := by
 intro kZ
 refine Gb1 ?_
 refine Ga2 ?_
 exact kZ.out) : p := h ⟨k⟩
theorem Zbr {p q : Prop} (k : q) (h : BkZ p q := by
 intro kZ
 refine dj ?_
 refine dc (fun _ _ => Ks (v := vL) (i := m.line) Lo (hl := C3 (α := Line) (xs := ls) pkk)) ?_
 refine Zae ?_;intro ρ
 refine Gl ?_
 revert ρ
 exact kZ.out) : p := h ⟨k⟩
theorem ZN {p q : Prop} (k : q) (h : BkZ p q := by
 intro kZ
 refine rn2 ?_
 refine gy ?_
 exact kZ.out) : p := h ⟨k⟩
theorem Zax {p q : Prop} (k : q) (h : BkZ p q := by
 intro kZ
 refine Gd1 ?_
 refine rn1 ?_
 exact kZ.out) : p := h ⟨k⟩
theorem Za8 {p q : Prop} (k : q) (h : BkZ p q := by
 intro kZ
 refine rn7 ?_
 refine gy ?_
 exact kZ.out) : p := h ⟨k⟩
theorem Zcn {p q : Prop} (k : q) (h : BkZ p q := by
 intro kZ
 refine A3 ?_
 refine Zax ?_
 refine A3 ?_
 refine Gd10 ?_
 refine rn1 ?_
 refine C8 ?_
 refine Za8 ?_
 refine Ft ?_
 refine Gc2 ?_
 refine kp [0, 5, 6, 71, 72, 73, 74, 75] ?_
 refine Aa ?_
 refine li (α := Int) ([3, 4] : List Int) Hm rfl (fun j hj => ⟨⟨_, rfl, rfl, by unfold An; omega⟩, ⟨_, rfl, rfl, by unfold An; omega⟩, trivial⟩) ?_; intro v71
 refine rn1 ?_
 refine ob (Al rfl rfl (Ij (b := 2) (by decide) (by decide))) ?_
 rw [hz]
 refine rn1 ?_
 revert v71
 exact kZ.out) : p := h ⟨k⟩
theorem Zbs {p q : Prop} (k : q) (h : BkZ p q := by
 intro kZ
 refine dnl ?_; intro ρ
 refine Glc ?_
 refine kp [1, 5, 6, 7, 8, 41] ?_
 refine Aa ?_
 refine Ga3 ?_
 have er : Am l id m = (l, []) := by unfold Am; rw [if_pos (by omega)]
 rw [er]
 revert ρ er
 exact kZ.out) : p := h ⟨k⟩
theorem ZaQ {p q : Prop} (k : q) (h : BkZ p q := by
 intro kZ
 refine dc (fun _ _ => Al rfl rfl (Ay (by omega))) ?_
 exact kZ.out) : p := h ⟨k⟩
theorem Zbt {p q : Prop} (k : q) (h : BkZ p q := by
 intro kZ
 rw [Nat.testBit_lt_two_pow (show (ent x i).sharers.toNat < 2 ^ q by have : 2 ^ n ≤ 2 ^ q := Nat.pow_le_pow_right (by omega) (by omega); omega)]
 exact kZ.out) : p := h ⟨k⟩
theorem ZI {p q : Prop} (k : q) (h : BkZ p q := by
 intro kZ
 refine Aa ?_
 refine rn4 ?_
 exact kZ.out) : p := h ⟨k⟩
theorem ZQ {p q : Prop} (k : q) (h : BkZ p q := by
 intro kZ
 refine rn5 ?_
 refine gy ?_
 exact kZ.out) : p := h ⟨k⟩
theorem Zbd {p q : Prop} (k : q) (h : BkZ p q := by
 intro kZ
 refine A3 ?_
 refine ZQ ?_
 refine D6 ?_
 exact kZ.out) : p := h ⟨k⟩
theorem Zay {p q : Prop} (k : q) (h : BkZ p q := by
 intro kZ
 refine J.nil ?_
 refine Bc ?_
 exact kZ.out) : p := h ⟨k⟩
theorem Zab {p q : Prop} (k : q) (h : BkZ p q := by
 intro kZ
 refine Dz rfl ?_
 refine Zay ?_
 exact kZ.out) : p := h ⟨k⟩
theorem ZbG {p q : Prop} (k : q) (h : BkZ p q := by
 intro kZ
 refine Lr ([(⟨id, q, 0⟩ : Done)] : List Done) G7 rfl (fun _ => rfl) rfl (fun _ => rfl) rfl rfl (fun ρ R hd => Ml ⟨hid, hq.1, hq.2.1, hq.2.2, by unfold An; simp only; omega⟩) (fun _ _ _ _ _ => rfl) ?_
 exact kZ.out) : p := h ⟨k⟩
theorem ZbH {p q : Prop} (k : q) (h : BkZ p q := by
 intro kZ
 refine kp [2, 4, 7, 9, 20, 21, 22, 23, 24, 25, 26, 27, 28, 29, 30, 31, 32, 33, 34, 35, 36, 37, 38, 39, 40, 41, 42, 43, 44, 45, 46, 47, 48, 49, 50, 51, 52, 53, 54, 55, 56, 57, 58, 59, 60, 61, 62] ?_
 exact kZ.out) : p := h ⟨k⟩
theorem ZJ {p q : Prop} (k : q) (h : BkZ p q := by
 intro kZ
 refine Gm ?_
 refine rn1 ?_
 exact kZ.out) : p := h ⟨k⟩
theorem Zbe {p q : Prop} (k : q) (h : BkZ p q := by
 intro kZ
 refine JC.conseq (L' := foc 84 g13.1 l m.line.toNat (Entry.cells uo (Af (Ai l m.line) id m).1) :: row 3 uo (Af (Ai l m.line) id m).1.last :: blk b51 140 [ep g13.1 10 m.line.toNat 0, vi m.line, vi id, .slice none 0 0] :: row 115 (.slice none 0 0) (Af (Ai l m.line) id m).2 :: L) (fun w hs => by rw [eh]; exact Ae hs) ?_
 exact kZ.out) : p := h ⟨k⟩
theorem Zbu {p q : Prop} (k : q) (h : BkZ p q := by
 intro kZ
 have eh : (Af (Ai l m.line) id m) = ((Ai l m.line), []) := by unfold Af; rw [if_neg (by omega), if_neg (by omega), if_neg (by omega), if_neg (by omega), if_neg (by omega)]
 refine Zbe ?_
 refine Zau ?_;intro hEB
 refine Zav ?_;intro ρ er
 revert eh hEB ρ er
 exact kZ.out) : p := h ⟨k⟩
theorem ZO {p q : Prop} (k : q) (h : BkZ p q := by
 intro kZ
 refine ob (E1 rfl (decide_eq_true (by omega))) ?_
 refine ZE ?_
 exact kZ.out) : p := h ⟨k⟩
theorem ZX {p q : Prop} (k : q) (h : BkZ p q := by
 intro kZ
 refine ZE ?_
 refine A3 ?_
 refine ZE ?_
 exact kZ.out) : p := h ⟨k⟩
theorem ZbI {p q : Prop} (k : q) (h : BkZ p q := by
 intro kZ
 refine kp [1, 7, 8, 9, 10, 11, 12, 42, 43] ?_
 refine Aa ?_
 refine Gb2 ?_
 exact kZ.out) : p := h ⟨k⟩
theorem Zbv {p q : Prop} (k : q) (h : BkZ p q := by
 intro kZ
 refine Zbj ?_;intro b4 b7 b8 vL honeV b18
 refine ZA ?_
 refine Zap ?_
 refine Gc1 ?_
 refine Bv ?_
 refine dn9 ?_
 refine dnl ?_; intro ρ
 refine Gl ?_
 refine ZbI ?_
 refine ZG ?_
 revert b4 b7 b8 vL honeV b18 ρ
 exact kZ.out) : p := h ⟨k⟩
theorem Zco {p q : Prop} (k : q) (h : BkZ p q := by
 intro kZ
 refine rn2 ?_
 refine Zao ?_
 refine rn2 ?_
 refine ob (Al rfl rfl (Agu (by omega) (by omega))) ?_
 refine rn2 ?_
 refine ob (Al rfl rfl Aav) ?_
 refine ob (Al rfl rfl (Agv (by omega) (by omega) (by omega) (by omega))) ?_
 refine Zao ?_
 refine rn2 ?_
 refine Zao ?_
 refine rn2 ?_
 refine ob (Al rfl rfl I0) ?_
 refine Zao ?_
 refine rn2 ?_
 refine Zao ?_
 refine rn2 ?_
 refine ob (Al rfl rfl I0) ?_
 refine Zao ?_
 refine rn2 ?_
 refine Zao ?_
 refine rn2 ?_
 refine Zao ?_
 refine rn1 ?_
 exact kZ.out) : p := h ⟨k⟩
theorem ZaM {p q : Prop} (k : q) (h : BkZ p q := by
 intro kZ
 refine JC.know (p := uo.oneCell' = true) (fun w hs => G0 (.head _) hs) (fun honeo => ?_)
 refine Zcg ?_;intro hEw u hE hE0 hL hone hlin
 revert honeo hEw u hE hE0 hL hone hlin
 exact kZ.out) : p := h ⟨k⟩
theorem ZR {p q : Prop} (k : q) (h : BkZ p q := by
 intro kZ
 refine ZC ?_
 refine A3 ?_
 exact kZ.out) : p := h ⟨k⟩
theorem ZS {p q : Prop} (k : q) (h : BkZ p q := by
 intro kZ
 refine ZA ?_
 refine A3 ?_
 refine ZF ?_
 exact kZ.out) : p := h ⟨k⟩
theorem Zah {p q : Prop} (k : q) (h : BkZ p q := by
 intro kZ
 refine Gb1 ?_
 refine Ga3 ?_
 exact kZ.out) : p := h ⟨k⟩
theorem Zai {p q : Prop} (k : q) (h : BkZ p q := by
 intro kZ
 refine JC.rowNil 50 Done ?_
 exact kZ.out) : p := h ⟨k⟩
theorem Zcp {p q : Prop} (k : q) (h : BkZ p q := by
 intro kZ
 refine ZM ?_
 refine Zah ?_
 refine Zai ?_
 refine Bs (γ := Nat × Value) (fun g => g.1 ≤ l.length) (fun g => row 50 g.2 (Ax (l.take g.1) p) :: L) (fun _ => R) (fun g => [(1, vi p), (5, g.2), (8, v0), (9, vi (l.length : Int)), (10, vi (g.1 : Int))]) (fun g => l.length - g.1) (0, .slice none 0 0) (Nat.zero_le _) alT (fun w hs => Ae hs) ?_
 exact kZ.out) : p := h ⟨k⟩
theorem Zcq {p q : Prop} (k : q) (h : BkZ p q := by
 intro kZ
 have hbn : EB ({ e with need := 0, phase := 3 }) := en ▸ Gv hb
 refine Ak Try.call77 rfl (fun w hs => H8 (e := { e with need := 0, phase := 3 }) (u := u) (ms := ms) (line := line) (id := id) (LX := foc 84 vh xs i [vi e.value, vi e.owner, vi e.sharers, vi 3, vi e.who, vi e.serial, .bool e.alone, vi e.turn, vi 0, u] :: LX) (Ae hs) (Nm .hd rfl) hA hn hbn hl hid) ?_; intro v72
 refine Gl ?_
 rw [en]
 revert hbn v72
 exact kZ.out) : p := h ⟨k⟩
theorem ZbJ {p q : Prop} (k : q) (h : BkZ p q := by
 intro kZ
 refine Lr ([(⟨11, id, m.src, line, m.serial, 0, 0, false⟩ : Msg)] : List Msg) Nf rfl (fun _ => rfl) rfl (fun _ => rfl) rfl rfl (fun ρ R hd => Yj hwf) (fun _ _ _ _ _ => rfl) ?_
 exact kZ.out) : p := h ⟨k⟩
theorem Zaz {p q : Prop} (k : q) (h : BkZ p q := by
 intro kZ
 refine dc (fun _ _ => Al rfl rfl (Bh (by omega))) ?_
 exact kZ.out) : p := h ⟨k⟩
theorem Zbw {p q : Prop} (k : q) (h : BkZ p q := by
 intro kZ
 refine Gm ?_
 refine bx ?_; intro b1
 refine al_ (cs := [.slice none 0 0, .slice none 0 0, .slice none 0 0]) Try.zeroValue27 ?_; intro b2
 revert b1 b2
 exact kZ.out) : p := h ⟨k⟩
theorem Zbx {p q : Prop} (k : q) (h : BkZ p q := by
 intro kZ
 refine kp [0, 1, 2, 6, 19, 20, 21, 22, 23, 24, 25, 26, 27, 28, 29, 30, 31, 32, 33, 34, 35, 36, 37, 38, 39, 40] ?_
 exact kZ.out) : p := h ⟨k⟩
theorem ZP {p q : Prop} (k : q) (h : BkZ p q := by
 intro kZ
 refine Zag ?_
 refine djm ?_
 exact kZ.out) : p := h ⟨k⟩
theorem ZbK {p q : Prop} (k : q) (h : BkZ p q := by
 intro kZ
 refine J.know (p := va.oneCell' = true) (fun w hs => isSlice.one (hs.fact (.head _))) (fun honeva => ?_)
 refine rn4 ?_
 refine sc ?_
 refine Ga1 ?_
 refine kp [4, 5, 6, 7, 8, 9, 114, 115] ?_
 revert honeva
 exact kZ.out) : p := h ⟨k⟩
theorem ZbL {p q : Prop} (k : q) (h : BkZ p q := by
 intro kZ
 refine Z4 (fun _ => rfl) (by first | exact Ind.const _ | exact fun _ _ _ _ _ => rfl | exact Ind.self | exact Ind.gh _ 3 rfl) (fun _ _ _ _ => rfl) ?_
 refine dj ?_
 exact kZ.out) : p := h ⟨k⟩
theorem Zcr {p q : Prop} (k : q) (h : BkZ p q := by
 intro kZ
 refine dn4 ?_
 refine Jr (v := .agg q.cells.toArray) (fun ρ S hS hB hA => by have h19 : S 19 = false := hA 19 ⟨9, rfl⟩; simp only [h19, cond_false]; exact Fr (b := bk) (f := 1) (vs := [vL, vi q.kind, vi q.line, vi q.value, vi id, vi home, vo, vd]) 3 Try.isAgg36 Try.sizeOf36) (fun _ _ _ _ _ => rfl) ?_
 exact kZ.out) : p := h ⟨k⟩
theorem ZbM {p q : Prop} (k : q) (h : BkZ p q := by
 intro kZ
 refine Hj (ls := ls) (l := l) (i := q.line) pkk hl (by omega) (by omega) (fun hlw hA => ?_)
 have hlw0 := hlw
 unfold Line.wf An at hlw0
 have honeL : (ep vL 7 q.line.toNat 0).oneCell' = true := hA.one
 revert hlw hA hlw0 honeL
 exact kZ.out) : p := h ⟨k⟩
theorem ZbN {p q : Prop} (k : q) (h : BkZ p q := by
 intro kZ
 refine JC.shut (v := cY) (xs := x.cores) pkk ?_
 refine Zaa ?_
 refine ZA ?_
 refine s_B (cs := [cY, hY, va]) Try.sizeOf27 ?_
 refine Ga2 ?_
 exact kZ.out) : p := h ⟨k⟩
theorem ZbO {p q : Prop} (k : q) (h : BkZ p q := by
 intro kZ
 have hnt : Df x.frames s.n = (x.frames.eraseIdx s.n.toNat, Cg x.frames s.n, 0) := by unfold Df; rw [if_neg (show ¬ (s.n < 0 ∨ (x.frames.length : Int) ≤ s.n) from hc)]
 revert hnt
 exact kZ.out) : p := h ⟨k⟩
theorem Zcs {p q : Prop} (k : q) (h : BkZ p q := by
 intro kZ
 refine cq_ (foc 84 vh xs i [vi e.value, vi e.owner, vi e.sharers, vi e.phase, vi e.who, vi e.serial, .bool e.alone, vi e.turn, vi e.need, u] :: blk bk 140 [(ep vh 10 i 0), vi line, vi id, vo] :: row 115 vo ms :: row 3 u (e.last.set m.src.toNat m.serial) :: blk bm 115 m.cells :: LX) ?_
 exact kZ.out) : p := h ⟨k⟩
theorem Zct {p q : Prop} (k : q) (h : BkZ p q := by
 intro kZ
 refine rn1 ?_
 refine Ak Try.call70 rfl (fun w hs => Zc (vh := g13.1) (vo := .slice none 0 0) (u := uo) (i := m.line.toNat) (e := (Ai l m.line)) (ms := []) (line := m.line) (id := id) (xs := l) (m := m) (bm := b5) (LX := L) (Ae hs) hA honeo (by simp) hE hm.2.2.2.1 hid hm rfl (by omega) hL (by omega)) ?_; intro v69
 revert v69
 exact kZ.out) : p := h ⟨k⟩
theorem Zby {p q : Prop} (k : q) (h : BkZ p q := by
 intro kZ
 simp only [Int.toNat_natCast, hi]
 refine hI.way fun m' hm' => ?_
 rw [List.mem_singleton.1 hm']
 exact kZ.out) : p := h ⟨k⟩
theorem ZbP {p q : Prop} (k : q) (h : BkZ p q := by
 intro kZ
 refine dnl ?_; intro ρ
 refine Glc ?_
 have er : Af e id m = (e, []) := by unfold Af; rw [if_pos (by omega), if_pos (by unfold Fd; omega)]
 rw [er, List.append_nil]
 revert ρ er
 exact kZ.out) : p := h ⟨k⟩
theorem Zaj {p q : Prop} (k : q) (h : BkZ p q := by
 intro kZ
 refine ob (Al rfl rfl (Dx rfl)) ?_
 exact kZ.out) : p := h ⟨k⟩
theorem Zcu {p q : Prop} (k : q) (h : BkZ p q := by
 intro kZ
 refine cq_ (foc 52 vL ls m.line.toNat [vi l.state, vi l.value, vi l.want, vi l.serial, vi l.seen, vi l.gave, vi l.given] :: blk bk 110 [vL, vi q.kind, vi q.line, vi q.value, vi id, vi home, vo, vd] :: row 115 vo ms :: row 50 vd ds :: blk bm 115 m.cells :: LX) ?_
 exact kZ.out) : p := h ⟨k⟩
theorem ZT {p q : Prop} (k : q) (h : BkZ p q := by
 intro kZ
 refine Aa ?_
 refine Ee rfl ?_
 exact kZ.out) : p := h ⟨k⟩
theorem Zcv {p q : Prop} (k : q) (h : BkZ p q := by
 intro kZ
 refine rn2 ?_
 refine A4 ?_
 refine Glc ?_
 refine kp [3, 4, 5, 6, 7, 8, 9, 10, 39, 40, 41, 42, 43, 44, 45, 46, 47, 48, 49, 50, 51, 52, 53, 54, 55, 56, 57, 58, 59, 60, 61, 62, 63, 64, 65, 66, 67, 68, 69, 70, 71, 72, 73, 74, 75, 76, 77] ?_
 refine ZA ?_
 exact kZ.out) : p := h ⟨k⟩
theorem ZU {p q : Prop} (k : q) (h : BkZ p q := by
 intro kZ
 refine Bv ?_
 refine dn8 ?_
 exact kZ.out) : p := h ⟨k⟩
theorem Zak {p q : Prop} (k : q) (h : BkZ p q := by
 intro kZ
 refine Bv ?_
 refine dn6 ?_
 exact kZ.out) : p := h ⟨k⟩
theorem ZbQ {p q : Prop} (k : q) (h : BkZ p q := by
 intro kZ
 refine JC.shut (v := vL) (xs := ls) .hd ?_
 refine JC.slNil Msg ?_
 refine Zaa ?_
 exact kZ.out) : p := h ⟨k⟩
theorem ZbR {p q : Prop} (k : q) (h : BkZ p q := by
 intro kZ
 refine kp [0, 1, 4, 5, 25, 26, 27, 28, 29, 30, 31, 32, 33, 34, 35, 36, 37, 38, 39, 40, 41, 42, 43, 44, 45, 46, 47, 48, 49] ?_
 exact kZ.out) : p := h ⟨k⟩
theorem ZbS {p q : Prop} (k : q) (h : BkZ p q := by
 intro kZ
 refine Hg ?_
 refine Bc ?_
 refine Aa ?_
 refine J5 rfl rfl (Xr (by omega) (by omega)) ?_
 refine Ee rfl ?_
 refine J.nil ?_
 exact kZ.out) : p := h ⟨k⟩
theorem Zcw {p q : Prop} (k : q) (h : BkZ p q := by
 intro kZ
 refine Gb1 ?_
 refine rn2 ?_
 refine ob (Al rfl rfl I0) ?_
 refine Zao ?_
 refine rn1 ?_
 refine Zao ?_
 refine li (α := UInt8) ([u8 (L7 (Dm m) / 256), u8 (L7 (Dm m))] : List UInt8) Pq rfl (fun j hj => ⟨⟨_, rfl, rfl⟩, ⟨_, rfl, rfl⟩, trivial⟩) ?_; intro v49
 revert v49
 exact kZ.out) : p := h ⟨k⟩
theorem Zcx {p q : Prop} (k : q) (h : BkZ p q := by
 intro kZ
 refine J.know (p := v39.1.oneCell' = true ∧ v39.2.1.oneCell' = true ∧ v39.2.2.1.oneCell' = true) (fun w hs => ⟨isSlice.one (hs.fact (.head _)), isSlice.one (hs.fact (.tail _ (.head _))), isSlice.one (hs.fact (.tail _ (.tail _ (.head _))))⟩) (fun h12 => ?_)
 revert h12
 exact kZ.out) : p := h ⟨k⟩
theorem Zbz {p q : Prop} (k : q) (h : BkZ p q := by
 intro kZ
 refine ob (Fg (cs := zMsg.cells) C7) ?_
 refine s_B Try.sizeOf115 ?_
 refine Ga1 ?_
 exact kZ.out) : p := h ⟨k⟩
theorem ZaR {p q : Prop} (k : q) (h : BkZ p q := by
 intro kZ
 refine De ?_
 refine ZF ?_
 refine A3 ?_
 refine ZF ?_
 exact kZ.out) : p := h ⟨k⟩
theorem Zcy {p q : Prop} (k : q) (h : BkZ p q := by
 intro kZ
 refine kp [2, 7, 8, 35, 36, 37, 38, 39, 40, 41, 42, 43, 44, 45, 46, 47, 48, 49, 50, 51, 52, 53, 54, 55, 56] ?_
 refine ZA ?_
 refine C8 ?_
 refine ZF ?_
 refine C8 ?_
 refine ZF ?_
 refine ob (Gb (i := 1) L8) ?_
 refine ZN ?_
 exact kZ.out) : p := h ⟨k⟩
theorem Zac {p q : Prop} (k : q) (h : BkZ p q := by
 intro kZ
 refine Gm ?_
 refine Ga3 ?_
 exact kZ.out) : p := h ⟨k⟩
theorem Zcz {p q : Prop} (k : q) (h : BkZ p q := by
 intro kZ
 refine Um i (v := hv) mm (by omega) (fun hwe ue honeu => ?_)
 refine ZA ?_
 refine al_ (cs := [vi 0, vi 0, vi 0, vi 0, vi 0, vi 0, .bool false, vi 0, vi 0, .slice none 0 0]) Try.zeroValue84 ?_; intro b4
 refine s_B (cs := Entry.cells ue (ent x i)) Try.sizeOf84 ?_
 refine Zac ?_
 revert hwe ue honeu b4
 exact kZ.out) : p := h ⟨k⟩
theorem ZbT {p q : Prop} (k : q) (h : BkZ p q := by
 intro kZ
 refine Bv ?_
 refine dn7 ?_
 refine djc (fun _ _ => Al rfl rfl (Dx (by omega))) ?_
 refine djm ?_
 refine dn16 ?_
 exact kZ.out) : p := h ⟨k⟩
theorem ZaS {p q : Prop} (k : q) (h : BkZ p q := by
 intro kZ
 refine Zak ?_
 refine Zat ?_
 refine djc (fun _ _ => Di) ?_
 refine Zbi ?_;intro ρ
 revert ρ
 exact kZ.out) : p := h ⟨k⟩
theorem ZbU {p q : Prop} (k : q) (h : BkZ p q := by
 intro kZ
 refine Bv ?_
 refine dn7 ?_
 refine dj ?_
 refine dc (fun _ _ => Ks (v := vL) (i := q.line) Lo (hl := C3 (α := Line) (xs := ls) pkk)) ?_
 refine Zae ?_;intro ρ
 revert ρ
 exact kZ.out) : p := h ⟨k⟩
theorem ZaT {p q : Prop} (k : q) (h : BkZ p q := by
 intro kZ
 refine dn9 ?_
 refine djf ?_
 refine Zae ?_;intro ρ
 refine Zb8 ?_
 refine Za3 ?_
 refine ZaC ?_;intro ρ
 refine Zbu ?_;intro eh hEB ρ er
 revert eh hEB ρ er
 exact kZ.out) : p := h ⟨k⟩
theorem Zbf {p q : Prop} (k : q) (h : BkZ p q := by
 intro kZ
 refine gy ?_
 refine ZO ?_
 refine Zap ?_
 refine ZX ?_
 refine De ?_
 exact kZ.out) : p := h ⟨k⟩
theorem ZbV {p q : Prop} (k : q) (h : BkZ p q := by
 intro kZ
 refine kp [1, 2, 4, 7, 8, 9, 10, 11, 47, 48, 49, 50, 51, 52, 53, 54, 55, 56, 57, 58, 59, 60, 61] ?_
 refine ZL ?_
 exact kZ.out) : p := h ⟨k⟩
theorem Zc0 {p q : Prop} (k : q) (h : BkZ p q := by
 intro kZ
 refine ZbQ ?_
 refine ZL ?_
 refine ob (Fr 4 Try.isAgg55 Try.sizeOf55) ?_
 refine s_B (cs := [vL, vi q.kind, vi q.line, vi q.value]) Try.sizeOf55 ?_
 refine Ga2 ?_
 have er : (Ac ⟨ls, q⟩ id home m) = (⟨ls, q⟩, [], []) := U3 hg
 rw [er]
 revert er
 exact kZ.out) : p := h ⟨k⟩
theorem Zc1 {p q : Prop} (k : q) (h : BkZ p q := by
 intro kZ
 refine Gb1 ?_
 refine rn3 ?_
 refine ob (Al rfl rfl (Vp (b := 2) (by omega) (by decide))) ?_
 refine rn6 ?_
 refine ob (Al rfl rfl (Ij (b := r.x.frames.length) (by omega) (by omega))) ?_
 refine rn1 ?_
 exact kZ.out) : p := h ⟨k⟩
theorem ZbW {p q : Prop} (k : q) (h : BkZ p q := by
 intro kZ
 have hnt : Df x.frames s.n = ([], [], 5) := by unfold Df; rw [if_pos (show s.n < 0 ∨ (x.frames.length : Int) ≤ s.n from hc)]
 revert hnt
 exact kZ.out) : p := h ⟨k⟩
theorem Zbg {p q : Prop} (k : q) (h : BkZ p q := by
 intro kZ
 refine ob (Al rfl rfl (Ju (by decide))) ?_
 refine Glc ?_
 exact kZ.out) : p := h ⟨k⟩
theorem ZaU {p q : Prop} (k : q) (h : BkZ p q := by
 intro kZ
 have hst := St.begin W
 have hkeep : Jl W ∈ [Jl W] := List.Mem.head _
 revert hst hkeep
 exact kZ.out) : p := h ⟨k⟩
theorem ZY {p q : Prop} (k : q) (h : BkZ p q := by
 intro kZ
 refine ZR ?_
 refine ZN ?_
 exact kZ.out) : p := h ⟨k⟩
theorem Zc2 {p q : Prop} (k : q) (h : BkZ p q := by
 intro kZ
 refine JC.open0 (xs := l) (v := v0) k mm (by omega) (fun hdw => ?_)
 refine ZA ?_
 refine al_ (cs := zDone.cells) Try.zeroValue50 ?_; intro b7
 refine s_B (cs := (l.getD k zDone).cells) Try.sizeOf50 ?_
 refine Gm ?_
 refine Ga4 ?_
 revert hdw b7
 exact kZ.out) : p := h ⟨k⟩
theorem ZaN {p q : Prop} (k : q) (h : BkZ p q := by
 intro kZ
 refine ZG ?_
 refine ZG ?_
 refine C8 ?_
 exact kZ.out) : p := h ⟨k⟩
theorem ZbX {p q : Prop} (k : q) (h : BkZ p q := by
 intro kZ
 refine ZU ?_
 refine djc (fun _ _ => Al rfl rfl (La (by omega))) ?_
 refine djm ?_
 refine dn4 ?_
 exact kZ.out) : p := h ⟨k⟩
theorem ZaV {p q : Prop} (k : q) (h : BkZ p q := by
 intro kZ
 have hCq := hC q hq
 have hl : e'.last q = e.last q := by rw [f8]
 revert hCq hl
 exact kZ.out) : p := h ⟨k⟩
theorem ZbY {p q : Prop} (k : q) (h : BkZ p q := by
 intro kZ
 have hwf : ((⟨11, id, m.src, line, m.serial, 0, 0, false⟩ : Msg) : Msg).wf := by unfold Msg.wf An; simp only; omega
 revert hwf
 exact kZ.out) : p := h ⟨k⟩
theorem ZbZ {p q : Prop} (k : q) (h : BkZ p q := by
 intro kZ
 refine JC.shut (v := v74) (xs := [Ba 8 id home m.line m.turn 0]) pkk ?_
 refine Zaa ?_
 exact kZ.out) : p := h ⟨k⟩
theorem Zad {p q : Prop} (k : q) (h : BkZ p q := by
 intro kZ
 refine ZA ?_
 refine Dt ?_
 exact kZ.out) : p := h ⟨k⟩
theorem Zca {p q : Prop} (k : q) (h : BkZ p q := by
 intro kZ
 refine kp [0, 1, 2, 6, 19, 20, 21, 22, 23, 24, 25, 26, 27, 28, 29, 30, 31, 32, 33, 34, 35] ?_
 exact kZ.out) : p := h ⟨k⟩
theorem Zal {p q : Prop} (k : q) (h : BkZ p q := by
 intro kZ
 refine Aa ?_
 refine rn5 ?_
 exact kZ.out) : p := h ⟨k⟩
theorem Zb0 {p q : Prop} (k : q) (h : BkZ p q := by
 intro kZ
 refine s_B (cs := [v39.1, v39.2.1, v39.2.2.1]) Try.sizeOf27 ?_
 exact kZ.out) : p := h ⟨k⟩
theorem Zcb {p q : Prop} (k : q) (h : BkZ p q := by
 intro kZ
 refine kp [8, 9, 10, 11, 130, 131, 132, 133, 134, 135, 136, 137, 138, 139, 140, 141] ?_
 exact kZ.out) : p := h ⟨k⟩
theorem ZaW {p q : Prop} (k : q) (h : BkZ p q := by
 intro kZ
 simp only [joinedFacts, Bool.and_eq_true]
 exact kZ.out) : p := h ⟨k⟩
theorem Zam {p q : Prop} (k : q) (h : BkZ p q := by
 intro kZ
 refine ZM ?_
 refine rn1 ?_
 exact kZ.out) : p := h ⟨k⟩
theorem ZaX {p q : Prop} (k : q) (h : BkZ p q := by
 intro kZ
 refine ZaQ ?_
 refine ZP ?_
 refine dn6 ?_
 exact kZ.out) : p := h ⟨k⟩
theorem Zc3 {p q : Prop} (k : q) (h : BkZ p q := by
 intro kZ
 refine ZR ?_
 refine Za8 ?_
 refine ob (Al (a := 8) (b := ((l.getD n.toNat []).length : Int)) rfl rfl (Afm (by omega) (by omega))) ?_
 refine gy ?_
 exact kZ.out) : p := h ⟨k⟩
theorem Zcc {p q : Prop} (k : q) (h : BkZ p q := by
 intro kZ
 refine kp [1, 2, 3, 4, 5, 6, 7, 8, 9, 10, 11, 12, 13, 14, 15, 16, 17, 18, 19, 20] ?_
 exact kZ.out) : p := h ⟨k⟩
theorem ZaY {p q : Prop} (k : q) (h : BkZ p q := by
 intro kZ
 refine ZA ?_
 refine Zbd ?_
 refine ZX ?_
 exact kZ.out) : p := h ⟨k⟩
theorem Zaq {p q : Prop} (k : q) (h : BkZ p q := by
 intro kZ
 refine Aa ?_
 refine Ga2 ?_
 exact kZ.out) : p := h ⟨k⟩
theorem Zc4 {p q : Prop} (k : q) (h : BkZ p q := by
 intro kZ
 refine cq_ (blk b3 38 s.cells :: blk b 27 [cv, hv, fv] :: L) ?_
 refine jd_ (fun ρ S => blk b3 38 s.cells :: blk b 27 [cv, hv, fv] :: L) ?_
 refine dn6 ?_
 exact kZ.out) : p := h ⟨k⟩
theorem Zbh {p q : Prop} (k : q) (h : BkZ p q := by
 intro kZ
 refine s_B (cs := [cv, hv, fv]) Try.sizeOf27 ?_
 exact kZ.out) : p := h ⟨k⟩
theorem Zc5 {p q : Prop} (k : q) (h : BkZ p q := by
 intro kZ
 refine dn11 ?_
 refine es_ 34 0 [] [] (fun ρ => b2) (fun ρ => zConfig.cells) (fun ρ => [vi (x.cores.length : Int), vi (x.home.length : Int)]) Try.sizeOf34 ?_
 refine dnl ?_; intro ρ
 revert ρ
 exact kZ.out) : p := h ⟨k⟩
theorem Zc6 {p q : Prop} (k : q) (h : BkZ p q := by
 intro kZ
 refine dc (fun _ _ => Fz (a := (((Ai l m.line).need.toNat / 2 ^ m.src.toNat : Nat) : Int)) (b := 1) (Tp (by omega) (by omega) (by omega) (by omega))) ?_
 exact kZ.out) : p := h ⟨k⟩
theorem Zc7 {p q : Prop} (k : q) (h : BkZ p q := by
 intro kZ
 refine dn8 ?_
 refine es_ 55 0 [] [] (fun ρ => b8) (fun ρ => [.slice none 0 0, vi 0, vi 0, vi 0]) (fun ρ => [vL, vi 0, vi 0, vi 0]) Try.sizeOf55 ?_
 exact kZ.out) : p := h ⟨k⟩
theorem Zcd {p q : Prop} (k : q) (h : BkZ p q := by
 intro kZ
 refine dc (fun _ _ => D8 (hc := I1 (xs := e.last) pkk (by omega)) Try.isAgg3) ?_
 exact kZ.out) : p := h ⟨k⟩
theorem Zc8 {p q : Prop} (k : q) (h : BkZ p q := by
 intro kZ
 refine ZH ?_
 have e1 := Vk (l := l) (k := k) (by omega) ht17
 refine A7 (k + 1, v21) (by show k + 1 ≤ l.length; omega) (by show l.length - (k + 1) < l.length - k; omega) alT (fun w hs => ?_)
 revert e1 w hs
 exact kZ.out) : p := h ⟨k⟩
theorem Zce {p q : Prop} (k : q) (h : BkZ p q := by
 intro kZ
 refine al_ (cs := [.slice none 0 0, .slice none 0 0, .slice none 0 0]) Try.zeroValue27 ?_; intro b5
 revert b5
 exact kZ.out) : p := h ⟨k⟩
theorem Zc9 {p q : Prop} (k : q) (h : BkZ p q := by
 intro kZ
 refine ZD ?_
 have e1 := Vl (l := l) (k := k) (by omega) ht17
 refine A7 (k + 1, v) (by show k + 1 ≤ l.length; omega) (by show l.length - (k + 1) < l.length - k; omega) alT (fun w hs => ?_)
 revert e1 w hs
 exact kZ.out) : p := h ⟨k⟩
theorem Zb1 {p q : Prop} (k : q) (h : BkZ p q := by
 intro kZ
 refine A3 ?_
 refine rn6 ?_
 refine gy ?_
 refine J8 ?_
 exact kZ.out) : p := h ⟨k⟩
theorem ZaZ {p q : Prop} (k : q) (h : BkZ p q := by
 intro kZ
 have hn := h.n1
 have hb := h.bit i hi
 have hgi := h.gi i hi
 revert hn hb hgi
 exact kZ.out) : p := h ⟨k⟩
theorem ZcA {p q : Prop} (k : q) (h : BkZ p q := by
 intro kZ
 refine C8 ?_
 refine ZE ?_
 refine ob (D8 (c := .bool false) Try.isAgg4 (hc := Bt pkk (by show some (Value.bool m.alone) = _; rw [hal]))) ?_
 exact kZ.out) : p := h ⟨k⟩
theorem ZcB {p q : Prop} (k : q) (h : BkZ p q := by
 intro kZ
 have hb1 := E8 (He (by omega) hb.1) (show p < 4 by omega)
 have hb2 := E8 (He (by omega) hb.2) (show p < 4 by omega)
 have hown := hgi.f23 (by show 2 ≤ (ent x i).phase; omega)
 simp only [ab] at hown
 revert hb1 hb2 hown
 exact kZ.out) : p := h ⟨k⟩
theorem Za0 {p q : Prop} (k : q) (h : BkZ p q := by
 intro kZ
 refine Gb1 ?_
 refine rn1 ?_
 exact kZ.out) : p := h ⟨k⟩
theorem ZcC {p q : Prop} (k : q) (h : BkZ p q := by
 intro kZ
 refine C8 ?_
 refine ZE ?_
 refine ob (D8 (c := .bool true) Try.isAgg4 (hc := Bt pkk (by show some (Value.bool m.alone) = _; rw [hal]))) ?_
 exact kZ.out) : p := h ⟨k⟩
theorem Za1 {p q : Prop} (k : q) (h : BkZ p q := by
 intro kZ
 refine Gmc ?_
 refine rn1 ?_
 exact kZ.out) : p := h ⟨k⟩
theorem ZcD {p q : Prop} (k : q) (h : BkZ p q := by
 intro kZ
 refine A7 (k + 1, v77, told) ⟨by show k + 1 ≤ m.length; omega, by show told = _; rw [e2, ht, e3]⟩ (by show m.length - (k + 1) < m.length - k; omega) alT (fun w hs => ?_)
 revert w hs
 exact kZ.out) : p := h ⟨k⟩
theorem ZcE {p q : Prop} (k : q) (h : BkZ p q := by
 intro kZ
 refine h.home hi (by simpa using hla) ⟨hb.1, ⟨by simp only; omega, by have : 0 < 2 ^ n := Nat.two_pow_pos n; simp only; omega⟩⟩ ?_
 exact kZ.out) : p := h ⟨k⟩
theorem Zb2 {p q : Prop} (k : q) (h : BkZ p q := by
 intro kZ
 refine Ga3 ?_
 have er : Bj m o = ([], 0, 1) := Hl (by omega)
 rw [er]
 revert er
 exact kZ.out) : p := h ⟨k⟩
theorem ZcF {p q : Prop} (k : q) (h : BkZ p q := by
 intro kZ
 have hnx : Az ⟨x.cores, x.home, fs⟩ = (n : Int) := by unfold Az; simp only; rw [h.nc]
 rw [hnx]
 have hcn : (Cz n nl).cores = (n : Int) := rfl
 have hln : (Cz n nl).lines = (nl : Int) := rfl
 revert hnx hcn hln
 exact kZ.out) : p := h ⟨k⟩
theorem ZcG {p q : Prop} (k : q) (h : BkZ p q := by
 intro kZ
 refine Ga1 ?_
 have er : Lm x node = 5 ∧ Ez x node = x.frames := by unfold Lm Ez Az; rw [if_pos (by omega), if_pos (by omega)]; exact ⟨rfl, rfl⟩
 rw [er.1, er.2]
 revert er
 exact kZ.out) : p := h ⟨k⟩
theorem ZcH {p q : Prop} (k : q) (h : BkZ p q := by
 intro kZ
 refine A7 (k + 1, v77, m.getD k 0) ⟨by show k + 1 ≤ m.length; omega, by show _ = _; rw [e2]⟩ (by show m.length - (k + 1) < m.length - k; omega) alT (fun w hs => ?_)
 revert w hs
 exact kZ.out) : p := h ⟨k⟩
theorem Za2 {p q : Prop} (k : q) (h : BkZ p q := by
 intro kZ
 refine ZC ?_
 refine Dt ?_
 exact kZ.out) : p := h ⟨k⟩
theorem ZcI {p q : Prop} (k : q) (h : BkZ p q := by
 intro kZ
 refine Zaj ?_
 refine Glc ?_
 refine JC.know (p := va.oneCell' = true) (fun w hs => isSlice.one (hs.fact (mm (f := sl va (x.frames.eraseIdx s.n.toNat))))) (fun honeva => ?_)
 revert honeva
 exact kZ.out) : p := h ⟨k⟩
theorem ZcJ {p q : Prop} (k : q) (h : BkZ p q := by
 intro kZ
 refine kp [7, 8, 9, 10, 11, 12, 13, 119, 120, 121, 122, 123, 124, 125, 126, 127, 128, 129, 130, 131, 132, 133, 134, 135, 136] ?_
 exact kZ.out) : p := h ⟨k⟩
theorem Zar {p q : Prop} (k : q) (h : BkZ p q := by
 intro kZ
 refine Zag ?_
 refine Zae ?_;intro ρ
 revert ρ
 exact kZ.out) : p := h ⟨k⟩
theorem Za9 {p q : Prop} (k : q) (h : BkZ p q := by
 intro kZ
 refine Gm ?_
 refine Ga5 ?_
 exact kZ.out) : p := h ⟨k⟩
theorem ZaA {p q : Prop} (k : q) (h : BkZ p q := by
 intro kZ
 refine Aa ?_
 refine rn6 ?_
 exact kZ.out) : p := h ⟨k⟩
theorem ZcK {p q : Prop} (k : q) (h : BkZ p q := by
 intro kZ
 refine ob (Al rfl rfl (Ay (by rw [er]))) ?_
 refine ZF ?_
 refine ob (Al rfl rfl (Ay (by rw [er]; rfl))) ?_
 refine Ga2 ?_
 exact kZ.out) : p := h ⟨k⟩
theorem ZcL {p : Prop} (h : p := by
 refine ZaW ?_
 exact ⟨⟨⟨⟨⟨⟨⟨⟨⟨⟨⟨⟨⟨⟨⟨⟨⟨⟨⟨⟨⟨⟨⟨⟨⟨⟨⟨⟨⟨⟨⟨closed1, Hf⟩, F7⟩, by kernel_rfl⟩, by kernel_rfl⟩, rfl⟩, F4⟩, rfl⟩, F8⟩, closed10⟩, closed11⟩, closed12⟩, closed13⟩, by kernel_rfl⟩, by kernel_rfl⟩, by kernel_rfl⟩, by kernel_rfl⟩, by kernel_rfl⟩, by kernel_rfl⟩, by kernel_rfl⟩, by kernel_rfl⟩, by kernel_rfl⟩, by rw [F5]; rfl⟩, rfl⟩, Ff⟩, G4⟩, by rw [Kv]; rfl⟩, by rw [Kx]; rfl⟩, by kernel_rfl⟩, by kernel_rfl⟩, by kernel_rfl⟩, by kernel_rfl⟩) : p := h
theorem ZcM {p : Prop} (h : p := by
 intro ht95
 refine Zcl ?_
 refine Jr (v := vd) (fun ρ S hS hB hA => by have h19 : S 19 = false := hA 19 ⟨0, rfl⟩; simp only [h19, cond_false]; exact D8 (hc := Bt pkk (by repeat (first | exact rfl | refine Da rfl ?_))) Try.isAgg29) (fun _ _ _ _ _ => rfl) ?_
 refine dn3 ?_
 refine Jr (v := vi id) (fun ρ S hS hB hA => by have h19 : S 19 = false := hA 19 ⟨0, rfl⟩; simp only [h19, cond_false]; exact D8 (hc := Bt pkk (by repeat (first | exact rfl | refine Da rfl ?_))) Try.isAgg3) (fun _ _ _ _ _ => rfl) ?_
 refine Zcr ?_
 first | refine epc (fun _ _ => Fg Hy) ?_ | refine epc (fun _ _ => Fs Hy) ?_ | refine epp (fun _ _ => Fg Hy) ?_ | refine epp (fun _ _ => Fs Hy) ?_
 refine ZbG ?_
 refine Eo (e := 50) (xs := ds) (ys := [(⟨id, q, 0⟩ : Done)]) (v := vd) G7 (fun _ => rfl) (fun _ => rfl) rfl (by decide) (fun ρ R hd => (hd.dep (it := ⟨15, _, _, _, _⟩) (by repeat (first | exact List.Mem.head _ | refine List.Mem.tail _ ?_)) ⟨9, rfl⟩ (List.Mem.head _))) (by have : maxN = 16777216 := rfl; simp only [List.length_cons, List.length_nil]; omega) (fun ρ g S hS hB hA => ?_) ?_
 ·have ui : upS S 16 16 = true := rfl; have u19 : upS S 16 19 = S 19 := rfl; have h19 : S 19 = false := hA 19 ⟨0, rfl⟩; have rs : (Gh.dec (γ := Value) (Rho.set ρ 16 (Gh.enc g) 16)) = g := rfl
  simp only [ui, hS, u19, h19, rs, cond_true, cond_false]
  exact pex
 refine dn2 ?_
 refine D3 (T0 := 110) (f := 7) (vs := fun ρ => [vL, vi q.kind, vi q.line, vi q.value, vi id, vi home, vo, vd]) (v := fun ρ => (Gh.dec (γ := Value) (ρ 16))) (fun ρ => bk) Try.sizeOf29 (fun _ => rfl) (fun _ => rfl) (fun ρ S R w L9 hB hd hs => by have h16 : S 16 = true := hB 16 ⟨9, rfl⟩; simp only [h16, cond_true] at hs; exact Bm pkk hs) (fun _ => rfl) (fun ρ g S hS hB hA => ?_) ?_
 ·have ui : upS S 19 19 = true := rfl; have u16 : upS S 19 16 = S 16 := rfl; have r16 : Rho.set ρ 19 g 16 = ρ 16 := rfl
  simp only [ui, hS, u16, r16, cond_true, cond_false]
  exact pex
 refine Zcj ?_;intro v120 v121 ρ v142 ef er
 refine A1 (.inl rfl) (fun B w hs => Gf rfl _ w) (fun w hs => ⟨(v142, v121), rfl, Ae (C9 ({ l with seen := m.turn, gave := m.turn, given := l.value, state := 0, value := 0, want := 0 }) (by unfold Line.wf An; simp only; omega) (hs.pick pkk))⟩)) : p := h
theorem ZcN {p : Prop} (h : p := by
 rcases (show s = 0 ∨ s = 1 ∨ s = 2 ∨ s = 3 ∨ s = 4 ∨ s = 5 ∨ s = 6 ∨ s = 7 ∨ s = 8 ∨ s = 9 ∨ s = 10 ∨ s = 11 ∨ s = 12 ∨ s = 13 ∨ s = 14 ∨ s = 15 by omega) with h | h | h | h | h | h | h | h | h | h | h | h | h | h | h | h <;> rcases (show k = 0 ∨ k = 1 ∨ k = 2 ∨ k = 3 by omega) with g | g | g | g <;> subst h <;> subst g <;> rfl) : p := h
theorem ZcO {p : Prop} (h : p := by
 refine Ao ?_ (fun w hs => hs)
 exact meT) : p := h
theorem ZcP {p : Prop} (h : p := by
 refine C8 ?_
 refine Gc1 ?_
 refine ZV ?_
 refine Zai ?_
 have hkd : m.kind = 5 ∨ m.kind = 6 := by omega
 refine ZC ?_
 refine Ak Try.call74 rfl (fun w hs => Rz (vL := vL) (vo := .slice none 0 0) (vd := .slice none 0 0) (bk := b18) (bm := b7) (q := q) (id := id) (home := home) (ls := ls) (l := l) (ms := []) (ds := []) (m := m) (LX := blk b8 55 [.slice none 0 0, vi 0, vi 0, vi 0] :: L) (Ae hs) hl (by omega) (by omega) hm hid hhome (by simp) (by simp) hk.wwf hkd) ?_; intro ⟨g1, g2⟩
 refine J.conseq (L' := blk b18 110 [vL, vi (Ac ⟨ls, q⟩ id home m).1.wait.kind, vi (Ac ⟨ls, q⟩ id home m).1.wait.line, vi (Ac ⟨ls, q⟩ id home m).1.wait.value, vi id, vi home, g1, g2] :: row 52 vL (Ac ⟨ls, q⟩ id home m).1.lines :: row 115 g1 (Ac ⟨ls, q⟩ id home m).2.1 :: row 50 g2 (Ac ⟨ls, q⟩ id home m).2.2 :: blk b8 55 [.slice none 0 0, vi 0, vi 0, vi 0] :: L) (fun w hs => by rw [List.nil_append, List.nil_append] at hs; exact Ae hs) ?_
 refine Zb3 ?_;intro ρ
 exact Eu (vL, g1, g2) Try.isAgg55 Try.sizeOf55) : p := h
theorem ZcQ {p : Prop} (h : p := by
 constructor
 ·have g0 := hG.own; have g1 := hG.own; grind
 ·have g0 := hG.own; have g1 := hG.ph; grind
 ·have g0 := hG.own; have g1 := hG.idle; grind
 ·have g0 := hG.own; have g1 := hG.whor; grind
 ·have g0 := hG.own; have g1 := hG.f1; grind
 ·have g0 := hG.own; have g1 := hG.f23; grind
 ·intro h2; omega
 ·have g0 := hG.own; have g1 := hG.al; grind
 ·have g0 := hG.own; have g1 := hG.tu; grind
 ·have g0 := hG.own; have g1 := hG.va; grind
 ·have g0 := hG.own; have g1 := hG.se; grind) : p := h
theorem ZcR {p : Prop} (h : p := by
 have hl : d.length = 4 := Iw h
 have hc := fun x hx => Py h (x := x) hx
 obtain ⟨x1, x2, x3, x4, rfl⟩ : ∃ x1 x2 x3 x4, d = [x1, x2, x3, x4] := by
  match d, hl with
  | [a, b, c, e], _ => exact ⟨a, b, c, e, rfl⟩
 have h0 := h 0
 have h1 := h 1
 have c1 := hc x1 (by simp)
 have c2 := hc x2 (by simp)
 have c3 := hc x3 (by simp)
 have c4 := hc x4 (by simp)
 clear hc h hl
 obtain ⟨p1, o1, v1⟩ := x1
 obtain ⟨p2, o2, v2⟩ := x2
 obtain ⟨p3, o3, v3⟩ := x3
 obtain ⟨p4, o4, v4⟩ := x4
 simp only [List.length_cons, List.length_nil] at c1 c2 c3 c4
 have e1 : p1 = 0 ∨ p1 = 1 := by omega
 have e2 : p2 = 0 ∨ p2 = 1 := by omega
 have e3 : p3 = 0 ∨ p3 = 1 := by omega
 have e4 : p4 = 0 ∨ p4 = 1 := by omega
 rcases e1 with rfl | rfl <;> rcases e2 with rfl | rfl <;> rcases e3 with rfl | rfl <;> rcases e4 with rfl | rfl <;> simp [Ax, atL] at h0 h1 ⊢ <;> (obtain ⟨rfl, rfl⟩ := h0; obtain ⟨rfl, rfl⟩ := h1; simp [Cn, Be] at hd; omega)) : p := h
theorem ZcS {p : Prop} (h : p := by
 clear hs
 refine Zcp ?_
 rintro ⟨k, v⟩ hk
 try simp only at hk ⊢
 have hdl := Oh l p k
 refine ZB ?_
 refine cdy ?_ ?_
 ·intro ht11
  refine Gl ?_
  refine Zc2 ?_;intro hdw b7
  refine cdy ?_ ?_
  ·intro ht17
   refine ZA ?_
   refine li (α := Done) ([(l.getD k zDone)] : List Done) G7 rfl (Ml hdw) ?_; intro v20
   refine ap G7 (hb := fun w hs => by have : maxN = 16777216 := rfl; (try simp only [List.length_cons, List.length_nil]); omega) (k := ?_); intro v21
   refine Zc8 ?_;intro e1 w hs
   try simp only
   rw [e1]; exact Ae hs
  ·intro ht17
   refine Zc9 ?_;intro e1 w hs
   try simp only
   rw [e1]; exact Ae hs
 ·intro ht11
  refine Gl ?_
  refine JC.shut (v := v) pkk ?_
  refine Zaq ?_
  have hkl : k = l.length := by omega
  subst hkl
  rw [List.take_length]
  exact Bq v) : p := h
theorem ZcT {p : Prop} (h : p := by
 exact D5 (g13.1, .slice none 0 0) (hs := fun w hs => Ae (St.shut (hs.pick pkk)))) : p := h
theorem ZcU {p : Prop} (h : p := by
 refine Ao ?_ (fun w hs => hs)
 refine ⟨by first | exact congrArg (fun b => some (Value.bool b)) (decide_eq_false (by first | exact .inl hm | exact .inr hm | exact .inl ⟨hc1, hal⟩ | exact .inr ⟨hc1, hal⟩ | (rintro (⟨a, b⟩ | ⟨a, b⟩) <;> first | omega | exact absurd (hal.symm.trans b) (by decide)))).symm | exact congrArg (fun b => some (Value.bool b)) (by simp; omega), alT⟩) : p := h
theorem ZcV {p : Prop} (h : p := by
 exact Gy (.slice none 0 0) (hs := fun w hs => Ae (St.shut (hs.rowNil 3 Int)))) : p := h
theorem ZcW {p : Prop} (h : p := by
 exact Eu (.slice none 0 0, .slice none 0 0, .slice none 0 0, .slice none 0 0) Try.isAgg27 Try.sizeOf27) : p := h
theorem ZcX {p : Prop} (h : p := by
 have al := hG.al; have f23 := hG.f23; have f1 := hG.f1; cases h; constructor <;> (try simp only) <;> grind) : p := h
theorem ZcY {p : Prop} (h : p := by
 exact I4 (.slice none 0 0, .slice none 0 0, .slice none 0 0) Try.isAgg55 Try.sizeOf55) : p := h
theorem ZcZ {p : Prop} (h : p := by
 have al := hG.al; have f23 := hG.f23; have f1 := hG.f1; cases h; cases hm; constructor <;> (try simp only) <;> first | assumption | grind) : p := h
theorem Zda {p : Prop} (h : p := by
 have ui : upS S 23 23 = true := rfl; have u26 : upS S 23 26 = S 26 := rfl; have h26 : S 26 = false := hA 26 ⟨0, rfl⟩; have rs : (Gh.dec (γ := Value) (Rho.set ρ 23 (Gh.enc g) 23)) = g := rfl
 simp only [ui, hS, u26, h26, rs, cond_true, cond_false]
 exact pex) : p := h
theorem Zdb {p : Prop} (h : p := by
 refine Ao ?_ (fun w hs => hs)
 exact meF) : p := h
theorem Zdc {p : Prop} (h : p := by
 constructor
 ·have k0 := hm'.get; grind
 ·have k0 := hm'.put; have c0 := hCq.own; grind
 ·have k0 := hm'.inv; have c0 := hCq.ga; grind
 ·have k0 := hm'.fet; have c0 := hCq.ga; grind
 ·have k0 := hm'.gra; have c0 := hCq.taken; have c1 := hCq.la; have c2 := hCq.wa; grind
 ·have k0 := hm'.gon; grind
 ·have k0 := hm'.dat; have c0 := hCq.ga; grind
 ·have k0 := hm'.tha; grind
 ·have k0 := hm'.tak; grind) : p := h
theorem Zdd {p : Prop} (h : p := by
 rw [er]
 exact D5 (.slice none 0 0) (hs := fun w hs => Ae (hs.rowNil 94 (List UInt8)))) : p := h
theorem Zde {p : Prop} (h : p := by
 refine Ao ?_ (fun w hs => hs)
 refine ⟨by first | exact congrArg (fun b => some (Value.bool b)) (decide_eq_true (by first | exact .inl hm | exact .inr hm | exact .inl ⟨hc1, hal⟩ | exact .inr ⟨hc1, hal⟩ | (rintro (⟨a, b⟩ | ⟨a, b⟩) <;> first | omega | exact absurd (hal.symm.trans b) (by decide)))).symm | exact congrArg (fun b => some (Value.bool b)) (by simp; omega), alT⟩) : p := h
theorem Zdf {p : Prop} (h : p := by
 refine ⟨?_, fun m' hm' => ?_⟩
 ·exact ZcX
 ·have al := hG.al; have f23 := hG.f23; have f1 := hG.f1; cases h; cases hm'; constructor <;> (try simp only) <;> first | assumption | grind) : p := h
theorem Zdg {p : Prop} (h : p := by
 refine ⟨?_, fun m hm => ?_⟩
 ·exact ZcX
 ·exact ZcZ) : p := h
theorem Zdh {p : Prop} (h : p := by
 have ui : upS S 26 26 = true := rfl; have u23 : upS S 26 23 = S 23 := rfl; have r23 : Rho.set ρ 26 g 23 = ρ 23 := rfl
 simp only [ui, hS, u23, r23, cond_true, cond_false]
 exact pex) : p := h
theorem Zdi {p : Prop} (h : p := by
 constructor
 ·have k0 := hm'.get; grind
 ·have k0 := hm'.put; grind
 ·have k0 := hm'.inv; have c0 := hCq.ga; grind
 ·have k0 := hm'.fet; grind
 ·have k0 := hm'.gra; have c0 := hCq.taken; have c1 := hCq.cur; have c2 := hCq.wa; grind
 ·have k0 := hm'.gon; grind
 ·have k0 := hm'.dat; grind
 ·have k0 := hm'.tha; grind
 ·have k0 := hm'.tak; grind) : p := h
theorem Zdj {p : Prop} (h : p := by
 constructor
 ·have k0 := hm'.get; grind
 ·have k0 := hm'.put; grind
 ·have k0 := hm'.inv; grind
 ·have k0 := hm'.fet; grind
 ·have k0 := hm'.gra; have c0 := hCq.taken; have c1 := hCq.la; have c2 := hCq.wa; grind
 ·have k0 := hm'.gon; grind
 ·have k0 := hm'.dat; grind
 ·have k0 := hm'.tha; grind
 ·have k0 := hm'.tak; grind) : p := h
theorem Zdk {p : Prop} (h : p := by
 exact Ins.perm (by repeat (first | exact .hd | exact .hc | refine .tl ?_ | refine .ap ?_))) : p := h
theorem Zdl {p : Prop} (h : p := by
 rw [hw']
 have hc3 := Oi (by omega) hc1 (show w < 4 by omega)
 refine Ii (He (by omega) hc3) fun q hq4 => ?_
 rw [E8 (He (by omega) hc1) (by omega), hb1]
 unfold upd
 split
 ·rfl
 ·split
  ·rfl
  ·by_cases hq : q < n
   ·exact hsh q hq (by omega) (by assumption)
   ·unfold Cm
    refine Zbt ?_
    rfl) : p := h
theorem Zdm {p : Prop} (h : p := by
 refine Bq () (hs := fun w hs => hs.perm (Pick.perm hp).symm) (hv := ?_)
 first | rw [decide_eq_true (by omega)] | rw [decide_eq_false (by omega)]) : p := h
theorem Zdn {p : Prop} (h : p := by
 refine kp [1, 2, 4, 5, 45] ?_
 refine Aa ?_
 refine Zbz ?_
 have er : Ad c b = (zMsg, 2) := by
  unfold Ad
  rw [if_neg (by omega), if_neg (by show ¬ L7 (b.take 10) ≠ _; unfold at8; omega), if_pos (by unfold at8; omega)]
 rw [er]
 exact O6 () Try.isAgg115 Try.sizeOf115) : p := h
theorem Zdo {p : Prop} (h : p := by
 have al := hG.al; have f23 := hG.f23; have f1 := hG.f1; cases h; cases hm'; constructor <;> (try simp only) <;> first | assumption | grind) : p := h
theorem Zdp {p : Prop} (h : p := by
 rw [List.getElem?_map] at he
 obtain ⟨x, hx, hxe⟩ := Option.map_eq_some_iff.1 he
 have h3 := r3 k x r hx hkr
 refine ⟨x.u, ?_, ?_, ?_⟩
 ·rw [← hxe]; exact h3.1
 ·rw [← hxe]; exact hr _ (hf x (List.mem_of_getElem? hx))
 ·rw [← hxe]; exact h3.2.1) : p := h
theorem Zdq {p : Prop} (h : p := by
 have ui : upS S 13 13 = true := rfl; have u16 : upS S 13 16 = S 16 := rfl; have h16 : S 16 = false := hA 16 ⟨0, rfl⟩; have rs : (Gh.dec (γ := Value) (Rho.set ρ 13 (Gh.enc g) 13)) = g := rfl
 simp only [ui, hS, u16, h16, rs, cond_true, cond_false]
 exact pex) : p := h
theorem Zdr {p : Prop} (h : p := by
 rw [er]
 exact Bq ()) : p := h
theorem Zds {p : Prop} (h : p := by
 have k0 := hm'.gra; have c0 := hCq.taken; have c1 := hCq.la; have c2 := hCq.wa; grind) : p := h
theorem Zdt {p : Prop} (h : p := by
 intro a ha; rw [List.mem_singleton.1 ha]; exact L5 h1 h2 h3 (by omega) ht (by omega)) : p := h
theorem Zdu {p : Prop} (h : p := by
 refine A1 (.inr rfl) (fun B w hs => Gf rfl _ w) (fun w hs => ⟨vo, rfl, Ae hs⟩)) : p := h
theorem Zdv {p : Prop} (h : p := by
 rcases List.mem_cons.1 h1 with e | e
 ·rw [e] at h2; exact .inr ⟨m, h2, h3⟩
 ·exact .inl ⟨c, e, m, h2, h3⟩) : p := h
theorem Zdw {p : Prop} (h : p := by
 refine Ga3 ?_
 have er : Df l n = ([], [], 5) := by unfold Df; rw [if_pos (by omega)]
 rw [er]
 exact Gy (.slice none 0 0, .slice none 0 0) (hs := fun w hs => Ae (St.shut (((hs.rowNil 94 (List UInt8)).rowNil 5 UInt8))))) : p := h
theorem Zdx {p : Prop} (h : p := by
 refine Zb7 ?_;intro v23 er
 refine A1 (.inl rfl) (fun B w hs => Gf rfl _ w) (fun w hs => ⟨v23, rfl, Ae hs⟩)) : p := h
theorem Zdy {p : Prop} (h : p := by
 exact Eu (vL, .slice none 0 0, .slice none 0 0) Try.isAgg55 Try.sizeOf55) : p := h
theorem Zdz {p : Prop} (h : p := by
 rw [er]
 exact Gy v40 (hs := fun w hs => Ae (St.shut (hs.pick pkk)))) : p := h
theorem Zd0 {p : Prop} (h : p := by
 refine Za6 ?_;intro er
 exact ZcV) : p := h
theorem Zd1 {p : Prop} (h : p := by
 have ui : upS S 16 16 = true := rfl; have u13 : upS S 16 13 = S 13 := rfl; have r13 : Rho.set ρ 16 g 13 = ρ 13 := rfl
 simp only [ui, hS, u13, r13, cond_true, cond_false]
 exact pex) : p := h
theorem Zd2 {p : Prop} (h : p := by
 intro h; exact absurd h (by simp)) : p := h
theorem Zd3 {p : Prop} (h : p := by
 refine Ft ?_
 refine Ga1 ?_
 exact ZcO) : p := h
theorem Zd4 {p : Prop} (h : p := by
 refine De ?_
 refine Ga1 ?_
 exact Zdb) : p := h
theorem Zd5 {p : Prop} (h : p := by
 refine ZcG ?_;intro er
 exact Bq fv (hs := fun w hs => (Ae hs : St _ R w).sub .refl (fun f hf => by rcases List.mem_cons.1 hf with e | e; rw [e]; exact hfv; exact e))) : p := h
theorem Zd6 {p : Prop} (h : p := by
 unfold EB Entry.wf An; simp only; omega) : p := h
theorem Zd7 {p : Prop} (h : p := by
 rw [hz, C6] at this
 unfold upd at this
 rw [if_neg hqp] at this
 exact this.symm) : p := h
theorem Zd8 {p : Prop} (h : p := by
 rw [er, List.append_nil, List.append_nil]
 refine A1 (.inr rfl) (fun B w hs => Gf rfl _ w) (fun w hs => ⟨(vo, vd), rfl, Ae (D1 hl hlw (hs.pick pkk))⟩)) : p := h
theorem Zd9 {p : Prop} (h : p := by
 have : x ∈ Ax d x.core := List.mem_filter.2 ⟨hx, by simp⟩
 intro h3
 rw [List.map_eq_nil_iff] at h3
 rw [h3] at this; exact absurd this (by simp)) : p := h
theorem ZdA {p : Prop} (h : p := by
 refine ZaT ?_;intro eh hEB ρ er
 exact ZcT) : p := h
theorem ZdB {p : Prop} (h : p := by
 refine Zbe ?_
 refine Zau ?_;intro hEB
 refine Zav ?_;intro ρ er
 exact ZcT) : p := h
theorem ZdC {p : Prop} (h : p := by
 refine Zbp ?_
 have er : (Aj ⟨ls, q0⟩ id home q) = (Fa, [], [], 8) := beg_8 hl (by omega) (by omega) (by omega) (by omega)
 rw [er]
 exact ZcY) : p := h
theorem ZdD {p : Prop} (h : p := by
 exact (show SB _ N from h).mono (by omega)) : p := h
theorem ZdE {p : Prop} (h : p := by
 have : (3 : Int) = F1 (cor x p).wait.kind := by rw [← w3]; exact hw.symm
 unfold F1 at this; split at this <;> (try split at this) <;> omega) : p := h
theorem ZdF {p : Prop} (h : p := by
 intro a ha; cases ha) : p := h
theorem ZdG {p : Prop} (h : p := by
 rw [er]
 exact Eu (vL, v74, .slice none 0 0) Try.isAgg55 Try.sizeOf55) : p := h
theorem ZdH {p : Prop} (h : p := by
 repeat' split
 all_goals (intro hok; first | exact ⟨rfl, rfl⟩ | exact absurd hok (by assumption) | exact absurd hok (by simp))) : p := h
theorem ZdI {p : Prop} (h : p := by
 refine ZbE ?_
 have er : Ag x s = (Er, [], 5) := by unfold Ag Az; rw [if_pos (by omega), if_pos (by omega)]
 rw [er]
 exact ZcW) : p := h
theorem ZdJ {p : Prop} (h : p := by
 rw [er]
 exact O6 () Try.isAgg115 Try.sizeOf115) : p := h
theorem ZdK {p : Prop} (h : p := by
 exact .inl ⟨rfl, rfl⟩) : p := h
theorem ZdL {p : Prop} (h : p := by
 cases hh : r.left.getD p [] with
 | nil => rw [hh] at hc; exact absurd hc (by decide)
 | cons o t => exact ⟨o, t, rfl⟩) : p := h
theorem ZdM {p : Prop} (h : p := by
 rw [hl0]; exact ⟨fun h => h, fun _ h => h⟩) : p := h
theorem ZdN {p : Prop} (h : p := by
 refine Ga2 ?_
 have er : By l n bit = ([], 3) := by unfold By Cg; rw [if_neg (by omega), if_pos (by omega)]
 exact Zdd) : p := h
theorem ZdO {p : Prop} (h : p := by
 intro q hq hqw hqp
 have := (h.ci i hi q hq).cle h0 hqw
 simp only [ab] at this
 rw [← this]; exact hrest q hqp hq) : p := h
theorem ZdP {p : Prop} (h : p := by
 exact I4 (.slice none 0 0, .slice none 0 0, .slice none 0 0, .slice none 0 0, .slice none 0 0) Try.isAgg27 Try.sizeOf27) : p := h
theorem ZdQ {p : Prop} (h : p := by
 refine ⟨fun h => h, fun hn h => ?_⟩
 rcases h with h | h
 ·exact .inl h
 ·exact absurd hf (hn hk e.symm h.1)) : p := h
theorem ZdR {p : Prop} (h : p := by
 show (⟨((x.cores.length : Nat) : Int), ((x.home.length : Nat) : Int)⟩ : Config) = Cz n nl
 rw [h.nc, h.nh]; rfl) : p := h
theorem ZdS {p : Prop} (h : p := by
 refine Zbp ?_
 have er : (Aj ⟨ls, q0⟩ id home q) = (Fa, [], [], 1) := beg_1 (by omega)
 rw [er]
 exact ZcY) : p := h
theorem ZdT {p : Prop} (h : p := by
 refine Zcq ?_;intro hbn v72
 refine A1 (.inl rfl) (fun B w hs => Gf rfl _ w) (fun w hs => ⟨v72, rfl, Ae hs⟩)) : p := h
theorem ZdU {p : Prop} (h : p := by
 generalize (if e.alone = true then e.sharers else Hv e.sharers e.owner) = z at hs4 ⊢
 exact Zd6) : p := h
theorem ZdV {p : Prop} (h : p := by
 refine Ga2 ?_
 have er : By l n bit = ([], 5) := by unfold By; rw [if_pos (by omega)]
 exact Zdd) : p := h
theorem ZdW {p : Prop} (h : p := by
 refine ZB ?_
 exact Bq ()) : p := h
theorem ZdX {p : Prop} (h : p := by
 refine Ga2 ?_
 have er : En l n = ([], 5) := by unfold En; rw [if_pos (by omega)]
 exact Zdd) : p := h
theorem ZdY {p : Prop} (h : p := by
 refine Ga6 ?_
 exact ZcO) : p := h
theorem ZdZ {p : Prop} (h : p := by
 rw [er]
 refine A1 (.inl rfl) (fun B w hs => Gf rfl _ w) (fun w hs => ⟨v29, rfl, Ae hs⟩)) : p := h
theorem Zea {p : Prop} (h : p := by
 rw [er]
 refine A1 (.inl rfl) (fun B w hs => Gf rfl _ w) (fun w hs => ⟨v88, rfl, Ae hs⟩)) : p := h
theorem Zeb {p : Prop} (h : p := by
 rw [List.getD_eq_getElem?_getD, List.getElem?_eq_none (by omega)] at h2
 exact absurd rfl h2) : p := h
theorem Zec {p : Prop} (h : p := by
 show Cn _ [] M
 simp only [Cn]
 rw [G2 (.inr hk4), w2, Int.toNat_natCast, h.same i hin]) : p := h
theorem Zed {p : Prop} (h : p := by
 refine Zb2 ?_;intro er
 exact ZcV) : p := h
theorem Zee {p : Prop} (h : p := by
 refine Zbo ?_;intro er
 exact ZcY) : p := h
theorem Zef {p : Prop} (h : p := by
 simp only; rw [Bi _ _ _ _ _ (by rw [hla]; exact hp), if_pos rfl]; exact Int.le_refl _) : p := h
theorem Zeg {p : Prop} (h : p := by
 have c0 := hCp.bits; grind) : p := h
theorem Zeh {p : Prop} (h : p := by
 have c0 := hCq.back; grind) : p := h
theorem Zei {p : Prop} (h : p := by
 refine Zbu ?_;intro eh hEB ρ er
 exact ZcT) : p := h
theorem Zej {p : Prop} (h : p := by
 unfold Ex; rw [List.range_succ, List.filter_append, List.map_append]; simp [h]) : p := h
theorem Zek {p : Prop} (h : p := by
 rename_i h; exact absurd h.2.2.1 (by omega)) : p := h
theorem Zel {p : Prop} (h : p := by
 have c0 := hCp.cle; grind) : p := h
theorem Zem {p : Prop} (h : p := by
 have c0 := hCp.gra; grind) : p := h
theorem Zen {p : Prop} (h : p := by
 have c0 := hCq.cle; grind) : p := h
theorem Zeo {p : Prop} (h : p := by
 refine Zas ?_
 refine Za3 ?_
 exact ZdA) : p := h
theorem Zep {p : Prop} (h : p := by
 rw [er]
 exact Eu (cY, hY, va, .slice none 0 0) Try.isAgg27 Try.sizeOf27) : p := h
theorem Zeq {p : Prop} (h : p := by
 have c0 := hCp.ga; grind) : p := h
theorem Zer {p : Prop} (h : p := by
 have c0 := hCp.la; grind) : p := h
theorem Zes {p : Prop} (h : p := by
 have c0 := hCq.ga; grind) : p := h
theorem Zet {p : Prop} (h : p := by
 have c0 := hCq.la; grind) : p := h
theorem Zeu {p : Prop} (h : p := by
 intro a ha; rw [List.mem_singleton.1 ha]; unfold MsgIn; simp only; omega) : p := h
variable {L : List Chunk} {R : List Fact} {w : World}
theorem Oj {v0 : Value} {xs : List UInt8} (hs : St (L) R w) (h0 : sl v0 xs ∈ R) : Calls Try.prog 63 [v0].toArray w (Cd (fun v : Value => v) (fun v => row 5 v xs :: L) (fun v => R)) := by
 refine Ah Try.func63 rfl Try.ntmps63 rfl hs ?_
 clear hs
 refine Zam ?_
 refine ob (Acc Try.underlying94 (Fc h0)) ?_
 refine Gl ?_
 refine Cc (b := ?b1) ?e1 ?_ ?_; case e1 => exact rfl
 ·intro ht4
  refine JC.nilOf ht4 h0 (fun hx => ?_)
  refine ZB ?_
  exact Bq (.slice none 0 0) (hs := fun w hs => by rw [hx]; exact Ae (hs.rowNil 5 UInt8))
 ·intro ht4
  refine Gm ?_
  refine liO ([] : List UInt8) Pq rfl (fun j h => Uc) ?_; intro v5
  refine rn1 ?_
  refine ap Pq (hb := fun w hs => by have := Bx h0 hs; have : maxN = 16777216 := rfl; simp; omega) (k := ?_); intro v7
  refine Ga1 ?_
  exact Bq v7
theorem Ut {v0 : Value} {l : Frames} (hs : St (L) R w) (h0 : sl v0 l ∈ R) : Calls Try.prog 47 [v0].toArray w (Cd (fun v : Value => v) (fun v => row 94 v l :: L) (fun v => R)) := by
 have hlen := Bx h0 hs
 refine Ah Try.func47 rfl Try.ntmps47 rfl hs ?_
 clear hs
 refine ZM ?_
 refine Zah ?_
 refine JC.rowNil 94 (List UInt8) ?_
 refine Bs (γ := Nat × Value) (fun g => g.1 ≤ l.length) (fun g => row 94 g.2 (l.take g.1) :: L) (fun _ => R) (fun g => [(0, v0), (3, g.2), (6, v0), (7, vi (l.length : Int)), (8, vi (g.1 : Int))]) (fun g => l.length - g.1) (0, .slice none 0 0) (Nat.zero_le _) alT (fun w hs => hs) ?_
 rintro ⟨k, vs⟩ hk
 try simp only at hk ⊢
 refine ZB ?_
 refine cdy ?_ ?_
 ·intro ht9
  refine Gl ?_
  refine JC.open1 (xs := l) k mm (by omega) (fun _ u => ?_)
  refine Aa ?_
  refine Gb3 ?_
  refine rn2 ?_
  refine Ak Try.call63 rfl (fun w hs => Oj hs mm) ?_; intro v14
  refine J.shut .hd ?_
  refine li [_] W9 rfl Ahs ?_; intro v15
  refine ap W9 (hb := fun w hs => by have : maxN = 16777216 := rfl; have := hlen; simp only [List.length_cons, List.length_nil, List.length_take, List.length_append]; omega) (k := ?_); intro v16
  refine ZH ?_
  refine A7 (k + 1, v16) (by show k + 1 ≤ l.length; omega) (by show l.length - (k + 1) < l.length - k; omega) alT (fun w hs => ?_)
  try simp only
  rw [Hu [] (by omega)]; exact Ae hs
 ·intro ht9
  refine ZD ?_
  have hkl : k = l.length := by omega
  subst hkl
  exact Bq vs (hs := fun w hs => by rw [List.take_length] at hs; exact Ae hs)
theorem Us {v0 v1 : Value} {l : Frames} {b : List UInt8} (hs : St (L) R w) (h0 : sl v0 l ∈ R) (h1 : sl v1 b ∈ R) : Calls Try.prog 51 [v0, v1].toArray w (Cd (fun v : Value => v) (fun v => row 94 v (Cu l b) :: L) (fun v => R)) := by
 have hlen := Bx h0 hs
 refine Ah Try.func51 rfl Try.ntmps51 rfl hs ?_
 clear hs
 refine Zam ?_
 refine Ak Try.call47 rfl (fun w hs => Ut hs mm) ?_; intro v7
 refine Zah ?_
 refine cdy ?_ ?_
 ·intro ht10
  refine ZA ?_
  refine Ak Try.call63 rfl (fun w hs => Oj hs mm) ?_; intro v13
  refine J.shut .hd ?_
  refine li [_] W9 rfl Ahs ?_; intro v14
  refine ap W9 (hb := fun w hs => by have : maxN = 16777216 := rfl; have := hlen; simp only [List.length_cons, List.length_nil, List.length_take, List.length_append]; omega) (k := ?_); intro v15
  refine ZH ?_
  have e : Cu l b = l ++ [b] := by unfold Cu; rw [if_pos (by omega)]
  rw [e]
  exact Bq v15
 ·intro ht10
  refine ZD ?_
  have e : Cu l b = l := by unfold Cu; rw [if_neg (by omega)]
  rw [e]
  exact Bq v7
theorem eq_int {P : Program} {t : TypeId} {k : IntKind} {d : Nat} {a b : Int} (ht : P.underlying t = some (.int k)) (w : World) : (Op.equalIn (d + 1) t (.int k a) (.int k b)).run P w = .ok (a == b) w := by
 unfold Op.equalIn; simp [Dd ht]
theorem eq_Op (x y : Op) {d : Nat} (w : World) : (Op.equalIn (d + 3) 36 (.agg x.cells.toArray) (.agg y.cells.toArray)).run Try.prog w = .ok (decide (x = y)) w := by
 show (Op.equalIn ((d + 2) + 1) 36 _ _).run _ _ = _
 rw [run_equalIn_struct w (d + 2) 36 _ _ (by kernel_rfl) (by kernel_rfl)]
 have e3 : ∀ (a b : Int) w, (Op.equalIn (d + 2) 3 (vi a) (vi b)).run Try.prog w = .ok (a == b) w := fun a b w => eq_int (d := d + 1) Try.underlying3 w
 simp only [Program.fieldsOf, Try.underlying36]
 simp [Op.eqFields, part, Try.isAgg3, Op.cells, e3]
 cases x; cases y; simp
 repeat' split
 all_goals simp_all
theorem ag_Op (x y : Op) {xo yo : Operand} (op : BinOp) (w : World) : (eqGuard op 36 xo yo (.agg x.cells.toArray) (.agg y.cells.toArray)).run Try.prog w = .ok () w := by
 have h : Try.prog.eqGuardType Try.prog.depth 36 = false := by kernel_rfl
 unfold eqGuard
 cases op <;> simp [h]
theorem bn_Op (x y : Op) (w : World) : (binOp .neq 36 (.agg x.cells.toArray) (.agg y.cells.toArray)).run Try.prog w = .ok (.bool (!decide (x = y))) w := by
 show (Op.equal 36 (.agg x.cells.toArray) (.agg y.cells.toArray) >>= fun r => Pure.pure (Value.bool (!r))).run _ w = _
 rw [Sem.run_bind, show Op.equal 36 (.agg x.cells.toArray) (.agg y.cells.toArray) = Op.equalIn (9997 + 3) 36 _ _ from rfl, eq_Op x y w]; rfl
theorem Alc {x y : Op} (h : x = y) (w : World) : (binOp .neq 36 (.agg x.cells.toArray) (.agg y.cells.toArray)).run Try.prog w = .ok (.bool false) w := by rw [bn_Op, decide_eq_true h]; rfl
def EB (e : Entry) : Prop := e.wf ∧ (0 ≤ e.sharers ∧ e.sharers < 16) ∧ (0 ≤ e.need ∧ e.need < 16) ∧ (0 ≤ e.who ∧ e.who < 4) ∧ (-1 ≤ e.owner ∧ e.owner < 4) ∧ 0 ≤ e.turn
def zEC : List Value := [vi 0, vi 0, vi 0, vi 0, vi 0, vi 0, .bool false, vi 0, vi 0, .slice none 0 0]
theorem Kn (id home : Int) : ∀ (l : List Line) (i : Int) (x : Line), Bl id home i (l ++ [x]) = Bl id home i l ++ if x.want ≠ 0 then [Cp x id home (i + (l.length : Int))] else []
 | [], i, x => by simp only [List.nil_append, Bl, List.length_nil]; split <;> simp
 | a :: l, i, x => by
  have ih := Kn id home l (i + 1) x
  have e : i + 1 + (l.length : Int) = i + ((a :: l).length : Int) := by simp only [List.length_cons]; omega
  rw [e] at ih
  simp only [List.cons_append, Bl]
  split <;> simp [ih]
theorem Ql (id home : Int) : ∀ (l : List Line) (i : Int), (Bl id home i l).length ≤ l.length
 | [], i => Nat.le_refl _
 | a :: l, i => by
  have := Ql id home l (i + 1)
  simp only [Bl]; split <;> simp only [List.length_cons] <;> omega
def Ex (e : Entry) (line id : Int) (k : Nat) : List Msg := ((List.range k).filter (fun p => e.need.toNat.testBit p)).map fun (p : Nat) => (⟨4, id, (p : Int), line, 0, e.turn, 0, false⟩ : Msg)
theorem V3 {e : Entry} {line id : Int} {k : Nat} (h : e.need.toNat.testBit k = true) : Ex e line id (k + 1) = Ex e line id k ++ [⟨4, id, (k : Int), line, 0, e.turn, 0, false⟩] := by
 exact Zej
theorem Yf {e : Entry} {line id : Int} {k : Nat} (h : e.need.toNat.testBit k = false) : Ex e line id (k + 1) = Ex e line id k := by
 exact Zej
theorem V4 (e : Entry) (line id : Int) (k : Nat) : (Ex e line id k).length ≤ k := by
 unfold Ex; rw [List.length_map]
 exact Nat.le_trans (List.length_filter_le ..) (by simp)
theorem V5 {e : Entry} {line id : Int} (h : e.phase = 2) : Ex e line id 4 = E9 e line id := by
 unfold Ex E9
 rw [if_neg (by omega), if_pos h]
 show _ = List.map _ (List.filter _ ([0, 1, 2, 3].map (fun p : Nat => (p : Int))))
 rw [List.filter_map, List.map_map]
 rfl
def dX (m : List Int) (o : Op) : List Int := m.set o.line.toNat (Be (m.getD o.line.toNat 0) o).1
def Z7 (m : List Int) (o : Op) (k : Nat) : List Int := (dX m o).take k
def N4 (m : List Int) (o : Op) (k : Nat) : Int := if o.line.toNat < k then (Be (m.getD o.line.toNat 0) o).2 else 0
theorem Kf (m : List Int) (o : Op) (k : Nat) : (Z7 m o k).length ≤ k := by unfold Z7; rw [List.length_take]; omega
theorem Ako {m : List Int} {o : Op} {k : Nat} (h : k < m.length) (h0 : 0 ≤ o.line) (hn : ¬ (k : Int) = o.line) : Z7 m o (k + 1) = Z7 m o k ++ [m.getD k 0] ∧ N4 m o (k + 1) = N4 m o k := by
 have hk : o.line.toNat ≠ k := by omega
 constructor
 ·unfold Z7 dX
  rw [Hu 0 (by rw [List.length_set]; exact h)]
  simp [List.getD_eq_getElem?_getD, List.getElem?_set_ne hk]
 ·unfold N4
  by_cases h1 : o.line.toNat < k
  ·rw [if_pos h1, if_pos (by omega)]
  ·rw [if_neg h1, if_neg (by omega)]
theorem Pv {m : List Int} {o : Op} {k : Nat} (h : k < m.length) (h0 : 0 ≤ o.line) (hn : (k : Int) = o.line) : Z7 m o (k + 1) = Z7 m o k ++ [(Be (m.getD k 0) o).1] ∧ N4 m o (k + 1) = (Be (m.getD k 0) o).2 ∧ N4 m o k = 0 := by
 have hk : o.line.toNat = k := by omega
 refine ⟨?_, ?_, ?_⟩
 ·unfold Z7 dX
  rw [Hu 0 (by rw [List.length_set]; exact h)]
  subst hk
  simp [List.getD_eq_getElem?_getD, h]
 ·unfold N4; rw [hk, if_pos (by omega)]
 ·unfold N4; rw [hk, if_neg (by omega)]
theorem opv1 {v : Int} {o : Op} (h : o.kind = 1) : Be v o = (v, v) := by unfold Be; rw [if_pos h]
theorem opv2 {v : Int} {o : Op} (h : o.kind = 2) : Be v o = (o.value, 0) := by unfold Be; rw [if_neg (by omega), if_pos h]
theorem opv3 {v : Int} {o : Op} (h : o.kind = 3) : Be v o = ((v + o.value) % 256, v) := by unfold Be; rw [if_neg (by omega), if_neg (by omega), if_pos h]
theorem opv4 {v : Int} {o : Op} (h : o.kind = 4) : Be v o = (v, 0) := by unfold Be; rw [if_neg (by omega), if_neg (by omega), if_neg (by omega)]
theorem Yk {R : List Fact} {c : Int} (h : An c) : ∀ j, (∀ q ∈ R, q.p j) → RdV [c] [vi c] j := rd_0 (cs := [vi c]) (fun _ => ⟨rfl, h⟩)
theorem refDo {v0 : Value} {m : List Int} {o : Op} (hs : St (L) R w) (h0 : sl v0 m ∈ R) : Calls Try.prog 32 [v0, .agg o.cells.toArray].toArray w (Cd (fun v : Value => .tuple #[v, vi (Bj m o).2.1, vi (Bj m o).2.2]) (fun v => L) (fun v => sl v (Bj m o).1 :: R)) := by
 have hlen := Bx h0 hs
 refine Ah Try.func32 rfl Try.ntmps32 rfl hs ?_
 clear hs
 refine Gm ?_
 refine bx ?_; intro b3
 refine Ga3 ?_
 rcases (show (o.kind < 1) ∨ (¬ o.kind < 1 ∧ 4 < o.kind) ∨ (1 ≤ o.kind ∧ o.kind ≤ 4) from by omega) with hc | hc | hc
 ·refine Zad ?_
  refine Gd5 ?_
  exact Zed
 ·refine ZS ?_
  refine Ft ?_
  refine Gd1 ?_
  exact Zed
 ·refine ZS ?_
  refine De ?_
  refine Gc1 ?_
  rcases (show (o.line < 0) ∨ (0 ≤ o.line ∧ (m.length : Int) ≤ o.line) ∨ (0 ≤ o.line ∧ o.line < (m.length : Int) ∧ o.value < 0) ∨ (0 ≤ o.line ∧ o.line < (m.length : Int) ∧ 255 < o.value) ∨ (0 ≤ o.line ∧ o.line < (m.length : Int) ∧ 0 ≤ o.value ∧ o.value ≤ 255) from by omega) with hc | hc | hc | hc | hc
  ·refine Zad ?_
   refine Gc17 ?_
   exact Zd0
  ·refine ZA ?_
   refine A3 ?_
   refine ZQ ?_
   refine J8 ?_
   refine Gc11 ?_
   exact Zd0
  ·refine ZA ?_
   refine Zbd ?_
   refine ZE ?_
   refine Dt ?_
   refine Gc6 ?_
   exact Zd0
  ·refine ZaY ?_
   refine Ft ?_
   refine Gc1 ?_
   exact Zd0
  ·refine ZaY ?_
   refine De ?_
   refine Gc1 ?_
   refine kp [0, 3, 4, 5, 6, 7] ?_
   refine Aa ?_
   refine Gb1 ?_
   refine Zah ?_
   refine JC.rowNil 3 Int ?_
   refine Bs (γ := Nat × Value × Int) (fun g => g.1 ≤ m.length ∧ g.2.2 = N4 m o g.1) (fun g => row 3 g.2.1 (Z7 m o g.1) :: blk b3 36 o.cells :: L) (fun _ => R) (fun g => [(3, bp b3 0), (7, g.2.1), (8, vi g.2.2), (39, v0), (40, vi (m.length : Int)), (41, vi (g.1 : Int))]) (fun g => m.length - g.1) (0, .slice none 0 0, 0) ⟨Nat.zero_le _, by unfold N4; rw [if_neg (by omega)]⟩ alT (fun w hs => Ae hs) ?_
   rintro ⟨k, vs, told⟩ ⟨hk, ht⟩
   try simp only at hk ht ⊢
   refine ZB ?_
   refine cdy ?_ ?_
   ·intro ht42
    refine Gl ?_
    refine JC.open0 (xs := m) (v := v0) k mm (by omega) (fun hw => ?_)
    have hw9 : An (m.getD k 0) := hw
    refine Aa ?_
    refine Gb5 ?_
    refine Ga4 ?_
    refine cdy ?_ ?_
    ·intro ht49
     refine Gl ?_
     rcases (show (o.kind = 1) ∨ (o.kind = 2) ∨ (o.kind = 3) ∨ (o.kind = 4) from by omega) with hc | hc | hc | hc
     ·refine Aa ?_
      first | refine ob (Xw Hk) ?_ | refine ob (Xv Hk) ?_
      refine rn1 ?_
      refine C8 ?_
      refine Gd5 ?_
      refine Gb2 ?_
      refine rn2 ?_
      refine A4 ?_
      refine Gmc ?_
      refine Zcv ?_
      refine li ([m.getD k 0] : List Int) Hm rfl (Yk (by unfold An at hw9 ⊢; omega)) ?_; intro v76
      refine ap Hm (hb := fun w hs => by have : maxN = 16777216 := rfl; have h9 := Kf m o k; simp only [List.length_cons, List.length_nil]; omega) (k := ?_); intro v77
      refine ZH ?_
      obtain ⟨e1, e2, e3⟩ := Pv (m := m) (o := o) (k := k) (by omega) (by omega) ht49
      rw [opv1 hc] at e1 e2
      refine ZcH ?_;intro w hs
      try simp only
      rw [e1]
      exact Ae hs
     ·refine Aa ?_
      first | refine ob (Xw Hk) ?_ | refine ob (Xv Hk) ?_
      refine rn1 ?_
      refine A4 ?_
      refine ZF ?_
      refine ZG ?_
      refine rn2 ?_
      refine C8 ?_
      refine Gmc ?_
      refine Gb3 ?_
      refine Zcv ?_
      refine li ([o.value] : List Int) Hm rfl (Yk (by unfold An at hw9 ⊢; omega)) ?_; intro v76
      refine ap Hm (hb := fun w hs => by have : maxN = 16777216 := rfl; have h9 := Kf m o k; simp only [List.length_cons, List.length_nil]; omega) (k := ?_); intro v77
      refine ZH ?_
      obtain ⟨e1, e2, e3⟩ := Pv (m := m) (o := o) (k := k) (by omega) (by omega) ht49
      rw [opv2 hc] at e1 e2
      refine ZcD ?_;intro w hs
      try simp only
      rw [e1]
      exact Ae hs
     ·refine Aa ?_
      first | refine ob (Xw Hk) ?_ | refine ob (Xv Hk) ?_
      refine rn1 ?_
      refine A4 ?_
      refine ZF ?_
      refine C8 ?_
      refine Gd1 ?_
      refine Gb2 ?_
      refine rn2 ?_
      refine A4 ?_
      refine Gmc ?_
      refine rn2 ?_
      refine C8 ?_
      refine Glc ?_
      refine kp [3, 4, 5, 6, 7, 8, 9, 10, 39, 40, 41, 42, 43, 44, 45, 46, 47, 48, 49, 50, 51, 52, 53, 54, 55, 56, 57, 58, 59, 60, 61, 62, 63, 64, 65, 66, 67, 68, 69, 70, 71, 72, 73] ?_
      refine ZL ?_
      refine ob (Fz (a := m.getD k 0) (b := o.value) Agw) ?_
      refine ob (Fz (b := 256) (Alh (by decide) (Ox _ (by decide) (by decide)).1 (Ox _ (by decide) (by decide)).2)) ?_
      refine ob (Fz (a := (IntKind.i64.wrap (m.getD k 0 + o.value)).tmod 256) (b := 256) (Xr (by have := Lu (IntKind.i64.wrap (m.getD k 0 + o.value)) (show (0 : Int) < 256 by decide); omega) (by have := Lu (IntKind.i64.wrap (m.getD k 0 + o.value)) (show (0 : Int) < 256 by decide); omega))) ?_
      refine ob (Fz (b := 256) (Alh (by decide) (Ox _ (by decide) (by decide)).1 (Ox _ (by decide) (by decide)).2)) ?_
      rw [Abp, N6]
      refine Gb1 ?_
      refine rn2 ?_
      refine li ([(m.getD k 0 + o.value) % 256] : List Int) Hm rfl (Yk (by unfold An at hw9 ⊢; omega)) ?_; intro v76
      refine ap Hm (hb := fun w hs => by have : maxN = 16777216 := rfl; have h9 := Kf m o k; simp only [List.length_cons, List.length_nil]; omega) (k := ?_); intro v77
      refine ZH ?_
      obtain ⟨e1, e2, e3⟩ := Pv (m := m) (o := o) (k := k) (by omega) (by omega) ht49
      rw [opv3 hc] at e1 e2
      refine ZcH ?_;intro w hs
      try simp only
      rw [e1]
      exact Ae hs
     ·refine Aa ?_
      first | refine ob (Xw Hk) ?_ | refine ob (Xv Hk) ?_
      refine rn1 ?_
      refine A4 ?_
      refine ZF ?_
      refine ZG ?_
      refine rn2 ?_
      refine A4 ?_
      refine Gmc ?_
      refine rn2 ?_
      refine A4 ?_
      refine Gmc ?_
      refine rn2 ?_
      refine li ([m.getD k 0] : List Int) Hm rfl (Yk (by unfold An at hw9 ⊢; omega)) ?_; intro v76
      refine ap Hm (hb := fun w hs => by have : maxN = 16777216 := rfl; have h9 := Kf m o k; simp only [List.length_cons, List.length_nil]; omega) (k := ?_); intro v77
      refine Ga1 ?_
      refine kp [3, 4, 5, 6, 7, 8, 9, 10, 39, 40, 41, 42, 43, 44, 45, 46, 47, 48, 49, 50, 51, 52, 53, 54, 55, 56, 57, 58, 59, 60, 61, 62, 63, 64, 65, 66, 67, 68, 69, 70, 71, 72, 73, 74, 75, 76, 77, 78] ?_
      refine Zaq ?_
      obtain ⟨e1, e2, e3⟩ := Pv (m := m) (o := o) (k := k) (by omega) (by omega) ht49
      rw [opv4 hc] at e1 e2
      refine ZcD ?_;intro w hs
      try simp only
      rw [e1]
      exact Ae hs
    ·intro ht49
     refine ZK ?_
     refine li ([m.getD k 0] : List Int) Hm rfl (Yk (by unfold An at hw9 ⊢; omega)) ?_; intro v76
     refine ap Hm (hb := fun w hs => by have : maxN = 16777216 := rfl; have h9 := Kf m o k; simp only [List.length_cons, List.length_nil]; omega) (k := ?_); intro v77
     refine ZH ?_
     obtain ⟨e1, e2⟩ := Ako (m := m) (o := o) (k := k) (by omega) (by omega) ht49
     refine A7 (k + 1, v77, told) ⟨by show k + 1 ≤ m.length; omega, by show told = _; rw [e2]; exact ht⟩ (by show m.length - (k + 1) < m.length - k; omega) alT (fun w hs => ?_)
     try simp only
     rw [e1]; exact Ae hs
   ·intro ht42
    refine Za9 ?_
    have hkl : k = m.length := by omega
    have er : Bj m o = (dX m o, (Be (m.getD o.line.toNat 0) o).2, 0) := by unfold Bj; rw [if_neg (by omega), if_neg (by omega)]; rfl
    rw [er]
    have e1 : Z7 m o k = dX m o := by unfold Z7; rw [List.take_of_length_le (by unfold dX; rw [List.length_set]; omega)]
    have e2 : told = (Be (m.getD o.line.toNat 0) o).2 := by rw [ht]; unfold N4; rw [if_pos (by omega)]
    rw [e1]
    rw [e2]
    exact Gy vs (hs := fun w hs => Ae (St.shut (hs.pick pkk)))
def L6 (v : Int) (o : Op) : List Int := (List.replicate (o.line + 1).toNat 0).set o.line.toNat v
theorem Qn {v : Int} {o : Op} (h : 0 ≤ o.line) : (L6 v o).length = o.line.toNat + 1 := by unfold L6; rw [List.length_set, List.length_replicate]; omega
theorem Oz {v : Int} {o : Op} (h : 0 ≤ o.line) : (L6 v o).getD o.line.toNat 0 = v := by
 unfold L6
 rw [List.getD_eq_getElem?_getD, List.getElem?_set_self (by rw [List.length_replicate]; omega)]; rfl
theorem tellDo {v : Int} {o : Op} (hk : 1 ≤ o.kind ∧ o.kind ≤ 4) (h : 0 ≤ o.line) (h2 : 0 ≤ o.value ∧ o.value ≤ 255) : Bj (L6 v o) o = (dX (L6 v o) o, (Be v o).2, 0) := by
 have hl := Qn (v := v) h
 unfold Bj; rw [if_neg (by omega), if_neg (by omega), Oz h]; unfold dX; rw [Oz h]
theorem dX_at {m : List Int} {o : Op} (h : o.line.toNat < m.length) : (dX m o).getD o.line.toNat 0 = (Be (m.getD o.line.toNat 0) o).1 := by
 unfold dX; rw [List.getD_eq_getElem?_getD, List.getElem?_set_self h]; rfl
theorem Afi : ∀ (s : _root_.Fin 16) (k : _root_.Fin 4), (s.val.testBit k.val = true → Hv (s.val : Int) (k.val : Int) = (s.val : Int) ∧ Gg (s.val : Int) (k.val : Int) = (s.val : Int) - ((2 ^ k.val : Nat) : Int)) ∧ (s.val.testBit k.val = false → Hv (s.val : Int) (k.val : Int) = (s.val : Int) + ((2 ^ k.val : Nat) : Int) ∧ Gg (s.val : Int) (k.val : Int) = (s.val : Int)) ∧ (0 ≤ Hv (s.val : Int) (k.val : Int) ∧ Hv (s.val : Int) (k.val : Int) < 16) ∧ (0 ≤ Gg (s.val : Int) (k.val : Int) ∧ Gg (s.val : Int) (k.val : Int) < 16) := by decide
theorem E7 {s k : Int} (h0 : 0 ≤ s) (h1 : s < 16) (h2 : 0 ≤ k) (h3 : k < 4) : (s.toNat.testBit k.toNat = true → Hv s k = s ∧ Gg s k = s - ((2 ^ k.toNat : Nat) : Int)) ∧ (s.toNat.testBit k.toNat = false → Hv s k = s + ((2 ^ k.toNat : Nat) : Int) ∧ Gg s k = s) ∧ (0 ≤ Hv s k ∧ Hv s k < 16) ∧ (0 ≤ Gg s k ∧ Gg s k < 16) := by
 obtain ⟨a, rfl⟩ := Int.eq_ofNat_of_zero_le h0
 obtain ⟨b, rfl⟩ := Int.eq_ofNat_of_zero_le h2
 exact Afi ⟨a, by omega⟩ ⟨b, by omega⟩
theorem Ir (e : Entry) : (Ct e).last = e.last := by
 unfold Ct; split
 ·rfl
 ·split <;> rfl
theorem Gv {e : Entry} (h : EB e) : EB (Ct e) := by
 obtain ⟨h1, h2, h3, h4, h5, h6⟩ := h
 obtain ⟨_, _, _, r⟩ := E7 h2.1 h2.2 h4.1 h4.2
 unfold Entry.wf An at h1
 unfold Ct EB Entry.wf An
 split
 ·simp only; omega
 split
 ·simp only; omega
 ·simp only; omega
theorem I1 {L L' : List Chunk} {R : List Fact} {T : TypeId} {v : Value} {xs : List Int} {i : Nat} (hp : Pick L (row T v xs) L') (hi : i < xs.length) : Cw L R (ep v 1 i 0) [vi (xs.getD i 0)] := Aaz hp (getD_some 0 hi)
theorem H0 {P : Program} {n : Nat} {Q : Exit → Act → World → Prop} {L : List Chunk} {R : List Fact} {al : List (Nat × Value)} {c : Code} {v : Value} {l : List Entry} (i : Int) (hm : sl v l ∈ R) (h0 : 0 ≤ i) (hi : i < l.length) (k : (Ai l i).wf → ∀ u, JC P n c Q L (cF v 10 i.toNat (Entry.cells u (Ai l i)) :: sl u (Ai l i).last :: R) al) : JC P n c Q L R al := JC.open1 i.toNat hm (by omega) k
theorem H7 {v : Value} {xs : List Int} (hm : sl v xs ∈ R) (hs : St L R w) : ∀ x ∈ xs, An x := by
 intro x hx
 obtain ⟨i, hi, rfl⟩ := List.getElem_of_mem hx
 obtain ⟨cs, m, hr⟩ := sl_rd hm (List.getElem?_eq_getElem hi) hs
 exact hr.2
end Go.Proofs.Ytkgijpngobgfjaa
namespace Go.Proofs.Ytkgijpngobgfjaa
namespace Abs
structure Ab where
 value : Int
 owner : Int
 phase : Int
 who : Int
 serial : Int
 alone : Int
 turn : Int
 last : Nat → Int
 sh : Nat → Int
 nd : Nat → Int
structure GI (n : Nat) (e : Ab) : Prop where
 own : -1 ≤ e.owner ∧ e.owner < n
 ph : 0 ≤ e.phase ∧ e.phase ≤ 3
 idle : e.phase = 0 → e.who = 0 ∧ e.serial = 0 ∧ e.alone = 0
 whor : e.phase ≠ 0 → 0 ≤ e.who ∧ e.who < n
 f1 : e.phase = 1 → 0 ≤ e.owner ∧ e.owner ≠ e.who
 f23 : 2 ≤ e.phase → e.owner = -1
 c2 : e.phase = 2 → e.alone = 1 ∧ ∃ p : Nat, p < n ∧ e.nd p = 1
 al : 0 ≤ e.alone ∧ e.alone ≤ 1
 tu : 0 ≤ e.turn ∧ e.turn ≤ 65535
 va : 0 ≤ e.value ∧ e.value ≤ 255
 se : 0 ≤ e.serial ∧ e.serial ≤ 65535
structure CI (e : Ab) (p : Nat) (l : Line) (V : Int) : Prop where
 st : 0 ≤ l.state ∧ l.state ≤ 3
 va : 0 ≤ l.value ∧ l.value ≤ 255
 wa : 0 ≤ l.want ∧ l.want ≤ 3
 se : 0 ≤ l.serial ∧ l.serial ≤ 65535
 ga : 0 ≤ l.gave ∧ l.gave ≤ l.seen ∧ l.seen ≤ e.turn
 gi : 0 ≤ l.given ∧ l.given ≤ 255
 la : 0 ≤ e.last p ∧ e.last p ≤ l.serial
 bits : 0 ≤ e.sh p ∧ e.sh p ≤ 1 ∧ 0 ≤ e.nd p ∧ e.nd p ≤ 1
 leav : l.state = 3 ↔ l.want = 3
 w1 : l.want = 1 → l.state = 0
 w2 : l.want = 2 → l.state ≤ 1
 taken : l.want = 1 ∨ l.want = 2 → e.last p = l.serial → e.phase ≠ 0 ∧ e.who = p
 back : l.want = 3 → e.last p = l.serial → e.owner ≠ p
 cur : e.phase ≠ 0 → e.who = p → e.serial = e.last p ∧
  ((l.serial = e.serial ∧ l.want = 1 + e.alone ∧ l.seen < e.turn) ∨
   ((l.serial ≠ e.serial ∨ l.want = 0) ∧ e.phase = 3 ∧ l.seen = e.turn ∧ (e.alone = 1 → 2 ≤ l.state) ∧ (e.alone = 0 → l.state ≤ 1)))
 own : e.owner = p → (2 ≤ l.state ∧ (e.phase = 1 → l.seen < e.turn)) ∨ (l.state < 2 ∧ e.phase = 1 ∧ l.gave = e.turn ∧ l.given = V ∧ (e.alone = 1 → l.state = 0))
 alo : l.state = 2 ∨ (l.state = 3 ∧ e.last p < l.serial) → (e.owner = p ∨ (e.phase = 3 ∧ e.who = p ∧ e.alone = 1)) ∧ l.value = V
 cop : l.state = 1 → (e.sh p = 1 ∨ e.owner = p ∨ (e.phase = 3 ∧ e.who = p ∧ l.seen = e.turn)) ∧ l.value = V
 shs : e.sh p = 1 → (l.state ≤ 1 ∨ (e.phase = 3 ∧ e.who = p ∧ e.alone = 1)) ∧ e.owner = -1
 ned : e.nd p = 1 → e.phase = 2 ∧ e.who ≠ p ∧ (l.seen = e.turn → l.state = 0)
 cle : e.phase = 2 → e.who ≠ p → e.nd p = e.sh p
 gra : e.phase = 3 → e.alone = 1 → e.who ≠ p → e.sh p = 0
 val : e.owner = -1 → (e.phase = 3 → e.alone = 1 → e.who = p ∧ l.seen < e.turn) → e.value = V
structure MI (e : Ab) (p : Nat) (l : Line) (m : Msg) : Prop where
 get : m.kind = 1 ∨ m.kind = 2 → m.serial ≤ l.serial ∧ (e.last p < m.serial → m.serial = l.serial ∧ l.want = m.kind)
 put : m.kind = 3 → m.serial ≤ l.serial ∧ (e.last p < m.serial → (m.serial = l.serial ∧ l.want = 3 ∧ m.value = l.value) ∨
  ((m.serial < l.serial ∨ l.want = 0) ∧ (e.owner ≠ p ∨ (e.phase = 1 ∧ l.gave = e.turn)) ∧ (e.phase = 0 ∨ e.who ≠ p)))
 inv : m.kind = 4 → m.turn ≤ e.turn ∧ (l.seen < m.turn → m.turn = e.turn ∧ e.phase = 2 ∧ e.nd p = 1)
 fet : m.kind = 5 ∨ m.kind = 6 → m.turn ≤ e.turn ∧ (l.seen < m.turn → m.turn = e.turn ∧ e.phase = 1 ∧ e.owner = p ∧ m.kind = 5 + e.alone)
 gra : m.kind = 7 → m.serial ≤ e.last p ∧ (m.serial = l.serial → l.want ≠ 0 → e.phase = 3 ∧ e.who = p ∧ m.turn = e.turn ∧ (m.alone = true ↔ e.alone = 1) ∧ m.value = e.value) ∧
  ((m.serial ≠ l.serial ∨ l.want = 0) → m.turn ≤ l.seen)
 gon : m.kind = 8 → m.turn ≤ l.seen
 dat : m.kind = 9 → m.turn ≤ l.seen ∧ (m.turn = e.turn → e.phase = 1 → e.owner = p → l.gave = e.turn ∧ m.value = l.given)
 tha : m.kind = 10 → m.turn ≤ l.seen
 tak : m.kind = 11 → m.serial ≤ e.last p
def upd {α : Type} (f : Nat → α) (p : Nat) (x : α) : Nat → α := fun q => if q = p then x else f q
theorem Abk {α : Type} (f : Nat → α) (p : Nat) (x : α) : upd f p x p = x := by simp [upd]
end Abs
end Go.Proofs.Ytkgijpngobgfjaa
namespace Go.Proofs.Ytkgijpngobgfjaa
namespace Abs
set_option maxHeartbeats 2000000
section core
variable {n : Nat} {e : Ab} {p : Nat} {l : Line} {V : Int}
theorem Afd (hG : GI n e) (h : CI e p l V) (hw : l.want = 0) (hs : l.state ≠ 2) : CI e p { l with state := 0, value := 0 } V ∧ ∀ m, MI e p l m → MI e p { l with state := 0, value := 0 } m := by
 exact Zdg
theorem c_put (hG : GI n e) (h : CI e p l V) (hw : l.want = 0) (hs : l.state = 2) (hn : l.serial < 65535) : CI e p { l with state := 3, want := 3, serial := l.serial + 1 } V ∧ ∀ m, MI e p l m → MI e p { l with state := 3, want := 3, serial := l.serial + 1 } m := by
 exact Zdg
theorem c_ask {k : Int} (hG : GI n e) (h : CI e p l V) (hw : l.want = 0) (hk : k = 1 ∧ l.state = 0 ∨ k = 2 ∧ l.state ≤ 1) (hn : l.serial < 65535) : CI e p { l with want := k, serial := l.serial + 1 } V ∧ ∀ m, MI e p l m → MI e p { l with want := k, serial := l.serial + 1 } m := by
 rcases hk with ⟨rfl, hk⟩ | ⟨rfl, hk⟩ <;> refine ⟨?_, fun m hm => ?_⟩
 ·exact ZcX
 ·exact ZcZ
 ·exact ZcX
 ·exact ZcZ
theorem Akw {v : Int} (hG : GI n e) (h : CI e p l V) (hs : l.state = 2) (hv : 0 ≤ v ∧ v ≤ 255) : CI e p { l with value := v } v ∧ ∀ m, MI e p l m → MI e p { l with value := v } m := by
 exact Zdg
theorem Afc {q : Nat} {k : Line} {v : Int} (hG : GI n e) (h : CI e p l V) (hs : 2 ≤ l.state) (hl : l.state = 3 → e.last p < l.serial) (hq : q ≠ p) (hk : CI e q k V) : CI e q k v := by
 have ho : (e.owner = p ∨ (e.phase = 3 ∧ e.who = p ∧ e.alone = 1)) ∧ l.value = V := h.alo (by have := h.st; omega)
 have h1 := hk.own; have h2 := hk.alo; have h3 := hk.cop; have h4 := hk.val
 have h5 := h.own; have h6 := h.cur; have g1 := hG.f23; have g2 := hk.shs; have g3 := hk.gra; have g4 := hk.bits
 have g5 := hk.ga
 refine ⟨hk.st, hk.va, hk.wa, hk.se, hk.ga, hk.gi, hk.la, hk.bits, hk.leav, hk.w1, hk.w2, hk.taken, hk.back, hk.cur, ?_, ?_, ?_, hk.shs, hk.ned, hk.cle, hk.gra, ?_⟩
 ·clear h2 h3 h4; grind
 ·clear h1 h3 h4; grind
 ·clear h1 h2 h4; grind
 ·clear h1 h2 h3; grind
theorem c_inv {m : Msg} (hG : GI n e) (h : CI e p l V) (hm : MI e p l m) (hk : m.kind = 4) : CI e p (C4 l m.turn) V ∧ ∀ m', MI e p l m' → MI e p (C4 l m.turn) m' := by
 unfold C4
 have := hm.inv hk
 split
 ·split
  ·exact Zdf
  ·exact Zdf
 ·exact ⟨h, fun _ h => h⟩
theorem Akz {m : Msg} (hG : GI n e) (h : CI e p l V) (hm : MI e p l m) (hk : m.kind = 5 ∨ m.kind = 6) (hf : E3 l m.turn) :
  CI e p (Cv l m.kind m.turn) V ∧ (∀ m', MI e p l m' → MI e p (Cv l m.kind m.turn) m') ∧ l.value = V ∧ ∀ m' : Msg, m'.kind = 9 → m'.turn = m.turn → m'.value = l.value → MI e p (Cv l m.kind m.turn) m' := by
 obtain ⟨hf1, hf2, hf3⟩ := hf
 obtain ⟨g0, g1, g2, g3⟩ := (hm.fet hk).2 hf2
 have hown := hG.f1 g1
 have how : e.who ≠ p := by rw [← g2]; exact fun h => hown.2 h.symm
 have hse := h.ga
 have hl0 : l.want = 3 → e.last p < l.serial := by intro hw; have := h.back hw; have := h.la; grind
 have hv : l.value = V := (h.alo (by have := h.leav; have := h.st; grind)).2
 have h2 := h.own g2
 have hwant : l.want = 0 ∨ l.want = 3 := by have := h.wa; have := h.w1; have := h.w2; grind
 have hsh : e.sh p = 0 := by have := h.shs; have := h.bits; grind
 have hnd : e.nd p = 0 := by have := h.ned; have := h.bits; grind
 have hal := hG.al
 have hmt : m.turn = e.turn := g0
 rw [hmt]
 unfold Cv
 have key : ∀ (st va wa : Int), (st = 0 ∨ st = 1 ∧ e.alone = 0) → wa = 0 → 0 ≤ va ∧ va ≤ 255 → (st = 1 → va = l.value) →
   CI e p ⟨st, va, wa, l.serial, e.turn, e.turn, l.value⟩ V ∧ (∀ m', MI e p l m' → MI e p ⟨st, va, wa, l.serial, e.turn, e.turn, l.value⟩ m') ∧ ∀ m' : Msg, m'.kind = 9 → m'.turn = e.turn → m'.value = l.value → MI e p ⟨st, va, wa, l.serial, e.turn, e.turn, l.value⟩ m' := by
  intro st va wa h1 h2 h3 h4
  refine ⟨?_, fun m' hm' => ?_, fun m' k1 k2 k3 => ?_⟩
  ·have k1 := h.se; have k2 := h.la; have k3 := h.va; have k4 := hG.tu; have k5 := h.bits
   constructor <;> (try simp only) <;> grind
  ·have k1 := hm'.get; have k2 := hm'.put; have k3 := hm'.inv; have k4 := hm'.fet; have k5 := hm'.gra; have k6 := hm'.gon; have k7 := hm'.dat; have k8 := hm'.tha; have k9 := hm'.tak
   constructor <;> (try simp only)
   ·clear k2 k3 k4 k5 k6 k7 k8 k9; grind
   ·clear k1 k3 k4 k5 k6 k7 k8 k9; grind
   ·clear k1 k2 k4 k5 k6 k7 k8 k9; grind
   ·clear k1 k2 k3 k5 k6 k7 k8 k9; grind
   ·clear k1 k2 k3 k4 k6 k7 k8 k9; grind
   ·clear k1 k2 k3 k4 k5 k7 k8 k9; grind
   ·clear k1 k2 k3 k4 k5 k6 k8 k9; grind
   ·clear k1 k2 k3 k4 k5 k6 k7 k9; grind
   ·clear k1 k2 k3 k4 k5 k6 k7 k8; grind
  ·constructor <;> (try simp only) <;> grind
 split
 ·obtain ⟨c1, c2, c3⟩ := key 0 0 0 (.inl rfl) rfl (by omega) (by omega)
  exact ⟨c1, c2, hv, c3⟩
 ·rename_i hw
  have hw0 : l.want = 0 := by omega
  split
  ·obtain ⟨c1, c2, c3⟩ := key 0 0 l.want (.inl rfl) hw0 (by omega) (by omega)
   exact ⟨c1, c2, hv, c3⟩
  ·obtain ⟨c1, c2, c3⟩ := key 1 l.value l.want (.inr ⟨rfl, by omega⟩) hw0 h.va (fun _ => rfl)
   exact ⟨c1, c2, hv, c3⟩
theorem Akx {m : Msg} (hG : GI n e) (h : CI e p l V) (hm : MI e p l m) (hk : m.kind = 11) (hw : l.want = 3) (hs : m.serial = l.serial) :
  CI e p { l with state := 0, value := 0, want := 0 } V ∧ ∀ m', MI e p l m' → MI e p { l with state := 0, value := 0, want := 0 } m' := by
 have h1 := hm.tak hk
 exact Zdf
theorem Aky {m : Msg} {v : Int} (hG : GI n e) (h : CI e p l V) (hm : MI e p l m) (hk : m.kind = 7) (ha : Ls l m) (hv : 0 ≤ v ∧ v ≤ 255) (hsame : m.alone = false → v = m.value) :
    CI e p { l with state := if m.alone then 2 else 1, value := v, want := 0, seen := m.turn } v ∧ (∀ m', MI e p l m' → MI e p { l with state := if m.alone then 2 else 1, value := v, want := 0, seen := m.turn } m') ∧
    m.value = V ∧ (∀ (q : Nat) (k : Line), q ≠ p → CI e q k V → CI e q k v) ∧ ∀ m' : Msg, m'.kind = 10 → m'.turn = m.turn → MI e p { l with state := if m.alone then 2 else 1, value := v, want := 0, seen := m.turn } m' := by
 obtain ⟨ha1, ha2⟩ := ha
 have hne : l.want ≠ 0 := by omega
 obtain ⟨g1, g2, g3, g4, g5⟩ := (hm.gra hk).2.1 ha1 hne
 have hcur := h.cur (by omega) g2
 have hown := hG.f23 (by omega)
 have hst : l.state ≤ 1 := by have := h.w1; have := h.w2; grind
 have hse : e.last p = l.serial := by have := h.la; have := (hm.gra hk).1; omega
 have hse' : l.serial = e.serial := by have := hcur.1; omega
 have hseen : l.seen < e.turn := by have := hcur.2; grind
 have hal := hG.al
 have hV : e.value = V := h.val hown (fun _ _ => ⟨g2, hseen⟩)
 have hwa : l.want = 1 + e.alone := by have := hcur.2; grind
 have halone : m.alone = true ∧ e.alone = 1 ∨ m.alone = false ∧ e.alone = 0 := by
  cases h' : m.alone with
  | true => exact .inl ⟨rfl, g4.1 h'⟩
  | false => right; refine ⟨rfl, ?_⟩; have : ¬ e.alone = 1 := fun h1 => by have := g4.2 h1; rw [h'] at this; cases this
             omega
 have hvV : e.alone = 0 → v = V := by intro h0; rw [hsame (halone.elim (fun h' => by omega) (fun h' => h'.1)), g5, hV]
 have hnd : e.nd p = 0 := by have := h.ned; have := h.bits; grind
 have key : ∀ st : Int, st = 1 + e.alone → CI e p ⟨st, v, 0, l.serial, m.turn, l.gave, l.given⟩ v ∧ (∀ m', MI e p l m' → MI e p ⟨st, v, 0, l.serial, m.turn, l.gave, l.given⟩ m') ∧ ∀ m' : Msg, m'.kind = 10 → m'.turn = m.turn → MI e p ⟨st, v, 0, l.serial, m.turn, l.gave, l.given⟩ m' := by
  intro st h1
  refine ⟨?_, fun m' hm' => ?_, fun m' k1 k2 => ?_⟩
  ·have k1 := h.se; have k2 := h.la; have k3 := h.va; have k4 := hG.tu; have k5 := h.bits; have k6 := h.gi; have k7 := h.ga; have k8 := h.gra; have k9 := h.shs
   have k10 := hcur.1; have k11 := h.cop; have k12 := h.alo
   constructor <;> (try simp only) <;> grind
  ·have k1 := hm'.get; have k2 := hm'.put; have k3 := hm'.inv; have k4 := hm'.fet; have k5 := hm'.gra; have k6 := hm'.gon; have k7 := hm'.dat; have k8 := hm'.tha; have k9 := hm'.tak
   constructor <;> (try simp only)
   ·clear k2 k3 k4 k5 k6 k7 k8 k9; grind
   ·clear k1 k3 k4 k5 k6 k7 k8 k9; grind
   ·clear k1 k2 k4 k5 k6 k7 k8 k9; grind
   ·clear k1 k2 k3 k5 k6 k7 k8 k9; grind
   ·clear k1 k2 k3 k4 k6 k7 k8 k9; grind
   ·clear k1 k2 k3 k4 k5 k7 k8 k9; grind
   ·clear k1 k2 k3 k4 k5 k6 k8 k9; grind
   ·clear k1 k2 k3 k4 k5 k6 k7 k9; grind
   ·clear k1 k2 k3 k4 k5 k6 k7 k8; grind
  ·constructor <;> (try simp only) <;> grind
 have hst2 : (if m.alone = true then (2 : Int) else 1) = 1 + e.alone := by rcases halone with h | h <;> rw [h.1, h.2] <;> rfl
 obtain ⟨c1, c2, c3⟩ := key _ hst2
 refine ⟨c1, c2, by rw [g5, hV], fun q k hq hk' => ?_, c3⟩
 have h1 := hk'.own; have h2 := hk'.alo; have h3 := hk'.cop; have h4 := hk'.val; have h5 := hk'.gra; have h6 := hk'.bits
 refine ⟨hk'.st, hk'.va, hk'.wa, hk'.se, hk'.ga, hk'.gi, hk'.la, hk'.bits, hk'.leav, hk'.w1, hk'.w2, hk'.taken, hk'.back, hk'.cur, ?_, ?_, ?_, hk'.shs, hk'.ned, hk'.cle, hk'.gra, ?_⟩
 ·clear h2 h3 h4; grind
 ·clear h1 h3 h4; grind
 ·clear h1 h2 h4; grind
 ·clear h1 h2 h3; grind
end core
end Abs
end Go.Proofs.Ytkgijpngobgfjaa
namespace Go.Proofs.Ytkgijpngobgfjaa
namespace Abs
set_option maxHeartbeats 2000000
section home
variable {n : Nat} {e e' : Ab} {L : Nat → Line} {V : Int}
theorem Aiv {m : Msg} {p : Nat} (hG : GI n e) (hC : ∀ q, q < n → CI e q (L q) V) (hp : p < n) (hM : MI e p (L p) m) (hk : m.kind = 1 ∨ m.kind = 2) (hms : 0 ≤ m.serial ∧ m.serial ≤ 65535) (h0 : e.phase = 0) (hs : e.last p < m.serial) (ht : e.turn < 65535)
  (f1 : e'.value = e.value) (f2 : e'.owner = e.owner) (f3 : e'.sh = e.sh) (f4 : e'.who = p) (f5 : e'.serial = m.serial) (f6 : e'.alone = m.kind - 1) (f7 : e'.turn = e.turn + 1) (f8 : e'.last = upd e.last p m.serial)
  (f9 : (0 ≤ e.owner ∧ e'.phase = 1 ∧ ∀ q, e'.nd q = 0) ∨ (e.owner < 0 ∧ m.kind = 2 ∧ e'.phase = 2 ∧ (∃ q : Nat, q < n ∧ e'.nd q = 1) ∧ (∀ q : Nat, e'.nd q = if q = p then 0 else e.sh q)) ∨
   (e.owner < 0 ∧ e'.phase = 3 ∧ (∀ q, e'.nd q = 0) ∧ (m.kind = 2 → ∀ q : Nat, q < n → q ≠ p → e.sh q = 0))) :
  GI n e' ∧ (∀ q, q < n → CI e' q (L q) V) ∧ ∀ q, q < n → ∀ m', MI e q (L q) m' → MI e' q (L q) m' := by
 have h1 := (hM.get hk).2 hs
 have hCp := hC p hp
 have hst : (L p).state ≤ 1 := by have := hCp.w1; have := hCp.w2; grind
 have hnow : e.owner ≠ p := by have := hCp.own; grind
 have how := hG.own
 have hval : e.owner < 0 → e.value = V := by intro h; exact hCp.val (by omega) (by omega)
 have hph : (0 ≤ e.owner ∧ e'.phase = 1) ∨ (e.owner < 0 ∧ m.kind = 2 ∧ e'.phase = 2) ∨ (e.owner < 0 ∧ e'.phase = 3) := by
  rcases f9 with ⟨g1, g2, _⟩ | ⟨g1, g2, g3, _⟩ | ⟨g1, g2, _⟩
  ·exact .inl ⟨g1, g2⟩
  ·exact .inr (.inl ⟨g1, g2, g3⟩)
  ·exact .inr (.inr ⟨g1, g2⟩)
 have hc2 : e'.phase = 2 → ∃ q : Nat, q < n ∧ e'.nd q = 1 := by
  intro h2
  rcases f9 with ⟨g1, g2, _⟩ | ⟨g1, g2, g3, g4, _⟩ | ⟨g1, g2, _⟩
  ·omega
  ·exact g4
  ·omega
 have hnp : e'.nd p = 0 := by
  rcases f9 with ⟨_, _, g⟩ | ⟨_, _, _, _, g⟩ | ⟨_, _, g, _⟩
  ·exact g p
  ·rw [g p, if_pos rfl]
  ·exact g p
 have hnq : ∀ q : Nat, q < n → q ≠ p → (e'.phase = 2 → e'.nd q = e.sh q) ∧ (e'.phase ≠ 2 → e'.nd q = 0) ∧ (e'.phase = 3 → m.kind = 2 → e.sh q = 0) := by
  intro q hq hqp
  rcases f9 with ⟨_, g1, g⟩ | ⟨_, _, g1, _, g⟩ | ⟨_, g1, g, g'⟩
  ·exact ⟨by omega, fun _ => g q, by omega⟩
  ·exact ⟨fun _ => by rw [g q, if_neg hqp], by omega, by omega⟩
  ·exact ⟨by omega, fun _ => g q, fun _ hk => g' hk q hq hqp⟩
 have hlp : e'.last p = m.serial := by rw [f8]; simp [upd]
 have hlq : ∀ q, q ≠ p → e'.last q = e.last q := fun q hqp => by rw [f8]; simp [upd, hqp]
 clear f8 f9
 refine ⟨?_, fun q hq => ?_, fun q hq m' hm' => ?_⟩
 ·constructor
  ·have g0 := hG.own; have g1 := hG.own; grind
  ·have g0 := hG.own; have g1 := hG.ph; grind
  ·have g0 := hG.own; have g1 := hG.idle; grind
  ·intro _; rw [f4]; clear hc2; omega
  ·have g0 := hG.own; have g1 := hG.f1; grind
  ·have g0 := hG.own; have g1 := hG.f23; grind
  ·intro h2; exact ⟨by clear hc2; grind, hc2 h2⟩
  ·have g0 := hG.own; have g1 := hG.al; grind
  ·have g0 := hG.own; have g1 := hG.tu; grind
  ·have g0 := hG.own; have g1 := hG.va; grind
  ·have g0 := hG.own; have g1 := hG.se; grind
 ·have hCq := hC q hq
  have hsh : e'.sh q = e.sh q := by rw [f3]
  clear f3 hc2
  by_cases hqp : q = p
  ·subst hqp
   clear hnq hlq
   have w0 := hCp.wa
   constructor
   ·exact hCp.st
   ·exact hCp.va
   ·exact hCp.wa
   ·exact hCp.se
   ·exact Zeq
   ·exact hCp.gi
   ·exact Zer
   ·exact Zeg
   ·exact hCp.leav
   ·exact hCp.w1
   ·exact hCp.w2
   ·have c0 := hCp.taken; grind
   ·have c0 := hCp.back; have c1 := hCp.wa; grind
   ·have c0 := hCp.cur; have c1 := hCp.ga; grind
   ·have c0 := hCp.own; have c1 := hCp.st; grind
   ·have c0 := hCp.alo; have c1 := hCp.leav; grind
   ·have c0 := hCp.cop; grind
   ·have c0 := hCp.shs; grind
   ·have c0 := hCp.ned; have c1 := hCp.ga; grind
   ·exact Zel
   ·exact Zem
   ·have c0 := hCp.val; have c1 := hCp.ga; grind
  ·have hn2 := hnq q hq hqp
   have hl2 := hlq q hqp
   clear hnq hlq hlp hnp hCp
   constructor
   ·exact hCq.st
   ·exact hCq.va
   ·exact hCq.wa
   ·exact hCq.se
   ·exact Zes
   ·exact hCq.gi
   ·exact Zet
   ·have c0 := hCq.bits; have c1 := hCq.bits; grind
   ·exact hCq.leav
   ·exact hCq.w1
   ·exact hCq.w2
   ·have c0 := hCq.taken; grind
   ·exact Zeh
   ·have c0 := hCq.cur; grind
   ·have c0 := hCq.own; have c1 := hCq.ga; grind
   ·have c0 := hCq.alo; grind
   ·have c0 := hCq.cop; grind
   ·have c0 := hCq.shs; grind
   ·have c0 := hCq.ned; have c1 := hCq.ga; have c2 := hCq.bits; grind
   ·exact Zen
   ·have c0 := hCq.gra; grind
   ·have c0 := hCq.val; grind
 ·have hCq := hC q hq
  clear hc2 f3
  by_cases hqp : q = p
  ·subst hqp
   clear hnq hlq
   exact Zdc
  ·have hn2 := hnq q hq hqp
   have hl2 := hlq q hqp
   clear hnq hlq hlp hnp hCp
   exact Zdc
theorem h_put {m : Msg} {p : Nat} (hG : GI n e) (hC : ∀ q, q < n → CI e q (L q) V) (hp : p < n) (hM : MI e p (L p) m) (hk : m.kind = 3) (hmv : 0 ≤ m.value ∧ m.value ≤ 255) (h0 : e.phase = 0) (hs : e.last p < m.serial)
  (f3 : e'.sh = e.sh) (f4 : e'.who = e.who) (f5 : e'.serial = e.serial) (f6 : e'.alone = e.alone) (f7 : e'.turn = e.turn) (f8 : e'.last = upd e.last p m.serial) (f9 : e'.phase = e.phase) (f10 : e'.nd = e.nd)
  (f1 : (e.owner = p ∧ e'.owner = -1 ∧ e'.value = m.value) ∨ (e.owner ≠ p ∧ e'.owner = e.owner ∧ e'.value = e.value)) :
  GI n e' ∧ (∀ q, q < n → CI e' q (L q) V) ∧ ∀ q, q < n → ∀ m', MI e q (L q) m' → MI e' q (L q) m' := by
 have h1 := (hM.put hk).2 hs
 have h2 := (hM.put hk).1
 have hCp := hC p hp
 have how := hG.own
 have hA : e.owner = p → (L p).state = 3 ∧ (L p).want = 3 ∧ m.serial = (L p).serial ∧ m.value = V := by
  intro ho
  have hc : m.serial = (L p).serial ∧ (L p).want = 3 ∧ m.value = (L p).value := by grind
  have h3 := hCp.leav.2 hc.2.1
  exact ⟨h3, hc.2.1, hc.1, by rw [hc.2.2]; exact (hCp.alo (.inr ⟨h3, by omega⟩)).2⟩
 have hB : e.owner ≠ p → m.serial < (L p).serial ∨ (L p).want = 0 := by
  intro ho
  rcases h1 with h1 | h1
  ·exfalso
   have h3 := hCp.leav.2 h1.2.1
   have := (hCp.alo (.inr ⟨h3, by omega⟩)).1
   grind
  ·exact h1.1
 have hlp : e'.last p = m.serial := by rw [f8]; simp [upd]
 have hlq : ∀ q, q ≠ p → e'.last q = e.last q := fun q hqp => by rw [f8]; simp [upd, hqp]
 clear f8
 refine ⟨?_, fun q hq => ?_, fun q hq m' hm' => ?_⟩
 ·exact ZcQ
 ·have hCq := hC q hq
  have hsh : e'.sh q = e.sh q := by rw [f3]
  have hnd : e'.nd q = e.nd q := by rw [f10]
  clear f3 f10
  by_cases hqp : q = p
  ·subst hqp
   clear hlq
   have l0 := hCp.leav
   have a0 := hCp.la
   constructor
   ·exact hCp.st
   ·exact hCp.va
   ·exact hCp.wa
   ·exact hCp.se
   ·exact Zeq
   ·exact hCp.gi
   ·exact Zer
   ·exact Zeg
   ·exact hCp.leav
   ·exact hCp.w1
   ·exact hCp.w2
   ·have c0 := hCp.taken; have c1 := hCp.wa; grind
   ·have c0 := hCp.back; grind
   ·have c0 := hCp.cur; grind
   ·have c0 := hCp.own; have c1 := hCp.st; grind
   ·have c0 := hCp.alo; grind
   ·have c0 := hCp.cop; have c1 := hCp.cop; grind
   ·have c0 := hCp.shs; have c1 := hCp.st; grind
   ·have c0 := hCp.ned; grind
   ·exact Zel
   ·exact Zem
   ·have c0 := hCp.val; have c1 := hCp.val; grind
  ·have hl2 := hlq q hqp
   clear hlq hlp hCp
   constructor
   ·exact hCq.st
   ·exact hCq.va
   ·exact hCq.wa
   ·exact hCq.se
   ·exact Zes
   ·exact hCq.gi
   ·exact Zet
   ·have c0 := hCq.bits; grind
   ·exact hCq.leav
   ·exact hCq.w1
   ·exact hCq.w2
   ·have c0 := hCq.taken; grind
   ·exact Zeh
   ·have c0 := hCq.cur; grind
   ·have c0 := hCq.own; grind
   ·have c0 := hCq.alo; grind
   ·have c0 := hCq.cop; grind
   ·have c0 := hCq.shs; grind
   ·have c0 := hCq.ned; grind
   ·exact Zen
   ·have c0 := hCq.gra; grind
   ·have c0 := hCq.val; grind
 ·have hCq := hC q hq
  have hnd : e'.nd q = e.nd q := by rw [f10]
  clear f3 f10
  by_cases hqp : q = p
  ·subst hqp
   clear hlq
   exact Zdj
  ·have hl2 := hlq q hqp
   clear hlq hlp hCp
   exact Zdj
theorem h_data {m : Msg} {p : Nat} (hG : GI n e) (hC : ∀ q, q < n → CI e q (L q) V) (hp : p < n) (hM : MI e p (L p) m) (hk : m.kind = 9) (hmv : 0 ≤ m.value ∧ m.value ≤ 255) (h0 : e.phase = 1) (ht : m.turn = e.turn) (ho : e.owner = p)
  (f1 : e'.value = m.value) (f2 : e'.owner = -1) (f3 : ∀ q : Nat, e'.sh q = if q = p ∧ e.alone = 0 then 1 else e.sh q) (f4 : e'.who = e.who) (f5 : e'.serial = e.serial) (f6 : e'.alone = e.alone) (f7 : e'.turn = e.turn) (f8 : e'.last = e.last) (f9 : e'.phase = 3) (f10 : ∀ q, e'.nd q = 0) :
  GI n e' ∧ (∀ q, q < n → CI e' q (L q) V) ∧ ∀ q, q < n → ∀ m', MI e q (L q) m' → MI e' q (L q) m' := by
 have h1 := (hM.dat hk).2 ht h0 ho
 have hCp := hC p hp
 have hga := hCp.ga
 have hown := hCp.own ho
 have hmV : m.value = V ∧ (L p).state < 2 ∧ (L p).seen = e.turn ∧ (e.alone = 1 → (L p).state = 0) := by grind
 have hf := hG.f1 h0
 have hwp : e.who ≠ p := by rw [← ho]; exact fun h => hf.2 h.symm
 have hw0 : (L p).want ≠ 3 := by have := hCp.leav; have := hCp.st; grind
 have hal := hG.al
 have hsp : (e.alone = 0 → e'.sh p = 1) ∧ (e.alone ≠ 0 → e'.sh p = e.sh p) := by have := f3 p; grind
 have hsq : ∀ q, q ≠ p → e'.sh q = e.sh q := by intro q hq; have := f3 q; grind
 clear f3
 refine ⟨?_, fun q hq => ?_, fun q hq m' hm' => ?_⟩
 ·exact ZcQ
 ·refine ZaV ?_;intro hCq hl
  have hnd := f10 q
  have b0 := hCq.bits
  have s0 := hCq.shs
  clear f10 f8
  by_cases hqp : q = p
  ·subst hqp
   clear hsq
   constructor
   ·exact hCp.st
   ·exact hCp.va
   ·exact hCp.wa
   ·exact hCp.se
   ·exact Zeq
   ·exact hCp.gi
   ·exact Zer
   ·exact Zeg
   ·exact hCp.leav
   ·exact hCp.w1
   ·exact hCp.w2
   ·have c0 := hCp.taken; grind
   ·have c0 := hCp.back; grind
   ·have c0 := hCp.cur; have c1 := hCp.cur; grind
   ·have c0 := hCp.own; grind
   ·have c0 := hCp.alo; have c1 := hCp.st; have c2 := hCp.leav; grind
   ·have c0 := hCp.cop; grind
   ·have c0 := hCp.shs; grind
   ·have c0 := hCp.ned; grind
   ·exact Zel
   ·exact Zem
   ·have c0 := hCp.val; grind
  ·have hs2 := hsq q hqp
   clear hsq hsp hCp
   constructor
   ·exact hCq.st
   ·exact hCq.va
   ·exact hCq.wa
   ·exact hCq.se
   ·exact Zes
   ·exact hCq.gi
   ·exact Zet
   ·have c0 := hCq.bits; grind
   ·exact hCq.leav
   ·exact hCq.w1
   ·exact hCq.w2
   ·have c0 := hCq.taken; have c1 := hCq.taken; grind
   ·exact Zeh
   ·have c0 := hCq.cur; have c1 := hCq.cur; grind
   ·have c0 := hCq.own; grind
   ·have c0 := hCq.alo; have c1 := hCq.alo; grind
   ·have c0 := hCq.cop; grind
   ·have c0 := hCq.shs; grind
   ·have c0 := hCq.ned; grind
   ·exact Zen
   ·have c0 := hCq.gra; have c1 := hCq.gra; grind
   ·have c0 := hCq.val; grind
 ·refine ZaV ?_;intro hCq hl
  have hnd := f10 q
  clear f10 f8
  by_cases hqp : q = p
  ·subst hqp
   constructor
   ·have k0 := hm'.get; grind
   ·have k0 := hm'.put; have c0 := hCq.st; grind
   ·have k0 := hm'.inv; grind
   ·have k0 := hm'.fet; grind
   ·have k0 := hm'.gra; have c0 := hCq.taken; have c1 := hCq.cur; grind
   ·have k0 := hm'.gon; grind
   ·have k0 := hm'.dat; grind
   ·have k0 := hm'.tha; grind
   ·have k0 := hm'.tak; grind
  ·clear hCp
   constructor
   ·have k0 := hm'.get; grind
   ·have k0 := hm'.put; have c0 := hCq.st; grind
   ·have k0 := hm'.inv; grind
   ·have k0 := hm'.fet; grind
   ·have k0 := hm'.gra; have c0 := hCq.taken; have c1 := hCq.cur; have c2 := hCq.wa; grind
   ·have k0 := hm'.gon; grind
   ·have k0 := hm'.dat; grind
   ·have k0 := hm'.tha; grind
   ·have k0 := hm'.tak; grind
theorem Agh {m : Msg} {p : Nat} (hG : GI n e) (hC : ∀ q, q < n → CI e q (L q) V) (hp : p < n) (hM : MI e p (L p) m) (hk : m.kind = 8) (h0 : e.phase = 2) (ht : m.turn = e.turn) (ho : e.nd p = 1)
  (f1 : e'.value = e.value) (f2 : e'.owner = e.owner) (f3 : e'.sh = upd e.sh p 0) (f4 : e'.who = e.who) (f5 : e'.serial = e.serial) (f6 : e'.alone = e.alone) (f7 : e'.turn = e.turn) (f8 : e'.last = e.last)
  (f9 : (e'.phase = 2 ∧ (e'.nd = upd e.nd p 0) ∧ ∃ q : Nat, q < n ∧ e'.nd q = 1) ∨ (e'.phase = 3 ∧ (∀ q, e'.nd q = 0) ∧ ∀ q : Nat, q ≠ p → q < n → e.nd q = 0)) :
  GI n e' ∧ (∀ q, q < n → CI e' q (L q) V) ∧ ∀ q, q < n → ∀ m', MI e q (L q) m' → MI e' q (L q) m' := by
 have h1 := hM.gon hk
 have hCp := hC p hp
 have hga := hCp.ga
 have hned := hCp.ned ho
 have hst : (L p).state = 0 ∧ (L p).seen = e.turn ∧ e.who ≠ p := by grind
 have how := hG.f23 (by omega)
 have hal := (hG.c2 h0).1
 have hph : e'.phase = 2 ∨ e'.phase = 3 := by rcases f9 with ⟨g, _⟩ | ⟨g, _⟩ <;> omega
 have hc2 : e'.phase = 2 → ∃ q : Nat, q < n ∧ e'.nd q = 1 := by
  intro h2
  rcases f9 with ⟨_, _, g⟩ | ⟨g, _⟩
  ·exact g
  ·omega
 have hnp : e'.nd p = 0 := by
  rcases f9 with ⟨_, g, _⟩ | ⟨_, g, _⟩
  ·rw [g]; simp [upd]
  ·exact g p
 have hnq : ∀ q : Nat, q < n → q ≠ p → e'.nd q = e.nd q ∧ (e'.phase = 3 → e.nd q = 0) := by
  intro q hq hqp
  rcases f9 with ⟨g1, g, _⟩ | ⟨g1, g, g'⟩
  ·exact ⟨by rw [g]; simp [upd, hqp], by omega⟩
  ·exact ⟨by rw [g q, g' q hqp hq], fun _ => g' q hqp hq⟩
 have hsp : e'.sh p = 0 := by rw [f3]; simp [upd]
 have hsq : ∀ q, q ≠ p → e'.sh q = e.sh q := fun q hqp => by rw [f3]; simp [upd, hqp]
 clear f9 f3
 refine ⟨?_, fun q hq => ?_, fun q hq m' hm' => ?_⟩
 ·constructor
  ·have g0 := hG.own; have g1 := hG.own; grind
  ·have g0 := hG.own; have g1 := hG.ph; grind
  ·have g0 := hG.own; have g1 := hG.idle; grind
  ·have g0 := hG.own; have g1 := hG.whor; grind
  ·have g0 := hG.own; have g1 := hG.f1; grind
  ·have g0 := hG.own; have g1 := hG.f23; grind
  ·intro h2; exact ⟨by clear hc2; grind, hc2 h2⟩
  ·have g0 := hG.own; have g1 := hG.al; grind
  ·have g0 := hG.own; have g1 := hG.tu; grind
  ·have g0 := hG.own; have g1 := hG.va; grind
  ·have g0 := hG.own; have g1 := hG.se; grind
 ·refine ZaV ?_;intro hCq hl
  clear f8 hc2
  by_cases hqp : q = p
  ·subst hqp
   clear hnq hsq
   constructor
   ·exact hCp.st
   ·exact hCp.va
   ·exact hCp.wa
   ·exact hCp.se
   ·exact Zeq
   ·exact hCp.gi
   ·exact Zer
   ·exact Zeg
   ·exact hCp.leav
   ·exact hCp.w1
   ·exact hCp.w2
   ·have c0 := hCp.taken; grind
   ·have c0 := hCp.back; grind
   ·have c0 := hCp.cur; grind
   ·have c0 := hCp.own; grind
   ·have c0 := hCp.alo; have c1 := hCp.st; grind
   ·have c0 := hCp.cop; grind
   ·have c0 := hCp.shs; grind
   ·have c0 := hCp.ned; grind
   ·exact Zel
   ·exact Zem
   ·have c0 := hCp.val; grind
  ·have hn2 := hnq q hq hqp
   have hs2 := hsq q hqp
   have b0 := hCq.bits
   clear hnq hsq hCp
   constructor
   ·exact hCq.st
   ·exact hCq.va
   ·exact hCq.wa
   ·exact hCq.se
   ·exact Zes
   ·exact hCq.gi
   ·exact Zet
   ·have c0 := hCq.bits; grind
   ·exact hCq.leav
   ·exact hCq.w1
   ·exact hCq.w2
   ·have c0 := hCq.taken; grind
   ·exact Zeh
   ·have c0 := hCq.cur; have c1 := hCq.cur; grind
   ·have c0 := hCq.own; grind
   ·have c0 := hCq.alo; have c1 := hCq.alo; grind
   ·have c0 := hCq.cop; have c1 := hCq.cop; grind
   ·have c0 := hCq.shs; grind
   ·have c0 := hCq.ned; have c1 := hCq.ned; grind
   ·exact Zen
   ·have c0 := hCq.gra; have c1 := hCq.cle; grind
   ·have c0 := hCq.val; grind
 ·refine ZaV ?_;intro hCq hl
  clear f8 hc2
  by_cases hqp : q = p
  ·subst hqp
   clear hnq hsq
   exact Zdi
  ·have hn2 := hnq q hq hqp
   clear hnq hsq hCp
   exact Zdi
theorem U6 {m : Msg} {p : Nat} (hG : GI n e) (hC : ∀ q, q < n → CI e q (L q) V) (hp : p < n) (hM : MI e p (L p) m) (hk : m.kind = 10) (h0 : e.phase = 3) (ht : m.turn = e.turn) (hw : e.who = p)
  (f1 : e'.value = e.value) (f4 : e'.who = 0) (f5 : e'.serial = 0) (f6 : e'.alone = 0) (f7 : e'.turn = e.turn) (f8 : e'.last = e.last) (f9 : e'.phase = 0) (f10 : ∀ q, e'.nd q = e.nd q)
  (f2 : (e.alone = 1 ∧ e'.owner = p ∧ ∀ q, e'.sh q = 0) ∨ (e.alone = 0 ∧ e'.owner = e.owner ∧ ∀ q : Nat, e'.sh q = if q = p then 1 else e.sh q)) :
  GI n e' ∧ (∀ q, q < n → CI e' q (L q) V) ∧ ∀ q, q < n → ∀ m', MI e q (L q) m' → MI e' q (L q) m' := by
 have h1 := hM.tha hk
 have hCp := hC p hp
 have hga := hCp.ga
 have hcur := hCp.cur (by omega) hw
 have hst : (L p).seen = e.turn ∧ (e.alone = 1 → 2 ≤ (L p).state) ∧ (e.alone = 0 → (L p).state ≤ 1) ∧ ((L p).serial ≠ e.serial ∨ (L p).want = 0) := by grind
 have how := hG.f23 (by omega)
 have hal := hG.al
 have ha2 : (e.alone = 1 ∧ e'.owner = p) ∨ (e.alone = 0 ∧ e'.owner = -1) := by
  rcases f2 with ⟨g1, g2, _⟩ | ⟨g1, g2, _⟩
  ·exact .inl ⟨g1, g2⟩
  ·exact .inr ⟨g1, by rw [g2]; exact how⟩
 have hsp : (e.alone = 1 → e'.sh p = 0) ∧ (e.alone = 0 → e'.sh p = 1) := by
  rcases f2 with ⟨g1, _, g⟩ | ⟨g1, _, g⟩
  ·exact ⟨fun _ => g p, by omega⟩
  ·exact ⟨by omega, fun _ => by rw [g p, if_pos rfl]⟩
 have hsq : ∀ q : Nat, q ≠ p → (e.alone = 1 → e'.sh q = 0) ∧ (e.alone = 0 → e'.sh q = e.sh q) := by
  intro q hqp
  rcases f2 with ⟨g1, _, g⟩ | ⟨g1, _, g⟩
  ·exact ⟨fun _ => g q, by omega⟩
  ·exact ⟨by omega, fun _ => by rw [g q, if_neg hqp]⟩
 clear f2
 refine ⟨?_, fun q hq => ?_, fun q hq m' hm' => ?_⟩
 ·exact ZcQ
 ·refine ZaV ?_;intro hCq hl
  have hnd := f10 q
  have n0 := hCq.ned
  have b0 := hCq.bits
  clear f10 f8
  by_cases hqp : q = p
  ·subst hqp
   clear hsq
   have l0 := hCp.leav
   have s0 := hCp.st
   constructor
   ·exact hCp.st
   ·exact hCp.va
   ·exact hCp.wa
   ·exact hCp.se
   ·exact Zeq
   ·exact hCp.gi
   ·exact Zer
   ·exact Zeg
   ·exact hCp.leav
   ·exact hCp.w1
   ·exact hCp.w2
   ·have c0 := hCp.taken; have c1 := hCp.wa; grind
   ·have c0 := hCp.back; have c1 := hCp.la; grind
   ·have c0 := hCp.cur; grind
   ·have c0 := hCp.own; have c1 := hCp.own; grind
   ·have c0 := hCp.alo; have c1 := hCp.alo; grind
   ·have c0 := hCp.cop; grind
   ·have c0 := hCp.shs; grind
   ·have c0 := hCp.ned; grind
   ·exact Zel
   ·exact Zem
   ·have c0 := hCp.val; grind
  ·have hs2 := hsq q hqp
   clear hsq hsp hCp
   constructor
   ·exact hCq.st
   ·exact hCq.va
   ·exact hCq.wa
   ·exact hCq.se
   ·exact Zes
   ·exact hCq.gi
   ·exact Zet
   ·have c0 := hCq.bits; grind
   ·exact hCq.leav
   ·exact hCq.w1
   ·exact hCq.w2
   ·have c0 := hCq.taken; grind
   ·exact Zeh
   ·have c0 := hCq.cur; grind
   ·have c0 := hCq.own; grind
   ·have c0 := hCq.alo; grind
   ·have c0 := hCq.cop; have c1 := hCq.gra; grind
   ·have c0 := hCq.shs; have c1 := hCq.gra; grind
   ·have c0 := hCq.ned; grind
   ·exact Zen
   ·have c0 := hCq.gra; grind
   ·have c0 := hCq.val; have c1 := hCq.val; grind
 ·refine ZaV ?_;intro hCq hl
  have hnd := f10 q
  have n0 := hCq.ned
  clear f10 f8
  by_cases hqp : q = p
  ·subst hqp
   have l0 := hCp.leav
   have s0 := hCp.st
   constructor
   ·have k0 := hm'.get; grind
   ·have k0 := hm'.put; have c0 := hCq.la; grind
   ·have k0 := hm'.inv; grind
   ·have k0 := hm'.fet; grind
   ·have k0 := hm'.gra; have c0 := hCq.la; have c1 := hCq.wa; have c2 := hCq.ga; grind
   ·have k0 := hm'.gon; grind
   ·have k0 := hm'.dat; grind
   ·have k0 := hm'.tha; grind
   ·have k0 := hm'.tak; grind
  ·clear hCp
   constructor
   ·have k0 := hm'.get; grind
   ·have k0 := hm'.put; grind
   ·have k0 := hm'.inv; grind
   ·have k0 := hm'.fet; grind
   ·have k0 := hm'.gra; have c0 := hCq.la; have c1 := hCq.wa; have c2 := hCq.taken; grind
   ·have k0 := hm'.gon; grind
   ·have k0 := hm'.dat; grind
   ·have k0 := hm'.tha; grind
   ·have k0 := hm'.tak; grind
end home
end Abs
end Go.Proofs.Ytkgijpngobgfjaa
namespace Go.Proofs.Ytkgijpngobgfjaa
open Abs
def Cm (s : Int) (p : Nat) : Int := if s.toNat.testBit p then 1 else 0
def ab (e : Entry) : Ab :=
  { value := e.value, owner := e.owner, phase := e.phase, who := e.who, serial := e.serial, alone := if e.alone then 1 else 0, turn := e.turn,
    last := fun p => e.last.getD p 0, sh := Cm e.sharers, nd := Cm e.need }
def ent (x : Chip) (i : Nat) : Entry := x.home.getD i A5
def cor (x : Chip) (p : Nat) : Core := x.cores.getD p Fa
def lin (x : Chip) (i p : Nat) : Line := (cor x p).lines.getD i zLine
def I5 (n : Nat) (m : Msg) : Nat := if m.dst = (n : Int) then m.src.toNat else m.dst.toNat
def F1 (k : Int) : Int := if k = 1 then 1 else if k = 4 then 3 else 2
structure CW (k : Core) (nl : Nat) : Prop where
 free : k.wait.kind = 0 → k.wait = zOp ∧ ∀ i, i < nl → (k.lines.getD i zLine).want = 0
 busy : k.wait.kind ≠ 0 → (1 ≤ k.wait.kind ∧ k.wait.kind ≤ 4) ∧ (0 ≤ k.wait.line ∧ k.wait.line < nl) ∧ (0 ≤ k.wait.value ∧ k.wait.value ≤ 255) ∧
  ∀ i, i < nl → (k.lines.getD i zLine).want = if (i : Int) = k.wait.line then F1 k.wait.kind else 0
def MX (n : Nat) (x : Chip) (m : Msg) : Prop := MI (ab (ent x m.line.toNat)) (I5 n m) (lin x m.line.toNat (I5 n m)) m
def Cz (n nl : Nat) : Config := ⟨(n : Int), (nl : Int)⟩
structure Inv (n nl : Nat) (x : Chip) (M : List Int) : Prop where
 n1 : 1 ≤ n ∧ n ≤ 4
 l1 : 1 ≤ nl ∧ nl ≤ 4
 nc : x.cores.length = n
 nh : x.home.length = nl
 ncl : ∀ p, p < n → (cor x p).lines.length = nl
 nla : ∀ i, i < nl → (ent x i).last.length = n
 ml : M.length = nl
 mv : ∀ i, i < nl → 0 ≤ M.getD i 0 ∧ M.getD i 0 ≤ 255
 bit : ∀ i, i < nl → (0 ≤ (ent x i).sharers ∧ (ent x i).sharers < (2 ^ n : Nat)) ∧ (0 ≤ (ent x i).need ∧ (ent x i).need < (2 ^ n : Nat))
 gi : ∀ i, i < nl → GI n (ab (ent x i))
 ci : ∀ i, i < nl → ∀ p, p < n → CI (ab (ent x i)) p (lin x i p) (M.getD i 0)
 cw : ∀ p, p < n → CW (cor x p) nl
 fr : x.frames.length ≤ 40
 mi : ∀ b ∈ x.frames, b.length = 12 ∧ ∀ m, Ad (Cz n nl) b = (m, 0) → MX n x m
section
variable {n nl : Nat} {x : Chip} {M : List Int}
theorem Inv.core {p i : Nat} {l' : Line} {w' : Op} {V' : Int} (h : Inv n nl x M) (hp : p < n) (hi : i < nl) (hl : CI (ab (ent x i)) p l' V') (ho : ∀ q, q < n → q ≠ p → CI (ab (ent x i)) q (lin x i q) (M.getD i 0) → CI (ab (ent x i)) q (lin x i q) V')
  (hm : ∀ m, MI (ab (ent x i)) p (lin x i p) m → MI (ab (ent x i)) p l' m) (hw : CW (Ce (cor x p) i l' w') nl) (hv : 0 ≤ V' ∧ V' ≤ 255) :
  Inv n nl ⟨x.cores.set p (Ce (cor x p) i l' w'), x.home, x.frames⟩ (M.set i V') := by
 have hpc : p < x.cores.length := by rw [h.nc]; exact hp
 have hcl := h.ncl p hp
 have hcor : ∀ q, cor ⟨x.cores.set p (Ce (cor x p) i l' w'), x.home, x.frames⟩ q = if q = p then Ce (cor x p) i l' w' else cor x q := fun q => Bi _ _ _ _ _ hpc
 have hlin : ∀ j q, lin ⟨x.cores.set p (Ce (cor x p) i l' w'), x.home, x.frames⟩ j q = if q = p ∧ j = i then l' else lin x j q := by
  intro j q
  unfold lin
  rw [hcor]
  by_cases hq : q = p
  ·subst hq
   rw [if_pos rfl]
   show ((cor x q).lines.set _ l').getD j zLine = _
   rw [Int.toNat_natCast, Bi _ _ _ _ _ (by rw [hcl]; exact hi)]
   by_cases hj : j = i
   ·rw [if_pos hj, if_pos ⟨rfl, hj⟩]
   ·rw [if_neg hj, if_neg (by simp [hj])]
  ·rw [if_neg hq, if_neg (by simp [hq])]
 have hM : ∀ j, (M.set i V').getD j 0 = if j = i then V' else M.getD j 0 := fun j => Bi _ _ _ _ _ (by rw [h.ml]; exact hi)
 refine ⟨h.n1, h.l1, by simp [h.nc], h.nh, ?_, h.nla, by simp [h.ml], ?_, h.bit, h.gi, ?_, ?_, h.fr, ?_⟩
 ·intro q hq
  rw [hcor]
  split
  ·show ((cor x p).lines.set _ l').length = nl
   rw [List.length_set]; exact hcl
  ·exact h.ncl q hq
 ·intro j hj
  rw [hM]; split
  ·exact hv
  ·exact h.mv j hj
 ·intro j hj q hq
  rw [hlin, hM]
  by_cases hji : j = i
  ·subst hji
   rw [if_pos rfl]
   by_cases hqp : q = p
   ·subst hqp; rw [if_pos ⟨rfl, rfl⟩]; exact hl
   ·rw [if_neg (by simp [hqp])]; exact ho q hq hqp (h.ci j hj q hq)
  ·rw [if_neg (by simp [hji]), if_neg hji]; exact h.ci j hj q hq
 ·intro q hq
  rw [hcor]; split
  ·exact hw
  ·exact h.cw q hq
 ·intro b hb
  obtain ⟨h1, h2⟩ := h.mi b hb
  refine ⟨h1, fun m hmp => ?_⟩
  have h3 := h2 m hmp
  unfold MX at h3 ⊢
  rw [hlin]
  show MI (ab (ent x m.line.toNat)) _ _ m
  split
  ·rename_i hc
   rw [hc.1, hc.2] at h3 ⊢
   exact hm m h3
  ·exact h3
theorem Inv.home {i : Nat} {e' : Entry} (h : Inv n nl x M) (hi : i < nl) (hla : e'.last.length = n) (hb : (0 ≤ e'.sharers ∧ e'.sharers < (2 ^ n : Nat)) ∧ (0 ≤ e'.need ∧ e'.need < (2 ^ n : Nat)))
  (hg : GI n (ab e') ∧ (∀ q, q < n → CI (ab e') q (lin x i q) (M.getD i 0)) ∧ ∀ q, q < n → ∀ m, MI (ab (ent x i)) q (lin x i q) m → MI (ab e') q (lin x i q) m) :
  Inv n nl ⟨x.cores, x.home.set i e', x.frames⟩ M := by
 have hic : i < x.home.length := by rw [h.nh]; exact hi
 have hent : ∀ j, ent ⟨x.cores, x.home.set i e', x.frames⟩ j = if j = i then e' else ent x j := fun q => Bi _ _ _ _ _ hic
 obtain ⟨hg1, hg2, hg3⟩ := hg
 refine ⟨h.n1, h.l1, h.nc, by simp [h.nh], h.ncl, ?_, h.ml, h.mv, ?_, ?_, ?_, h.cw, h.fr, ?_⟩
 ·intro j hj; rw [hent]; split
  ·exact hla
  ·exact h.nla j hj
 ·intro j hj; rw [hent]; split
  ·exact hb
  ·exact h.bit j hj
 ·intro j hj; rw [hent]; split
  ·exact hg1
  ·exact h.gi j hj
 ·intro j hj q hq
  rw [hent]
  show CI _ q (lin x j q) _
  by_cases hji : j = i
  ·subst hji; rw [if_pos rfl]; exact hg2 q hq
  ·rw [if_neg hji]; exact h.ci j hj q hq
 ·intro b hb
  obtain ⟨h1, h2⟩ := h.mi b hb
  refine ⟨h1, fun m hmp => ?_⟩
  have h3 := h2 m hmp
  have hw := Ec (El hmp).2.2.2.2.1
  have hpe : I5 n m < n := by
   unfold I5
   have h4 : m.src = (n : Int) ↔ ¬ m.dst = (n : Int) := by
    have := hw.2.2.2.2.2.2
    simp only [Cz] at this
    by_cases h : m.src = (n : Int) <;> by_cases h' : m.dst = (n : Int) <;> simp_all
   have h5 := hw.2.1
   simp only [Cz] at h5
   split
   ·have : ¬ m.src = (n : Int) := by rename_i hd; intro hs; exact h4.1 hs hd
    omega
   ·omega
  unfold MX at h3 ⊢
  rw [hent]
  show MI _ _ (lin x m.line.toNat _) m
  split
  ·rename_i hc
   rw [hc] at h3 ⊢
   exact hg3 _ hpe m h3
  ·exact h3
theorem Inv.frames {f : Frames} (h : Inv n nl x M) (hl : f.length ≤ 40) (hf : ∀ b ∈ f, b.length = 12 ∧ ∀ m, Ad (Cz n nl) b = (m, 0) → MX n x m) : Inv n nl ⟨x.cores, x.home, f⟩ M :=
 ⟨h.n1, h.l1, h.nc, h.nh, h.ncl, h.nla, h.ml, h.mv, h.bit, h.gi, h.ci, h.cw, hl, hf⟩
theorem Inv.send {b : List UInt8} (h : Inv n nl x M) (hb : b.length = 12 ∧ ∀ m, Ad (Cz n nl) b = (m, 0) → MX n x m) : Inv n nl ⟨x.cores, x.home, Cu x.frames b⟩ M := by
 unfold Cu
 have := h.fr
 split
 ·refine h.frames (by simp; omega) fun b' hb' => ?_
  rcases List.mem_append.1 hb' with e | e
  ·exact h.mi b' e
  ·rw [List.mem_singleton.1 e]; exact hb
 ·exact h
theorem Inv.msg {m : Msg} (h : Inv n nl x M) (hw : Bn (Cz n nl) m = 0) (hm : MX n x m) : (msgBytes m).length = 12 ∧ ∀ m', Ad (Cz n nl) (msgBytes m) = (m', 0) → MX n x m' := by
 refine ⟨Rb m, fun m' h' => ?_⟩
 have h1 := h.n1; have h2 := h.l1
 rw [Mq hw (by simp only [Cz]; omega) (by simp only [Cz]; omega)] at h'
 cases h'; exact hm
theorem Inv.way {ms : List Msg} : ∀ {x : Chip}, Inv n nl x M → (∀ m ∈ ms, Bn (Cz n nl) m = 0 ∧ MX n x m) → Inv n nl ⟨x.cores, x.home, way x.frames ms⟩ M := by
 induction ms with
 | nil => intro x h _; exact h
 | cons m ms ih =>
  intro x h hm
  have h1 := hm m (List.mem_cons_self ..)
  have h2 := h.send (h.msg h1.1 h1.2)
  exact ih h2 fun m' hm' => hm m' (List.mem_cons_of_mem _ hm')
theorem Inv.erase (h : Inv n nl x M) (k : Nat) : Inv n nl ⟨x.cores, x.home, x.frames.eraseIdx k⟩ M := by
 have := h.fr
 refine h.frames (Nat.le_trans (List.length_eraseIdx_le _ _) h.fr) fun b hb => h.mi b (List.mem_of_mem_eraseIdx hb)
theorem H2 {l : Frames} {k : Int} (h : ¬ (k < 0 ∨ (l.length : Int) ≤ k)) : Cg l k ∈ l := by
 unfold Cg
 rw [List.getD_eq_getElem?_getD, List.getElem?_eq_getElem (by omega)]
 exact List.getElem_mem _
theorem Inv.spoil {k bit : Int} (h : Inv n nl x M) (h1 : ¬ (k < 0 ∨ (x.frames.length : Int) ≤ k)) (h2 : (Ad (Cz n nl) (Cg x.frames k)).2 = 0) (h3 : 0 ≤ bit) (h4 : bit < 8 * ((Cg x.frames k).length : Int)) :
  Inv n nl ⟨x.cores, x.home, x.frames.set k.toNat (Ew (Cg x.frames k) bit)⟩ M := by
 refine h.frames (by rw [List.length_set]; exact h.fr) fun b hb => ?_
 rcases List.mem_or_eq_of_mem_set hb with e | e
 ·exact h.mi b e
 ·subst e
  have hl := (h.mi _ (H2 h1)).1
  refine ⟨by rw [Tw]; exact hl, fun m hm => ?_⟩
  have hp : Ad (Cz n nl) (Cg x.frames k) = ((Ad (Cz n nl) (Cg x.frames k)).1, 0) := by rw [← h2]
  rw [Vv hp h3 (by rw [hl] at h4; exact h4)] at hm
  cases hm
end
set_option maxHeartbeats 1000000
set_option maxRecDepth 8000
variable {L : List Chunk} {R : List Fact} {w : World}
structure KB (c : Core) : Prop where
 n : c.lines.length ≤ 4
 v : ∀ i, i < c.lines.length → 0 ≤ (c.lines.getD i zLine).value ∧ (c.lines.getD i zLine).value ≤ 255
 w : CW c c.lines.length
theorem Yq {v : Int} {o : Op} (hv : An v) : An (Be v o).2 := by
 unfold Be; split
 ·exact hv
 split
 ·unfold An; simp only; omega
 split
 ·exact hv
 ·unfold An; simp only; omega
theorem KB.wait {c : Core} (h : KB c) (i : Int) (hi : i.toNat < c.lines.length) (hw : (Bo c i).want ≠ 0) : (1 ≤ c.wait.kind ∧ c.wait.kind ≤ 4) ∧ (0 ≤ c.wait.line ∧ c.wait.line < c.lines.length) ∧ (0 ≤ c.wait.value ∧ c.wait.value ≤ 255) := by
 have hb := h.w.busy (fun h0 => hw ((h.w.free h0).2 i.toNat hi))
 exact ⟨hb.1, hb.2.1, hb.2.2.1⟩
theorem KB.wwf {c : Core} (h : KB c) : c.wait.wf := by
 by_cases h0 : c.wait.kind = 0
 ·rw [(h.w.free h0).1]; unfold Op.wf An zOp; simp only; omega
 ·obtain ⟨h1, h2, h3, _⟩ := h.w.busy h0
  have := h.n
  unfold Op.wf An; omega
theorem U3 {c : Core} {id home : Int} {m : Msg} (h : m.line < 0 ∨ (c.lines.length : Int) ≤ m.line) : Ac c id home m = (c, [], []) := by unfold Ac; rw [if_pos h]
end Go.Proofs.Ytkgijpngobgfjaa
