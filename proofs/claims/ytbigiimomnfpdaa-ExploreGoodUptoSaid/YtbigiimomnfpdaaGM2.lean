/- This file proves parts of what its law needs: each part is told ahead of it. No conditions. -/
import Derived.Test.YtbigiimomnfpdaaGM1
import Derived.Lib.Builder
import Derived.Lib.UnsafeStr
import Derived.Laws.Externs
import Derived.Laws.StructEq
set_option linter.unusedVariables false
set_option linter.unusedSimpArgs false
namespace Go.Proofs.Ytbigiimomnfpdaa
open Go
def cF (v : Value) (sz i : Nat) (cs : List Value) : Fact :=
 ⟨fun m => ∃ a cells T fz, ep v sz i 0 = .pointer (some a) ∧ (∀ f, ep v sz i f = .pointer (some (a.add f))) ∧ a.spot = none ∧ m (a.block + 1) = some (.ob (.cells cells T fz)) ∧ ∀ (k : Nat) c, cs[k]? = some c → cells[a.off + k]? = some c,
  fun m m' h ⟨a, cells, T, fz, h1, h2, h3, h4, h5⟩ => ⟨a, cells, T, fz, h1, h2, h3, h _ _ h4, h5⟩⟩
section
variable {P : Program} {n : Nat} {ops : Array Oper} {Q : Exit → Act → World → Prop} {rest : List Oper} {L L' : List Chunk} {R : List Fact} {al : List (Nat × Value)} {d : Nat} {x y : Operand} {T ty : TypeId} {pos : String} {aft : Array Edge}
theorem cF_at {v : Value} {sz i f : Nat} {cs ds : List Value} (hm : cF v sz i cs ∈ R) (hd : ∀ (k : Nat) c, ds[k]? = some c → cs[f + k]? = some c) : Bx L R (ep v sz i f) ds := by
 intro w hs
 obtain ⟨m, hle, hr⟩ := hs.ex
 obtain ⟨a, cells, T, fz, h1, h2, h3, h4, h5⟩ := hr _ hm
 refine ⟨a.add f, h2 f, fun k c hk => ?_⟩
 rw [Fn, Ep h3, Ex (He (hle _ _ h4))]
 exact h5 _ _ (hd k c hk)
theorem at_c1 {v : Value} {sz i f : Nat} {cs : List Value} {c : Value} (hm : cF v sz i cs ∈ R) (hc : cs[f]? = some c) : Bx L R (ep v sz i f) [c] :=
 cF_at hm fun k c' hk => by
  match k, hk with
  | 0, hk => simp at hk; subst hk; exact hc
  | k + 1, hk => simp at hk
theorem U5 {v : Value} {sz i : Nat} {cs : List Value} (hm : cF v sz i cs ∈ R) : Bx L R (ep v sz i 0) cs := cF_at hm fun k c hk => by rw [Nat.zero_add]; exact hk
variable {α : Type} [Enc α] {v : Value} {xs : List α} {i : Nat} {e : α}
theorem N6 {m : Mem} (h : isSlice v xs m) (hi : xs[i]? = some e) : ∃ cs, Enc.rd e cs m ∧ (cF v (Enc.sz α) i cs).p m := by
 obtain ⟨base, cap, hv, hn, hc⟩ := h
 have hne : xs ≠ [] := by intro h0; rw [h0] at hi; simp at hi
 obtain ⟨a, cells, T, fz, cs, h1, h2, h3, h4, h5⟩ := hc hne
 obtain ⟨p, c, q, e1, e2, e3, _⟩ := h5.get hi
 subst h1
 refine ⟨c, e3, a.add (i * Enc.sz α), cells, T, fz, by rw [hv, K0, Nat.add_zero], fun f => by rw [hv, K0, Fn], by rw [Ep h2], by rw [Ep h2]; exact h3, fun k u hk => ?_⟩
 rw [Ep h2]
 have hcs : cs[i * Enc.sz α + k]? = some u := by
  rw [e1, List.append_assoc, List.getElem?_append_right (by omega), show i * Enc.sz α + k - p.length = k by omega, List.getElem?_append_left]
  ·exact hk
  ·exact (List.getElem?_eq_some_iff.1 hk).1
 rw [← h4, List.getElem?_take] at hcs
 split at hcs
 ·rw [List.getElem?_drop] at hcs
  rw [← Array.getElem?_toList, ← hcs, Nat.add_assoc]
 ·cases hcs
end
class El0 (α : Type) [Enc α] where
 cs : α → List Value
 wf : α → Prop
 df : α
 ok : ∀ (x : α) ds m, Enc.rd x ds m → ds = cs x ∧ wf x
class El1 (α : Type) (β : outParam Type) [Enc α] [Enc β] where
 cs : Value → α → List Value
 wf : α → Prop
 df : α
 sub : α → List β
 ok : ∀ (x : α) ds m, Enc.rd x ds m → ∃ u, ds = cs u x ∧ isSlice u (sub x) m ∧ wf x
instance e0Int : El0 Int := ⟨fun x => [vi x], Ao, 0, fun _ _ _ h => h⟩
instance e0Byte : El0 UInt8 := ⟨fun x => [vb x], fun _ => True, 0, fun _ _ _ h => ⟨h, trivial⟩⟩
instance e0Msg : El0 Msg := ⟨Msg.cells, Msg.wf, zMsg, fun _ _ _ h => h⟩
instance e0Line : El0 Line := ⟨Line.cells, Line.wf, zLine, fun _ _ _ h => h⟩
instance e0Op : El0 Op := ⟨Op.cells, Op.wf, zOp, fun _ _ _ h => h⟩
instance e0Step : El0 Step := ⟨Step.cells, Step.wf, zStep, fun _ _ _ h => h⟩
instance e1List {β : Type} [Enc β] : El1 (List β) β := ⟨fun u _ => [u], fun _ => True, [], fun x => x, fun _ _ _ h => by obtain ⟨u, h1, h2⟩ := h; exact ⟨u, h1, h2, trivial⟩⟩
instance e1Core : El1 Core Line := ⟨fun u x => x.cells u, fun x => x.wait.wf, Ez, fun x => x.lines, fun _ _ _ h => h⟩
instance e1Entry : El1 Entry Int := ⟨fun u x => x.cells u, fun x => x.wf, Ay, fun x => x.last, fun _ _ _ h => h⟩
section
variable {P : Program} {n : Nat} {ops : Array Oper} {Q : Exit → Act → World → Prop} {L L' : List Chunk} {R : List Fact} {al : List (Nat × Value)}
variable {α β : Type} [Enc α] [Enc β] {v : Value} {xs : List α}
theorem St.open0 [El0 α] {w : World} (i : Nat) (hm : sl v xs ∈ R) (hi : i < xs.length) (hs : St L R w) : El0.wf (xs.getD i El0.df) ∧ St L (cF v (Enc.sz α) i (El0.cs (xs.getD i El0.df)) :: R) w := by
 obtain ⟨m, j, hd, hmw, hjw, hst, hr⟩ := hs
 obtain ⟨cs, h1, h2⟩ := N6 (hr _ hm) (getD_some El0.df hi)
 obtain ⟨rfl, h4⟩ := El0.ok _ _ _ h1
 refine ⟨h4, m, j, hd, hmw, hjw, hst, fun g hg => ?_⟩
 cases List.mem_cons.1 hg with
 | inl e => rw [e]; exact h2
 | inr e => exact hr g e
theorem St.open1 [El1 α β] {w : World} (i : Nat) (hm : sl v xs ∈ R) (hi : i < xs.length) (hs : St L R w) : El1.wf (xs.getD i El1.df) ∧ ∃ u, St L (cF v (Enc.sz α) i (El1.cs u (xs.getD i El1.df)) :: sl u (El1.sub (xs.getD i El1.df)) :: R) w := by
 obtain ⟨m, j, hd, hmw, hjw, hst, hr⟩ := hs
 obtain ⟨cs, h1, h2⟩ := N6 (hr _ hm) (getD_some El1.df hi)
 obtain ⟨u, rfl, h3, h4⟩ := El1.ok _ _ _ h1
 refine ⟨h4, u, m, j, hd, hmw, hjw, hst, fun g hg => ?_⟩
 cases List.mem_cons.1 hg with
 | inl e => rw [e]; exact h2
 | inr e => cases List.mem_cons.1 e with
  | inl e => rw [e]; exact h3
  | inr e => exact hr g e
theorem JC.open0 [El0 α] {c : Code} (i : Nat) (hm : sl v xs ∈ R) (hi : i < xs.length) (k : El0.wf (xs.getD i El0.df) → JC P n c Q L (cF v (Enc.sz α) i (El0.cs (xs.getD i El0.df)) :: R) al) : JC P n c Q L R al :=
 fun B w hs => let h := hs.open0 i hm hi; k h.1 B w h.2
theorem J.open0 [El0 α] {l : List Oper} (i : Nat) (hm : sl v xs ∈ R) (hi : i < xs.length) (k : El0.wf (xs.getD i El0.df) → J P n ops Q l L (cF v (Enc.sz α) i (El0.cs (xs.getD i El0.df)) :: R) al) : J P n ops Q l L R al :=
 fun B w hs => let h := hs.open0 i hm hi; k h.1 B w h.2
theorem JC.open1 [El1 α β] {c : Code} (i : Nat) (hm : sl v xs ∈ R) (hi : i < xs.length) (k : El1.wf (xs.getD i El1.df) → ∀ u, JC P n c Q L (cF v (Enc.sz α) i (El1.cs u (xs.getD i El1.df)) :: sl u (El1.sub (xs.getD i El1.df)) :: R) al) : JC P n c Q L R al :=
 fun B w hs => let ⟨h, u, h'⟩ := hs.open1 i hm hi; k h u B w h'
theorem J.open1 [El1 α β] {l : List Oper} (i : Nat) (hm : sl v xs ∈ R) (hi : i < xs.length) (k : El1.wf (xs.getD i El1.df) → ∀ u, J P n ops Q l L (cF v (Enc.sz α) i (El1.cs u (xs.getD i El1.df)) :: sl u (El1.sub (xs.getD i El1.df)) :: R) al) : J P n ops Q l L R al :=
 fun B w hs => let ⟨h, u, h'⟩ := hs.open1 i hm hi; k h u B w h'
end
def Raw (k : Nat) : Type := { l : List Value // l.length = k ∧ ∀ u ∈ l, u.oneCell' = true }
instance instEncRaw {k : Nat} : Enc (Raw k) where
 sz := k
 rd x cs _ := cs = x.1
 mono _ _ _ _ _ h := h
 len x cs _ h := by rw [h]; exact x.2.1
 one x cs _ h := by rw [h]; exact x.2.2
def foc {α : Type} [Enc α] (T : TypeId) (v : Value) (xs : List α) (i : Nat) (cs : List Value) : Chunk :=
 ⟨fun m j => ∃ rs : List (Raw (Enc.sz α)), (row T v rs).p m j ∧ rs.length = xs.length ∧ (∃ r, rs[i]? = some r ∧ r.1 = cs) ∧ ∀ (k : Nat) e r, k ≠ i → xs[k]? = some e → rs[k]? = some r → Enc.rd e r.1 j,
  fun m j j' h ⟨rs, h1, h2, h3, h4⟩ => ⟨rs, (row T v rs).mono _ _ _ h h1, h2, h3, fun k e r hk he hr => Enc.mono _ _ _ _ h (h4 k e r hk he hr)⟩⟩
section
variable {α : Type} [Enc α]
theorem RdL.raw {m : Mem} : ∀ {xs : List α} {cs : List Value}, RdL xs cs m → ∃ rs : List (Raw (Enc.sz α)), RdL rs cs m ∧ rs.length = xs.length ∧ ∀ (k : Nat) e r, xs[k]? = some e → rs[k]? = some r → Enc.rd e r.1 m
 | [], cs, h => ⟨[], h, rfl, fun k e r h' => by simp at h'⟩
 | x :: xs, cs, ⟨c1, c2, h1, h2, h3⟩ => by
  obtain ⟨rs, e1, e2, e3⟩ := RdL.raw h3
  obtain ⟨r0, hr0⟩ : ∃ r0 : Raw (Enc.sz α), r0.1 = c1 := ⟨⟨c1, Enc.len _ _ _ h2, Enc.one _ _ _ h2⟩, rfl⟩
  refine ⟨r0 :: rs, ⟨c1, c2, h1, hr0.symm, e1⟩, by simp [e2], fun k e r hx hr => ?_⟩
  cases k with
  | zero =>
   have ex : x = e := by simpa using hx
   have er : r0 = r := by simpa using hr
   rw [← ex, ← er, hr0]; exact h2
  | succ k => exact e3 k e r (by simpa using hx) (by simpa using hr)
theorem RdL.typed {m : Mem} : ∀ {xs : List α} {rs : List (Raw (Enc.sz α))} {cs : List Value}, RdL rs cs m → rs.length = xs.length → (∀ (k : Nat) e r, xs[k]? = some e → rs[k]? = some r → Enc.rd e r.1 m) → RdL xs cs m
 | [], [], cs, h, _, _ => h
 | [], _ :: _, _, _, hl, _ => by simp at hl
 | _ :: _, [], _, _, hl, _ => by simp at hl
 | x :: xs, r :: rs, cs, ⟨c1, c2, h1, h2, h3⟩, hl, hr => by
  refine ⟨c1, c2, h1, ?_, RdL.typed h3 (by simpa using hl) (fun k e r' hx hr' => hr (k + 1) e r' (by simpa using hx) (by simpa using hr'))⟩
  have := hr 0 x r rfl rfl
  rw [show c1 = r.1 from h2]; exact this
theorem Ip {T : TypeId} {v : Value} {xs : List α} {m j : Mem} (h : (row T v xs).p m j) : ∃ rs : List (Raw (Enc.sz α)), (row T v rs).p m j ∧ rs.length = xs.length ∧ ∀ (k : Nat) e r, xs[k]? = some e → rs[k]? = some r → Enc.rd e r.1 j := by
 obtain ⟨h0, hv | ⟨g, cap, cur, cs, hv, hg, hcap, hml, hsz, htk, hrd⟩⟩ := h
 ·exact ⟨[], ⟨Nat.zero_le _, .inl ⟨hv.1, rfl⟩⟩, by rw [hv.2]; rfl, fun k e r hx => by rw [hv.2] at hx; simp at hx⟩
 ·obtain ⟨rs, e1, e2, e3⟩ := hrd.raw
  exact ⟨rs, ⟨by rw [e2]; exact h0, .inr ⟨g, cap, cur, cs, by rw [e2]; exact hv, hg, by rw [e2]; exact hcap, hml, hsz, by rw [e2]; exact htk, e1⟩⟩, e2, e3⟩
theorem Oc {T : TypeId} {v : Value} {xs : List α} {rs : List (Raw (Enc.sz α))} {m j : Mem} (h : (row T v rs).p m j) (hl : rs.length = xs.length) (hr : ∀ (k : Nat) e r, xs[k]? = some e → rs[k]? = some r → Enc.rd e r.1 j) : (row T v xs).p m j := by
 obtain ⟨h0, hv | ⟨g, cap, cur, cs, hv, hg, hcap, hml, hsz, htk, hrd⟩⟩ := h
 ·have : xs = [] := by rw [hv.2] at hl; exact List.length_eq_zero_iff.1 hl.symm
  exact ⟨by rw [← hl]; exact h0, .inl ⟨hv.1, this⟩⟩
 ·exact ⟨by rw [← hl]; exact h0, .inr ⟨g, cap, cur, cs, by rw [← hl]; exact hv, hg, by rw [← hl]; exact hcap, hml, hsz, by rw [← hl]; exact htk, hrd.typed hl hr⟩⟩
end
section
variable {P : Program} {n : Nat} {ops : Array Oper} {Q : Exit → Act → World → Prop} {rest : List Oper} {L L' : List Chunk} {R : List Fact} {al : List (Nat × Value)} {d : Nat} {x y : Operand} {T ty : TypeId} {pos : String} {aft : Array Edge}
variable {α β : Type} [Enc α] [Enc β] {v : Value} {xs : List α} {i : Nat}
theorem St.focus {w : World} (hi : i < xs.length) (hs : St (row T v xs :: L) R w) : ∃ cs, St (foc T v xs i cs :: L) R w ∧ cs.length = Enc.sz α ∧ ∃ j e, xs[i]? = some e ∧ Enc.rd e cs j ∧ Mem.le j (Bs w) ∧ ∀ f ∈ R, f.p j := by
 obtain ⟨m, j, hd, hm, hj, ⟨m1, m2, hd', h1, h2, hc, hst⟩, hr⟩ := hs
 obtain ⟨rs, e1, e2, e3⟩ := Ip hc
 have hi' : i < rs.length := by omega
 refine ⟨(rs[i]'hi').1, ⟨m, j, hd, hm, hj, ⟨m1, m2, hd', h1, h2, ⟨rs, e1, e2, ⟨_, List.getElem?_eq_getElem hi', rfl⟩, fun k e r _ => e3 k e r⟩, hst⟩, hr⟩, (rs[i]'hi').2.1, j, xs[i], List.getElem?_eq_getElem hi, e3 i _ _ (List.getElem?_eq_getElem hi) (List.getElem?_eq_getElem hi'), hj, hr⟩
theorem St.focus0 [El0 α] {w : World} (hi : i < xs.length) (hs : St (row T v xs :: L) R w) : El0.wf (xs.getD i El0.df) ∧ St (foc T v xs i (El0.cs (xs.getD i El0.df)) :: L) R w := by
 obtain ⟨cs, h1, h2, j, e, h3, h4, h5, h6⟩ := hs.focus hi
 have : xs.getD i El0.df = e := by simp [List.getD_eq_getElem?_getD, h3]
 rw [this]
 obtain ⟨rfl, hw⟩ := El0.ok _ _ _ h4
 exact ⟨hw, h1⟩
theorem St.focus1 [El1 α β] {w : World} (hi : i < xs.length) (hs : St (row T v xs :: L) R w) : El1.wf (xs.getD i El1.df) ∧ ∃ u, St (foc T v xs i (El1.cs u (xs.getD i El1.df)) :: L) (sl u (El1.sub (xs.getD i El1.df)) :: R) w := by
 obtain ⟨m, j, hd, hm, hj, ⟨m1, m2, hd', h1, h2, hc, hst⟩, hr⟩ := hs
 obtain ⟨rs, e1, e2, e3⟩ := Ip hc
 have hi' : i < rs.length := by omega
 have hx : xs.getD i El1.df = xs[i] := by simp [List.getD_eq_getElem?_getD, hi]
 rw [hx]
 obtain ⟨u, g1, g2, g3⟩ := El1.ok _ _ _ (e3 i _ _ (List.getElem?_eq_getElem hi) (List.getElem?_eq_getElem hi'))
 refine ⟨g3, u, m, j, hd, hm, hj, ⟨m1, m2, hd', h1, h2, ⟨rs, e1, e2, ⟨_, List.getElem?_eq_getElem hi', g1⟩, fun k e r _ => e3 k e r⟩, hst⟩, fun f hf => ?_⟩
 cases List.mem_cons.1 hf with
 | inl e => rw [e]; exact g2
 | inr e => exact hr f e
theorem St.unfocus {w : World} {cs : List Value} {e : α} (he : ∀ j, (∀ f ∈ R, f.p j) → Enc.rd e cs j) (hs : St (foc T v xs i cs :: L) R w) : St (row T v (xs.set i e) :: L) R w := by
 obtain ⟨m, j, hd, hm, hj, ⟨m1, m2, hd', h1, h2, ⟨rs, e1, e2, ⟨r0, e3, e4⟩, e5⟩, hst⟩, hr⟩ := hs
 refine ⟨m, j, hd, hm, hj, ⟨m1, m2, hd', h1, h2, Oc e1 (by simpa using e2) (fun k e' r hx hk => ?_), hst⟩, hr⟩
 by_cases h : k = i
 ·subst h
  have hlt : k < xs.length := by
   have := (List.getElem?_eq_some_iff.1 e3).1; omega
  rw [List.getElem?_set_self hlt] at hx
  cases hx
  rw [e3] at hk; cases hk
  rw [e4]; exact he j hr
 ·rw [List.getElem?_set_ne (Ne.symm h)] at hx
  exact e5 k e' r h hx hk
theorem Tx {w : World} {cs : List Value} (hs : St (foc T v xs i cs :: L) R w) : ∃ rs : List (Raw (Enc.sz α)), St (row T v rs :: L) R w ∧ ∃ r, rs[i]? = some r ∧ r.1 = cs := by
 obtain ⟨m, j, hd, hm, hj, ⟨m1, m2, hd', h1, h2, ⟨rs, e1, e2, e3, e5⟩, hst⟩, hr⟩ := hs
 exact ⟨rs, ⟨m, j, hd, hm, hj, ⟨m1, m2, hd', h1, h2, e1, hst⟩, hr⟩, e3⟩
theorem Yf {f sz : Nat} {cs ds : List Value} (hp : Pick L (foc T v xs i cs) L') (hsz : Enc.sz α = sz) (hd : ∀ (k : Nat) c, ds[k]? = some c → cs[f + k]? = some c) : Bx L R (ep v sz i f) ds := by
 subst hsz
 intro w hs
 obtain ⟨rs, h1, r, h2, h3⟩ := Tx (hs.pick hp)
 exact Acm (α := Raw (Enc.sz α)) (L := row T v rs :: L') (f := f) .hd h2 (fun cs' m hr k c hk => by rw [show cs' = r.1 from hr, h3]; exact hd k c hk) w h1
theorem at_f1 {f sz : Nat} {cs : List Value} {c : Value} (hp : Pick L (foc T v xs i cs) L') (hsz : Enc.sz α = sz) (hc : cs[f]? = some c) : Bx L R (ep v sz i f) [c] :=
 Yf hp hsz fun k c' hk => by
  match k, hk with
  | 0, hk => simp at hk; subst hk; exact hc
  | k + 1, hk => simp at hk
theorem Kt {sz : Nat} {cs : List Value} (hp : Pick L (foc T v xs i cs) L') (hsz : Enc.sz α = sz) : Bx L R (ep v sz i 0) cs := Yf hp hsz fun k c hk => by rw [Nat.zero_add]; exact hk
theorem Nf {w : World} {f : Nat} {cs us : List Value} (hs : St (foc T v xs i cs :: L) R w) (h1 : ∀ u ∈ us, u.oneCell' = true) (hf : f + us.length ≤ cs.length) :
  ∃ g cap cur, v = .slice (some ⟨g, 0, none⟩) xs.length cap ∧ w.heap[g]? = some (.cells cur T (0, 0)) ∧ i * Enc.sz α + f + us.length ≤ cur.size ∧
   St (foc T v xs i (cs.take f ++ us ++ cs.drop (f + us.length)) :: L) R (w.setRow g (cur.toList.take (i * Enc.sz α + f) ++ us ++ cur.toList.drop (i * Enc.sz α + f + us.length)).toArray) := by
 obtain ⟨m, j, hd, hm, hj, ⟨m1, m2, hd', g1, g2, ⟨rs, e1, e2, ⟨r0, e3, e4⟩, e5⟩, hst⟩, hr⟩ := hs
 have hlen : (cs.take f ++ us ++ cs.drop (f + us.length)).length = cs.length := by simp; omega
 have hcs : cs.length = Enc.sz α := by rw [← e4]; exact r0.2.1
 let r1 : Raw (Enc.sz α) := ⟨cs.take f ++ us ++ cs.drop (f + us.length), by rw [hlen]; exact hcs, fun u hu => by
  rcases List.mem_append.1 hu with h | h
  ·rcases List.mem_append.1 h with h | h
   ·exact r0.2.2 u (by rw [e4]; exact List.mem_of_mem_take h)
   ·exact h1 u h
  ·exact r0.2.2 u (by rw [e4]; exact List.mem_of_mem_drop h)⟩
 -- one piece for all others, with what is Dn of them
 have hK : St (row T v rs :: L) (⟨fun m => ∀ (k : Nat) e r, k ≠ i → xs[k]? = some e → rs[k]? = some r → Enc.rd e r.1 m, fun m m' h hp k e r hk he hr' => Enc.mono _ _ _ _ h (hp k e r hk he hr')⟩ :: R) w :=
  ⟨m, j, hd, hm, hj, ⟨m1, m2, hd', g1, g2, e1, hst⟩, fun q hq => by
   cases List.mem_cons.1 hq with
   | inl e => rw [e]; exact e5
   | inr e => exact hr q e⟩
 obtain ⟨g, cap, cur, hv, hg, hfit, hst'⟩ := Ms (w' := w) (e := r0) (e' := r1) (f := f) (cs := us) hK e3 (fun ds m hr => by rw [show ds = r0.1 from hr, e4]; exact hf) (fun j _ ds hr => by
  rw [show ds = r0.1 from hr, e4]; rfl)
 refine ⟨g, cap, cur, by rw [hv, e2], hg, hfit, ?_⟩
 obtain ⟨m', j', hd2, hm', hj', ⟨n1, n2, hd3, k1, k2, hc', hst2⟩, hr'⟩ := hst'
 have hilt : i < rs.length := (List.getElem?_eq_some_iff.1 e3).1
 refine ⟨m', j', hd2, hm', hj', ⟨n1, n2, hd3, k1, k2, ⟨rs.set i r1, hc', by simpa using e2, ⟨r1, List.getElem?_set_self hilt, rfl⟩, fun k e r hk he hrk => ?_⟩, hst2⟩, fun q hq => hr' q (List.mem_cons_of_mem _ hq)⟩
 rw [List.getElem?_set_ne (Ne.symm hk)] at hrk
 exact hr' _ (List.mem_cons_self ..) k e r hk he hrk
theorem Vq {f sz k : Nat} {c : Value} {cs us : List Value} {T' : TypeId} (hsz : ∀ w, (sizeOf T).run P w = .ok k w) (hx : ev n al x = some (ep v sz i f)) (hy : ev n al y = some c) (hc : c.cells = us.toArray) (hl : us.length = k) (h1 : ∀ u ∈ us, u.oneCell' = true)
  (hp : Pick L (foc T' v xs i cs) L') (hes : Enc.sz α = sz) (hf : Nat.ble (f + us.length) cs.length = true) {cs' : List Value} (hcs : cs.take f ++ us ++ cs.drop (f + us.length) = cs')
  (kk : J P n ops Q rest (foc T' v xs i cs' :: L') R al) : J P n ops Q (⟨none, .store T x y, ty, pos, aft, none⟩ :: rest) L R al :=
 J.skip rfl rfl (fun B w hs => by
  subst hes
  obtain ⟨g, cap, cur, hv, hg, hfit, hst⟩ := Nf (hs.pick hp) h1 (Nat.le_of_ble_eq_true hf)
  refine ⟨_, El ?_, by rw [← hcs]; exact hst⟩
  rw [Ax hx, Ax hy, hv, K0, Ge]
  have := run_storeCells_at P g (i * Enc.sz α + f) T' us 0 cur w hg (by simpa using hfit) h1
  simp only [Nat.add_zero, Nat.zero_add] at this ⊢
  subst hl
  simp [Instr.storeAt, Instr.sureAddr, storeVar, hsz, hc, this]) kk
theorem J.focus0 [El0 α] {l : List Oper} (i : Nat) (hp : Pick L (row T v xs) L') (hi : i < xs.length) (k : El0.wf (xs.getD i El0.df) → J P n ops Q l (foc T v xs i (El0.cs (xs.getD i El0.df)) :: L') R al) : J P n ops Q l L R al :=
 fun B w hs => let h := (hs.pick hp).focus0 hi; k h.1 B w h.2
theorem JC.focus0 [El0 α] {c : Code} (i : Nat) (hp : Pick L (row T v xs) L') (hi : i < xs.length) (k : El0.wf (xs.getD i El0.df) → JC P n c Q (foc T v xs i (El0.cs (xs.getD i El0.df)) :: L') R al) : JC P n c Q L R al :=
 fun B w hs => let h := (hs.pick hp).focus0 hi; k h.1 B w h.2
theorem JC.focus1 [El1 α β] {c : Code} (i : Nat) (hp : Pick L (row T v xs) L') (hi : i < xs.length) (k : El1.wf (xs.getD i El1.df) → ∀ u, JC P n c Q (foc T v xs i (El1.cs u (xs.getD i El1.df)) :: L') (sl u (El1.sub (xs.getD i El1.df)) :: R) al) : JC P n c Q L R al :=
 fun B w hs => let ⟨h, u, h'⟩ := (hs.pick hp).focus1 hi; k h u B w h'
theorem J.unfocus {l : List Oper} {cs : List Value} (e : α) (hp : Pick L (foc T v xs i cs) L') (he : ∀ j, (∀ f ∈ R, f.p j) → Enc.rd e cs j) (k : J P n ops Q l (row T v (xs.set i e) :: L') R al) : J P n ops Q l L R al :=
 fun B w hs => k B w ((hs.pick hp).unfocus he)
theorem JC.unfocus {c : Code} {cs : List Value} (e : α) (hp : Pick L (foc T v xs i cs) L') (he : ∀ j, (∀ f ∈ R, f.p j) → Enc.rd e cs j) (k : JC P n c Q (row T v (xs.set i e) :: L') R al) : JC P n c Q L R al :=
 fun B w hs => k B w ((hs.pick hp).unfocus he)
end
end Go.Proofs.Ytbigiimomnfpdaa
namespace Go.Proofs.Ytbigiimomnfpdaa
open Go
section
variable {P : Program} {n : Nat} {ops : Array Oper} {Q : Exit → Act → World → Prop} {rest : List Oper} {L L' : List Chunk} {R : List Fact} {al : List (Nat × Value)} {d : Nat} {x y : Operand} {T ty : TypeId} {pos : String} {aft : Array Edge}
theorem mm {f : Fact} (h : f ∈ R := by first | assumption | exact .head _ | (refine .tail _ ?_; first | assumption | exact .head _ | (refine .tail _ ?_; first | assumption | exact .head _ | (refine .tail _ ?_; first | assumption | exact .head _ | (refine .tail _ ?_; first | assumption | exact .head _ | (refine .tail _ ?_; first | assumption | exact .head _ | (refine .tail _ ?_; first | assumption | exact .head _ | (refine .tail _ ?_; first | assumption | exact .head _ | (refine .tail _ ?_; first | assumption | exact .head _ | (refine .tail _ ?_; first | assumption | exact .head _ | (refine .tail _ ?_; first | assumption | exact .head _ | (refine .tail _ ?_; first | assumption | exact .head _ | (refine .tail _ ?_; first | assumption | exact .head _ | (refine .tail _ ?_; first | assumption | exact .head _ | (refine .tail _ ?_; first | assumption | exact .head _ | (refine .tail _ ?_; first | assumption | exact .head _ | (refine .tail _ ?_; first | assumption | exact .head _ | (refine .tail _ ?_; first | assumption | exact .head _ | (refine .tail _ ?_; first | assumption | exact .head _ | (refine .tail _ ?_; first | assumption | exact .head _ | (refine .tail _ ?_; first | assumption | exact .head _ | (refine .tail _ ?_; first | assumption | exact .head _ | (refine .tail _ ?_; first | assumption | exact .head _ | (refine .tail _ ?_; first | assumption | exact .head _ | (refine .tail _ ?_; first | assumption | exact .head _ | (refine .tail _ ?_; first | assumption | exact .head _ | (refine .tail _ ?_; first | assumption | exact .head _))))))))))))))))))))))))))) : f ∈ R := h
theorem pkk {c : Chunk} (h : Pick L c L' := by first | exact .hd | (apply Pick.tl; first | exact .hd | (apply Pick.tl; first | exact .hd | (apply Pick.tl; first | exact .hd | (apply Pick.tl; first | exact .hd | (apply Pick.tl; first | exact .hd | (apply Pick.tl; first | exact .hd | (apply Pick.tl; first | exact .hd | (apply Pick.tl; first | exact .hd | (apply Pick.tl; first | exact .hd | (apply Pick.tl; first | exact .hd | (apply Pick.tl; first | exact .hd | (apply Pick.tl; exact .hd))))))))))))) : Pick L c L' := h
theorem Af {R' : List Fact} {w : World} (hs : St L R w) (hl : LSub L L' := by repeat (first | exact .refl | exact .nil | (apply LSub.cons; focus (exact pkk)) | apply LSub.drop)) (hf : FSub R R' := by repeat (first | exact FSub.refl | exact FSub.nil | (apply FSub.cons; focus (exact mm)) | apply FSub.drop)) : St L' R' w := hs.sub hl hf
theorem Yt {w : World} (hs : St L R w) (hl : LSub L L' := by repeat (first | exact .refl | (apply LSub.cons; focus (exact pkk)) | exact .nil)) : St L' R w := hs.sub hl (fun f h => h)
theorem Hn : ∀ u ∈ ([] : List Value), u.oneCell' = true := fun _ h => by cases h
theorem Dt {c : Value} {l : List Value} (hc : c.oneCell' = true) (hl : ∀ u ∈ l, u.oneCell' = true) : ∀ u ∈ c :: l, u.oneCell' = true := fun u h => by
 cases List.mem_cons.1 h with
 | inl e => rw [e]; exact hc
 | inr e => exact hl u e
theorem N3 {v : Value} (hx : ev n al x = some v := by exact rfl) : As P n al L R ⟨some d, .move x, ty, pos, aft, none⟩ v :=
 ⟨rfl, fun ρ w h _ => by show Result.ok (Next.value _) w = _; rw [h x (by simp [Op.operands]) _ hx]⟩
theorem Ch {v : Value} (hx : ev n al x = some v := by exact rfl) : As P n al L R ⟨some d, .assign x, ty, pos, aft, none⟩ v :=
 ⟨rfl, fun ρ w h _ => by show Result.ok (Next.value _) w = _; rw [h x (by simp [Op.operands]) _ hx]⟩
theorem D8 {c : Operand} {v : Value} (hc : ev n al c = some (.bool true) := by exact rfl) (hx : ev n al x = some v := by exact rfl) : As P n al L R ⟨some d, .pick c x y, ty, pos, aft, none⟩ v :=
 ⟨rfl, fun ρ w h _ => by simp [execOp, h c (by simp [Op.operands]) _ hc, h x (by simp [Op.operands]) _ hx, asBool, bind, pure, Sem.bind, Sem.run]⟩
theorem Ya {c : Operand} {v : Value} (hc : ev n al c = some (.bool false) := by exact rfl) (hy : ev n al y = some v := by exact rfl) : As P n al L R ⟨some d, .pick c x y, ty, pos, aft, none⟩ v :=
 ⟨rfl, fun ρ w h _ => by simp [execOp, h c (by simp [Op.operands]) _ hc, h y (by simp [Op.operands]) _ hy, asBool, bind, pure, Sem.bind, Sem.run]⟩
theorem Qv {b : Bool} (hx : ev n al x = some (.bool b) := by exact rfl) : As P n al L R ⟨some d, .unOp .not T x, ty, pos, aft, none⟩ (.bool (!b)) :=
 ⟨rfl, fun ρ w h _ => by simp [execOp, h x (by simp [Op.operands]) _ hx, Op.unary]⟩
theorem Cu {b : Bool} (hx : ev n al x = some (.bool b)) (hb : b = true) : As P n al L R ⟨some d, .unOp .not T x, ty, pos, aft, none⟩ (.bool false) := by
 have := Qv (P := P) (L := L) (R := R) (T := T) (d := d) (ty := ty) (pos := pos) (aft := aft) hx
 rw [hb] at this; exact this
theorem H4 {b : Bool} (hx : ev n al x = some (.bool b)) (hb : b = false) : As P n al L R ⟨some d, .unOp .not T x, ty, pos, aft, none⟩ (.bool true) := by
 have := Qv (P := P) (L := L) (R := R) (T := T) (d := d) (ty := ty) (pos := pos) (aft := aft) hx
 rw [hb] at this; exact this
theorem Sc {k : IntKind} {a b : Int} (w : World) : (binOp .eql T (.int k a) (.int k b)).run P w = .ok (.bool (decide (a = b))) w := by rw [Acl]; by_cases h : a = b <;> simp [h]
theorem Sa {k : IntKind} {a b : Int} (w : World) : (binOp .neq T (.int k a) (.int k b)).run P w = .ok (.bool (decide (a ≠ b))) w := by rw [Xx]; by_cases h : a = b <;> simp [h]
theorem Ei {op : BinOp} {k k' : IntKind} {a b : Int} {v : Value} {U : TypeId} (hv : ∀ w : World, (binOp op T (.int k a) (.int k' b)).run P w = .ok v w) (hx : ev n al x = some (.int k a) := by exact rfl) (hy : ev n al y = some (.int k' b) := by exact rfl) : As P n al L R ⟨some d, .binOp op T x y U, ty, pos, aft, none⟩ v := Ai hx hy hv
theorem Qw {a b : Int} {U : TypeId} (hx : ev n al x = some (vi a) := by exact rfl) (hy : ev n al y = some (vi b) := by exact rfl) (h1 : -9223372036854775808 ≤ a + b := by omega) (h2 : a + b ≤ 9223372036854775807 := by omega) : As P n al L R ⟨some d, .binOp .add T x y U, ty, pos, aft, none⟩ (vi (a + b)) := Ai hx hy (U2 h1 h2)
theorem Vw {a b : Int} {U : TypeId} (hx : ev n al x = some (vi a) := by exact rfl) (hy : ev n al y = some (vi b) := by exact rfl) (h1 : -9223372036854775808 ≤ a - b := by omega) (h2 : a - b ≤ 9223372036854775807 := by omega) : As P n al L R ⟨some d, .binOp .sub T x y U, ty, pos, aft, none⟩ (vi (a - b)) := Ai hx hy (b_sub h1 h2)
def EpOk (L : List Chunk) (R : List Fact) (v : Value) (sz i : Nat) : Prop := ∀ w, St L R w → ∃ a : Addr, ∀ f, ep v sz i f = .pointer (some (a.add f))
theorem ok_c {v : Value} {sz i : Nat} {cs : List Value} (hm : cF v sz i cs ∈ R) : EpOk L R v sz i := fun w hs => by
 obtain ⟨m, hle, hr⟩ := hs.ex
 obtain ⟨a, cells, T, fz, h1, h2, h3, h4, h5⟩ := hr _ hm
 exact ⟨a, h2⟩
theorem ok_l {v : Value} {sz i len : Nat} (hl : Da L R v len) (h0 : 0 < len) : EpOk L R v sz i := fun w hs => by
 obtain ⟨base, cap, rfl, hb⟩ := hl w hs
 obtain ⟨a, rfl⟩ := hb h0
 exact ⟨a.add (i * sz), fun f => by rw [K0, Fn]⟩
theorem U9 {α : Type} [Enc α] {v : Value} {sz i : Nat} {xs : List α} {cs : List Value} (hp : Pick L (foc T v xs i cs) L') : EpOk L R v sz i := fun w hs => by
 obtain ⟨rs, h1, r, h2, h3⟩ := Tx (hs.pick hp)
 have hlt : i < rs.length := (List.getElem?_eq_some_iff.1 h2).1
 exact ok_l (Dy .hd) (by omega) w h1
def EpAll (v : Value) (sz i : Nat) : Prop := ∃ a : Addr, ∀ f, ep v sz i f = .pointer (some (a.add f))
theorem ok_a {v : Value} {sz i : Nat} (h : EpAll v sz i) : EpOk L R v sz i := fun _ _ => h
theorem EpAll.one {v : Value} {sz i f : Nat} (h : EpAll v sz i) : (ep v sz i f).oneCell' = true := by
 obtain ⟨a, ha⟩ := h
 rw [ha]; rfl
theorem at_a1 {L0 : List Chunk} {R0 : List Fact} {v : Value} {sz i f : Nat} {cs : List Value} {c : Value} (h : Bx L0 R0 (ep v sz i 0) cs) (he : EpAll v sz i) (hl : LSub L L0) (hf : FSub R R0) (hc : cs[f]? = some c) : Bx L R (ep v sz i f) [c] := by
 intro w hs
 obtain ⟨a, ha⟩ := he
 obtain ⟨b, hb, hk⟩ := h w (hs.sub hl hf)
 rw [ha, show a.add 0 = a by simp [Addr.add]] at hb
 cases hb
 refine ⟨a.add f, ha f, fun k c' hk' => ?_⟩
 match k, hk' with
 | 0, hk' =>
  have e : c = c' := by simpa using hk'
  rw [Fn, ← e]; exact hk f c hc
 | k + 1, hk' => simp at hk'
theorem q_fa {b f fld off : Nat} (hf : Ap P T fld off) (hx : ev n al x = some (bp b f) := by exact rfl) : As P n al L R ⟨some d, .fieldAddr T x fld, ty, pos, aft, none⟩ (bp b (f + off)) :=
 ⟨rfl, fun ρ w h _ => Hh (by rw [h x (by simp [Op.operands]) _ hx]; show (Instr.fieldAt T (.pointer (some ⟨b, f, none⟩)) fld).run P w = _; rw [J2 hf, Ge]; rfl)⟩
theorem q_fe {v : Value} {sz i f fld off : Nat} (hf : Ap P T fld off) (hx : ev n al x = some (ep v sz i f) := by exact rfl) (hok : EpOk L R v sz i := by first | exact ok_c mm | exact U9 pkk | exact ok_a (by assumption) | exact ok_l (Dy pkk) (by omega) | exact ok_l (Et mm) (by omega)) : As P n al L R ⟨some d, .fieldAddr T x fld, ty, pos, aft, none⟩ (ep v sz i (f + off)) :=
 ⟨rfl, fun ρ w h hs => Hh (by
  obtain ⟨a, ha⟩ := hok w hs
  rw [h x (by simp [Op.operands]) _ hx, ha, J2 hf, Fn, ha])⟩
theorem q_nb {b f : Nat} (hx : ev n al x = some (bp b f) := by exact rfl) : As P n al L R ⟨some d, .nilCheck x, ty, pos, aft, none⟩ (bp b f) :=
 ⟨rfl, fun ρ w h _ => by simp only [execOp, h x (by simp [Op.operands]) _ hx]; rfl⟩
theorem q_ne {v : Value} {sz i f : Nat} (hx : ev n al x = some (ep v sz i f) := by exact rfl) (hok : EpOk L R v sz i := by first | exact ok_c mm | exact U9 pkk | exact ok_a (by assumption) | exact ok_l (Dy pkk) (by omega) | exact ok_l (Et mm) (by omega)) : As P n al L R ⟨some d, .nilCheck x, ty, pos, aft, none⟩ (ep v sz i f) :=
 ⟨rfl, fun ρ w h hs => by
  obtain ⟨a, ha⟩ := hok w hs
  simp only [execOp, h x (by simp [Op.operands]) _ hx, ha]; rfl⟩
theorem Cd {α : Type} [Enc α] {v : Value} {i : Nat} {xs : List α} {cs : List Value} (hp : Pick L (foc T v xs i cs) L') : Da L R v xs.length := fun w hs => by
 obtain ⟨m, j, hd, hm, hj, ⟨m1, m2, hd', h1, h2, ⟨rs, e1, e2, e3, e5⟩, hst⟩, hr⟩ := hs.pick hp
 have h : Da (row T v rs :: L') R v rs.length := Dy .hd
 rw [e2] at h
 exact h w ⟨m, j, hd, hm, hj, ⟨m1, m2, hd', h1, h2, e1, hst⟩, hr⟩
theorem Ik {v : Value} {e : TypeId} {sz len i : Nat} (ht : Cn P T e sz) (hx : ev n al x = some v := by exact rfl) (hy : ev n al y = some (vi (i : Int)) := by exact rfl) (hl : Da L R v len := by first | exact Dy pkk | exact Cd pkk | exact Et mm) (h1 : i < len := by first | assumption | omega | (simp only [List.length_nil, List.length_cons, List.length_append, List.length_take, List.length_drop, List.length_set, List.length_replicate, Int.toNat_natCast]; omega) | decide) : As P n al L R ⟨some d, .indexAddr T x y, ty, pos, aft, none⟩ (ep v sz i 0) := Gn ht hx hy hl h1
theorem It {v : Value} {e : TypeId} {sz len : Nat} {i : Int} (ht : Cn P T e sz) (hx : ev n al x = some v := by exact rfl) (hy : ev n al y = some (vi i) := by exact rfl) (hl : Da L R v len := by first | exact Dy pkk | exact Cd pkk | exact Et mm) (h0 : 0 ≤ i := by first | assumption | omega | (simp only [List.length_nil, List.length_cons, List.length_append, List.length_take, List.length_drop, List.length_set, List.length_replicate, Int.toNat_natCast]; omega) | decide) (h1 : i < len := by first | assumption | omega | (simp only [List.length_nil, List.length_cons, List.length_append, List.length_take, List.length_drop, List.length_set, List.length_replicate, Int.toNat_natCast]; omega) | decide) : As P n al L R ⟨some d, .indexAddr T x y, ty, pos, aft, none⟩ (ep v sz i.toNat 0) :=
 Gn ht hx (by rw [hy, Int.toNat_of_nonneg h0]) hl (by omega)
theorem My {t e : TypeId} {v : Value} {len : Nat} (ht : P.underlying t = some (.slice e)) (hx : ev n al x = some v := by exact rfl) (hl : Da L R v len := by first | exact Dy pkk | exact Cd pkk | exact Et mm) : As P n al L R ⟨some d, .call { callee := .builtin .len, args := #[x], argTypes := #[t] }, ty, pos, aft, none⟩ (vi (len : Int)) :=
 ⟨rfl, fun ρ w h hs => by
  obtain ⟨base, cap, rfl, _⟩ := hl w hs
  have hx' := h x (by simp [Op.operands, Call.operands]) _ hx
  have e1 : (Builtin.len_ #[t] ty #[ρ x]).run P w = .ok (vi (len : Int)) w := by
   rw [hx']; simp [Builtin.len_, Cb ht, goInt]
  exact P6 e1⟩
theorem q_x {vs : List Value} {i : Nat} {v : Value} (hx : ev n al x = some (.tuple vs.toArray) := by exact rfl) (hv : vs[i]? = some v := by exact rfl) : As P n al L R ⟨some d, .extract x i, ty, pos, aft, none⟩ v :=
 ⟨rfl, fun ρ w h _ => by simp [execOp, h x (by simp [Op.operands]) _ hx, Instr.extract, hv]⟩
theorem Dm {p c : Value} (hT : ∀ w, (isAgg T).run P w = .ok false w) (hx : ev n al x = some p := by exact rfl) (hc : Bx L R p [c] := by first | exact Bd pkk (by exact rfl) | exact at_c1 mm (by exact rfl) | exact at_f1 pkk rfl (by exact rfl) | exact at_a1 (by assumption) (by assumption) (by repeat (first | exact .refl | exact .nil | (apply LSub.cons; focus (exact pkk)) | apply LSub.drop)) (by repeat (first | exact FSub.refl | exact FSub.nil | (apply FSub.cons; focus (exact mm)) | apply FSub.drop)) (by exact rfl)) : As P n al L R ⟨some d, .load T x, ty, pos, aft, none⟩ c :=
 ⟨rfl, fun ρ w h hs => by
  obtain ⟨a, rfl, hk⟩ := hc w hs
  exact Gw (by rw [h x (by simp [Op.operands]) _ hx]; exact H2 hT (by simpa [Addr.add] using hk 0 c rfl))⟩
theorem Y6 {p : Value} {cs : List Value} {sz : Nat} (hT : ∀ w, (isAgg T).run P w = .ok true w) (hsz : ∀ w, (sizeOf T).run P w = .ok sz w) (hx : ev n al x = some p := by exact rfl) (hc : Bx L R p cs := by first | exact Nz pkk | exact U5 mm | exact Kt pkk rfl) (hl : cs.length = sz := by exact rfl) : As P n al L R ⟨some d, .load T x, ty, pos, aft, none⟩ (.agg cs.toArray) :=
 ⟨rfl, fun ρ w h hs => by
  obtain ⟨a, rfl, hk⟩ := hc w hs
  exact Gw (by rw [h x (by simp [Op.operands]) _ hx]; exact Mr hT hsz hl hk)⟩
theorem Ev {b f : Nat} {vs : List Value} {T0 : TypeId} (sz : Nat) (hT : ∀ w, (isAgg T).run P w = .ok true w) (hsz : ∀ w, (sizeOf T).run P w = .ok sz w) (hx : ev n al x = some (bp b f) := by exact rfl) (hp : Pick L (blk b T0 vs) L' := by exact pkk) (hl : ((vs.drop f).take sz).length = sz := by exact rfl) : As P n al L R ⟨some d, .load T x, ty, pos, aft, none⟩ (.agg ((vs.drop f).take sz).toArray) := Y6 hT hsz hx (Acn hp) hl
def Rj (places : List (Nat × Nat)) : List Value → List (Nat × List Value) → Option (List Value)
 | cells, [] => some cells
 | cells, (i, c) :: rest => match places[i]? with
  | none => none
  | some (off, size) => match Nat.beq c.length size with
   | false => none
   | true => match J5 cells off c with
    | none => none
    | some cells' => Rj places cells' rest
def Lj : List Value → List (List Value) → Prop
 | [], [] => True
 | v :: vs, c :: cs => v.cells.toList = c ∧ Lj vs cs
 | _, _ => False
theorem Nu {v : Value} (h : v.oneCell' = true) : v.cells.toList = [v] := by
 cases v <;> first | rfl | (simp [Value.oneCell'] at h)
theorem Ty (places : List (Nat × Nat)) : ∀ (idx : List Nat) (vs : List Value) (css : List (List Value)) (cells cs : List Value), Lj vs css → Rj places cells (idx.zip css) = some cs → Ly places cells (idx.zip vs) = some cs
 | [], _, _, cells, cs, _, h => by simpa [Rj, Ly] using h
 | _ :: _, [], [], cells, cs, _, h => by simpa [Rj, Ly] using h
 | _ :: _, [], _ :: _, _, _, hc, _ => by cases hc
 | _ :: _, _ :: _, [], _, _, hc, _ => by cases hc
 | i :: idx, v :: vs, c :: css, cells, cs, hc, h => by
  obtain ⟨hv, hc⟩ := hc
  have hsz : v.cells.size = c.length := by rw [← hv, Array.length_toList]
  simp only [List.zip_cons_cons, Rj, Ly] at h ⊢
  rw [hsz, hv]
  cases hp : places[i]? with
  | none => rw [hp] at h; cases h
  | some q =>
   obtain ⟨off, size⟩ := q
   rw [hp] at h
   simp only at h ⊢
   cases hb : Nat.beq c.length size with
   | false => rw [hb] at h; cases h
   | true =>
    rw [hb] at h
    simp only at h ⊢
    cases hq : J5 cells off c with
    | none => rw [hq] at h; cases h
    | some c' => rw [hq] at h; exact Ty places idx vs css c' cs hc h
theorem cl_nil : Lj [] [] := trivial
theorem Abv {v : Value} {c : List Value} {vs : List Value} {cs : List (List Value)} (h : v.cells.toList = c) (h' : Lj vs cs) : Lj (v :: vs) (c :: cs) := ⟨h, h'⟩
theorem Eh {zc cs : List Value} {places : List (Nat × Nat)} {parts : List (Nat × Operand)} {vs : List Value} {css : List (List Value)} (hT : Cj P T zc places) (ha : evL n al (parts.map (·.2)) = some vs := by exact rfl) (hc : Lj vs css := by repeat (first | exact cl_nil | apply Abv (by first | exact Nu (by assumption) | exact rfl))) (h' : Rj places zc ((parts.map (·.1)).zip css) = some cs := by exact rfl) : As P n al L R ⟨some d, .build T parts.toArray, ty, pos, aft, none⟩ (.agg cs.toArray) := S4 hT ha (Ty _ _ _ _ _ _ hc h')
theorem D5 {zc cs : List Value} {places : List (Nat × Nat)} {parts : List (Nat × Operand)} {vs : List Value} (hT : Cj P T zc places) (ha : evL n al (parts.map (·.2)) = some vs := by exact rfl) (h' : Ly places zc ((parts.map (·.1)).zip vs) = some cs := by exact rfl) : As P n al L R ⟨some d, .build T parts.toArray, ty, pos, aft, none⟩ (.agg cs.toArray) := S4 hT ha h'
theorem ob {op : Oper} {v : Value} (hp : As P n al L R op v) (k : J P n ops Q rest L R ((d, v) :: al)) (hd : op.dst = some d := by exact rfl) : J P n ops Q (op :: rest) L R al := r_p hp hd k
theorem dc {Sh : Rho → (Nat → Bool) → List Chunk} {R0 : List Fact} {al0 : List (Nat × Value)} {i : Nat} {its : List Item} {op : Oper} {v : Value} (hp : ∀ ρ S, As P n (Db its al0 ρ) (Sh ρ S) R0 op v)
 (k : DJ P n ops Q Sh R0 al0 (i + 1) rest (⟨i, some d, fun _ => v, fun _ => [], fun _ => []⟩ :: its)) (hd : op.dst = some d := by exact rfl) (hSh : ∀ ρ g S, S i = false → Sh (Rho.set ρ i g) (upS S i) = Sh ρ S := by exact fun _ _ _ _ => rfl) : DN P n ops Q Sh R0 al0 i op rest its := d_pc hp hd hSh k
theorem s_b {b f : Nat} {vs : List Value} {T0 : TypeId} {c : Value} (hsz : ∀ w, (sizeOf T).run P w = .ok 1 w) (k : ∀ cs', vs.set f c = cs' → J P n ops Q rest (blk b T0 cs' :: L') R al) (hx : ev n al x = some (bp b f) := by exact rfl) (hy : ev n al y = some c := by exact rfl) (hp : Pick L (blk b T0 vs) L' := by exact pkk) (h1 : c.oneCell' = true := by first | exact rfl | assumption | simp [*]) (hf : Nat.blt f vs.length = true := by exact rfl) : J P n ops Q (⟨none, .store T x y, ty, pos, aft, none⟩ :: rest) L R al :=
 Vr hsz hx hy h1 hp hf (k _ rfl)
theorem Kp {v : Value} (h : v.oneCell' = true) : v.cells = #[v] := Array.toList_inj.1 (Nu h)
theorem s_f {α : Type} [Enc α] {v : Value} {xs : List α} {i f sz : Nat} {cs : List Value} {T0 : TypeId} {c : Value} (hsz : ∀ w, (sizeOf T).run P w = .ok 1 w) (k : ∀ cs', cs.set f c = cs' → J P n ops Q rest (foc T0 v xs i cs' :: L') R al) (hx : ev n al x = some (ep v sz i f) := by exact rfl) (hy : ev n al y = some c := by exact rfl) (hp : Pick L (foc T0 v xs i cs) L' := by exact pkk) (hes : Enc.sz α = sz := by exact rfl) (hc : c.cells = #[c] := by first | exact rfl | exact Kp (by assumption)) (h1 : c.oneCell' = true := by first | exact rfl | assumption | simp [*]) (hf : Nat.blt f cs.length = true := by exact rfl) : J P n ops Q (⟨none, .store T x y, ty, pos, aft, none⟩ :: rest) L R al :=
 Vq (us := [c]) hsz hx hy hc rfl (by intro u hu; cases List.mem_singleton.1 hu; exact h1) hp hes (Nat.ble_eq_true_of_le (blt_iff.1 hf)) (by rw [List.set_eq_take_append_cons_drop, if_pos (blt_iff.1 hf)]; simp) (k _ rfl)
theorem s_N {b f : Nat} {vs cs : List Value} {T0 : TypeId} {sz : Nat} (new : List Value) (hsz : ∀ w, (sizeOf T).run P w = .ok sz w) (k : J P n ops Q rest (blk b T0 new :: L') R al) (hx : ev n al x = some (bp b f) := by exact rfl) (hy : ev n al y = some (.agg cs.toArray) := by exact rfl) (hp : Pick L (blk b T0 vs) L' := by exact pkk) (hl : cs.length = sz := by exact rfl) (h1 : ∀ u ∈ cs, u.oneCell' = true := by repeat (first | exact Hn | refine Dt (by first | exact rfl | assumption) ?_)) (hf : Nat.ble (f + sz) vs.length = true := by exact rfl) (hn : vs.take f ++ cs ++ vs.drop (f + sz) = new := by exact rfl) : J P n ops Q (⟨none, .store T x y, ty, pos, aft, none⟩ :: rest) L R al :=
 Pn hsz hx hy hl h1 hp hf (by rw [hn]; exact k)
theorem s_B {b : Nat} {vs cs : List Value} {T0 : TypeId} {sz : Nat} (hsz : ∀ w, (sizeOf T).run P w = .ok sz w) (k : J P n ops Q rest (blk b T0 cs :: L') R al) (hx : ev n al x = some (bp b 0) := by exact rfl) (hy : ev n al y = some (.agg cs.toArray) := by exact rfl) (hp : Pick L (blk b T0 vs) L' := by exact pkk) (hl : cs.length = sz := by exact rfl) (h1 : ∀ u ∈ cs, u.oneCell' = true := by repeat (first | exact Hn | refine Dt (by first | exact rfl | assumption) ?_)) (hf : vs.length = sz := by exact rfl) : J P n ops Q (⟨none, .store T x y, ty, pos, aft, none⟩ :: rest) L R al :=
 Qt hsz hx hy hl h1 hp hf k
theorem bx {v : Value} {cs : List Value} (k : ∀ b, J P n ops Q rest (blk b T cs :: L) R ((d, bp b 0) :: al)) (hx : ev n al x = some v := by exact rfl) (hv : v.cells = cs.toArray := by exact rfl) : J P n ops Q (⟨some d, .box T x, ty, pos, aft, none⟩ :: rest) L R al := r_box hx hv k
theorem al_ {z : Value} {cs : List Value} (hz : ∀ w, (zeroValue T).run P w = .ok z w) (k : ∀ b, J P n ops Q rest (blk b T cs :: L) R ((d, bp b 0) :: al)) (hv : z.cells = cs.toArray := by exact rfl) : J P n ops Q (⟨some d, .alloc T, ty, pos, aft, none⟩ :: rest) L R al := Y4 hz hv k
theorem ap {α : Type} [Enc α] {t e : TypeId} {sz bytes : Nat} {z : Value} {xs ys : List α} {v u : Value} (he : ElemOf P t e sz z bytes) (hx : ev n al x = some v := by exact rfl) (hy : ev n al y = some u := by exact rfl) (hp : Pick L (row e v xs) L' := by exact pkk) (hm : sl u ys ∈ R := by exact mm) (hsz : Enc.sz α = sz := by exact rfl) (hpos : 0 < sz := by decide) (hb : ∀ w, St L R w → xs.length + ys.length ≤ maxN) (k : ∀ v', J P n ops Q rest (row e v' (xs ++ ys) :: L') R ((d, v') :: al)) : J P n ops Q (⟨some d, .call { callee := .builtin .append, args := #[x, y], argTypes := #[t, t] }, ty, pos, aft, none⟩ :: rest) L R al := Po he hx hy hsz hpos hp hm hb k
theorem li {α : Type} [Enc α] {t el : TypeId} {sz bytes len : Nat} {z : Value} {parts : List (Nat × Operand)} {vs : List Value} (xs : List α) (he : ElemOf P t el sz z bytes) (ha : evL n al (parts.map (·.2)) = some vs) (hrd : ∀ j, (∀ q ∈ R, q.p j) → RdV xs vs j) (k : ∀ v, J P n ops Q rest L (sl v xs :: R) ((d, v) :: al)) (hsz : Enc.sz α = sz := by exact rfl) (hidx : parts.map (·.1) = List.range' 0 len := by exact rfl) (hlv : vs.length = len := by exact rfl) (hsmall : Nat.ble (len * sz) 1000 = true := by exact rfl) (hsm2 : Nat.ble len 1000 = true := by exact rfl) : J P n ops Q (⟨some d, .buildSlice t len parts.toArray, ty, pos, aft, none⟩ :: rest) L R al :=
 r_lit xs he hsz ha hidx hlv hsmall hsm2 hrd fun v => J.shut .hd (k v)
theorem liO {α : Type} [Enc α] {t el : TypeId} {sz bytes len : Nat} {z : Value} {parts : List (Nat × Operand)} {vs : List Value} (xs : List α) (he : ElemOf P t el sz z bytes) (ha : evL n al (parts.map (·.2)) = some vs) (hrd : ∀ j, (∀ q ∈ R, q.p j) → RdV xs vs j) (k : ∀ v, J P n ops Q rest (row el v xs :: L) R ((d, v) :: al)) (hsz : Enc.sz α = sz := by exact rfl) (hidx : parts.map (·.1) = List.range' 0 len := by exact rfl) (hlv : vs.length = len := by exact rfl) (hsmall : Nat.ble (len * sz) 1000 = true := by exact rfl) (hsm2 : Nat.ble len 1000 = true := by exact rfl) : J P n ops Q (⟨some d, .buildSlice t len parts.toArray, ty, pos, aft, none⟩ :: rest) L R al := r_lit xs he hsz ha hidx hlv hsmall hsm2 hrd k
theorem Sz {α : Type} [Enc α] {j : Mem} : RdV ([] : List α) [] j := trivial
theorem rd_sl {α : Type} [Enc α] {u : Value} {ys : List α} (hm : sl u ys ∈ R := by exact mm) : ∀ j, (∀ q ∈ R, q.p j) → RdV [ys] [u] j := fun j h => by
 have hs := h _ hm
 obtain ⟨base, cap, hv, _⟩ := id hs
 exact ⟨⟨[u], by rw [hv]; rfl, u, rfl, hs⟩, trivial⟩
theorem cl {γ : Type} {val : γ → Value} {Lf : γ → List Chunk} {Rf : γ → List Fact} {f : FuncId} {args : List Operand} {ts : Array TypeId} {vs : List Value} (hf : ∀ args w, (callFunc f args).run P w = .ok (.enter f args) w) (hc : ∀ w, St L R w → Calls P f vs.toArray w (Bl val Lf Rf)) (k : ∀ g, J P n ops Q rest (Lf g) (Rf g) ((d, val g) :: al)) (ha : evL n al args = some vs := by exact rfl) : J P n ops Q (⟨some d, .call { callee := .value (.func f), args := args.toArray, argTypes := ts }, ty, pos, aft, none⟩ :: rest) L R al := Ak hf ha hc k
theorem cd {t : Nat} {a b : Code} {p : Prop} {hd : Decidable p} (hT : p → JC P n a Q L R ((t, .bool true) :: al)) (hF : ¬ p → JC P n b Q L R ((t, .bool false) :: al)) (hc : ev n al (.tmp t) = some (.bool (decide p)) := by exact rfl) : JC P n (.cond (.tmp t) a b) Q L R al :=
 Bg hc (fun h => hT (of_decide_eq_true h)) (fun h => hF (of_decide_eq_false h))
theorem cT {c : Operand} {a b : Code} (h : JC P n a Q L R al) (hc : ev n al c = some (.bool true) := by exact rfl) : JC P n (.cond c a b) Q L R al := We hc h
theorem cF_ {c : Operand} {a b : Code} (h : JC P n b Q L R al) (hc : ev n al c = some (.bool false) := by exact rfl) : JC P n (.cond c a b) Q L R al := Pw hc h
theorem jg {t : Nat} {p : Prop} {hd : Decidable p} {l : List Oper} (hT : p → J P n ops Q l L R ((t, .bool true) :: al)) (hF : ¬ p → J P n ops Q l L R ((t, .bool false) :: al)) (hc : ev n al (.tmp t) = some (.bool (decide p)) := by exact rfl) : J P n ops Q l L R al :=
 Oo hc (fun h => hT (of_decide_eq_true h)) (fun h => hF (of_decide_eq_false h))
theorem jgx {t : Nat} {p : Prop} {hd : Decidable p} {l : List Oper} (hc : ev n al (.tmp t) = some (.bool (decide p))) (hT : p → J P n ops Q l L R ((t, .bool true) :: al)) (hF : ¬ p → J P n ops Q l L R ((t, .bool false) :: al)) : J P n ops Q l L R al := jg hT hF hc
theorem cdx {t : Nat} {a b : Code} {p : Prop} {hd : Decidable p} (hc : ev n al (.tmp t) = some (.bool (decide p))) (hT : p → JC P n a Q L R ((t, .bool true) :: al)) (hF : ¬ p → JC P n b Q L R ((t, .bool false) :: al)) : JC P n (.cond (.tmp t) a b) Q L R al := cd hT hF hc
theorem Cx {a : Code} {K : Act → World → Prop} (t : Nat) (v : Value) (hx : JC P n a (Exit.then (fun a' w => ∃ B, a' = mkA n ((t, v) :: al) B ∧ St L R w) Q) L R al) (hy : JX n (Exit.then K Q) .normal L R ((t, v) :: al)) : JC P n a (Exit.then K Q) L R al := by
 intro B w hs
 refine wp_mono (hx B w hs) ?_
 intro e a' w' hq
 cases e with
 | normal => obtain ⟨B1, rfl, hs1⟩ := hq; exact hy B1 w' hs1
 | exit id => exact hq
 | goto l => exact hq
 | ret => exact hq
 | panic c => exact hq
 | outgrown => exact hq
theorem An {L1 : List Chunk} {R1 : List Fact} {al2 : List (Nat × Value)} (hal : N0 al n al2) (hst : ∀ w, St L R w → St L1 R1 w) : JX n (Exit.then (fun a' w => ∃ B, a' = mkA n al2 B ∧ St L1 R1 w) Q) .normal L R al := by
 intro B w hs
 obtain ⟨B', hB⟩ := Oj hal B
 exact ⟨B', hB, hst w hs⟩
inductive Keep : List Nat → List (Nat × Value) → List (Nat × Value) → List (Nat × Value) → Prop
 | nil {ts acc} : Keep ts [] acc acc
 | yes {ts ts' : List Nat} {t v r acc out} : ts.contains t = true → ts.erase t = ts' → Keep ts' r ((t, v) :: acc) out → Keep ts ((t, v) :: r) acc out
 | no {ts t v r acc out} : ts.contains t = false → Keep ts r acc out → Keep ts ((t, v) :: r) acc out
theorem Ol {d t : Nat} {u : Value} {r : List (Nat × Value)} (h : d ≠ t) : G3 ((d, u) :: r) t = G3 r t := by
 simp only [G3]
 cases hb : Nat.beq d t with
 | true => exact absurd (Nat.eq_of_beq_eq_true hb) h
 | false => rfl
theorem Te {d : Nat} {u : Value} {r : List (Nat × Value)} : G3 ((d, u) :: r) d = some u := by simp [G3]
theorem Keep.sub_aux {ts : List Nat} {al acc out : List (Nat × Value)} (h : Keep ts al acc out) : ∀ t v, G3 out t = some v → (∀ t, ts.count t ≤ 1) → G3 acc t = some v ∨ (G3 al t = some v ∧ t ∈ ts) := by
 induction h with
 | nil => intro t v h _; exact .inl h
 | @yes ts ts' d u r acc out h1 h2 h3 ih =>
  intro t v h hn
  subst h2
  have hd : d ∈ ts := by simpa using h1
  rcases ih t v h (fun s => Nat.le_trans (List.Sublist.count_le _ List.erase_sublist) (hn s)) with e | ⟨e1, e2⟩
  ·by_cases hdt : d = t
   ·subst hdt
    rw [Te] at e
    right; rw [Te]; exact ⟨e, hd⟩
   ·rw [Ol hdt] at e; exact .inl e
  ·by_cases hdt : d = t
   ·subst hdt
    exfalso
    have h4 := List.count_erase_self (a := d) (l := ts)
    have h5 := hn d
    have h6 : 0 < (ts.erase d).count d := List.count_pos_iff.2 e2
    omega
   ·right; rw [Ol hdt]; exact ⟨e1, List.mem_of_mem_erase e2⟩
 | @no ts d u r acc out h1 h3 ih =>
  intro t v h hn
  rcases ih t v h hn with e | ⟨e1, e2⟩
  ·exact .inl e
  ·right
   have hdt : d ≠ t := by intro e; subst e; simp at h1; exact h1 e2
   rw [Ol hdt]; exact ⟨e1, e2⟩
def M3 : List Nat → Bool
 | [] => true
 | x :: r => !(r.contains x) && M3 r
theorem Jd : ∀ {l : List Nat}, M3 l = true → ∀ t, l.count t ≤ 1
 | [], _, t => by simp
 | x :: r, h, t => by
  simp only [M3, Bool.and_eq_true, Bool.not_eq_true', List.contains_eq_mem, decide_eq_false_iff_not] at h
  rw [List.count_cons]
  have := Jd h.2 t
  by_cases hx : x = t
  ·subst hx; rw [List.count_eq_zero_of_not_mem h.1]; simp
  ·simp [hx]; exact this
theorem V8 {ts : List Nat} {al al' : List (Nat × Value)} (h : Keep ts al [] al') (hn : M3 ts = true) (B : Nat → Value) : ∃ B', mkA n al B = mkA n al' B' := by
 refine ⟨fun t => (G3 al t).getD (B t), ?_⟩
 unfold mkA
 simp only [Act.mk.injEq, and_true]
 congr 1
 funext i
 cases hl : G3 al' i with
 | none => simp
 | some v =>
  rcases h.sub_aux i v hl (Jd hn) with e | e
  ·cases e
  ·simp [e.1]
theorem kp {c : Code} (ts : List Nat) {al' : List (Nat × Value)} (k : JC P n c Q L R al') (h : Keep ts al [] al' := by repeat (first | exact .nil | apply Keep.yes rfl rfl | apply Keep.no rfl)) (hn : M3 ts = true := by exact rfl) : JC P n c Q L R al := by
 intro B w hs
 obtain ⟨B', hB⟩ := V8 h hn B
 rw [hB]; exact k B' w hs
theorem alT {al' : List (Nat × Value)} (h : N0 al n al' := by repeat (first | exact trivial | refine ⟨rfl, ?_⟩)) : N0 al n al' := h
end
section
variable {P : Program} {n : Nat} {Q : Exit → Act → World → Prop} {rest : List Oper} {L L' : List Chunk} {R : List Fact} {al : List (Nat × Value)} {d : Nat} {ty : TypeId} {pos : String} {aft : Array Edge}
theorem gy {l : List Oper} {dst : Option Tmp} {op : Go.Op} {i : Nat} {b : Bool} (k : J P n l.toArray Q (⟨dst, op, ty, pos, aft, none⟩ :: rest) L R al) (hv : gv n al l i = some b := by exact rfl) : J P n l.toArray Q (⟨dst, op, ty, pos, aft, some (i, b)⟩ :: rest) L R al := J.guardYes hv k
variable {Sh : Rho → (Nat → Bool) → List Chunk} {R0 : List Fact} {al0 : List (Nat × Value)} {its : List Item} {i : Nat}
theorem dgy {l : List Oper} {dst : Option Tmp} {op : Go.Op} {q : Nat} {b : Bool} (k : DN P n l.toArray Q Sh R0 al0 i ⟨dst, op, ty, pos, aft, none⟩ rest its) (hv : ∀ ρ, gv n (Db its al0 ρ) l q = some b := by exact fun _ => rfl) : DN P n l.toArray Q Sh R0 al0 i ⟨dst, op, ty, pos, aft, some (q, b)⟩ rest its := Rq hv k
theorem dgn {l : List Oper} {op : Go.Op} {q : Nat} {b : Bool} (k : DJ P n l.toArray Q Sh R0 al0 (i + 1) rest (⟨i, some d, fun _ => undef, fun _ => [], fun _ => []⟩ :: its)) (hv : ∀ ρ, gv n (Db its al0 ρ) l q = some (!b) := by exact fun _ => rfl) (hSh : ∀ ρ g S, S i = false → Sh (Rho.set ρ i g) (upS S i) = Sh ρ S := by exact fun _ _ _ _ => rfl) : DN P n l.toArray Q Sh R0 al0 i ⟨some d, op, ty, pos, aft, some (q, b)⟩ rest its := T9 hv hSh k
theorem dgu {l : List Oper} {op : Go.Op} {q : Nat} {b : Bool} (k : DJ P n l.toArray Q Sh R0 al0 (i + 1) rest (⟨i, some d, fun _ => undef, fun _ => [], fun _ => []⟩ :: its)) (hv : ∀ ρ, gu n (Db its al0 ρ) l q = true := by exact fun _ => rfl) (hSh : ∀ ρ g S, S i = false → Sh (Rho.set ρ i g) (upS S i) = Sh ρ S := by exact fun _ _ _ _ => rfl) : DN P n l.toArray Q Sh R0 al0 i ⟨some d, op, ty, pos, aft, some (q, b)⟩ rest its := Nl hv hSh k
end
end Go.Proofs.Ytbigiimomnfpdaa
namespace Go.Proofs.Ytbigiimomnfpdaa
open Go
def Kd : Value → Bool
 | .slice none _ _ => true
 | _ => false
theorem W5 {P : Program} {T e : TypeId} {k : Nat} {b : Option Addr} {l c : Nat} (ht : P.underlying T = some (.slice e)) (w : World) : (Op.equalIn (k + 1) T (.slice b l c) (.slice none 0 0)).run P w = .ok (Kd (.slice b l c)) w := by
 unfold Op.equalIn
 cases b <;> simp [Cb ht, Kd]
section
variable {P : Program} {n : Nat} {ops : Array Oper} {Q : Exit → Act → World → Prop} {rest : List Oper} {L L' : List Chunk} {R : List Fact} {al : List (Nat × Value)} {d : Nat} {x y : Operand} {T ty : TypeId} {pos : String} {aft : Array Edge}
theorem Y5 {e U : TypeId} {v : Value} {len : Nat} (ht : P.underlying T = some (.slice e)) (hl : Da L R v len) (hx : ev n al x = some v := by exact rfl) : As P n al L R ⟨some d, .binOp .eql T x (.const (.slice none 0 0)) U, ty, pos, aft, none⟩ (.bool (Kd v)) :=
 ⟨rfl, fun ρ w h hs => by
  obtain ⟨base, cap, rfl, _⟩ := hl w hs
  have e1 : ρ (.const (.slice none 0 0)) = .slice none 0 0 := h _ (by simp [Op.operands]) _ rfl
  have e2 := h x (by simp [Op.operands]) _ hx
  have g : (eqGuard .eql T x (.const (.slice none 0 0)) (.slice base len cap) (.slice none 0 0)).run P w = .ok () w := by
   unfold eqGuard; rfl
  have e : (binOp .eql T (.slice base len cap) (.slice none 0 0)).run P w = .ok (.bool (Kd (.slice base len cap))) w := by
   show (Op.equal T (.slice base len cap) (.slice none 0 0) >>= fun r => Pure.pure (Value.bool r)).run P w = _
   rw [Sem.run_bind]
   have : (Op.equal T (.slice base len cap) (.slice none 0 0)).run P w = .ok (Kd (.slice base len cap)) w := by
    rw [show Op.equal T (.slice base len cap) (.slice none 0 0) = Op.equalIn (9999 + 1) T (.slice base len cap) (.slice none 0 0) from rfl, W5 ht w]
   rw [this]; rfl
  have : (execOp ρ ⟨some d, .binOp .eql T x (.const (.slice none 0 0)) U, ty, pos, aft, none⟩) = (do let v ← (do eqGuard .eql T x (.const (.slice none 0 0)) (.slice base len cap) (.slice none 0 0); binOp .eql T (.slice base len cap) (.slice none 0 0)); pure (Next.value v)) := by
   simp only [execOp, e1, e2]
  rw [this]
  simp [g, e]⟩
theorem nil_of {α : Type} [Enc α] {v : Value} {xs : List α} {w : World} (hm : sl v xs ∈ R) (hs : St L R w) (h : Kd v = true) : xs = [] := by
 obtain ⟨base, cap, rfl, _, hc⟩ := hs.fact hm
 cases base with
 | none =>
  apply Classical.byContradiction
  intro hne
  obtain ⟨a, _, _, _, _, h1, _⟩ := hc hne
  cases h1
 | some a => cases h
theorem JC.nilOf {α : Type} [Enc α] {c : Code} {v : Value} {xs : List α} (h : Kd v = true) (hm : sl v xs ∈ R) (k : xs = [] → JC P n c Q L R al) : JC P n c Q L R al := JC.know (fun w hs => nil_of hm hs h) k
theorem q_sl {e : TypeId} {sz len cap lo hi : Nat} {a : Addr} {low high : Option Operand} (ht : Cn P T e sz) (hx : ev n al x = some (.slice (some a) len cap) := by exact rfl)
  (hlo : (match low with | none => lo = 0 | some y => ev n al y = some (vi (lo : Int))) := by exact rfl) (hhi : (match high with | none => hi = len | some y => ev n al y = some (vi (hi : Int))) := by exact rfl) (h1 : lo ≤ hi := by omega) (h2 : hi ≤ cap := by omega) : As P n al L R ⟨some d, .slice T x low high none, ty, pos, aft, none⟩ (.slice (if cap = lo then some a else some (a.add (lo * sz))) (hi - lo) (cap - lo)) :=
 ⟨rfl, fun ρ w h hs => by
  show (Instr.sliceAt T (ρ x) (low.map ρ) (high.map ρ) none >>= fun v => Pure.pure (Next.value v)).run P w = _
  rw [h x (by simp [Op.operands]) _ hx, Sem.run_bind]
  have hlo' : (low.map ρ = none ∧ lo = 0) ∨ low.map ρ = some (vi (lo : Int)) := by
   cases low with
   | none => exact .inl ⟨rfl, hlo⟩
   | some y => right; simp only [Option.map_some]; rw [h y (by simp [Op.operands]) _ hlo]
  have hhi' : (high.map ρ = none ∧ hi = len) ∨ high.map ρ = some (vi (hi : Int)) := by
   cases high with
   | none => exact .inl ⟨rfl, hhi⟩
   | some y => right; simp only [Option.map_some]; rw [h y (by simp [Op.operands]) _ hhi]
  have e1 : (0 : Int) ≤ (lo : Int) ∧ (lo : Int) ≤ (hi : Int) := by omega
  have e2 : (0 : Int) ≤ (hi : Int) ∧ (hi : Int) ≤ (cap : Int) := by omega
  have : (Instr.sliceAt T (.slice (some a) len cap) (low.map ρ) (high.map ρ) none).run P w = .ok (.slice (if cap = lo then some a else some (a.add (lo * sz))) (hi - lo) (cap - lo)) w := by
   rcases hlo' with ⟨a1, a2⟩ | a1 <;> rcases hhi' with ⟨b1, b2⟩ | b1 <;> rw [a1, b1] <;>
    simp [Instr.sliceAt, Instr.slice, Instr.sliceBounds, Instr.sliceBound, Cb ht.1, ht.2, asIntOf, e1, e2, h1, h2] <;> (try subst a2) <;> (try subst b2) <;> (try simp) <;> (try omega)
  rw [this]; rfl⟩
end
section
variable {P : Program} {n : Nat} {L : List Chunk} {R : List Fact} {al : List (Nat × Value)} {d : Nat} {x y : Operand} {T ty : TypeId} {pos : String} {aft : Array Edge}
theorem Wf {α : Type} {c : Prop} [Decidable c] {a b : α} : (if c then some a else some b) = some (if c then a else b) := by split <;> rfl
theorem q_sl0 {e : TypeId} {sz len cap hi : Nat} {a : Addr} {high : Option Operand} (ht : Cn P T e sz) (hx : ev n al x = some (.slice (some a) len cap)) (hhi : match high with | none => hi = len | some y => ev n al y = some (vi (hi : Int))) (h2 : hi ≤ cap) : As P n al L R ⟨some d, .slice T x none high none, ty, pos, aft, none⟩ (.slice (some a) hi cap) := by
 have := q_sl (P := P) (L := L) (R := R) (d := d) (ty := ty) (pos := pos) (aft := aft) (lo := 0) (low := none) ht hx rfl hhi (Nat.zero_le _) h2
 simpa [Addr.add] using this
theorem q_slN {e : TypeId} {sz len cap lo hi : Nat} {a : Addr} {low high : Option Operand} (ht : Cn P T e sz) (hx : ev n al x = some (.slice (some a) len cap)) (hlo : match low with | none => lo = 0 | some y => ev n al y = some (vi (lo : Int))) (hhi : match high with | none => hi = len | some y => ev n al y = some (vi (hi : Int))) (h1 : lo ≤ hi) (h2 : hi ≤ cap) : As P n al L R ⟨some d, .slice T x low high none, ty, pos, aft, none⟩ (.slice (some (if cap = lo then a else a.add (lo * sz))) (hi - lo) (cap - lo)) := by
 have := q_sl (P := P) (L := L) (R := R) (d := d) (ty := ty) (pos := pos) (aft := aft) ht hx hlo hhi h1 h2
 rw [Wf] at this; exact this
end
def rdL {α : Type} [Enc α] (xs : List α) (cs : List Value) : Fact := ⟨RdL xs cs, fun _ _ h hr => hr.mono h⟩
section
variable {P : Program} {n : Nat} {ops : Array Oper} {Q : Exit → Act → World → Prop} {rest : List Oper} {L L' : List Chunk} {R : List Fact} {al : List (Nat × Value)} {d : Nat} {x y : Operand} {T ty : TypeId} {pos : String} {aft : Array Edge}
variable {α : Type} [Enc α] {v : Value} {xs : List α}
theorem Y0 {w : World} (hne : xs ≠ []) (hs : St (row T v xs :: L) R w) : ∃ g cap cs, v = .slice (some ⟨g, 0, none⟩) xs.length cap ∧ xs.length ≤ cap ∧ cap ≤ maxLen ∧ xs.length ≤ maxN ∧ cs.length = cap * Enc.sz α ∧ St (blk g T cs :: L) (rdL xs (cs.take (xs.length * Enc.sz α)) :: R) w ∧ (∀ u ∈ cs.take (xs.length * Enc.sz α), u.oneCell' = true) := by
 obtain ⟨m, j, hd, hm, hj, ⟨m1, m2, hd', h1, h2, hc, hst⟩, hr⟩ := hs
 obtain ⟨h0, hv | ⟨g, cap, cur, cs, hv, hg, hcap, hml, hsz, htk, hrd⟩⟩ := hc
 ·exact absurd hv.2 hne
 ·subst htk
  refine ⟨g, cap, cur.toList, hv, hcap, hml, h0, by simpa using hsz, ⟨m, j, hd, hm, hj, ⟨m1, m2, hd', h1, h2, by simpa [blk, blkO] using hg, hst⟩, fun f hf => ?_⟩, hrd.one⟩
  cases List.mem_cons.1 hf with
  | inl e => rw [e]; exact hrd
  | inr e => exact hr f e
theorem Acd {w : World} {g cap : Nat} {cs : List Value} (hN : xs.length ≤ maxN) (hcap : xs.length ≤ cap) (hml : cap ≤ maxLen) (hcl : cs.length = cap * Enc.sz α) (hrd : ∀ j, (∀ f ∈ R, f.p j) → RdL xs (cs.take (xs.length * Enc.sz α)) j) (hs : St (blk g T cs :: L) R w) : St (row T (.slice (some ⟨g, 0, none⟩) xs.length cap) xs :: L) R w := by
 obtain ⟨m, j, hd, hm, hj, ⟨m1, m2, hd', h1, h2, hc, hst⟩, hr⟩ := hs
 exact ⟨m, j, hd, hm, hj, ⟨m1, m2, hd', h1, h2, ⟨hN, .inr ⟨g, cap, cs.toArray, _, rfl, hc, hcap, hml, by simpa using hcl, rfl, hrd j hr⟩⟩, hst⟩, hr⟩
theorem ap_in {t e : TypeId} {bytes g i j m cap c2 : Nat} {a : Addr} {z : Value} {cs : List Value} (he : ElemOf P t e 1 z bytes) (hx : ev n al x = some (.slice (some ⟨g, 0, none⟩) i cap)) (hy : ev n al y = some (.slice (some a) m c2)) (ha : m ≠ 0 → a = ⟨g, j, none⟩)
  (hp : Pick L (blk g e cs) L') (hcl : cs.length = cap) (hj : j + m ≤ cap) (hroom : i + m ≤ cap) (h1 : ∀ u ∈ (cs.drop j).take m, u.oneCell' = true)
  (k : J P n ops Q rest (blk g e (cs.take i ++ (cs.drop j).take m ++ cs.drop (i + m)) :: L') R ((d, .slice (some ⟨g, 0, none⟩) (i + m) cap) :: al)) :
  J P n ops Q (⟨some d, .call { callee := .builtin .append, args := #[x, y], argTypes := #[t, t] }, ty, pos, aft, none⟩ :: rest) L R al :=
 J.yield (L' := blk g e (cs.take i ++ (cs.drop j).take m ++ cs.drop (i + m)) :: L') (R' := R) rfl rfl (fun B w hs => by
  obtain ⟨ti, hi, hz, hisz, hiby⟩ := he.info
  have hs' := hs.pick hp
  have hgw : w.heap[g]? = some (.cells cs.toArray e (0, 0)) := hs'.blk_get
  by_cases hm : m = 0
  ·subst hm
   refine ⟨w, E6 ?_, ?_⟩
   ·rw [Ax hx, Ax hy]
    have hfirst : (Builtin.firstCells 1 0 (.slice (some a) 0 c2)).run P w = .ok #[] w := by simp [Builtin.firstCells, loadCells, loadCellsFrom]
    simp [Builtin.append_, Cb he.und, sizeOf, typeInfo, hi, hisz, Builtin.lenOf, hfirst, show i ≤ cap by omega, storeCells]
   ·simpa using hs'
  ·have ha' := ha hm
   subst ha'
   have hnl : ((cs.drop j).take m).length = m * 1 := by simp; omega
   have hnc : ∀ (k : Nat) c, ((cs.drop j).take m)[k]? = some c → w.cell? ((⟨g, j, none⟩ : Addr).add k) = some c := by
    intro k c hk
    rw [Ge, Ex hgw]
    rw [List.getElem?_take] at hk
    split at hk
    ·rw [List.getElem?_drop] at hk; simpa using hk
    ·cases hk
   have hrun := run_append_room (P := P) (w := w) t ty e ti he.und hi g i cap cs.toArray hgw ⟨g, j, none⟩ m c2 ((cs.drop j).take m) (by rw [hisz]; exact hnl) hnc h1 hroom (by rw [hisz, hnl]; simp; omega)
   refine ⟨_, E6 (by rw [Ax hx, Ax hy]; exact hrun), ?_⟩
   rw [hisz, hnl]
   simp only [Nat.mul_one]
   exact hs'.blk_set (By hgw).1 (By hgw).2 rfl rfl) k
theorem clr {t e : TypeId} {bytes g o c2 : Nat} {z : Value} {cs : List Value} (he : ElemOf P t e 1 z bytes) (hz : ∀ w, (zeroValue e).run P w = .ok z w) (hzc : z.cells = #[z]) (hz1 : z.oneCell' = true) (hx : ev n al x = some (.slice (some ⟨g, o, none⟩) 1 c2))
  (hp : Pick L (blk g e cs) L') (hcl : o + 1 ≤ cs.length)
  (k : ∀ cs', cs' = cs.take o ++ [z] ++ cs.drop (o + 1) → J P n ops Q rest (blk g e cs' :: L') R al) :
  J P n ops Q (⟨none, .call { callee := .builtin .clear, args := #[x], argTypes := #[t] }, ty, pos, aft, none⟩ :: rest) L R al := by
 refine J.step rfl fun B w hs => .inl ?_
 have hs' := hs.pick hp
 have hgw : w.heap[g]? = some (.cells cs.toArray e (0, 0)) := hs'.blk_get
 have hzl : (Builtin.zeroCells z.cells 1).toList = [z] := by
  rw [hzc]; unfold Builtin.zeroCells; simp [List.range_succ]
 have hst := run_storeCells_at P g o e ([z]) 0 cs.toArray w hgw (by simpa using hcl) (fun u hu => by cases List.mem_singleton.1 hu; exact hz1)
 have e1 : (Builtin.clear_ #[t] ty #[(mkA n al B).eval x]).run P w = .ok (.tuple #[]) (w.setRow g (cs.take o ++ [z] ++ cs.drop (o + 1)).toArray) := by
  rw [Ax hx]
  simp [Builtin.clear_, Cb he.und, hz, hzl] at hst ⊢
  rw [hst]; rfl
 have e2 : (execOp (mkA n al B).eval ⟨none, .call { callee := .builtin .clear, args := #[x], argTypes := #[t] }, ty, pos, aft, none⟩).run P w = .ok (.value (.tuple #[])) (w.setRow g (cs.take o ++ [z] ++ cs.drop (o + 1)).toArray) := by
  simp [execOp, resolve, invoke, builtin, e1]
 unfold Oper.wp
 rw [e2, Oper.upon_value, Ka]
 exact k _ rfl B _ (hs'.blk_set (By hgw).1 (By hgw).2 rfl rfl)
end
theorem frz {P : Program} {γ : Type} {f : FuncId} {args : Array Value} {w : World} {α : Type} [Enc α] {T : TypeId} {xs : List α} {val p : γ → Value} {L : γ → List Chunk} {R : γ → List Fact} (h : Calls P f args w (Bl val (fun g => row T (p g) xs :: L g) R)) : Calls P f args w (Bl val L (fun g => sl (p g) xs :: R g)) :=
 h.mono fun e w' ⟨g, h1, h2⟩ => ⟨g, h1, h2.shut⟩
section
variable {P : Program} {n : Nat} {ops : Array Oper} {Q : Exit → Act → World → Prop} {rest : List Oper} {L L' : List Chunk} {R : List Fact} {al : List (Nat × Value)} {d : Nat} {x y : Operand} {T ty : TypeId} {pos : String} {aft : Array Edge}
theorem Kx {α : Type} {l : List α} {k : Nat} (d : α) (h : k < l.length) : l.take (k + 1) = l.take k ++ [l.getD k d] := by
 rw [List.take_add_one, getD_some d h]; rfl
theorem l_Sr {β : Type} [Enc β] {T' : TypeId} {v : Value} {xs : List (List β)} {i : Nat} (hT : ∀ w, (isAgg T).run P w = .ok false w) (hx : ev n al x = some (ep v 1 i 0)) (hp : Pick L (row T' v xs) L') (hi : i < xs.length)
  (k : ∀ u, J P n ops Q rest L (sl u (xs.getD i []) :: R) ((d, u) :: al)) : J P n ops Q (⟨some d, .load T x, ty, pos, aft, none⟩ :: rest) L R al :=
 Qu (α := List β) (f := 0) hT hx hp (getD_some [] hi) (fun cs m h => by obtain ⟨u, h1, h2⟩ := h; exact ⟨u, by rw [h1]; rfl, h2⟩) k
theorem s_Sr {β : Type} [Enc β] {T' : TypeId} {v c : Value} {xs : List (List β)} {ys : List β} {i : Nat} (hsz : ∀ w, (sizeOf T).run P w = .ok 1 w) (hx : ev n al x = some (ep v 1 i 0)) (hy : ev n al y = some c) (hm : sl c ys ∈ R) (hp : Pick L (row T' v xs) L') (hi : i < xs.length)
  (k : J P n ops Q rest (row T' v (xs.set i ys) :: L') R al) : J P n ops Q (⟨none, .store T x y, ty, pos, aft, none⟩ :: rest) L R al :=
 fun B w hs => by
  have hc : c.cells = #[c] ∧ c.oneCell' = true := by obtain ⟨base, cap, rfl, _⟩ := hs.fact hm; exact ⟨rfl, rfl⟩
  exact Gz (α := List β) (f := 0) (cs := [c]) (e := xs.getD i []) (e' := ys) hsz hx hy hc.1 rfl (by intro u hu; cases List.mem_singleton.1 hu; exact hc.2) hp (getD_some [] hi)
   (fun ds m hr => by obtain ⟨u, h1, _⟩ := hr; rw [h1]; exact Nat.le_refl _) (fun j hj ds hr => by obtain ⟨u, h1, _⟩ := hr; rw [h1]; exact ⟨c, rfl, hj _ hm⟩) k B w hs
end
end Go.Proofs.Ytbigiimomnfpdaa
namespace Go.Proofs.Ytbigiimomnfpdaa
open Go
section
variable {P : Program} {n : Nat} {Q : Exit → Act → World → Prop} {Sh : Rho → (Nat → Bool) → List Chunk} {R0 : List Fact} {al0 : List (Nat × Value)}
variable {ops : Array Oper} {i : Nat} {rest : List Oper} {its : List Item} {d : Nat} {x y : Operand} {T ty : TypeId} {pos : String} {aft : Array Edge}
def Ij (ops : Array Oper) (Sh : Rho → (Nat → Bool) → List Chunk) (i : Nat) : Prop := ∀ ρ g S, S i = false → (∀ j, Bef ops i j → S j = false) → Sh (Rho.set ρ i g) (upS S i) = Sh ρ S
theorem Abn {γ : Type} [Gh γ] {o : Oper} {val : γ → Value} {F : γ → List Fact} {C : γ → List Chunk} (hg : o.guard = none) (hd : o.dst = some d) (hSh : Ij ops Sh i)
  (h : ∀ ρ S a L' R' w (K : Act → World → Prop), Now ops n Sh R0 al0 i its o ρ S a L' R' w → (∀ g w', St (C g ++ (Sh ρ S ++ L')) (F g ++ R') w' → K (a.put (some d) (val g)) w') → o.wp P a w K Q)
  (k : DJ P n ops Q Sh R0 al0 (i + 1) rest (⟨i, some d, fun ρ => val (Gh.dec (ρ i)), fun ρ => F (Gh.dec (ρ i)), fun ρ => C (Gh.dec (ρ i))⟩ :: its)) : DJ P n ops Q Sh R0 al0 i (o :: rest) its := by
 refine dj ⟨⟨i, some d, fun ρ => val (Gh.dec (ρ i)), fun ρ => F (Gh.dec (ρ i)), fun ρ => C (Gh.dec (ρ i))⟩, rfl, hd.symm, Ind.self (h := fun g => val (Gh.dec g)), Ind.self (h := fun g => F (Gh.dec g)), Ind.self (h := fun g => C (Gh.dec g)), ?_, k⟩
 intro ρ S a L' R' w K hS hbef haft hag hdep hbase hst hK
 rw [if_pos (by simp [Region.wanted, hg])]
 left
 refine h ρ S a L' R' w K ⟨hS, hag, hdep, hbase, hst⟩ ?_
 intro g w' hs'
 have e : (Rho.set ρ i (Gh.enc g)) i = Gh.enc g := by simp [Rho.set]
 have := hK (Gh.enc g) w'
 simp only [e, Gh.ok, hd, hSh ρ (Gh.enc g) S hS haft] at this
 refine this (hs'.perm ?_)
 rw [← List.append_assoc, ← List.append_assoc]
 exact List.Perm.append_right _ List.perm_append_comm
theorem e_p {op : Oper} {v : Rho → Value} (hp : ∀ ρ S, As P n (Db its al0 ρ) (Sh ρ S) R0 op (v ρ)) (hi : Ind ops i v) (hSh : Ij ops Sh i)
  (k : DJ P n ops Q Sh R0 al0 (i + 1) rest (⟨i, some d, v, fun _ => [], fun _ => []⟩ :: its)) (hd : op.dst = some d := by exact rfl) : DJ P n ops Q Sh R0 al0 i (op :: rest) its := by
 refine dj ⟨⟨i, some d, v, fun _ => [], fun _ => []⟩, rfl, hd.symm, hi, Ind.const _, Ind.const _, ?_, k⟩
 intro ρ S a L' R' w K hS hbef haft hag hdep hbase hst hK
 have hp0 := hp ρ S
 rw [if_pos (by simp [Region.wanted, hp0.1])]
 left
 unfold Oper.wp
 have h : Now ops n Sh R0 al0 i its op ρ S a L' R' w := ⟨hS, hag, hdep, hbase, hst⟩
 rw [hp0.2 _ w (fun x hx u hu => Bq h.agree hx hu) (h.st.fewer h.base), Oper.upon_value]
 have hsh := hSh ρ (ρ i) S hS haft
 rw [Rho.set_same] at hsh
 have := hK (ρ i) w
 rw [Rho.set_same] at this
 exact this (by rw [hsh]; exact hst)
theorem Hv {op : Oper} {v : Value} (hp : ∀ ρ S, S i = false → (∀ j, Bef ops j i → S j = true) → (∀ j, Bef ops i j → S j = false) → As P n (Db its al0 ρ) (Sh ρ S) R0 op v) (hSh : Ij ops Sh i)
  (k : DJ P n ops Q Sh R0 al0 (i + 1) rest (⟨i, some d, fun _ => v, fun _ => [], fun _ => []⟩ :: its)) (hpure : op.guard = none := by exact rfl) (hd : op.dst = some d := by exact rfl) : DJ P n ops Q Sh R0 al0 i (op :: rest) its := by
 refine dj ⟨⟨i, some d, fun _ => v, fun _ => [], fun _ => []⟩, rfl, hd.symm, Ind.const _, Ind.const _, Ind.const _, ?_, k⟩
 intro ρ S a L' R' w K hS hbef haft hag hdep hbase hst hK
 have hp0 := hp ρ S hS hbef haft
 rw [if_pos (by simp [Region.wanted, hp0.1])]
 left
 unfold Oper.wp
 have h : Now ops n Sh R0 al0 i its op ρ S a L' R' w := ⟨hS, hag, hdep, hbase, hst⟩
 rw [hp0.2 _ w (fun x hx u hu => Bq h.agree hx hu) (h.st.fewer h.base), Oper.upon_value]
 have hsh := hSh ρ (ρ i) S hS haft
 rw [Rho.set_same] at hsh
 have := hK (ρ i) w
 rw [Rho.set_same] at this
 exact this (by rw [hsh]; exact hst)
theorem Cp {s : Bool} {x y : List Value} {f : Nat} {c : Value} (hx : x[f]? = some c) (hy : y[f]? = some c) : (bif s then x else y)[f]? = some c := by cases s <;> assumption
theorem Jn {op : Oper} {v : Value} (hp : ∀ ρ S, As P n (Db its al0 ρ) (Sh ρ S) R0 op v) (hSh : Ij ops Sh i)
 (k : DJ P n ops Q Sh R0 al0 (i + 1) rest (⟨i, some d, fun _ => v, fun _ => [], fun _ => []⟩ :: its)) (hd : op.dst = some d := by exact rfl) : DJ P n ops Q Sh R0 al0 i (op :: rest) its := e_p hp (Ind.const _) hSh k hd
theorem Gc {γ : Type} [Gh γ] {val : γ → Value} {F : γ → List Fact} {f : FuncId} {args : List Operand} {ts : Array TypeId} {vs : Rho → List Value} (hf : ∀ args w, (callFunc f args).run P w = .ok (.enter f args) w)
  (ha : ∀ ρ, evL n (Db its al0 ρ) args = some (vs ρ)) (hc : ∀ ρ L' R' w, Deps ops R0 its i ρ R' → St L' R' w → Calls P f (vs ρ).toArray w (Bl val (fun _ => L') (fun g => F g ++ R'))) (hSh : Ij ops Sh i)
  (k : DJ P n ops Q Sh R0 al0 (i + 1) rest (⟨i, some d, fun ρ => val (Gh.dec (ρ i)), fun ρ => F (Gh.dec (ρ i)), fun ρ => []⟩ :: its)) :
  DJ P n ops Q Sh R0 al0 i (⟨some d, .call { callee := .value (.func f), args := args.toArray, argTypes := ts }, ty, pos, aft, none⟩ :: rest) its :=
 Abn (C := fun _ => []) rfl rfl hSh (fun ρ S a L' R' w K h hK => by
  unfold Oper.wp
  rw [Ia hf rfl, Oper.upon_enter, List.map_toArray, Fz h.agree (fun x hx => by simp [Op.operands, Call.operands, hx]) (ha ρ)]
  refine (hc ρ _ _ w ⟨h.base, h.deps⟩ h.st).mono ?_
  rintro e w' ⟨g, rfl, hs'⟩
  exact hK g w' hs') k
theorem Ie {α : Type} [Enc α] {t el : TypeId} {sz bytes len : Nat} {z : Value} {parts : List (Nat × Operand)} {vs : Rho → List Value} (xs : List α) (he : ElemOf P t el sz z bytes) (hsz : Enc.sz α = sz)
  (ha : ∀ ρ, evL n (Db its al0 ρ) (parts.map (·.2)) = some (vs ρ)) (hidx : parts.map (·.1) = List.range' 0 len) (hlv : ∀ ρ, (vs ρ).length = len) (hsmall : Nat.ble (len * sz) 1000 = true) (hsm2 : Nat.ble len 1000 = true)
  (hrd : ∀ ρ R', Deps ops R0 its i ρ R' → ∀ j, (∀ q ∈ R', q.p j) → RdV xs (vs ρ) j) (hSh : Ij ops Sh i)
  (k : DJ P n ops Q Sh R0 al0 (i + 1) rest (⟨i, some d, fun ρ => (Gh.dec (ρ i) : Value), fun ρ => [sl (Gh.dec (ρ i) : Value) xs], fun _ => []⟩ :: its)) :
  DJ P n ops Q Sh R0 al0 i (⟨some d, .buildSlice t len parts.toArray, ty, pos, aft, none⟩ :: rest) its :=
 Abn (γ := Value) (val := fun v => v) (F := fun v => [sl v xs]) (C := fun _ => []) rfl rfl hSh (fun ρ S ac L' R' w K h hK => by
  obtain ⟨j, hj, hrj⟩ := h.st.ex
  have hrd' := hrd ρ R' ⟨h.base, h.deps⟩
  obtain ⟨h1, h2, h3⟩ := (hrd' j hrj).list
  have hlen := hlv ρ
  have hb := Nat.le_of_ble_eq_true hsmall
  have hb2 := Nat.le_of_ble_eq_true hsm2
  have hrun := Fj (vs := vs ρ) he (fun v hv => by rw [h2 v hv, hsz]) (by rw [hlen]; exact hb) w
  have e : (execOp ac.eval ⟨some d, .buildSlice t len parts.toArray, ty, pos, aft, none⟩).run P w = .ok (.value (.slice (some ⟨w.heap.size, 0, none⟩) len len)) (w.alloc (.cells ((vs ρ).flatMap fun v => v.cells.toList).toArray el)) := by
   show (Instr.buildSlice t len (parts.toArray.map fun (i, x) => (i, ac.eval x)) >>= fun v => Pure.pure (Next.value v)).run P w = _
   have hp : (parts.toArray.map fun (i, x) => (i, ac.eval x)) = ((parts.map (·.1)).zip (vs ρ)).toArray := by
    rw [← Fz h.agree (fun x hx => by simpa [Op.operands] using hx) (ha ρ)]
    simp only [List.map_toArray, List.map_map, List.zip_map', Function.comp_def]
   rw [hp, hidx, Sem.run_bind, ← hlen, hrun]; rfl
  unfold Oper.wp
  rw [e, Oper.upon_value]
  refine hK _ _ ?_
  obtain ⟨m, j', hd, hmw, hjw, hst, hr⟩ := h.st
  have hnew : St (row el (.slice (some ⟨w.heap.size, 0, none⟩) len len) xs :: (Sh ρ S ++ L')) R' (w.alloc (.cells ((vs ρ).flatMap fun v => v.cells.toList).toArray el)) := by
   obtain ⟨g1, g2, g3⟩ := (hrd' j' hr).list
   have hcl : ((vs ρ).flatMap fun v => v.cells.toList).length = len * sz := by rw [g3.len, g1, hlen, hsz]
   exact St.newC hd hmw hjw hst hr rfl rfl rfl ⟨by rw [g1, hlen]; have : maxN = 16777216 := rfl; omega, .inr ⟨w.heap.size, len, _, _, by rw [g1, hlen], Ds _ _, by rw [g1, hlen]; exact Nat.le_refl _, by unfold maxLen; omega, by rw [hsz]; simpa using hcl, rfl, by
    rw [g1, hlen, hsz, ← hcl, List.toList_toArray, List.take_length]; exact g3⟩⟩
  exact hnew.shut) k
theorem Yh {α : Type} [Enc α] {t el : TypeId} {sz bytes : Nat} {z : Value} {zc : List Value} {a : Int} {x0 : α} (he : ElemOf P t el sz z bytes) (hsz : Enc.sz α = sz) (hpos : 0 < sz) (hx : ∀ ρ, ev n (Db its al0 ρ) x = some (vi a)) (hy : ∀ ρ, ev n (Db its al0 ρ) y = some (vi a))
 (hzc : z.cells = zc.toArray) (hrd : ∀ j, Enc.rd x0 zc j) (h0 : 0 ≤ a) (hN : a ≤ 16777216) (hSh : ∀ ρ g S, S i = false → Sh (Rho.set ρ i g) (upS S i) = Sh ρ S)
 (k : DJ P n ops Q Sh R0 al0 (i + 1) rest (⟨i, some d, fun ρ => (Gh.dec (ρ i) : Value), fun ρ => [sl (Gh.dec (ρ i) : Value) (List.replicate a.toNat x0)], fun _ => []⟩ :: its)) :
 DJ P n ops Q Sh R0 al0 i (⟨some d, .makeSlice t x y, ty, pos, aft, none⟩ :: rest) its := dj (d_make he hsz hpos hx hy hzc hrd h0 hN hSh k)
theorem Lz {z : Value} {cs : List Value} (hz : ∀ w, (zeroValue T).run P w = .ok z w) (hv : z.cells = cs.toArray) (hSh : ∀ ρ (b : Nat) S, S i = false → (∀ j, Bef ops i j → S j = false) → (Sh (Rho.set ρ i (Gh.enc b)) (upS S i)).Perm (blk b T cs :: Sh ρ S))
 (k : DJ P n ops Q Sh R0 al0 (i + 1) rest (⟨i, some d, fun ρ => bp (Gh.dec (γ := Nat) (ρ i)) 0, fun _ => [], fun _ => []⟩ :: its)) : DJ P n ops Q Sh R0 al0 i (⟨some d, .alloc T, ty, pos, aft, none⟩ :: rest) its := dj (Ua hz hv hSh k)
theorem Abm {f : Nat} {vs us : Rho → List Value} {v : Rho → Value} {sz : Nat} {T0 : TypeId} (bb : Rho → Nat) (hsz : ∀ w, (sizeOf T).run P w = .ok sz w) (hx : ∀ ρ, ev n (Db its al0 ρ) x = some (bp (bb ρ) f)) (hy : ∀ ρ, ev n (Db its al0 ρ) y = some (v ρ)) (hv : ∀ ρ, (v ρ).cells = (us ρ).toArray) (hl : ∀ ρ, (us ρ).length = sz)
  (h1 : ∀ ρ R' w L', Deps ops R0 its i ρ R' → St L' R' w → ∀ u ∈ us ρ, u.oneCell' = true) (hf : ∀ ρ, Nat.ble (f + sz) (vs ρ).length = true)
  (hSh : ∀ ρ g S, S i = false → (∀ j, Bef ops j i → S j = true) → (∀ j, Bef ops i j → S j = false) → ∃ L1, (Sh ρ S).Perm (blk (bb ρ) T0 (vs ρ) :: L1) ∧ (Sh (Rho.set ρ i g) (upS S i)).Perm (blk (bb ρ) T0 ((vs ρ).take f ++ us ρ ++ (vs ρ).drop (f + sz)) :: L1))
  (k : DJ P n ops Q Sh R0 al0 (i + 1) rest (⟨i, none, fun _ => undef, fun _ => [], fun _ => []⟩ :: its)) : DJ P n ops Q Sh R0 al0 i (⟨none, .store T x y, ty, pos, aft, none⟩ :: rest) its := by
 refine dj ⟨⟨i, none, fun _ => undef, fun _ => [], fun _ => []⟩, rfl, rfl, Ind.const _, Ind.const _, Ind.const _, ?_, k⟩
 intro ρ S a L' R' w K hS hbef haft hag hdep hbase hst hK
 rw [if_pos (by simp [Region.wanted])]
 left
 unfold Oper.wp
 obtain ⟨L1, p1, p2⟩ := hSh ρ (ρ i) S hS hbef haft
 have hs' : St (blk (bb ρ) T0 (vs ρ) :: (L1 ++ L')) R' w := hst.perm (p1.append_right L')
 have hone := h1 ρ R' w _ ⟨hbase, hdep⟩ hst
 have hfit : f + (us ρ).length ≤ (vs ρ).length := by rw [hl]; exact Nat.le_of_ble_eq_true (hf ρ)
 have e : (execOp a.eval ⟨none, .store T x y, ty, pos, aft, none⟩).run P w = .ok .skip (w.setRow (bb ρ) ((vs ρ).take f ++ us ρ ++ (vs ρ).drop (f + (us ρ).length)).toArray) := by
  refine El ?_
  rw [Bq hag (by simp [Op.operands]) (hx ρ), Bq hag (by simp [Op.operands]) (hy ρ)]
  have := run_storeCells_at P (bb ρ) f T0 (us ρ) 0 (vs ρ).toArray w hs'.blk_get (by simpa using hfit) hone
  simp only [Nat.add_zero] at this
  have hl' := hl ρ
  simp [Instr.storeAt, Instr.sureAddr, storeVar, hsz, hv, bp, hl', this]
 rw [e, Oper.upon_skip]
 refine hK (ρ i) _ ?_
 have hnew := hs'.blk_set (By (us := (vs ρ).take f ++ us ρ ++ (vs ρ).drop (f + (us ρ).length)) hs'.blk_get).1 (By hs'.blk_get).2 rfl rfl
 rw [hl] at hnew ⊢
 exact hnew.perm (p2.symm.append_right L')
end
inductive Ins : List Chunk → List Chunk → Chunk → Prop
 | hd {r x} : Ins ([x] ++ r) r x
 | hc {r x} : Ins (x :: r) r x
 | tl {r r' x c} : Ins r' r x → Ins (c :: r') (c :: r) x
 | ap {r r' x P} : Ins r' r x → Ins (P ++ r') (P ++ r) x
theorem Ins.perm {l' l : List Chunk} {x : Chunk} (h : Ins l' l x) : l'.Perm (x :: l) := by
 induction h with
 | hd => exact .refl _
 | hc => exact .refl _
 | tl _ ih => exact (ih.cons _).trans (.swap ..)
 | ap _ ih => exact (ih.append_left _).trans List.perm_middle
inductive Pos : List Chunk → List Chunk → Chunk → Chunk → List Chunk → Prop
 | hd {r x x'} : Pos ([x] ++ r) ([x'] ++ r) x x' r
 | hc {r x x'} : Pos (x :: r) (x' :: r) x x' r
 | tl {r r' x x' c L1} : Pos r r' x x' L1 → Pos (c :: r) (c :: r') x x' (c :: L1)
 | ap {r r' x x' P L1} : Pos r r' x x' L1 → Pos (P ++ r) (P ++ r') x x' (P ++ L1)
theorem Pos.ex {l l' L1 : List Chunk} {x x' : Chunk} (h : Pos l l' x x' L1) : ∃ L1, l.Perm (x :: L1) ∧ l'.Perm (x' :: L1) := by
 induction h with
 | hd => exact ⟨_, .refl _, .refl _⟩
 | hc => exact ⟨_, .refl _, .refl _⟩
 | tl _ ih => obtain ⟨L1, h1, h2⟩ := ih; exact ⟨_ :: L1, (h1.cons _).trans (.swap ..), (h2.cons _).trans (.swap ..)⟩
 | ap _ ih => obtain ⟨L1, h1, h2⟩ := ih; exact ⟨_ ++ L1, (h1.append_left _).trans List.perm_middle, (h2.append_left _).trans List.perm_middle⟩
section
variable {P : Program} {n : Nat} {ops : Array Oper} {Q : Exit → Act → World → Prop} {rest : List Oper} {L L' : List Chunk} {R : List Fact} {al : List (Nat × Value)} {d : Nat} {x y : Operand} {T ty : TypeId} {pos : String} {aft : Array Edge}
theorem s_W {α : Type} [Enc α] {T' : TypeId} {v : Value} {xs : List α} {i sz : Nat} {cs : List Value} (e' : α) (hsz : ∀ w, (sizeOf T).run P w = .ok sz w) (hx : ev n al x = some (ep v sz i 0)) (hy : ev n al y = some (.agg cs.toArray)) (hes : Enc.sz α = sz) (hp : Pick L (row T' v xs) L') (hi : i < xs.length) (hrd : ∀ j, (∀ q ∈ R, q.p j) → Enc.rd e' cs j)
  (k : J P n ops Q rest (row T' v (xs.set i e') :: L') R al) : J P n ops Q (⟨none, .store T x y, ty, pos, aft, none⟩ :: rest) L R al := fun B w hs => by
 obtain ⟨j, _, hr⟩ := hs.ex
 have hl := Enc.len _ _ _ (hrd j hr)
 subst hes
 obtain ⟨e, he⟩ : ∃ e, xs[i]? = some e := ⟨xs[i], List.getElem?_eq_getElem hi⟩
 refine Gz (α := α) (f := 0) (cs := cs) (e := e) (e' := e') hsz hx hy rfl hl (Enc.one _ _ _ (hrd j hr)) hp he (fun ds m hr => by rw [Enc.len _ _ _ hr, hl]; omega) (fun j hj ds hr => ?_) k B w hs
 have hd := Enc.len _ _ _ hr
 have : ds.take 0 ++ cs ++ ds.drop (0 + cs.length) = cs := by rw [List.drop_of_length_le (by omega)]; simp
 rw [this]; exact hrd j hj
theorem Cv {u : Value} {e : Entry} (hm : sl u e.last ∈ R) (hw : e.wf) : ∀ j, (∀ q ∈ R, q.p j) → Enc.rd e (e.cells u) j := fun j h => ⟨u, rfl, h _ hm, hw⟩
theorem X8 {u : Value} {e : Core} (hm : sl u e.lines ∈ R) (hw : e.wait.wf) : ∀ j, (∀ q ∈ R, q.p j) → Enc.rd e (e.cells u) j := fun j h => ⟨u, rfl, h _ hm, hw⟩
theorem S1 {e : Msg} (hw : e.wf) : ∀ j, (∀ q ∈ R, q.p j) → RdV [e] [.agg e.cells.toArray] j := fun j _ => ⟨⟨_, rfl, rfl, hw⟩, trivial⟩
theorem Mu {e : Done} (hw : e.wf) : ∀ j, (∀ q ∈ R, q.p j) → RdV [e] [.agg e.cells.toArray] j := fun j _ => ⟨⟨_, rfl, rfl, hw⟩, trivial⟩
end
end Go.Proofs.Ytbigiimomnfpdaa
namespace Go.Proofs.Ytbigiimomnfpdaa
open Go
section
variable {P : Program} {n : Nat} {Q : Exit → Act → World → Prop} {Sh : Rho → (Nat → Bool) → List Chunk} {R0 : List Fact} {al0 : List (Nat × Value)}
variable {ops : Array Oper} {i : Nat} {rest : List Oper} {its : List Item} {x y : Operand} {T ty : TypeId} {pos : String} {aft : Array Edge}
theorem Di {f : Nat} {vs : Rho → List Value} {v : Rho → Value} {T0 : TypeId} (bb : Rho → Nat) (hsz : ∀ w, (sizeOf T).run P w = .ok 1 w) (hx : ∀ ρ, ev n (Db its al0 ρ) x = some (bp (bb ρ) f)) (hy : ∀ ρ, ev n (Db its al0 ρ) y = some (v ρ))
  (h1 : ∀ ρ S R' w L', (∀ j, Bef ops j i → S j = true) → Deps ops R0 its i ρ R' → St (Sh ρ S ++ L') R' w → (v ρ).oneCell' = true) (hf : ∀ ρ, Nat.ble (f + 1) (vs ρ).length = true)
  (hSh : ∀ ρ g S, S i = false → (∀ j, Bef ops j i → S j = true) → (∀ j, Bef ops i j → S j = false) → ∃ L1, (Sh ρ S).Perm (blk (bb ρ) T0 (vs ρ) :: L1) ∧ (Sh (Rho.set ρ i g) (upS S i)).Perm (blk (bb ρ) T0 ((vs ρ).take f ++ [v ρ] ++ (vs ρ).drop (f + 1)) :: L1))
  (k : DJ P n ops Q Sh R0 al0 (i + 1) rest (⟨i, none, fun _ => undef, fun _ => [], fun _ => []⟩ :: its)) : DJ P n ops Q Sh R0 al0 i (⟨none, .store T x y, ty, pos, aft, none⟩ :: rest) its := by
 refine dj ⟨⟨i, none, fun _ => undef, fun _ => [], fun _ => []⟩, rfl, rfl, Ind.const _, Ind.const _, Ind.const _, ?_, k⟩
 intro ρ S a L' R' w K hS hbef haft hag hdep hbase hst hK
 rw [if_pos (by simp [Region.wanted])]
 left
 unfold Oper.wp
 obtain ⟨L1, p1, p2⟩ := hSh ρ (ρ i) S hS hbef haft
 have hs' : St (blk (bb ρ) T0 (vs ρ) :: (L1 ++ L')) R' w := hst.perm (p1.append_right L')
 have hone := h1 ρ S R' w _ hbef ⟨hbase, hdep⟩ hst
 have hone' : ∀ u ∈ [v ρ], u.oneCell' = true := by intro u hu; cases List.mem_singleton.1 hu; exact hone
 have hfit : f + [v ρ].length ≤ (vs ρ).length := Nat.le_of_ble_eq_true (hf ρ)
 have hc := Kp hone
 have e : (execOp a.eval ⟨none, .store T x y, ty, pos, aft, none⟩).run P w = .ok .skip (w.setRow (bb ρ) ((vs ρ).take f ++ [v ρ] ++ (vs ρ).drop (f + 1)).toArray) := by
  refine El ?_
  rw [Bq hag (by simp [Op.operands]) (hx ρ), Bq hag (by simp [Op.operands]) (hy ρ)]
  have := run_storeCells_at P (bb ρ) f T0 [v ρ] 0 (vs ρ).toArray w hs'.blk_get (by simpa using hfit) hone'
  simp only [Nat.add_zero, List.length_cons, List.length_nil, Nat.zero_add] at this
  simp [Instr.storeAt, Instr.sureAddr, storeVar, hsz, hc, bp, this]
 rw [e, Oper.upon_skip]
 refine hK (ρ i) _ ?_
 have hnew := hs'.blk_set (By (us := (vs ρ).take f ++ [v ρ] ++ (vs ρ).drop (f + 1)) hs'.blk_get).1 (By hs'.blk_get).2 rfl rfl
 exact hnew.perm (p2.symm.append_right L')
theorem e_pd {op : Oper} {d : Nat} {v : Rho → Value} (hp : ∀ ρ S R' L' w, Deps ops R0 its i ρ R' → St (Sh ρ S ++ L') R' w → As P n (Db its al0 ρ) (Sh ρ S) R0 op (v ρ)) (hi : Ind ops i v) (hSh : Ij ops Sh i)
  (k : DJ P n ops Q Sh R0 al0 (i + 1) rest (⟨i, some d, v, fun _ => [], fun _ => []⟩ :: its)) (hg : op.guard = none := by exact rfl) (hd : op.dst = some d := by exact rfl) : DJ P n ops Q Sh R0 al0 i (op :: rest) its := by
 refine dj ⟨⟨i, some d, v, fun _ => [], fun _ => []⟩, rfl, hd.symm, hi, Ind.const _, Ind.const _, ?_, k⟩
 intro ρ S a L' R' w K hS hbef haft hag hdep hbase hst hK
 have hp0 := hp ρ S R' L' w ⟨hbase, hdep⟩ hst
 rw [if_pos (by simp [Region.wanted, hg])]
 left
 unfold Oper.wp
 have h : Now ops n Sh R0 al0 i its op ρ S a L' R' w := ⟨hS, hag, hdep, hbase, hst⟩
 rw [hp0.2 _ w (fun x hx u hu => Bq h.agree hx hu) (h.st.fewer h.base), Oper.upon_value]
 have hsh := hSh ρ (ρ i) S hS haft
 rw [Rho.set_same] at hsh
 have := hK (ρ i) w
 rw [Rho.set_same] at this
 exact this (by rw [hsh]; exact hst)
theorem A6 {α : Type} [Enc α] {L L' : List Chunk} {R : List Fact} {w : World} {T : TypeId} {v : Value} {xs : List α} (hp : Pick L (row T v xs) L') (hs : St L R w) : v.oneCell' = true := isSlice.one (St.fact (List.Mem.head _) (hs.pick hp).shut)
theorem C9 {α : Type} [Enc α] {f k sz : Nat} {hv : Value} {xs : List α} {vs : Rho → List Value} {v : Rho → Value} {T0 : TypeId} (hes : Enc.sz α = sz) (hsz : ∀ w, (sizeOf T).run P w = .ok 1 w) (hx : ∀ ρ, ev n (Db its al0 ρ) x = some (ep hv sz k f)) (hy : ∀ ρ, ev n (Db its al0 ρ) y = some (v ρ))
  (h1 : ∀ ρ S R' w L', (∀ j, Bef ops j i → S j = true) → Deps ops R0 its i ρ R' → St (Sh ρ S ++ L') R' w → (v ρ).oneCell' = true) (hf : ∀ ρ, Nat.ble (f + 1) (vs ρ).length = true)
  (hSh : ∀ ρ g S, S i = false → (∀ j, Bef ops j i → S j = true) → (∀ j, Bef ops i j → S j = false) → ∃ L1, (Sh ρ S).Perm (foc T0 hv xs k (vs ρ) :: L1) ∧ (Sh (Rho.set ρ i g) (upS S i)).Perm (foc T0 hv xs k ((vs ρ).take f ++ [v ρ] ++ (vs ρ).drop (f + 1)) :: L1))
  (kk : DJ P n ops Q Sh R0 al0 (i + 1) rest (⟨i, none, fun _ => undef, fun _ => [], fun _ => []⟩ :: its)) : DJ P n ops Q Sh R0 al0 i (⟨none, .store T x y, ty, pos, aft, none⟩ :: rest) its := by
 refine dj ⟨⟨i, none, fun _ => undef, fun _ => [], fun _ => []⟩, rfl, rfl, Ind.const _, Ind.const _, Ind.const _, ?_, kk⟩
 intro ρ S a L' R' w K hS hbef haft hag hdep hbase hst hK
 rw [if_pos (by simp [Region.wanted])]
 left
 unfold Oper.wp
 obtain ⟨L1, p1, p2⟩ := hSh ρ (ρ i) S hS hbef haft
 have hs' : St (foc T0 hv xs k (vs ρ) :: (L1 ++ L')) R' w := hst.perm (p1.append_right L')
 have hone := h1 ρ S R' w _ hbef ⟨hbase, hdep⟩ hst
 have hone' : ∀ u ∈ [v ρ], u.oneCell' = true := by intro u hu; cases List.mem_singleton.1 hu; exact hone
 have hfit : f + [v ρ].length ≤ (vs ρ).length := Nat.le_of_ble_eq_true (hf ρ)
 have hc := Kp hone
 subst hes
 obtain ⟨g, cap, cur, hv', hg, hfit', hst'⟩ := Nf hs' hone' hfit
 have e : (execOp a.eval ⟨none, .store T x y, ty, pos, aft, none⟩).run P w = .ok .skip (w.setRow g (cur.toList.take (k * Enc.sz α + f) ++ [v ρ] ++ cur.toList.drop (k * Enc.sz α + f + [v ρ].length)).toArray) := by
  refine El ?_
  rw [Bq hag (by simp [Op.operands]) (hx ρ), Bq hag (by simp [Op.operands]) (hy ρ), hv', K0, Ge]
  have := run_storeCells_at P g (k * Enc.sz α + f) T0 [v ρ] 0 cur w hg (by simpa using hfit') hone'
  simp only [Nat.add_zero, List.length_cons, List.length_nil, Nat.zero_add] at this ⊢
  simp [Instr.storeAt, Instr.sureAddr, storeVar, hsz, hc, this]
 rw [e, Oper.upon_skip]
 refine hK (ρ i) _ ?_
 exact hst'.perm (p2.symm.append_right L')
theorem Ec {α : Type} [Enc α] {t e : TypeId} {d sz bytes : Nat} {z : Value} {xs ys : List α} {v : Value} {u : Rho → Value} (he : ElemOf P t e sz z bytes) (hx : ∀ ρ, ev n (Db its al0 ρ) x = some v) (hy : ∀ ρ, ev n (Db its al0 ρ) y = some (u ρ)) (hsz : Enc.sz α = sz) (hpos : 0 < sz)
  (hm : ∀ ρ R', Deps ops R0 its i ρ R' → sl (u ρ) ys ∈ R') (hb : xs.length + ys.length ≤ maxN)
  (hSh : ∀ ρ (g : Value) S, S i = false → (∀ j, Bef ops j i → S j = true) → (∀ j, Bef ops i j → S j = false) → ∃ L1, (Sh ρ S).Perm (row e v xs :: L1) ∧ (Sh (Rho.set ρ i (Gh.enc g)) (upS S i)).Perm (row e g (xs ++ ys) :: L1))
  (k : DJ P n ops Q Sh R0 al0 (i + 1) rest (⟨i, some d, fun ρ => (Gh.dec (ρ i) : Value), fun _ => [], fun _ => []⟩ :: its)) :
  DJ P n ops Q Sh R0 al0 i (⟨some d, .call { callee := .builtin .append, args := #[x, y], argTypes := #[t, t] }, ty, pos, aft, none⟩ :: rest) its := by
 refine dj ⟨⟨i, some d, fun ρ => (Gh.dec (ρ i) : Value), fun _ => [], fun _ => []⟩, rfl, rfl, Ind.self (h := fun g => (Gh.dec g : Value)), Ind.const _, Ind.const _, ?_, k⟩
 intro ρ S a L' R' w K hS hbef haft hag hdep hbase hst hK
 rw [if_pos (by simp [Region.wanted])]
 left
 unfold Oper.wp
 obtain ⟨L1, p1, _⟩ := hSh ρ undef S hS hbef haft
 have hs' : St (row e v xs :: (L1 ++ L')) R' w := hst.perm (p1.append_right L')
 obtain ⟨v', w', h1, h2⟩ := I8 (ty := ty) he hsz hpos hs' (hm ρ R' ⟨hbase, hdep⟩) hb
 have hx' := Bq hag (by simp [Op.operands, Call.operands]) (hx ρ)
 have hy' := Bq hag (by simp [Op.operands, Call.operands]) (hy ρ)
 rw [E6 (w' := w') (v := v') (by rw [hx', hy']; exact h1), Oper.upon_value]
 obtain ⟨L2, q1, q2⟩ := hSh ρ v' S hS hbef haft
 have e2 : (Rho.set ρ i (Gh.enc v')) i = Gh.enc v' := by simp [Rho.set]
 have h3 := h2
 have hL : L1.Perm L2 := (List.perm_cons _).1 (p1.symm.trans q1)
 have := hK (Gh.enc v') w' ((h3.perm ((hL.append_right L').cons _)).perm (by
  refine List.Perm.trans ?_ (q2.symm.append_right L')
  exact List.Perm.refl _))
 simp only [e2, Gh.ok] at this
 exact this
end
set_option maxHeartbeats 1000000
set_option maxRecDepth 8000
class CFo (T f : Nat) (off : outParam Nat) : Prop where
 h : Ap Try.prog T f off
class CAg (T : Nat) : Prop where
 h : ∀ w, (isAgg T).run Try.prog w = .ok true w
class CNa (T : Nat) : Prop where
 h : ∀ w, (isAgg T).run Try.prog w = .ok false w
class CSz (T : Nat) (sz : outParam Nat) : Prop where
 h : ∀ w, (sizeOf T).run Try.prog w = .ok sz w
class CSo (T : Nat) (e sz : outParam Nat) : Prop where
 h : Cn Try.prog T e sz
class CUs (T : Nat) (e : outParam Nat) : Prop where
 h : Try.prog.underlying T = some (.slice e)
class CSt (T : Nat) (zc : outParam (List Value)) (pl : outParam (List (Nat × Nat))) : Prop where
 h : Cj Try.prog T zc pl
instance : CNa 3 := ⟨Try.isAgg3⟩
instance : CSz 3 1 := ⟨Try.sizeOf3⟩
instance : CNa 4 := ⟨Try.isAgg4⟩
instance : CSz 4 1 := ⟨Try.sizeOf4⟩
instance : CNa 5 := ⟨Try.isAgg5⟩
instance : CFo 23 0 0 := ⟨Aaz⟩
instance : CFo 23 1 1 := ⟨Aay⟩
instance : CSt 23 (Try.t23.zero.getD undef).cells.toList [(0, 1), (1, 1)] := ⟨st_23⟩
instance : CAg 23 := ⟨Try.isAgg23⟩
instance : CSz 23 2 := ⟨Try.sizeOf23⟩
instance : CSo 24 33 3 := ⟨so_24⟩
instance : CUs 24 33 := ⟨Try.underlying24⟩
instance : CNa 26 := ⟨Try.isAgg26⟩
instance : CSz 26 1 := ⟨Try.sizeOf26⟩
instance : CFo 28 0 0 := ⟨Aax⟩
instance : CFo 28 1 1 := ⟨Aaw⟩
instance : CFo 28 2 2 := ⟨Aav⟩
instance : CSt 28 (Try.t28.zero.getD undef).cells.toList [(0, 1), (1, 1), (2, 1)] := ⟨So⟩
instance : CAg 28 := ⟨Try.isAgg28⟩
instance : CSz 28 3 := ⟨Try.sizeOf28⟩
instance : CFo 33 0 0 := ⟨Aau⟩
instance : CFo 33 1 1 := ⟨Aat⟩
instance : CFo 33 2 2 := ⟨Aas⟩
instance : CSt 33 (Try.t33.zero.getD undef).cells.toList [(0, 1), (1, 1), (2, 1)] := ⟨Sn⟩
instance : CAg 33 := ⟨Try.isAgg33⟩
instance : CSz 33 3 := ⟨Try.sizeOf33⟩
instance : CNa 34 := ⟨Try.isAgg34⟩
instance : CSz 34 1 := ⟨Try.sizeOf34⟩
instance : CSo 34 57 4 := ⟨Yv⟩
instance : CUs 34 57 := ⟨Try.underlying34⟩
instance : CNa 35 := ⟨Try.isAgg35⟩
instance : CSz 35 1 := ⟨Try.sizeOf35⟩
instance : CSo 35 54 10 := ⟨Mp⟩
instance : CUs 35 54 := ⟨Try.underlying35⟩
instance : CNa 36 := ⟨Try.isAgg36⟩
instance : CSz 36 1 := ⟨Try.sizeOf36⟩
instance : CSo 36 60 1 := ⟨Mo⟩
instance : CUs 36 60 := ⟨Try.underlying36⟩
instance : CFo 38 0 0 := ⟨Aar⟩
instance : CFo 38 1 1 := ⟨Aaq⟩
instance : CFo 38 2 2 := ⟨Aap⟩
instance : CSt 38 (Try.t38.zero.getD undef).cells.toList [(0, 1), (1, 1), (2, 1)] := ⟨G9⟩
instance : CAg 38 := ⟨Try.isAgg38⟩
instance : CSz 38 3 := ⟨Try.sizeOf38⟩
instance : CSo 41 47 7 := ⟨so_41⟩
instance : CUs 41 47 := ⟨Try.underlying41⟩
instance : CSo 45 38 3 := ⟨so_45⟩
instance : CUs 45 38 := ⟨Try.underlying45⟩
instance : CFo 47 0 0 := ⟨Aao⟩
instance : CFo 47 1 1 := ⟨Aan⟩
instance : CFo 47 2 2 := ⟨Aam⟩
instance : CFo 47 3 3 := ⟨Aal⟩
instance : CFo 47 4 4 := ⟨Aak⟩
instance : CSt 47 (Try.t47.zero.getD undef).cells.toList [(0, 1), (1, 1), (2, 1), (3, 1), (4, 3)] := ⟨st_47⟩
instance : CAg 47 := ⟨Try.isAgg47⟩
instance : CSz 47 7 := ⟨Try.sizeOf47⟩
instance : CNa 48 := ⟨Try.isAgg48⟩
instance : CNa 52 := ⟨Try.isAgg52⟩
instance : CSz 52 1 := ⟨Try.sizeOf52⟩
instance : CSo 52 3 1 := ⟨Yu⟩
instance : CUs 52 3 := ⟨Try.underlying52⟩
instance : CFo 54 0 0 := ⟨Aaj⟩
instance : CFo 54 1 1 := ⟨Aai⟩
instance : CFo 54 2 2 := ⟨Aah⟩
instance : CFo 54 3 3 := ⟨Aag⟩
instance : CFo 54 4 4 := ⟨Aaf⟩
instance : CFo 54 5 5 := ⟨Aae⟩
instance : CFo 54 6 6 := ⟨Aad⟩
instance : CFo 54 7 7 := ⟨Ki⟩
instance : CFo 54 8 8 := ⟨Aac⟩
instance : CFo 54 9 9 := ⟨Aab⟩
instance : CSt 54 (Try.t54.zero.getD undef).cells.toList [(0, 1), (1, 1), (2, 1), (3, 1), (4, 1), (5, 1), (6, 1), (7, 1), (8, 1), (9, 1)] := ⟨st_54⟩
instance : CAg 54 := ⟨Try.isAgg54⟩
instance : CSz 54 10 := ⟨Try.sizeOf54⟩
instance : CNa 55 := ⟨Try.isAgg55⟩
instance : CSo 55 67 7 := ⟨Kz⟩
instance : CUs 55 67 := ⟨Try.underlying55⟩
instance : CFo 57 0 0 := ⟨Aaa⟩
instance : CFo 57 1 1 := ⟨Z9⟩
instance : CSt 57 (Try.t57.zero.getD undef).cells.toList [(0, 1), (1, 3)] := ⟨J0⟩
instance : CAg 57 := ⟨Try.isAgg57⟩
instance : CSz 57 4 := ⟨Try.sizeOf57⟩
instance : CNa 59 := ⟨Try.isAgg59⟩
instance : CSz 59 1 := ⟨Try.sizeOf59⟩
instance : CNa 60 := ⟨Try.isAgg60⟩
instance : CUs 60 5 := ⟨Try.underlying60⟩
instance : CFo 62 0 0 := ⟨Z8⟩
instance : CFo 62 1 1 := ⟨Z7⟩
instance : CFo 64 0 0 := ⟨Z6⟩
instance : CFo 67 0 0 := ⟨Z5⟩
instance : CFo 67 1 1 := ⟨Z4⟩
instance : CFo 67 2 2 := ⟨Z3⟩
instance : CFo 67 3 3 := ⟨Z2⟩
instance : CFo 67 4 4 := ⟨Z1⟩
instance : CFo 67 5 5 := ⟨Z0⟩
instance : CFo 67 6 6 := ⟨Zz⟩
instance : CAg 67 := ⟨Try.isAgg67⟩
instance : CSz 67 7 := ⟨Try.sizeOf67⟩
instance : CNa 78 := ⟨Try.isAgg78⟩
instance : CSo 78 105 8 := ⟨so_78⟩
instance : CUs 78 105 := ⟨Try.underlying78⟩
instance : CFo 98 0 0 := ⟨Zy⟩
instance : CFo 98 1 4 := ⟨Zx⟩
instance : CFo 98 2 5 := ⟨Zw⟩
instance : CFo 98 3 6 := ⟨Zv⟩
instance : CFo 98 4 7 := ⟨Zu⟩
instance : CSt 98 (Try.t98.zero.getD undef).cells.toList [(0, 4), (4, 1), (5, 1), (6, 1), (7, 1)] := ⟨st_98⟩
instance : CSt 102 (Try.t102.zero.getD undef).cells.toList [(0, 1), (1, 3), (4, 1)] := ⟨Er⟩
instance : CFo 105 0 0 := ⟨W3⟩
instance : CFo 105 1 1 := ⟨W2⟩
instance : CFo 105 2 2 := ⟨W1⟩
instance : CFo 105 3 3 := ⟨W0⟩
instance : CFo 105 4 4 := ⟨Wz⟩
instance : CFo 105 5 5 := ⟨Wy⟩
instance : CFo 105 6 6 := ⟨Wx⟩
instance : CFo 105 7 7 := ⟨Ww⟩
instance : CAg 105 := ⟨Try.isAgg105⟩
instance : CSz 105 8 := ⟨Try.sizeOf105⟩
instance : CNa 133 := ⟨Try.isAgg133⟩
instance : CFo 136 0 0 := ⟨Wv⟩
instance : CFo 136 1 1 := ⟨Wu⟩
instance : CFo 136 2 2 := ⟨Wt⟩
instance : CFo 136 3 3 := ⟨Ws⟩
instance : CSt 136 (Try.t136.zero.getD undef).cells.toList [(0, 1), (1, 1), (2, 1), (3, 1)] := ⟨st_136⟩
section
variable {n : Nat} {Q : Exit → Act → World → Prop} {ops : Array Oper} {rest : List Oper} {L : List Chunk} {R : List Fact} {al al' : List (Nat × Value)} {d k : Nat} {x y z : Operand} {T ty U : TypeId} {pos : String} {aft : Array Edge} {v : Value} {l l' : List Oper}
theorem kmv (h : As Try.prog n al L R ⟨some d, .move x, ty, pos, aft, none⟩ v) : As Try.prog n al L R ⟨some d, .move x, ty, pos, aft, none⟩ v := h
theorem kas (h : As Try.prog n al L R ⟨some d, .assign x, ty, pos, aft, none⟩ v) : As Try.prog n al L R ⟨some d, .assign x, ty, pos, aft, none⟩ v := h
theorem kfa {i : Nat} (h : As Try.prog n al L R ⟨some d, .fieldAddr T x i, ty, pos, aft, none⟩ v) : As Try.prog n al L R ⟨some d, .fieldAddr T x i, ty, pos, aft, none⟩ v := h
theorem kld (h : As Try.prog n al L R ⟨some d, .load T x, ty, pos, aft, none⟩ v) : As Try.prog n al L R ⟨some d, .load T x, ty, pos, aft, none⟩ v := h
theorem knc (h : As Try.prog n al L R ⟨some d, .nilCheck x, ty, pos, aft, none⟩ v) : As Try.prog n al L R ⟨some d, .nilCheck x, ty, pos, aft, none⟩ v := h
theorem kpk (h : As Try.prog n al L R ⟨some d, .pick x y z, ty, pos, aft, none⟩ v) : As Try.prog n al L R ⟨some d, .pick x y z, ty, pos, aft, none⟩ v := h
theorem kix (h : As Try.prog n al L R ⟨some d, .indexAddr T x y, ty, pos, aft, none⟩ v) : As Try.prog n al L R ⟨some d, .indexAddr T x y, ty, pos, aft, none⟩ v := h
theorem kxt {i : Nat} (h : As Try.prog n al L R ⟨some d, .extract x i, ty, pos, aft, none⟩ v) : As Try.prog n al L R ⟨some d, .extract x i, ty, pos, aft, none⟩ v := h
theorem kun (h : As Try.prog n al L R ⟨some d, .unOp .not T x, ty, pos, aft, none⟩ v) : As Try.prog n al L R ⟨some d, .unOp .not T x, ty, pos, aft, none⟩ v := h
theorem kle (h : As Try.prog n al L R ⟨some d, .call { callee := .builtin .len, args := #[x], argTypes := #[T] }, ty, pos, aft, none⟩ v) : As Try.prog n al L R ⟨some d, .call { callee := .builtin .len, args := #[x], argTypes := #[T] }, ty, pos, aft, none⟩ v := h
theorem kbd {ps : Array (Nat × Operand)} (h : As Try.prog n al L R ⟨some d, .build T ps, ty, pos, aft, none⟩ v) : As Try.prog n al L R ⟨some d, .build T ps, ty, pos, aft, none⟩ v := h
theorem kbe (h : As Try.prog n al L R ⟨some d, .binOp .eql T x y U, ty, pos, aft, none⟩ v) : As Try.prog n al L R ⟨some d, .binOp .eql T x y U, ty, pos, aft, none⟩ v := h
theorem kbn (h : As Try.prog n al L R ⟨some d, .binOp .neq T x y U, ty, pos, aft, none⟩ v) : As Try.prog n al L R ⟨some d, .binOp .neq T x y U, ty, pos, aft, none⟩ v := h
theorem kbl (h : As Try.prog n al L R ⟨some d, .binOp .lss T x y U, ty, pos, aft, none⟩ v) : As Try.prog n al L R ⟨some d, .binOp .lss T x y U, ty, pos, aft, none⟩ v := h
theorem kbg (h : As Try.prog n al L R ⟨some d, .binOp .gtr T x y U, ty, pos, aft, none⟩ v) : As Try.prog n al L R ⟨some d, .binOp .gtr T x y U, ty, pos, aft, none⟩ v := h
theorem kbh (h : As Try.prog n al L R ⟨some d, .binOp .geq T x y U, ty, pos, aft, none⟩ v) : As Try.prog n al L R ⟨some d, .binOp .geq T x y U, ty, pos, aft, none⟩ v := h
theorem kba (h : As Try.prog n al L R ⟨some d, .binOp .add T x y U, ty, pos, aft, none⟩ v) : As Try.prog n al L R ⟨some d, .binOp .add T x y U, ty, pos, aft, none⟩ v := h
theorem kbs (h : As Try.prog n al L R ⟨some d, .binOp .sub T x y U, ty, pos, aft, none⟩ v) : As Try.prog n al L R ⟨some d, .binOp .sub T x y U, ty, pos, aft, none⟩ v := h
structure Run (n : Nat) (ops : Array Oper) (Q : Exit → Act → World → Prop) (L : List Chunk) (R : List Fact) (k : Nat) (l : List Oper) (al : List (Nat × Value)) (l' : List Oper) (al' : List (Nat × Value)) : Prop where
 go : J Try.prog n ops Q l' L R al' → J Try.prog n ops Q l L R al
theorem R0 : Run n ops Q L R 0 l al l al := ⟨fun h => h⟩
theorem Rc {op : Oper} (hp : As Try.prog n al L R op v) (hd : op.dst = some d) (h : Run n ops Q L R k rest ((d, v) :: al) l' al') : Run n ops Q L R (k + 1) (op :: rest) al l' al' := ⟨fun kk => ob hp (h.go kk) hd⟩
theorem Rgy {dst : Option Tmp} {op : Go.Op} {i : Nat} {b : Bool} {m : List Oper} (hv : gv n al m i = some b) (h : Run n m.toArray Q L R (k + 1) (⟨dst, op, ty, pos, aft, none⟩ :: rest) al l' al') : Run n m.toArray Q L R (k + 1) (⟨dst, op, ty, pos, aft, some (i, b)⟩ :: rest) al l' al' := ⟨fun kk => J.guardYes hv (h.go kk)⟩
theorem Rgn {op : Go.Op} {i : Nat} {b : Bool} {m : List Oper} (hv : gv n al m i = some (!b)) (h : Run n m.toArray Q L R k rest ((d, undef) :: al) l' al') : Run n m.toArray Q L R (k + 1) (⟨some d, op, ty, pos, aft, some (i, b)⟩ :: rest) al l' al' := ⟨fun kk => J.guardNo hv (h.go kk)⟩
theorem RgU {op : Go.Op} {i : Nat} {b : Bool} {m : List Oper} (hv : gu n al m i = true) (h : Run n m.toArray Q L R k rest ((d, undef) :: al) l' al') : Run n m.toArray Q L R (k + 1) (⟨some d, op, ty, pos, aft, some (i, b)⟩ :: rest) al l' al' := ⟨fun kk => J.guardUndef hv (h.go kk)⟩
theorem mr (h : Run n ops Q L R k l al l' al' := by repeat (first | exact R0 | (apply Rc; (focus (first | (apply kmv; exact N3) | (apply kas; exact Ch) | (apply kfa; first | exact q_fa CFo.h | exact q_fe CFo.h) | (apply kld; first | exact Dm CNa.h | exact Y6 CAg.h CSz.h | exact Ev _ CAg.h CSz.h | exact q_lNc _ CAg.h CSz.h | exact q_lNf _ CAg.h CSz.h) | (apply knc; first | exact q_nb | exact q_ne) | (apply kpk; first | exact D8 | exact Ya) | (apply kix; first | exact Ik CSo.h | exact It CSo.h) | (apply kxt; exact q_x) | (apply kun; first | exact q_notD | exact Qv) | (apply kle; exact My CUs.h) | (apply kbd; first | exact D5 CSt.h | exact Eh CSt.h) | (apply kbe; exact Ei Sc) | (apply kbn; exact Ei Sa) | (apply kbl; exact Ei Mb) | (apply kbm; exact Ei Sb) | (apply kbg; exact Ei O9) | (apply kbh; exact Ei Pa) | (apply kba; first | exact q_addN | exact Qw) | (apply kbs; exact Vw) | (apply kbu; exact q_mul))); (focus exact rfl)) | (apply Rgy; (focus exact rfl)) | (apply Rgn; (focus exact rfl)) | (apply RgU; (focus exact rfl)))) : Run n ops Q L R k l al l' al' := h
theorem rn1 (kk : J Try.prog n ops Q l' L R al') (h : Run n ops Q L R 1 l al l' al' := by exact mr) : J Try.prog n ops Q l L R al := h.go kk
theorem rn2 (kk : J Try.prog n ops Q l' L R al') (h : Run n ops Q L R 2 l al l' al' := by exact mr) : J Try.prog n ops Q l L R al := h.go kk
theorem rn3 (kk : J Try.prog n ops Q l' L R al') (h : Run n ops Q L R 3 l al l' al' := by exact mr) : J Try.prog n ops Q l L R al := h.go kk
theorem rn4 (kk : J Try.prog n ops Q l' L R al') (h : Run n ops Q L R 4 l al l' al' := by exact mr) : J Try.prog n ops Q l L R al := h.go kk
theorem rn5 (kk : J Try.prog n ops Q l' L R al') (h : Run n ops Q L R 5 l al l' al' := by exact mr) : J Try.prog n ops Q l L R al := h.go kk
theorem rn6 (kk : J Try.prog n ops Q l' L R al') (h : Run n ops Q L R 6 l al l' al' := by exact mr) : J Try.prog n ops Q l L R al := h.go kk
theorem rn7 (kk : J Try.prog n ops Q l' L R al') (h : Run n ops Q L R 7 l al l' al' := by exact mr) : J Try.prog n ops Q l L R al := h.go kk
theorem rn8 (kk : J Try.prog n ops Q l' L R al') (h : Run n ops Q L R 8 l al l' al' := by exact mr) : J Try.prog n ops Q l L R al := h.go kk
theorem rn9 (kk : J Try.prog n ops Q l' L R al') (h : Run n ops Q L R 9 l al l' al' := by exact mr) : J Try.prog n ops Q l L R al := h.go kk
theorem rn10 (kk : J Try.prog n ops Q l' L R al') (h : Run n ops Q L R 10 l al l' al' := by exact mr) : J Try.prog n ops Q l L R al := h.go kk
theorem rn12 (kk : J Try.prog n ops Q l' L R al') (h : Run n ops Q L R 12 l al l' al' := by exact mr) : J Try.prog n ops Q l L R al := h.go kk
theorem rn13 (kk : J Try.prog n ops Q l' L R al') (h : Run n ops Q L R 13 l al l' al' := by exact mr) : J Try.prog n ops Q l L R al := h.go kk
theorem rn15 (kk : J Try.prog n ops Q l' L R al') (h : Run n ops Q L R 15 l al l' al' := by exact mr) : J Try.prog n ops Q l L R al := h.go kk
theorem rn32 (kk : J Try.prog n ops Q l' L R al') (h : Run n ops Q L R 32 l al l' al' := by exact mr) : J Try.prog n ops Q l L R al := h.go kk
variable {Sh : Rho → (Nat → Bool) → List Chunk} {R0' : List Fact} {al0 : List (Nat × Value)} {its its' : List Item} {i i' : Nat}
structure DRun (n : Nat) (ops : Array Oper) (Q : Exit → Act → World → Prop) (Sh : Rho → (Nat → Bool) → List Chunk) (R0 : List Fact) (al0 : List (Nat × Value)) (k i : Nat) (l : List Oper) (its : List Item) (i' : Nat) (l' : List Oper) (its' : List Item) : Prop where
 go : DJ Try.prog n ops Q Sh R0 al0 i' l' its' → DJ Try.prog n ops Q Sh R0 al0 i l its
theorem D0 : DRun n ops Q Sh R0' al0 0 i l its i l its := ⟨fun h => h⟩
theorem Dc {op : Oper} (hp : ∀ ρ S, As Try.prog n (Db its al0 ρ) (Sh ρ S) R0' op v) (hSh : Ij ops Sh i) (hd : op.dst = some d) (h : DRun n ops Q Sh R0' al0 k (i + 1) rest (⟨i, some d, fun _ => v, fun _ => [], fun _ => []⟩ :: its) i' l' its') : DRun n ops Q Sh R0' al0 (k + 1) i (op :: rest) its i' l' its' := ⟨fun kk => Jn hp hSh (h.go kk) hd⟩
theorem Dp {op : Oper} {v : Rho → Value} (hp : ∀ ρ S, As Try.prog n (Db its al0 ρ) (Sh ρ S) R0' op (v ρ)) (hi : Ind ops i v) (hSh : Ij ops Sh i) (hd : op.dst = some d) (h : DRun n ops Q Sh R0' al0 k (i + 1) rest (⟨i, some d, v, fun _ => [], fun _ => []⟩ :: its) i' l' its') : DRun n ops Q Sh R0' al0 (k + 1) i (op :: rest) its i' l' its' := ⟨fun kk => e_p hp hi hSh (h.go kk) hd⟩
theorem Dgc {op : Go.Op} {q : Nat} {b : Bool} {m : List Oper} (hv : ∀ ρ, gv n (Db its al0 ρ) m q = some b) (hp : ∀ ρ S, As Try.prog n (Db its al0 ρ) (Sh ρ S) R0' ⟨some d, op, ty, pos, aft, none⟩ v) (hSh : ∀ ρ g S, S i = false → Sh (Rho.set ρ i g) (upS S i) = Sh ρ S) (h : DRun n m.toArray Q Sh R0' al0 k (i + 1) rest (⟨i, some d, fun _ => v, fun _ => [], fun _ => []⟩ :: its) i' l' its') : DRun n m.toArray Q Sh R0' al0 (k + 1) i (⟨some d, op, ty, pos, aft, some (q, b)⟩ :: rest) its i' l' its' := ⟨fun kk => dj (dgy (dc hp (h.go kk) rfl hSh) hv)⟩
theorem Dgn {op : Go.Op} {q : Nat} {b : Bool} {m : List Oper} (hv : ∀ ρ, gv n (Db its al0 ρ) m q = some (!b)) (hSh : ∀ ρ g S, S i = false → Sh (Rho.set ρ i g) (upS S i) = Sh ρ S) (h : DRun n m.toArray Q Sh R0' al0 k (i + 1) rest (⟨i, some d, fun _ => undef, fun _ => [], fun _ => []⟩ :: its) i' l' its') : DRun n m.toArray Q Sh R0' al0 (k + 1) i (⟨some d, op, ty, pos, aft, some (q, b)⟩ :: rest) its i' l' its' := ⟨fun kk => dj (dgn (h.go kk) hv hSh)⟩
theorem Dgu {op : Go.Op} {q : Nat} {b : Bool} {m : List Oper} (hv : ∀ ρ, gu n (Db its al0 ρ) m q = true) (hSh : ∀ ρ g S, S i = false → Sh (Rho.set ρ i g) (upS S i) = Sh ρ S) (h : DRun n m.toArray Q Sh R0' al0 k (i + 1) rest (⟨i, some d, fun _ => undef, fun _ => [], fun _ => []⟩ :: its) i' l' its') : DRun n m.toArray Q Sh R0' al0 (k + 1) i (⟨some d, op, ty, pos, aft, some (q, b)⟩ :: rest) its i' l' its' := ⟨fun kk => dj (dgu (h.go kk) hv hSh)⟩
theorem mdr (h : DRun n ops Q Sh R0' al0 k i l its i' l' its' := by repeat (first | exact D0 | (apply Dc; (focus (intro _ _; first | (apply kmv; exact N3) | (apply kas; exact Ch) | (apply kfa; first | exact q_fa CFo.h | exact q_fe CFo.h) | (apply kld; first | exact Dm CNa.h | exact Y6 CAg.h CSz.h | exact Ev _ CAg.h CSz.h | exact q_lNc _ CAg.h CSz.h | exact q_lNf _ CAg.h CSz.h) | (apply knc; first | exact q_nb | exact q_ne) | (apply kpk; first | exact D8 | exact Ya) | (apply kix; first | exact Ik CSo.h | exact It CSo.h) | (apply kxt; exact q_x) | (apply kun; first | exact q_notD | exact Qv) | (apply kle; exact My CUs.h) | (apply kbd; first | exact D5 CSt.h | exact Eh CSt.h) | (apply kbe; exact Ei Sc) | (apply kbn; exact Ei Sa) | (apply kbl; exact Ei Mb) | (apply kbm; exact Ei Sb) | (apply kbg; exact Ei O9) | (apply kbh; exact Ei Pa) | (apply kba; first | exact q_addN | exact Qw) | (apply kbs; exact Vw) | (apply kbu; exact q_mul))); (focus exact (fun _ _ _ _ _ => rfl)); (focus exact rfl)) | (apply Dgc; (focus exact (fun _ => rfl)); (focus (intro _ _; first | (apply kmv; exact N3) | (apply kas; exact Ch) | (apply kfa; first | exact q_fa CFo.h | exact q_fe CFo.h) | (apply kld; first | exact Dm CNa.h | exact Y6 CAg.h CSz.h | exact Ev _ CAg.h CSz.h | exact q_lNc _ CAg.h CSz.h | exact q_lNf _ CAg.h CSz.h) | (apply knc; first | exact q_nb | exact q_ne) | (apply kpk; first | exact D8 | exact Ya) | (apply kix; first | exact Ik CSo.h | exact It CSo.h) | (apply kxt; exact q_x) | (apply kun; first | exact q_notD | exact Qv) | (apply kle; exact My CUs.h) | (apply kbd; first | exact D5 CSt.h | exact Eh CSt.h) | (apply kbe; exact Ei Sc) | (apply kbn; exact Ei Sa) | (apply kbl; exact Ei Mb) | (apply kbm; exact Ei Sb) | (apply kbg; exact Ei O9) | (apply kbh; exact Ei Pa) | (apply kba; first | exact q_addN | exact Qw) | (apply kbs; exact Vw) | (apply kbu; exact q_mul))); (focus exact (fun _ _ _ _ => rfl))) | (apply Dgn; (focus exact (fun _ => rfl)); (focus exact (fun _ _ _ _ => rfl))) | (apply Dgu; (focus exact (fun _ => rfl)); (focus exact (fun _ _ _ _ => rfl))) | (apply Dp; (focus (intro _ _; first | (apply kmv; exact N3) | (apply kas; exact Ch) | (apply kfa; first | exact q_fa CFo.h | exact q_fe CFo.h) | (apply kld; first | exact Dm CNa.h | exact Y6 CAg.h CSz.h | exact Ev _ CAg.h CSz.h | exact q_lNc _ CAg.h CSz.h | exact q_lNf _ CAg.h CSz.h) | (apply knc; first | exact q_nb | exact q_ne) | (apply kpk; first | exact D8 | exact Ya) | (apply kix; first | exact Ik CSo.h | exact It CSo.h) | (apply kxt; exact q_x) | (apply kun; first | exact q_notD | exact Qv) | (apply kle; exact My CUs.h) | (apply kbd; first | exact D5 CSt.h | exact Eh CSt.h) | (apply kbe; exact Ei Sc) | (apply kbn; exact Ei Sa) | (apply kbl; exact Ei Mb) | (apply kbm; exact Ei Sb) | (apply kbg; exact Ei O9) | (apply kbh; exact Ei Pa) | (apply kba; first | exact q_addN | exact Qw) | (apply kbs; exact Vw) | (apply kbu; exact q_mul))); (focus exact (fun _ _ _ _ _ => rfl)); (focus exact (fun _ _ _ _ _ => rfl)); (focus exact rfl)))) : DRun n ops Q Sh R0' al0 k i l its i' l' its' := h
theorem dn1 (kk : DJ Try.prog n ops Q Sh R0' al0 i' l' its') (h : DRun n ops Q Sh R0' al0 1 i l its i' l' its' := by exact mdr) : DJ Try.prog n ops Q Sh R0' al0 i l its := h.go kk
theorem dn2 (kk : DJ Try.prog n ops Q Sh R0' al0 i' l' its') (h : DRun n ops Q Sh R0' al0 2 i l its i' l' its' := by exact mdr) : DJ Try.prog n ops Q Sh R0' al0 i l its := h.go kk
theorem dn3 (kk : DJ Try.prog n ops Q Sh R0' al0 i' l' its') (h : DRun n ops Q Sh R0' al0 3 i l its i' l' its' := by exact mdr) : DJ Try.prog n ops Q Sh R0' al0 i l its := h.go kk
theorem dn4 (kk : DJ Try.prog n ops Q Sh R0' al0 i' l' its') (h : DRun n ops Q Sh R0' al0 4 i l its i' l' its' := by exact mdr) : DJ Try.prog n ops Q Sh R0' al0 i l its := h.go kk
theorem dn5 (kk : DJ Try.prog n ops Q Sh R0' al0 i' l' its') (h : DRun n ops Q Sh R0' al0 5 i l its i' l' its' := by exact mdr) : DJ Try.prog n ops Q Sh R0' al0 i l its := h.go kk
theorem dn6 (kk : DJ Try.prog n ops Q Sh R0' al0 i' l' its') (h : DRun n ops Q Sh R0' al0 6 i l its i' l' its' := by exact mdr) : DJ Try.prog n ops Q Sh R0' al0 i l its := h.go kk
theorem dn7 (kk : DJ Try.prog n ops Q Sh R0' al0 i' l' its') (h : DRun n ops Q Sh R0' al0 7 i l its i' l' its' := by exact mdr) : DJ Try.prog n ops Q Sh R0' al0 i l its := h.go kk
theorem dn8 (kk : DJ Try.prog n ops Q Sh R0' al0 i' l' its') (h : DRun n ops Q Sh R0' al0 8 i l its i' l' its' := by exact mdr) : DJ Try.prog n ops Q Sh R0' al0 i l its := h.go kk
theorem dn9 (kk : DJ Try.prog n ops Q Sh R0' al0 i' l' its') (h : DRun n ops Q Sh R0' al0 9 i l its i' l' its' := by exact mdr) : DJ Try.prog n ops Q Sh R0' al0 i l its := h.go kk
theorem dn10 (kk : DJ Try.prog n ops Q Sh R0' al0 i' l' its') (h : DRun n ops Q Sh R0' al0 10 i l its i' l' its' := by exact mdr) : DJ Try.prog n ops Q Sh R0' al0 i l its := h.go kk
theorem Abo (kk : DJ Try.prog n ops Q Sh R0' al0 i' l' its') (h : DRun n ops Q Sh R0' al0 11 i l its i' l' its' := by exact mdr) : DJ Try.prog n ops Q Sh R0' al0 i l its := h.go kk
theorem dn12 (kk : DJ Try.prog n ops Q Sh R0' al0 i' l' its') (h : DRun n ops Q Sh R0' al0 12 i l its i' l' its' := by exact mdr) : DJ Try.prog n ops Q Sh R0' al0 i l its := h.go kk
theorem dn13 (kk : DJ Try.prog n ops Q Sh R0' al0 i' l' its') (h : DRun n ops Q Sh R0' al0 13 i l its i' l' its' := by exact mdr) : DJ Try.prog n ops Q Sh R0' al0 i l its := h.go kk
theorem dn14 (kk : DJ Try.prog n ops Q Sh R0' al0 i' l' its') (h : DRun n ops Q Sh R0' al0 14 i l its i' l' its' := by exact mdr) : DJ Try.prog n ops Q Sh R0' al0 i l its := h.go kk
theorem dn15 (kk : DJ Try.prog n ops Q Sh R0' al0 i' l' its') (h : DRun n ops Q Sh R0' al0 15 i l its i' l' its' := by exact mdr) : DJ Try.prog n ops Q Sh R0' al0 i l its := h.go kk
theorem dn16 (kk : DJ Try.prog n ops Q Sh R0' al0 i' l' its') (h : DRun n ops Q Sh R0' al0 16 i l its i' l' its' := by exact mdr) : DJ Try.prog n ops Q Sh R0' al0 i l its := h.go kk
theorem dn18 (kk : DJ Try.prog n ops Q Sh R0' al0 i' l' its') (h : DRun n ops Q Sh R0' al0 18 i l its i' l' its' := by exact mdr) : DJ Try.prog n ops Q Sh R0' al0 i l its := h.go kk
theorem dn19 (kk : DJ Try.prog n ops Q Sh R0' al0 i' l' its') (h : DRun n ops Q Sh R0' al0 19 i l its i' l' its' := by exact mdr) : DJ Try.prog n ops Q Sh R0' al0 i l its := h.go kk
theorem dn27 (kk : DJ Try.prog n ops Q Sh R0' al0 i' l' its') (h : DRun n ops Q Sh R0' al0 27 i l its i' l' its' := by exact mdr) : DJ Try.prog n ops Q Sh R0' al0 i l its := h.go kk
theorem dn29 (kk : DJ Try.prog n ops Q Sh R0' al0 i' l' its') (h : DRun n ops Q Sh R0' al0 29 i l its i' l' its' := by exact mdr) : DJ Try.prog n ops Q Sh R0' al0 i l its := h.go kk
end
structure Hold (p : Prop) : Prop where
 h : p
theorem sc {p q : Prop} (k : p) (h : Hold p → q := by intro h; (first | refine s_b CSz.h ?_ | refine s_f CSz.h ?_); intro cs hcs; simp only [Nat.zero_add, Nat.add_zero, Nat.reduceAdd, List.set_cons_zero, List.set_cons_succ, Config.cells, Msg.cells, Line.cells, Op.cells, Done.cells, Step.cells, Core.cells, Entry.cells, Chip.cells, El0.cs, El1.cs] at hcs; subst hcs; exact h.h) : q := h ⟨k⟩
theorem bm {n : Nat} {Q : Exit → Act → World → Prop} {id id' : Nat} {L : List Chunk} {R : List Fact} {al : List (Nat × Value)} (h : JX n Q (.exit id') L R al) (hne : Nat.beq id' id = false := by with_unfolding_all exact rfl) : JX n (Exit.inBlock id Q) (.exit id') L R al := Gs hne h
theorem Gl {p q : Prop} (k : p) (h : Hold p → q := by intro h; (repeat (with_reducible first | refine J.nil ?_ | refine A2 ?_ | refine Co ?_ | refine Ff ?_ | refine Jf ?_ | refine D4 ?_ | refine Df ?_ | refine F1 ?_ | refine Gt ?_ | refine Iy ?_ | refine Ej ?_ | refine Ek ?_ | refine bm ?_)); exact h.h) : q := h ⟨k⟩
theorem Glc {p q : Prop} (k : p) (h : Hold p → q := by intro h; (repeat (first | (with_reducible first | refine J.nil ?_ | refine A2 ?_ | refine Co ?_ | refine Ff ?_ | refine Jf ?_ | refine D4 ?_ | refine Df ?_ | refine F1 ?_ | refine Gt ?_ | refine Iy ?_ | refine Ej ?_ | refine Ek ?_ | refine bm ?_) | refine cF_ ?_ | refine cT ?_)); exact h.h) : q := h ⟨k⟩
theorem Gmc {p q : Prop} (k : p) (h : Hold p → q := by intro h; (repeat (first | (with_reducible first | refine J.nil ?_ | refine A2 ?_ | refine Co ?_ | refine Ff ?_ | refine Jf ?_ | refine D4 ?_ | refine Df ?_ | refine F1 ?_ | refine Gt ?_ | refine Iy ?_ | refine Ej ?_ | refine Ek ?_ | refine bm ?_) | refine cF_ ?_ | refine cT ?_)); refine Aa ?_; exact h.h) : q := h ⟨k⟩
theorem Gm {p q : Prop} (k : p) (h : Hold p → q := by intro h; (repeat (with_reducible first | refine J.nil ?_ | refine A2 ?_ | refine Co ?_ | refine Ff ?_ | refine Jf ?_ | refine D4 ?_ | refine Df ?_ | refine F1 ?_ | refine Gt ?_ | refine Iy ?_ | refine Ej ?_ | refine Ek ?_ | refine bm ?_)); refine Aa ?_; exact h.h) : q := h ⟨k⟩
section
variable {n : Nat} {Q : Exit → Act → World → Prop} {ops : Array Oper} {rest : List Oper} {L : List Chunk} {R : List Fact} {al al' : List (Nat × Value)} {d k : Nat} {x y z : Operand} {T ty U : TypeId} {pos : String} {aft : Array Edge} {v : Value} {l l' : List Oper}
variable {p : Prop}
theorem Ga1 (kk : p) (h : Run n ops Q L R 1 l al l' al' := by exact mr) (hg : Hold p → J Try.prog n ops Q l' L R al' := by intro h; exact Gl h.h) : J Try.prog n ops Q l L R al := h.go (hg ⟨kk⟩)
theorem Ga2 (kk : p) (h : Run n ops Q L R 2 l al l' al' := by exact mr) (hg : Hold p → J Try.prog n ops Q l' L R al' := by intro h; exact Gl h.h) : J Try.prog n ops Q l L R al := h.go (hg ⟨kk⟩)
theorem Ga3 (kk : p) (h : Run n ops Q L R 3 l al l' al' := by exact mr) (hg : Hold p → J Try.prog n ops Q l' L R al' := by intro h; exact Gl h.h) : J Try.prog n ops Q l L R al := h.go (hg ⟨kk⟩)
theorem Ga4 (kk : p) (h : Run n ops Q L R 4 l al l' al' := by exact mr) (hg : Hold p → J Try.prog n ops Q l' L R al' := by intro h; exact Gl h.h) : J Try.prog n ops Q l L R al := h.go (hg ⟨kk⟩)
theorem Ga5 (kk : p) (h : Run n ops Q L R 5 l al l' al' := by exact mr) (hg : Hold p → J Try.prog n ops Q l' L R al' := by intro h; exact Gl h.h) : J Try.prog n ops Q l L R al := h.go (hg ⟨kk⟩)
theorem Ga6 (kk : p) (h : Run n ops Q L R 6 l al l' al' := by exact mr) (hg : Hold p → J Try.prog n ops Q l' L R al' := by intro h; exact Gl h.h) : J Try.prog n ops Q l L R al := h.go (hg ⟨kk⟩)
theorem Ga7 (kk : p) (h : Run n ops Q L R 7 l al l' al' := by exact mr) (hg : Hold p → J Try.prog n ops Q l' L R al' := by intro h; exact Gl h.h) : J Try.prog n ops Q l L R al := h.go (hg ⟨kk⟩)
theorem Ga8 (kk : p) (h : Run n ops Q L R 8 l al l' al' := by exact mr) (hg : Hold p → J Try.prog n ops Q l' L R al' := by intro h; exact Gl h.h) : J Try.prog n ops Q l L R al := h.go (hg ⟨kk⟩)
theorem Ga9 (kk : p) (h : Run n ops Q L R 9 l al l' al' := by exact mr) (hg : Hold p → J Try.prog n ops Q l' L R al' := by intro h; exact Gl h.h) : J Try.prog n ops Q l L R al := h.go (hg ⟨kk⟩)
theorem Ga11 (kk : p) (h : Run n ops Q L R 11 l al l' al' := by exact mr) (hg : Hold p → J Try.prog n ops Q l' L R al' := by intro h; exact Gl h.h) : J Try.prog n ops Q l L R al := h.go (hg ⟨kk⟩)
theorem Ga12 (kk : p) (h : Run n ops Q L R 12 l al l' al' := by exact mr) (hg : Hold p → J Try.prog n ops Q l' L R al' := by intro h; exact Gl h.h) : J Try.prog n ops Q l L R al := h.go (hg ⟨kk⟩)
theorem Ga13 (kk : p) (h : Run n ops Q L R 13 l al l' al' := by exact mr) (hg : Hold p → J Try.prog n ops Q l' L R al' := by intro h; exact Gl h.h) : J Try.prog n ops Q l L R al := h.go (hg ⟨kk⟩)
theorem Ga15 (kk : p) (h : Run n ops Q L R 15 l al l' al' := by exact mr) (hg : Hold p → J Try.prog n ops Q l' L R al' := by intro h; exact Gl h.h) : J Try.prog n ops Q l L R al := h.go (hg ⟨kk⟩)
theorem Ga16 (kk : p) (h : Run n ops Q L R 16 l al l' al' := by exact mr) (hg : Hold p → J Try.prog n ops Q l' L R al' := by intro h; exact Gl h.h) : J Try.prog n ops Q l L R al := h.go (hg ⟨kk⟩)
theorem Ga17 (kk : p) (h : Run n ops Q L R 17 l al l' al' := by exact mr) (hg : Hold p → J Try.prog n ops Q l' L R al' := by intro h; exact Gl h.h) : J Try.prog n ops Q l L R al := h.go (hg ⟨kk⟩)
theorem Ga18 (kk : p) (h : Run n ops Q L R 18 l al l' al' := by exact mr) (hg : Hold p → J Try.prog n ops Q l' L R al' := by intro h; exact Gl h.h) : J Try.prog n ops Q l L R al := h.go (hg ⟨kk⟩)
theorem Ga19 (kk : p) (h : Run n ops Q L R 19 l al l' al' := by exact mr) (hg : Hold p → J Try.prog n ops Q l' L R al' := by intro h; exact Gl h.h) : J Try.prog n ops Q l L R al := h.go (hg ⟨kk⟩)
theorem Ga22 (kk : p) (h : Run n ops Q L R 22 l al l' al' := by exact mr) (hg : Hold p → J Try.prog n ops Q l' L R al' := by intro h; exact Gl h.h) : J Try.prog n ops Q l L R al := h.go (hg ⟨kk⟩)
theorem Ga27 (kk : p) (h : Run n ops Q L R 27 l al l' al' := by exact mr) (hg : Hold p → J Try.prog n ops Q l' L R al' := by intro h; exact Gl h.h) : J Try.prog n ops Q l L R al := h.go (hg ⟨kk⟩)
theorem Ga32 (kk : p) (h : Run n ops Q L R 32 l al l' al' := by exact mr) (hg : Hold p → J Try.prog n ops Q l' L R al' := by intro h; exact Gl h.h) : J Try.prog n ops Q l L R al := h.go (hg ⟨kk⟩)
theorem Gb1 (kk : p) (h : Run n ops Q L R 1 l al l' al' := by exact mr) (hg : Hold p → J Try.prog n ops Q l' L R al' := by intro h; exact Gm h.h) : J Try.prog n ops Q l L R al := h.go (hg ⟨kk⟩)
theorem Gb2 (kk : p) (h : Run n ops Q L R 2 l al l' al' := by exact mr) (hg : Hold p → J Try.prog n ops Q l' L R al' := by intro h; exact Gm h.h) : J Try.prog n ops Q l L R al := h.go (hg ⟨kk⟩)
theorem Gb3 (kk : p) (h : Run n ops Q L R 3 l al l' al' := by exact mr) (hg : Hold p → J Try.prog n ops Q l' L R al' := by intro h; exact Gm h.h) : J Try.prog n ops Q l L R al := h.go (hg ⟨kk⟩)
theorem Gb5 (kk : p) (h : Run n ops Q L R 5 l al l' al' := by exact mr) (hg : Hold p → J Try.prog n ops Q l' L R al' := by intro h; exact Gm h.h) : J Try.prog n ops Q l L R al := h.go (hg ⟨kk⟩)
theorem Gb6 (kk : p) (h : Run n ops Q L R 6 l al l' al' := by exact mr) (hg : Hold p → J Try.prog n ops Q l' L R al' := by intro h; exact Gm h.h) : J Try.prog n ops Q l L R al := h.go (hg ⟨kk⟩)
theorem Gb7 (kk : p) (h : Run n ops Q L R 7 l al l' al' := by exact mr) (hg : Hold p → J Try.prog n ops Q l' L R al' := by intro h; exact Gm h.h) : J Try.prog n ops Q l L R al := h.go (hg ⟨kk⟩)
theorem Gc1 (kk : p) (h : Run n ops Q L R 1 l al l' al' := by exact mr) (hg : Hold p → J Try.prog n ops Q l' L R al' := by intro h; exact Glc h.h) : J Try.prog n ops Q l L R al := h.go (hg ⟨kk⟩)
theorem Gc2 (kk : p) (h : Run n ops Q L R 2 l al l' al' := by exact mr) (hg : Hold p → J Try.prog n ops Q l' L R al' := by intro h; exact Glc h.h) : J Try.prog n ops Q l L R al := h.go (hg ⟨kk⟩)
theorem Gc5 (kk : p) (h : Run n ops Q L R 5 l al l' al' := by exact mr) (hg : Hold p → J Try.prog n ops Q l' L R al' := by intro h; exact Glc h.h) : J Try.prog n ops Q l L R al := h.go (hg ⟨kk⟩)
theorem Gc6 (kk : p) (h : Run n ops Q L R 6 l al l' al' := by exact mr) (hg : Hold p → J Try.prog n ops Q l' L R al' := by intro h; exact Glc h.h) : J Try.prog n ops Q l L R al := h.go (hg ⟨kk⟩)
theorem Gc7 (kk : p) (h : Run n ops Q L R 7 l al l' al' := by exact mr) (hg : Hold p → J Try.prog n ops Q l' L R al' := by intro h; exact Glc h.h) : J Try.prog n ops Q l L R al := h.go (hg ⟨kk⟩)
theorem Gc8 (kk : p) (h : Run n ops Q L R 8 l al l' al' := by exact mr) (hg : Hold p → J Try.prog n ops Q l' L R al' := by intro h; exact Glc h.h) : J Try.prog n ops Q l L R al := h.go (hg ⟨kk⟩)
theorem Gc11 (kk : p) (h : Run n ops Q L R 11 l al l' al' := by exact mr) (hg : Hold p → J Try.prog n ops Q l' L R al' := by intro h; exact Glc h.h) : J Try.prog n ops Q l L R al := h.go (hg ⟨kk⟩)
theorem Gc12 (kk : p) (h : Run n ops Q L R 12 l al l' al' := by exact mr) (hg : Hold p → J Try.prog n ops Q l' L R al' := by intro h; exact Glc h.h) : J Try.prog n ops Q l L R al := h.go (hg ⟨kk⟩)
theorem Gc15 (kk : p) (h : Run n ops Q L R 15 l al l' al' := by exact mr) (hg : Hold p → J Try.prog n ops Q l' L R al' := by intro h; exact Glc h.h) : J Try.prog n ops Q l L R al := h.go (hg ⟨kk⟩)
theorem Gc18 (kk : p) (h : Run n ops Q L R 18 l al l' al' := by exact mr) (hg : Hold p → J Try.prog n ops Q l' L R al' := by intro h; exact Glc h.h) : J Try.prog n ops Q l L R al := h.go (hg ⟨kk⟩)
theorem Gc19 (kk : p) (h : Run n ops Q L R 19 l al l' al' := by exact mr) (hg : Hold p → J Try.prog n ops Q l' L R al' := by intro h; exact Glc h.h) : J Try.prog n ops Q l L R al := h.go (hg ⟨kk⟩)
theorem Gd1 (kk : p) (h : Run n ops Q L R 1 l al l' al' := by exact mr) (hg : Hold p → J Try.prog n ops Q l' L R al' := by intro h; exact Gmc h.h) : J Try.prog n ops Q l L R al := h.go (hg ⟨kk⟩)
theorem Gd2 (kk : p) (h : Run n ops Q L R 2 l al l' al' := by exact mr) (hg : Hold p → J Try.prog n ops Q l' L R al' := by intro h; exact Gmc h.h) : J Try.prog n ops Q l L R al := h.go (hg ⟨kk⟩)
theorem Gd4 (kk : p) (h : Run n ops Q L R 4 l al l' al' := by exact mr) (hg : Hold p → J Try.prog n ops Q l' L R al' := by intro h; exact Gmc h.h) : J Try.prog n ops Q l L R al := h.go (hg ⟨kk⟩)
theorem Gd5 (kk : p) (h : Run n ops Q L R 5 l al l' al' := by exact mr) (hg : Hold p → J Try.prog n ops Q l' L R al' := by intro h; exact Gmc h.h) : J Try.prog n ops Q l L R al := h.go (hg ⟨kk⟩)
theorem Gd6 (kk : p) (h : Run n ops Q L R 6 l al l' al' := by exact mr) (hg : Hold p → J Try.prog n ops Q l' L R al' := by intro h; exact Gmc h.h) : J Try.prog n ops Q l L R al := h.go (hg ⟨kk⟩)
theorem Gd8 (kk : p) (h : Run n ops Q L R 8 l al l' al' := by exact mr) (hg : Hold p → J Try.prog n ops Q l' L R al' := by intro h; exact Gmc h.h) : J Try.prog n ops Q l L R al := h.go (hg ⟨kk⟩)
theorem Gd10 (kk : p) (h : Run n ops Q L R 10 l al l' al' := by exact mr) (hg : Hold p → J Try.prog n ops Q l' L R al' := by intro h; exact Gmc h.h) : J Try.prog n ops Q l L R al := h.go (hg ⟨kk⟩)
theorem jd_ {id : Nat} (Sh : Rho → (Nat → Bool) → List Chunk) (k : DJ Try.prog n l.toArray Q Sh R al 0 l []) (hsl : Lm l.toArray = true := by kernel_rfl) (hed : I5 l.toArray = true := by kernel_rfl) (hL : ∀ ρ, Sh ρ (fun _ => false) = L := by exact fun _ => rfl) : JC Try.prog n (.region id l.toArray true) Q L R al := On Zf hsl hed Sh hL k
theorem A8 {id : Nat} (k : DJ Try.prog n l.toArray Q (fun _ _ => L) R al 0 l []) (hsl : Lm l.toArray = true := by kernel_rfl) (hed : I5 l.toArray = true := by kernel_rfl) : JC Try.prog n (.region id l.toArray true) Q L R al := On Zf hsl hed (fun _ _ => L) (fun _ => rfl) k
variable {Sh : Rho → (Nat → Bool) → List Chunk} {R0 : List Fact} {al0 : List (Nat × Value)} {its : List Item} {i : Nat} {q : Rho → Prop}
theorem dnl (k : ∀ ρ, q ρ) (h : ∀ ρ, Hold (q ρ) → JX n Q .normal (Ey its ρ ++ Sh ρ (fun j => Nat.blt j i)) (facts its ρ ++ R0) (Db its al0 ρ) := by intro ρ h; simp only [Ey, facts, Db, List.append_nil, List.nil_append, List.cons_append]; exact h.h) : DJ Try.prog n ops Q Sh R0 al0 i [] its := d_nilC fun ρ => h ρ ⟨k ρ⟩
theorem dtl {o : Oper} (k : ∀ ρ, q ρ) (ht : I9 ops i = true := by kernel_rfl) (h : ∀ ρ, Hold (q ρ) → J Try.prog n ops Q (o :: rest) (Ey its ρ ++ Sh ρ (fun j => Nat.blt j i)) (facts its ρ ++ R0) (Db its al0 ρ) := by intro ρ h; simp only [Ey, facts, Db, List.append_nil, List.nil_append, List.cons_append]; exact h.h) : DJ Try.prog n ops Q Sh R0 al0 i (o :: rest) its := T6 ht fun ρ => h ρ ⟨k ρ⟩
theorem djc {op : Oper} (hp : ∀ ρ S, As Try.prog n (Db its al0 ρ) (Sh ρ S) R0 op v) (k : DJ Try.prog n ops Q Sh R0 al0 (i + 1) rest (⟨i, some d, fun _ => v, fun _ => [], fun _ => []⟩ :: its)) (hd : op.dst = some d := by exact rfl) (hSh : ∀ ρ g S, S i = false → Sh (Rho.set ρ i g) (upS S i) = Sh ρ S := by exact fun _ _ _ _ => rfl) : DJ Try.prog n ops Q Sh R0 al0 i (op :: rest) its := dj (dc hp k hd hSh)
theorem epc {op : Oper} (hp : ∀ ρ S, As Try.prog n (Db its al0 ρ) (Sh ρ S) R0 op v) (k : DJ Try.prog n ops Q Sh R0 al0 (i + 1) rest (⟨i, some d, fun _ => v, fun _ => [], fun _ => []⟩ :: its)) (hSh : Ij ops Sh i := by exact fun _ _ _ _ _ => rfl) (hd : op.dst = some d := by exact rfl) : DJ Try.prog n ops Q Sh R0 al0 i (op :: rest) its := Jn hp hSh k hd
theorem epp {op : Oper} {v : Rho → Value} (hp : ∀ ρ S, As Try.prog n (Db its al0 ρ) (Sh ρ S) R0 op (v ρ)) (k : DJ Try.prog n ops Q Sh R0 al0 (i + 1) rest (⟨i, some d, v, fun _ => [], fun _ => []⟩ :: its)) (hi : Ind ops i v := by first | exact Ind.const _ | exact fun _ _ _ _ _ => rfl | exact Ind.self | exact Ind.gh _ 3 rfl) (hSh : Ij ops Sh i := by exact fun _ _ _ _ _ => rfl) (hd : op.dst = some d := by exact rfl) : DJ Try.prog n ops Q Sh R0 al0 i (op :: rest) its := e_p hp hi hSh k hd
def befs (ops : Array Oper) (i : Nat) (l : List Nat) : Bool := l.all fun j => Kw ops 9 j i
def afts (ops : Array Oper) (i : Nat) (l : List Nat) : Bool := l.all fun j => Kw ops 9 i j
def AllS (S : Nat → Bool) (b : Bool) : List Nat → Prop
 | [] => True
 | j :: r => S j = b ∧ AllS S b r
theorem AllS.mk {S : Nat → Bool} {b : Bool} : ∀ {l : List Nat}, (∀ j, j ∈ l → S j = b) → AllS S b l
 | [], _ => trivial
 | j :: r, h => ⟨h j (.head _), AllS.mk fun j hj => h j (.tail _ hj)⟩
theorem Rho.at_ne {ρ : Rho} {i j : Nat} {g : G} (h : Nat.beq j i = false) : Rho.set ρ i g j = ρ j := by
 have : j ≠ i := fun e => by rw [e, Nat.beq_refl] at h; cases h
 simp [Rho.set, this]
theorem upS_at {S : Nat → Bool} {i : Nat} : upS S i i = true := by simp [upS]
theorem upS_no {S : Nat → Bool} {i j : Nat} (h : Nat.beq j i = false) : upS S i j = S j := by simp [upS, h]
theorem es_ (T0 : TypeId) (f : Nat) (bz az : List Nat) (bb : Rho → Nat) (vs us : Rho → List Value) {v : Rho → Value} {sz : Nat} (hsz : ∀ w, (sizeOf T).run Try.prog w = .ok sz w) (k : DJ Try.prog n ops Q Sh R0 al0 (i + 1) rest (⟨i, none, fun _ => undef, fun _ => [], fun _ => []⟩ :: its)) (hx : ∀ ρ, ev n (Db its al0 ρ) x = some (bp (bb ρ) f) := by exact fun _ => rfl) (hy : ∀ ρ, ev n (Db its al0 ρ) y = some (v ρ) := by exact fun _ => rfl) (hv : ∀ ρ, (v ρ).cells = (us ρ).toArray := by exact fun _ => rfl) (hl : ∀ ρ, (us ρ).length = sz := by exact fun _ => rfl)
  (h1 : ∀ ρ R' w L', Deps ops R0 its i ρ R' → St L' R' w → ∀ u ∈ us ρ, u.oneCell' = true := by exact fun _ _ _ _ _ _ => by first | (intro u hu; revert u hu; simp [Value.oneCell', Config.cells, Msg.cells, Line.cells, Op.cells, Done.cells, Step.cells]; done) | (repeat (first | exact Hn | refine Dt (by first | exact rfl | assumption) ?_))) (hf : ∀ ρ, Nat.ble (f + sz) (vs ρ).length = true := by exact fun _ => rfl) (hb : befs ops i bz = true := by kernel_rfl) (ha : afts ops i az = true := by kernel_rfl)
  (hSh : ∀ ρ g S, S i = false → AllS S true bz → AllS S false az → ∃ L1, (Sh ρ S).Perm (blk (bb ρ) T0 (vs ρ) :: L1) ∧ (Sh (Rho.set ρ i g) (upS S i)).Perm (blk (bb ρ) T0 ((vs ρ).take f ++ us ρ ++ (vs ρ).drop (f + sz)) :: L1) := by intro ρ g S hS hB hA; simp only [AllS, and_true] at hB hA; simp +decide only [upS_at, upS_no, Rho.at_ne, hS, hB, hA, cond_true, cond_false]; exact Pos.ex (by repeat (first | exact .hd | exact .hc | apply Pos.tl | apply Pos.ap))) : DJ Try.prog n ops Q Sh R0 al0 i (⟨none, .store T x y, ty, pos, aft, none⟩ :: rest) its :=
 Abm bb hsz hx hy hv hl h1 hf (fun ρ g S hS hB hA => hSh ρ g S hS (AllS.mk fun j hj => hB j ⟨9, List.all_eq_true.1 hb j hj⟩) (AllS.mk fun j hj => hA j ⟨9, List.all_eq_true.1 ha j hj⟩)) k
end
section
variable {P : Program} {n : Nat} {L L' L1 : List Chunk} {R : List Fact} {al : List (Nat × Value)} {γ : Type} {val : γ → Value} {Lf : γ → List Chunk} {Rf : γ → List Fact} {fn : Func} {e : Exit} {t u s r : Nat} {v v1 v2 v3 v4 : Value} {ty : TypeId} {sz b : Nat} {cs : List Value} {T0 : TypeId} {Q : Exit → Act → World → Prop} {c : Code}
theorem cq_ (L' : List Chunk) (k : JC P n c Q L' R al) (h : ∀ w, St L R w → St L' R w := by exact fun w hs => Af hs) : JC P n c Q L R al := JC.conseq h k
theorem xq_ (L' : List Chunk) (k : JX n Q e L' R al) (h : ∀ w, St L R w → St L' R w := by exact fun w hs => hs) : JX n Q e L R al := JX.conseq h k
theorem Be (g : γ) (he : e = .normal ∨ e = .ret := by first | exact .inr rfl | exact .inl rfl) (hf : fn.results = #[.tmp t] := by exact rfl) (h0 : ev n al (.tmp t) = some v1 := by exact rfl) (hv : v1 = val g := by rfl) (hs : ∀ w, St L R w → St (Lf g) (Rf g) w := by exact fun w hs => Af hs) : JX n (bodyPost P fn (Bl val Lf Rf)) e L R al := A0 he (fun B w _ => res1 hf h0 B w) (fun w h => ⟨g, hv, hs w h⟩)
theorem Sy (g : γ) (hT : ∀ w, (isAgg ty).run P w = .ok true w) (hsz : ∀ w, (sizeOf ty).run P w = .ok sz w) (he : e = .normal ∨ e = .ret := by first | exact .inr rfl | exact .inl rfl) (hf : fn.results = #[.cell t ty] := by exact rfl) (h0 : ev n al (.tmp t) = some (bp b 0) := by exact rfl)  (hp : Pick L (blk b T0 cs) L1 := by exact pkk) (hl : cs.length = sz := by exact rfl) (hv : (.agg cs.toArray) = val g := by rfl) (hs : ∀ w, St L R w → St (Lf g) (Rf g) w := by exact fun w hs => Af hs) : JX n (bodyPost P fn (Bl val Lf Rf)) e L R al := A0 he (fun B w hw => resC1 hf h0  hT hsz hp hl B w hw) (fun w h => ⟨g, hv, hs w h⟩)
theorem De (g : γ) (he : e = .normal ∨ e = .ret := by first | exact .inr rfl | exact .inl rfl) (hf : fn.results = #[.tmp t, .tmp u] := by exact rfl) (h0 : ev n al (.tmp t) = some v1 := by exact rfl) (h1 : ev n al (.tmp u) = some v2 := by exact rfl) (hv : (.tuple #[v1, v2]) = val g := by rfl) (hs : ∀ w, St L R w → St (Lf g) (Rf g) w := by exact fun w hs => Af hs) : JX n (bodyPost P fn (Bl val Lf Rf)) e L R al := A0 he (fun B w _ => res2 hf h0 h1 B w) (fun w h => ⟨g, hv, hs w h⟩)
theorem Gf (g : γ) (hT : ∀ w, (isAgg ty).run P w = .ok true w) (hsz : ∀ w, (sizeOf ty).run P w = .ok sz w) (he : e = .normal ∨ e = .ret := by first | exact .inr rfl | exact .inl rfl) (hf : fn.results = #[.cell t ty, .tmp u] := by exact rfl) (h0 : ev n al (.tmp t) = some (bp b 0) := by exact rfl) (h1 : ev n al (.tmp u) = some v2 := by exact rfl) (hp : Pick L (blk b T0 cs) L1 := by exact pkk) (hl : cs.length = sz := by exact rfl) (hv : (.tuple #[.agg cs.toArray, v2]) = val g := by rfl) (hs : ∀ w, St L R w → St (Lf g) (Rf g) w := by exact fun w hs => Af hs) : JX n (bodyPost P fn (Bl val Lf Rf)) e L R al := A0 he (fun B w hw => resC2 hf h0 h1 hT hsz hp hl B w hw) (fun w h => ⟨g, hv, hs w h⟩)
theorem Iq (g : γ) (he : e = .normal ∨ e = .ret := by first | exact .inr rfl | exact .inl rfl) (hf : fn.results = #[.tmp t, .tmp u, .tmp s] := by exact rfl) (h0 : ev n al (.tmp t) = some v1 := by exact rfl) (h1 : ev n al (.tmp u) = some v2 := by exact rfl) (h2 : ev n al (.tmp s) = some v3 := by exact rfl) (hv : (.tuple #[v1, v2, v3]) = val g := by rfl) (hs : ∀ w, St L R w → St (Lf g) (Rf g) w := by exact fun w hs => Af hs) : JX n (bodyPost P fn (Bl val Lf Rf)) e L R al := A0 he (fun B w _ => res3 hf h0 h1 h2 B w) (fun w h => ⟨g, hv, hs w h⟩)
theorem Es (g : γ) (hT : ∀ w, (isAgg ty).run P w = .ok true w) (hsz : ∀ w, (sizeOf ty).run P w = .ok sz w) (he : e = .normal ∨ e = .ret := by first | exact .inr rfl | exact .inl rfl) (hf : fn.results = #[.cell t ty, .tmp u, .tmp s] := by exact rfl) (h0 : ev n al (.tmp t) = some (bp b 0) := by exact rfl) (h1 : ev n al (.tmp u) = some v2 := by exact rfl) (h2 : ev n al (.tmp s) = some v3 := by exact rfl) (hp : Pick L (blk b T0 cs) L1 := by exact pkk) (hl : cs.length = sz := by exact rfl) (hv : (.tuple #[.agg cs.toArray, v2, v3]) = val g := by rfl) (hs : ∀ w, St L R w → St (Lf g) (Rf g) w := by exact fun w hs => Af hs) : JX n (bodyPost P fn (Bl val Lf Rf)) e L R al := A0 he (fun B w hw => resC3 hf h0 h1 h2 hT hsz hp hl B w hw) (fun w h => ⟨g, hv, hs w h⟩)
theorem Ir (g : γ) (hT : ∀ w, (isAgg ty).run P w = .ok true w) (hsz : ∀ w, (sizeOf ty).run P w = .ok sz w) (he : e = .normal ∨ e = .ret := by first | exact .inr rfl | exact .inl rfl) (hf : fn.results = #[.cell t ty, .tmp u, .tmp s, .tmp r] := by exact rfl) (h0 : ev n al (.tmp t) = some (bp b 0) := by exact rfl) (h1 : ev n al (.tmp u) = some v2 := by exact rfl) (h2 : ev n al (.tmp s) = some v3 := by exact rfl) (h3 : ev n al (.tmp r) = some v4 := by exact rfl) (hp : Pick L (blk b T0 cs) L1 := by exact pkk) (hl : cs.length = sz := by exact rfl) (hv : (.tuple #[.agg cs.toArray, v2, v3, v4]) = val g := by rfl) (hs : ∀ w, St L R w → St (Lf g) (Rf g) w := by exact fun w hs => Af hs) : JX n (bodyPost P fn (Bl val Lf Rf)) e L R al := A0 he (fun B w hw => resC4 hf h0 h1 h2 h3 hT hsz hp hl B w hw) (fun w h => ⟨g, hv, hs w h⟩)
end
section
variable {P : Program} {n : Nat} {ops : Array Oper} {Q : Exit → Act → World → Prop} {rest : List Oper} {L : List Chunk} {R : List Fact} {al : List (Nat × Value)} {d : Nat} {x y : Operand} {T U ty : TypeId} {pos : String} {aft : Array Edge} {k k' : IntKind} {a b : Int}
theorem C3 (kk : J P n ops Q rest L R ((d, .bool true) :: al)) (hx : ev n al x = some (.int k a) := by exact rfl) (hy : ev n al y = some (.int k b) := by exact rfl) (h : a = b := by omega) : J P n ops Q (⟨some d, .binOp .eql T x y U, ty, pos, aft, none⟩ :: rest) L R al := ob (Ai hx hy (Av h)) kk
theorem Az (kk : J P n ops Q rest L R ((d, .bool false) :: al)) (hx : ev n al x = some (.int k a) := by exact rfl) (hy : ev n al y = some (.int k b) := by exact rfl) (h : a ≠ b := by omega) : J P n ops Q (⟨some d, .binOp .eql T x y U, ty, pos, aft, none⟩ :: rest) L R al := ob (Ai hx hy (A1 h)) kk
theorem S9 (kk : J P n ops Q rest L R ((d, .bool true) :: al)) (hx : ev n al x = some (.int k a) := by exact rfl) (hy : ev n al y = some (.int k b) := by exact rfl) (h : a ≠ b := by omega) : J P n ops Q (⟨some d, .binOp .neq T x y U, ty, pos, aft, none⟩ :: rest) L R al := ob (Ai hx hy (Ga h)) kk
theorem V3 (kk : J P n ops Q rest L R ((d, .bool false) :: al)) (hx : ev n al x = some (.int k a) := by exact rfl) (hy : ev n al y = some (.int k b) := by exact rfl) (h : a = b := by omega) : J P n ops Q (⟨some d, .binOp .neq T x y U, ty, pos, aft, none⟩ :: rest) L R al := ob (Ai hx hy (D2 h)) kk
theorem E4 (kk : J P n ops Q rest L R ((d, .bool true) :: al)) (hx : ev n al x = some (.int k a) := by exact rfl) (hy : ev n al y = some (.int k b) := by exact rfl) (h : a < b := by omega) : J P n ops Q (⟨some d, .binOp .lss T x y U, ty, pos, aft, none⟩ :: rest) L R al := ob (Ai hx hy (O7 h)) kk
theorem Bb (kk : J P n ops Q rest L R ((d, .bool false) :: al)) (hx : ev n al x = some (.int k a) := by exact rfl) (hy : ev n al y = some (.int k b) := by exact rfl) (h : ¬ a < b := by omega) : J P n ops Q (⟨some d, .binOp .lss T x y U, ty, pos, aft, none⟩ :: rest) L R al := ob (Ai hx hy (C1 h)) kk
theorem oleqT (kk : J P n ops Q rest L R ((d, .bool true) :: al)) (hx : ev n al x = some (.int k a) := by exact rfl) (hy : ev n al y = some (.int k b) := by exact rfl) (h : a ≤ b := by omega) : J P n ops Q (⟨some d, .binOp .leq T x y U, ty, pos, aft, none⟩ :: rest) L R al := ob (Ai hx hy (Mc h)) kk
theorem oleqF (kk : J P n ops Q rest L R ((d, .bool false) :: al)) (hx : ev n al x = some (.int k a) := by exact rfl) (hy : ev n al y = some (.int k b) := by exact rfl) (h : ¬ a ≤ b := by omega) : J P n ops Q (⟨some d, .binOp .leq T x y U, ty, pos, aft, none⟩ :: rest) L R al := ob (Ai hx hy (O8 h)) kk
theorem Ha (kk : J P n ops Q rest L R ((d, .bool true) :: al)) (hx : ev n al x = some (.int k a) := by exact rfl) (hy : ev n al y = some (.int k b) := by exact rfl) (h : b < a := by omega) : J P n ops Q (⟨some d, .binOp .gtr T x y U, ty, pos, aft, none⟩ :: rest) L R al := ob (Ai hx hy (I7 h)) kk
theorem D9 (kk : J P n ops Q rest L R ((d, .bool false) :: al)) (hx : ev n al x = some (.int k a) := by exact rfl) (hy : ev n al y = some (.int k b) := by exact rfl) (h : ¬ b < a := by omega) : J P n ops Q (⟨some d, .binOp .gtr T x y U, ty, pos, aft, none⟩ :: rest) L R al := ob (Ai hx hy (Md h)) kk
theorem Jk (kk : J P n ops Q rest L R ((d, .bool true) :: al)) (hx : ev n al x = some (.int k a) := by exact rfl) (hy : ev n al y = some (.int k b) := by exact rfl) (h : b ≤ a := by omega) : J P n ops Q (⟨some d, .binOp .geq T x y U, ty, pos, aft, none⟩ :: rest) L R al := ob (Ai hx hy (Me h)) kk
theorem Ea (kk : J P n ops Q rest L R ((d, .bool false) :: al)) (hx : ev n al x = some (.int k a) := by exact rfl) (hy : ev n al y = some (.int k b) := by exact rfl) (h : ¬ b ≤ a := by omega) : J P n ops Q (⟨some d, .binOp .geq T x y U, ty, pos, aft, none⟩ :: rest) L R al := ob (Ai hx hy (C6 h)) kk
theorem meT {A B : Prop} (h : A := by first | exact congrArg (fun b => some (Value.bool b)) (decide_eq_true (by omega)).symm | exact congrArg (fun b => some (Value.bool b)) (by simp; omega)) (g : B := by exact alT) : A ∧ B := ⟨h, g⟩
theorem meF {A B : Prop} (h : A := by first | exact congrArg (fun b => some (Value.bool b)) (decide_eq_false (by omega)).symm | exact congrArg (fun b => some (Value.bool b)) (by simp; omega)) (g : B := by exact alT) : A ∧ B := ⟨h, g⟩
theorem cdy {t : Nat} {a b : Code} {p : Prop} {hd : Decidable p} (hT : p → JC P n a Q L R ((t, .bool true) :: al)) (hF : ¬ p → JC P n b Q L R ((t, .bool false) :: al)) (hc : ev n al (.tmp t) = some (.bool (decide p)) := by exact rfl) : JC P n (.cond (.tmp t) a b) Q L R al := cdx hc hT hF
theorem pex {l l' : List Chunk} {x x' : Chunk} {L1 : List Chunk} (h : Pos l l' x x' L1 := by repeat (first | exact .hd | exact .hc | apply Pos.tl | apply Pos.ap)) : ∃ L1, l.Perm (x :: L1) ∧ l'.Perm (x' :: L1) := h.ex
end
section
variable {n : Nat} {Q : Exit → Act → World → Prop} {ops : Array Oper} {rest : List Oper} {d : Nat} {x y : Operand} {ty : TypeId} {pos : String} {aft : Array Edge} {Sh : Rho → (Nat → Bool) → List Chunk} {R0 : List Fact} {al0 : List (Nat × Value)} {its : List Item} {i : Nat} {v : Value}
theorem djm (kk : DJ Try.prog n ops Q Sh R0 al0 (i + 1) rest (⟨i, some d, fun _ => v, fun _ => [], fun _ => []⟩ :: its)) (hx : ∀ (ρ : Rho) (_ : Nat → Bool), ev n (Db its al0 ρ) x = some v := by exact fun _ _ => rfl) (hSh : ∀ ρ g S, S i = false → Sh (Rho.set ρ i g) (upS S i) = Sh ρ S := by exact fun _ _ _ _ => rfl) : DJ Try.prog n ops Q Sh R0 al0 i (⟨some d, .move x, ty, pos, aft, none⟩ :: rest) its := djc (fun ρ S => N3 (hx ρ S)) kk rfl hSh
theorem djf {c : Operand} (kk : DJ Try.prog n ops Q Sh R0 al0 (i + 1) rest (⟨i, some d, fun _ => v, fun _ => [], fun _ => []⟩ :: its)) (hc : ∀ (ρ : Rho) (_ : Nat → Bool), ev n (Db its al0 ρ) c = some (.bool false) := by exact fun _ _ => rfl) (hy : ∀ (ρ : Rho) (_ : Nat → Bool), ev n (Db its al0 ρ) y = some v := by exact fun _ _ => rfl) (hSh : ∀ ρ g S, S i = false → Sh (Rho.set ρ i g) (upS S i) = Sh ρ S := by exact fun _ _ _ _ => rfl) : DJ Try.prog n ops Q Sh R0 al0 i (⟨some d, .pick c x y, ty, pos, aft, none⟩ :: rest) its := djc (fun ρ S => Ya (hc ρ S) (hy ρ S)) kk rfl hSh
theorem epg (j f : Nat) (kk : DJ Try.prog n ops Q Sh R0 al0 (i + 1) rest (⟨i, some d, fun ρ => Gh.dec (γ := Value) (ρ j), fun _ => [], fun _ => []⟩ :: its)) (hx : ∀ (ρ : Rho) (_ : Nat → Bool), ev n (Db its al0 ρ) x = some (Gh.dec (γ := Value) (ρ j)) := by exact fun _ _ => rfl) (hj : Kw ops f j i = true := by exact rfl) (hSh : Ij ops Sh i := by exact fun _ _ _ _ _ => rfl) : DJ Try.prog n ops Q Sh R0 al0 i (⟨some d, .assign x, ty, pos, aft, none⟩ :: rest) its := e_p (fun ρ S => Ch (hx ρ S)) (Ind.gh (h := fun g => ((Gh.dec (γ := Value) g) : Value)) j f hj) hSh kk rfl
end
structure KpZ (q : Prop) : Prop where
  out : q
def BkZ (p q : Prop) : Prop := KpZ q → p
theorem Zaf {p q : Prop} (k : q) (h : BkZ p q := by
 intro kZ
 refine Gm ?_
 refine rn2 ?_
 exact kZ.out) : p := h ⟨k⟩
theorem ZaN {p q : Prop} (k : q) (h : BkZ p q := by
 intro kZ
 refine Zaf ?_
 refine Az ?_
 refine rn3 ?_
 refine gy ?_
 refine Az ?_
 refine Gd2 ?_
 refine rn2 ?_
 refine Az ?_
 refine Gc1 ?_
 refine kp [5, 6, 7, 8, 9, 10, 11, 76, 77, 78, 79, 80, 81, 82, 83, 84, 85, 86, 87, 88, 89, 90, 91, 92, 93, 94, 95, 96, 97, 98] ?_
 refine A8 ?_
 refine dn2 ?_
 exact kZ.out) : p := h ⟨k⟩
theorem Zau {p q : Prop} (k : q) (h : BkZ p q := by
 intro kZ
 refine djc (fun _ _ => Ai rfl rfl (A1 (by omega))) ?_
 refine djm ?_
 exact kZ.out) : p := h ⟨k⟩
theorem ZT {p q : Prop} (k : q) (h : BkZ p q := by
 intro kZ
 refine djf ?_
 refine djm ?_
 exact kZ.out) : p := h ⟨k⟩
theorem Zav {p q : Prop} (k : q) (h : BkZ p q := by
 intro kZ
 refine Zau ?_
 refine dn1 ?_
 refine ZT ?_
 refine dn5 ?_
 refine ZT ?_
 exact kZ.out) : p := h ⟨k⟩
theorem ZI {p q : Prop} (k : q) (h : BkZ p q := by
 intro kZ
 refine djc (fun _ _ => Ch) ?_
 refine dnl ?_; intro ρ
 revert ρ
 exact kZ.out) : p := h ⟨k⟩
theorem Za4 {p q : Prop} (k : q) (h : BkZ p q := by
 intro kZ
 refine dn7 ?_
 refine djf ?_
 refine ZI ?_;intro ρ
 refine Glc ?_
 revert ρ
 exact kZ.out) : p := h ⟨k⟩
theorem ZU {p q : Prop} (k : q) (h : BkZ p q := by
 intro kZ
 refine A8 ?_
 refine dn2 ?_
 exact kZ.out) : p := h ⟨k⟩
theorem ZaW {p q : Prop} (k : q) (h : BkZ p q := by
 intro kZ
 refine dnl ?_; intro ρ
 refine ZaN ?_
 refine Zav ?_
 refine Za4 ?_;intro ρ
 refine ZU ?_
 revert ρ
 exact kZ.out) : p := h ⟨k⟩
theorem Zbn {p q : Prop} (k : q) (h : BkZ p q := by
 intro kZ
 refine Gl ?_
 refine cq_ (row 67 vL (Ac ⟨ls, q⟩ id home m).1.lines :: blk b18 98 [vL, vi (Ac ⟨ls, q⟩ id home m).1.wait.kind, vi (Ac ⟨ls, q⟩ id home m).1.wait.line, vi (Ac ⟨ls, q⟩ id home m).1.wait.value, vi id, vi home, g1, g2] :: row 105 g1 (Ac ⟨ls, q⟩ id home m).2.1 :: row 102 g2 (Ac ⟨ls, q⟩ id home m).2.2 :: blk b8 57 [.slice none 0 0, vi 0, vi 0, vi 0] :: L) ?_
 refine JC.shut (v := vL) (xs := (Ac ⟨ls, q⟩ id home m).1.lines) .hd ?_
 refine JC.shut (v := g1) (xs := (Ac ⟨ls, q⟩ id home m).2.1) pkk ?_
 refine JC.shut (v := g2) (xs := (Ac ⟨ls, q⟩ id home m).2.2) pkk ?_
 refine cq_ (blk b8 57 [.slice none 0 0, vi 0, vi 0, vi 0] :: blk b18 98 [vL, vi (Ac ⟨ls, q⟩ id home m).1.wait.kind, vi (Ac ⟨ls, q⟩ id home m).1.wait.line, vi (Ac ⟨ls, q⟩ id home m).1.wait.value, vi id, vi home, g1, g2] :: L) ?_
 refine jd_ (fun ρ S => blk b8 57 (bif S 12 then [vL, vi (Ac ⟨ls, q⟩ id home m).1.wait.kind, vi (Ac ⟨ls, q⟩ id home m).1.wait.line, vi (Ac ⟨ls, q⟩ id home m).1.wait.value] else [.slice none 0 0, vi 0, vi 0, vi 0]) :: blk b18 98 [vL, vi (Ac ⟨ls, q⟩ id home m).1.wait.kind, vi (Ac ⟨ls, q⟩ id home m).1.wait.line, vi (Ac ⟨ls, q⟩ id home m).1.wait.value, vi id, vi home, g1, g2] :: L) ?_
 refine dn3 ?_
 refine Jn (v := .agg ([vL, vi (Ac ⟨ls, q⟩ id home m).1.wait.kind, vi (Ac ⟨ls, q⟩ id home m).1.wait.line, vi (Ac ⟨ls, q⟩ id home m).1.wait.value]).toArray) (fun _ _ => Ev (b := b18) (f := 0) (vs := [vL, vi (Ac ⟨ls, q⟩ id home m).1.wait.kind, vi (Ac ⟨ls, q⟩ id home m).1.wait.line, vi (Ac ⟨ls, q⟩ id home m).1.wait.value, vi id, vi home, g1, g2]) 4 Try.isAgg57 Try.sizeOf57) (fun _ _ _ _ _ => rfl) ?_
 refine dn8 ?_
 refine es_ 57 0 [] [] (fun ρ => b8) (fun ρ => [.slice none 0 0, vi 0, vi 0, vi 0]) (fun ρ => [vL, vi (Ac ⟨ls, q⟩ id home m).1.wait.kind, vi (Ac ⟨ls, q⟩ id home m).1.wait.line, vi (Ac ⟨ls, q⟩ id home m).1.wait.value]) Try.sizeOf57 ?_
 refine dn2 ?_
 refine dnl ?_; intro ρ
 refine xq_ (blk b8 57 [vL, vi (Ac ⟨ls, q⟩ id home m).1.wait.kind, vi (Ac ⟨ls, q⟩ id home m).1.wait.line, vi (Ac ⟨ls, q⟩ id home m).1.wait.value] :: blk b18 98 [vL, vi (Ac ⟨ls, q⟩ id home m).1.wait.kind, vi (Ac ⟨ls, q⟩ id home m).1.wait.line, vi (Ac ⟨ls, q⟩ id home m).1.wait.value, vi id, vi home, g1, g2] :: L) ?_
 refine Gl ?_
 revert ρ
 exact kZ.out) : p := h ⟨k⟩
theorem Zbo {p q : Prop} (k : q) (h : BkZ p q := by
 intro kZ
 refine ZU ?_
 refine djc (fun _ _ => Ai rfl rfl (C1 (by omega))) ?_
 refine djm ?_
 refine dn4 ?_
 exact kZ.out) : p := h ⟨k⟩
theorem ZbP {p q : Prop} (k : q) (h : BkZ p q := by
 intro kZ
 refine Gp (v := v0) m.line mm (by omega) (by omega) (fun hEw u => ?_)
 have hE : EB (Ag l m.line) := hb m.line.toNat (by omega)
 have hE0 := hE
 unfold EB Entry.wf Ao at hE0
 have hL : (Ag l m.line).last.length ≤ 4 := hla m.line.toNat (by omega)
 refine JC.know (p := u.oneCell' = true) (fun w hs => isSlice.one (hs.fact (.tail _ (.head _)))) (fun hone => ?_)
 refine JC.know (p := ∀ x ∈ (Ag l m.line).last, Ao x) (fun w hs => Gu (.tail _ (.head _)) hs) (fun hlin => ?_)
 refine Zbo ?_
 revert hEw u hE hE0 hL hone hlin
 exact kZ.out) : p := h ⟨k⟩
theorem ZbQ {p q : Prop} (k : q) (h : BkZ p q := by
 intro kZ
 refine rn1 ?_
 refine Ak Try.call33 rfl (fun w hs => Fm (u := u) (c := ⟨ls, q⟩) hs mm) ?_; intro vL
 refine J.know (p := vL.oneCell' = true) (fun w hs => A6 .hd hs) (fun honeV => ?_)
 refine rn3 ?_
 revert vL honeV
 exact kZ.out) : p := h ⟨k⟩
theorem ZaX {p q : Prop} (k : q) (h : BkZ p q := by
 intro kZ
 refine Gm ?_
 refine bx ?_; intro b4
 refine bx ?_; intro b7
 refine al_ (cs := [.slice none 0 0, vi 0, vi 0, vi 0]) Try.zeroValue57 ?_; intro b8
 refine Gb2 ?_
 refine ZbQ ?_;intro vL honeV
 refine bx ?_; intro b18
 refine Ga1 ?_
 refine cq_ (row 67 vL ls :: blk b18 98 [vL, vi q.kind, vi q.line, vi q.value, vi id, vi home, .slice none 0 0, .slice none 0 0] :: blk b8 57 [.slice none 0 0, vi 0, vi 0, vi 0] :: blk b7 105 m.cells :: blk b4 57 [u, vi q.kind, vi q.line, vi q.value] :: L) ?_
 revert b4 b7 b8 vL honeV b18
 exact kZ.out) : p := h ⟨k⟩
theorem ZP {p q : Prop} (k : q) (h : BkZ p q := by
 intro kZ
 refine Aa ?_
 refine rn3 ?_
 exact kZ.out) : p := h ⟨k⟩
theorem ZV {p q : Prop} (k : q) (h : BkZ p q := by
 intro kZ
 refine JC.rowNil 105 Msg ?_
 exact kZ.out) : p := h ⟨k⟩
theorem Za5 {p q : Prop} (k : q) (h : BkZ p q := by
 intro kZ
 refine dc (fun _ _ => Ai rfl rfl (C6 (show ¬ ((Ag l m.line).last.length : Int) ≤ m.src by omega))) ?_
 refine djf ?_
 refine dnl ?_; intro ρ
 refine Glc ?_
 refine JC.know (p := EpAll g13.1 10 m.line.toNat) (fun w hs => U9 (α := Entry) (xs := l) pkk w hs) (fun hA => ?_)
 have honeE : (ep g13.1 10 m.line.toNat 0).oneCell' = true := hA.one
 refine kp [1, 5, 6, 7, 8, 9, 42, 43, 44, 45] ?_
 refine ZP ?_
 refine ob (It (v := g13.1) (i := m.line) Mp (hl := Cd (α := Entry) (xs := l) pkk)) ?_
 refine Gb1 ?_
 refine rn5 ?_
 refine bx ?_; intro b51
 refine Ga1 ?_
 refine ZV ?_
 revert ρ hA honeE b51
 exact kZ.out) : p := h ⟨k⟩
theorem ZbR {p q : Prop} (k : q) (h : BkZ p q := by
 intro kZ
 refine kp [2, 3, 4, 5, 16, 17, 18, 19, 20, 21, 22, 23, 24, 25, 26, 27, 28, 29, 30, 31, 32, 33, 34, 35, 36, 37, 38, 39, 40, 41, 42, 43, 44, 45, 46, 47, 48, 49, 50, 51, 52, 53, 54, 55, 56, 57, 58, 59, 60, 61, 62, 63, 64, 65, 66, 67, 68, 69, 70] ?_
 exact kZ.out) : p := h ⟨k⟩
theorem Zai {p q : Prop} (k : q) (h : BkZ p q := by
 intro kZ
 refine ZbR ?_
 refine ZP ?_
 exact kZ.out) : p := h ⟨k⟩
theorem Za6 {p q : Prop} (k : q) (h : BkZ p q := by
 intro kZ
 have honec : cv.oneCell' = true := isSlice.one (hs.fact hcv)
 have honeh : hv.oneCell' = true := isSlice.one (hs.fact hhv)
 revert honec honeh
 exact kZ.out) : p := h ⟨k⟩
theorem Za7 {p q : Prop} (k : q) (h : BkZ p q := by
 intro kZ
 have hnc := h.nc
 have hnh := h.nh
 have hn1 := h.n1
 have hn2 := h.l1
 refine Za6 ?_;intro honec honeh
 have honef : fv.oneCell' = true := isSlice.one (hs.fact hfv)
 have hn64 : Ao (x.cores.length : Int) := by unfold Ao; omega
 have hop : s.op.wf := ⟨hsn.2.2.2.2.1, hsn.2.2.2.2.2.1, hsn.2.2.2.2.2.2⟩
 refine Ah Try.func10 rfl Try.ntmps10 rfl hs ?_
 revert hnc hnh hn1 hn2 honec honeh honef hn64 hop
 exact kZ.out) : p := h ⟨k⟩
theorem ZaO {p q : Prop} (k : q) (h : BkZ p q := by
 intro kZ
 refine dn8 ?_
 refine es_ 57 0 [] [] (fun ρ => b8) (fun ρ => [.slice none 0 0, vi 0, vi 0, vi 0]) (fun ρ => [vL, vi q.kind, vi q.line, vi q.value]) Try.sizeOf57 ?_
 exact kZ.out) : p := h ⟨k⟩
theorem Zbp {p q : Prop} (k : q) (h : BkZ p q := by
 intro kZ
 refine cq_ (blk b8 57 [.slice none 0 0, vi 0, vi 0, vi 0] :: blk b18 98 [vL, vi q.kind, vi q.line, vi q.value, vi id, vi home, v74, .slice none 0 0] :: L) ?_
 refine jd_ (fun ρ S => blk b8 57 (bif S 12 then [vL, vi q.kind, vi q.line, vi q.value] else [.slice none 0 0, vi 0, vi 0, vi 0]) :: blk b18 98 [vL, vi q.kind, vi q.line, vi q.value, vi id, vi home, v74, .slice none 0 0] :: L) ?_
 refine dn3 ?_
 refine Jn (v := .agg ([vL, vi q.kind, vi q.line, vi q.value]).toArray) (fun _ _ => Ev (b := b18) (f := 0) (vs := [vL, vi q.kind, vi q.line, vi q.value, vi id, vi home, v74, .slice none 0 0]) 4 Try.isAgg57 Try.sizeOf57) (fun _ _ _ _ _ => rfl) ?_
 refine ZaO ?_
 refine dn2 ?_
 refine dnl ?_; intro ρ
 refine xq_ (blk b8 57 [vL, vi q.kind, vi q.line, vi q.value] :: blk b18 98 [vL, vi q.kind, vi q.line, vi q.value, vi id, vi home, v74, .slice none 0 0] :: L) ?_
 refine Gl ?_
 revert ρ
 exact kZ.out) : p := h ⟨k⟩
theorem Zbq {p q : Prop} (k : q) (h : BkZ p q := by
 intro kZ
 refine Glc ?_
 refine kp [5, 6, 7, 8, 9, 10, 11, 178, 179, 180, 181, 182, 183, 184, 185, 186, 187, 188, 189, 190, 191, 192, 193, 194, 195, 196, 197, 198, 199, 200] ?_
 refine ZU ?_
 exact kZ.out) : p := h ⟨k⟩
theorem ZaP {p q : Prop} (k : q) (h : BkZ p q := by
 intro kZ
 refine djc (fun _ _ => Ai rfl rfl (Av (by omega))) ?_
 refine djm ?_
 refine dn1 ?_
 refine djc (fun _ _ => D8) ?_
 refine djm ?_
 exact kZ.out) : p := h ⟨k⟩
theorem ZaY {p q : Prop} (k : q) (h : BkZ p q := by
 intro kZ
 refine Zav ?_
 refine dn9 ?_
 refine djf ?_
 refine ZI ?_;intro ρ
 refine Zbq ?_
 refine ZaP ?_
 revert ρ
 exact kZ.out) : p := h ⟨k⟩
theorem ZbS {p q : Prop} (k : q) (h : BkZ p q := by
 intro kZ
 refine dnl ?_; intro ρ
 refine xq_ (blk bk 98 [vL, vi q.kind, vi q.line, vi q.value, vi id, vi home, vo, (Gh.dec (γ := Value) (ρ 16))] :: row 102 (Gh.dec (γ := Value) (ρ 16)) (ds ++ [(⟨id, q, 0⟩ : Done)]) :: foc 67 vL ls m.line.toNat [vi 0, vi 0, vi 0, vi l.serial, vi m.turn, vi m.turn, vi l.value] :: row 105 vo ms :: blk bm 105 m.cells :: (LX)) ?_
 generalize (Gh.dec (γ := Value) (ρ 15)) = v120
 generalize (Gh.dec (γ := Value) (ρ 16)) = v121
 refine Gl ?_
 refine kp [0, 1, 4, 124, 125, 126, 127, 128] ?_
 refine Aa ?_
 refine rn1 ?_
 refine ob (D5 (cs := zOp.cells) Sn) ?_
 refine rn3 ?_
 refine s_N [vL, vi 0, vi 0, vi 0, vi id, vi home, vo, v121] Try.sizeOf33 ?_
 refine Gl ?_
 refine A8 ?_
 refine dn13 ?_
 refine dtl ?_; intro ρ
 refine Ak Try.call61 rfl (fun w hs => Ed (vL := vL) (vd := v121) (q := zOp) (id := id) (home := home) (ms := ms) (kind := 9) (line := m.line) (serial := 0) (turn := m.turn) (value := l.value) (LX := foc 67 vL ls m.line.toNat [vi 0, vi 0, vi 0, vi l.serial, vi m.turn, vi m.turn, vi l.value] :: row 102 v121 (ds ++ [(⟨id, q, 0⟩ : Done)]) :: blk bm 105 m.cells :: LX) (Af hs) hn (by unfold Msg.wf Ao; simp only; omega)) ?_; intro v142
 refine Gl ?_
 have ef : Cm l m.kind m.turn = { l with seen := m.turn, gave := m.turn, given := l.value, state := 0, value := 0, want := 0 } := by unfold Cm; rw [if_pos ht95]
 have er : (Ac ⟨ls, q⟩ id home m) = (⟨ls.set m.line.toNat ({ l with seen := m.turn, gave := m.turn, given := l.value, state := 0, value := 0, want := 0 }), zOp⟩, [Bk 9 id home m.line m.turn l.value], [⟨id, q, 0⟩]) := by rw [G4 hl hi hk, if_pos (by unfold Ew; omega), ef, if_pos ht95, if_pos ht95]
 rw [er]
 revert v120 v121 ρ v142 ef er
 exact kZ.out) : p := h ⟨k⟩
theorem ZE {p q : Prop} (k : q) (h : BkZ p q := by
 intro kZ
 refine rn4 ?_
 refine gy ?_
 exact kZ.out) : p := h ⟨k⟩
theorem ZaQ {p q : Prop} (k : q) (h : BkZ p q := by
 intro kZ
 refine djc (fun _ _ => Ai rfl rfl (Av (by omega))) ?_
 exact kZ.out) : p := h ⟨k⟩
theorem Za8 {p q : Prop} (k : q) (h : BkZ p q := by
 intro kZ
 have hid0 := hid
 have hhome0 := hhome
 unfold Ao at hid0 hhome0
 revert hid0 hhome0
 exact kZ.out) : p := h ⟨k⟩
theorem Za9 {p q : Prop} (k : q) (h : BkZ p q := by
 intro kZ
 have hlen := Bv hu hs
 have hone0 : u.oneCell' = true := isSlice.one (hs.fact hu)
 have hn4 : ls.length ≤ 4 := hk.n
 have hm0 := hm
 unfold Msg.wf Ao at hm0
 refine Za8 ?_;intro hid0 hhome0
 refine Ah Try.func42 rfl Try.ntmps42 rfl hs ?_
 revert hlen hone0 hn4 hm0 hid0 hhome0
 exact kZ.out) : p := h ⟨k⟩
theorem ZaG {p q : Prop} (k : q) (h : BkZ p q := by
 intro kZ
 refine JC.slNil Core ?_
 refine JC.slNil Entry ?_
 refine JC.slNil (List UInt8) ?_
 exact kZ.out) : p := h ⟨k⟩
theorem ZM {p q : Prop} (k : q) (h : BkZ p q := by
 intro kZ
 refine JC.slNil Done ?_
 exact kZ.out) : p := h ⟨k⟩
theorem ZaZ {p q : Prop} (k : q) (h : BkZ p q := by
 intro kZ
 refine ob (D5 (cs := [.slice none 0 0, .slice none 0 0, .slice none 0 0]) G9) ?_
 exact kZ.out) : p := h ⟨k⟩
theorem Zbr {p q : Prop} (k : q) (h : BkZ p q := by
 intro kZ
 refine Aa ?_
 refine ZaZ ?_
 refine rn1 ?_
 refine s_B (cs := [.slice none 0 0, .slice none 0 0, .slice none 0 0]) Try.sizeOf38 ?_
 refine Ga2 ?_
 exact kZ.out) : p := h ⟨k⟩
theorem ZaR {p q : Prop} (k : q) (h : BkZ p q := by
 intro kZ
 refine ZaG ?_
 refine ZM ?_
 refine Zbr ?_
 exact kZ.out) : p := h ⟨k⟩
theorem ZaA {p q : Prop} (k : q) (h : BkZ p q := by
 intro kZ
 refine J.know (p := cY.oneCell' = true ∧ hY.oneCell' = true ∧ fY.oneCell' = true) (fun w hs => ⟨A6 .hd hs, isSlice.one (hs.fact (mm (f := sl hY x.home))), isSlice.one (hs.fact (mm (f := sl fY x.frames)))⟩) (fun h12 => ?_)
 revert h12
 exact kZ.out) : p := h ⟨k⟩
theorem ZB {p q : Prop} (k : q) (h : BkZ p q := by
 intro kZ
 refine Aa ?_
 refine rn2 ?_
 exact kZ.out) : p := h ⟨k⟩
theorem ZH {p q : Prop} (k : q) (h : BkZ p q := by
 intro kZ
 refine Gm ?_
 refine Gb1 ?_
 exact kZ.out) : p := h ⟨k⟩
theorem ZaB {p q : Prop} (k : q) (h : BkZ p q := by
 intro kZ
 refine al_ (cs := [.slice none 0 0, .slice none 0 0, .slice none 0 0]) Try.zeroValue38 ?_; intro b7
 refine s_B (cs := [cY, hY, fY]) Try.sizeOf38 ?_
 refine ZH ?_
 refine Gb1 ?_
 refine Gb2 ?_
 revert b7
 exact kZ.out) : p := h ⟨k⟩
theorem ZW {p q : Prop} (k : q) (h : BkZ p q := by
 intro kZ
 refine ob (Aq Try.underlying3 Try.underlying5 rfl (Bm _)) ?_
 exact kZ.out) : p := h ⟨k⟩
theorem ZbT {p q : Prop} (k : q) (h : BkZ p q := by
 intro kZ
 refine cq_ (blk b8 57 [.slice none 0 0, vi 0, vi 0, vi 0] :: blk b18 98 [vL, vi q.kind, vi q.line, vi q.value, vi id, vi home, .slice none 0 0, .slice none 0 0] :: L) ?_
 refine jd_ (fun ρ S => blk b8 57 (bif S 12 then [vL, vi q.kind, vi q.line, vi q.value] else [.slice none 0 0, vi 0, vi 0, vi 0]) :: blk b18 98 [vL, vi q.kind, vi q.line, vi q.value, vi id, vi home, .slice none 0 0, .slice none 0 0] :: L) ?_
 refine dn3 ?_
 refine Jn (v := .agg ([vL, vi q.kind, vi q.line, vi q.value]).toArray) (fun _ _ => Ev (b := b18) (f := 0) (vs := [vL, vi q.kind, vi q.line, vi q.value, vi id, vi home, .slice none 0 0, .slice none 0 0]) 4 Try.isAgg57 Try.sizeOf57) (fun _ _ _ _ _ => rfl) ?_
 refine ZaO ?_
 refine dn2 ?_
 refine dnl ?_; intro ρ
 refine xq_ (blk b8 57 [vL, vi q.kind, vi q.line, vi q.value] :: blk b18 98 [vL, vi q.kind, vi q.line, vi q.value, vi id, vi home, .slice none 0 0, .slice none 0 0] :: L) ?_
 refine Gl ?_
 revert ρ
 exact kZ.out) : p := h ⟨k⟩
theorem ZaC {p q : Prop} (k : q) (h : BkZ p q := by
 intro kZ
 refine Gm ?_
 refine bx ?_; intro b2
 refine bx ?_; intro b3
 refine al_ (cs := [.slice none 0 0, .slice none 0 0, .slice none 0 0]) Try.zeroValue38 ?_; intro b4
 refine Gb2 ?_
 refine rn1 ?_
 revert b2 b3 b4
 exact kZ.out) : p := h ⟨k⟩
theorem ZY {p q : Prop} (k : q) (h : BkZ p q := by
 intro kZ
 refine djc (fun _ _ => D8) ?_
 exact kZ.out) : p := h ⟨k⟩
theorem Zba {p q : Prop} (k : q) (h : BkZ p q := by
 intro kZ
 refine JC.slNil Line ?_
 refine JC.slNil Msg ?_
 refine ZM ?_
 refine kp [1, 2, 4, 7, 8, 9, 10, 11, 46] ?_
 refine Aa ?_
 refine ob (D5 (cs := [.slice none 0 0, vi 0, vi 0, vi 0]) J0) ?_
 refine s_B Try.sizeOf57 ?_
 refine Ga3 ?_
 have er : (Aj ⟨ls, q0⟩ id home q) = (Ez, [], [], 3) := Xt (by omega) (by omega)
 rw [er]
 revert er
 exact kZ.out) : p := h ⟨k⟩
theorem Zam {p q : Prop} (k : q) (h : BkZ p q := by
 intro kZ
 have hEB : EB (Ad (Ag l m.line) id m).1 := C2 hE hm (by omega)
 refine JC.shut (v := uo) (xs := (Ad (Ag l m.line) id m).1.last) pkk ?_
 refine JC.unfocus (Ad (Ag l m.line) id m).1 pkk (Cv mm hEB.1) ?_
 refine JC.shut (v := g13.1) pkk ?_
 revert hEB
 exact kZ.out) : p := h ⟨k⟩
theorem Zan {p q : Prop} (k : q) (h : BkZ p q := by
 intro kZ
 refine A8 ?_
 refine dn7 ?_
 refine dnl ?_; intro ρ
 refine Gl ?_
 have er : Al l id m = (l.set m.line.toNat (Ad (Ag l m.line) id m).1, (Ad (Ag l m.line) id m).2) := by unfold Al; rw [if_neg (by omega)]
 rw [er]
 revert ρ er
 exact kZ.out) : p := h ⟨k⟩
theorem Zbs {p q : Prop} (k : q) (h : BkZ p q := by
 intro kZ
 refine Zam ?_;intro hEB
 refine kp [6, 7, 8, 10, 239, 240, 241, 242, 243] ?_
 refine Zan ?_;intro ρ er
 revert hEB ρ er
 exact kZ.out) : p := h ⟨k⟩
theorem ZC {p q : Prop} (k : q) (h : BkZ p q := by
 intro kZ
 refine Aa ?_
 refine rn1 ?_
 exact kZ.out) : p := h ⟨k⟩
theorem Zaw {p q : Prop} (k : q) (h : BkZ p q := by
 intro kZ
 refine Gm ?_
 refine bx ?_; intro b5
 refine Gb2 ?_
 refine rn1 ?_
 refine Ak Try.call31 rfl (fun w hs => F2 (l := l) hs mm) ?_; intro g13
 refine Ga1 ?_
 revert b5 g13
 exact kZ.out) : p := h ⟨k⟩
theorem ZA {p q : Prop} (k : q) (h : BkZ p q := by
 intro kZ
 refine Gm ?_
 refine Ga1 ?_
 exact kZ.out) : p := h ⟨k⟩
theorem Zax {p q : Prop} (k : q) (h : BkZ p q := by
 intro kZ
 refine sc ?_
 refine rn2 ?_
 exact kZ.out) : p := h ⟨k⟩
theorem ZaH {p q : Prop} (k : q) (h : BkZ p q := by
 intro kZ
 refine Zax ?_
 refine sc ?_
 refine Gl ?_
 exact kZ.out) : p := h ⟨k⟩
theorem ZbU {p q : Prop} (k : q) (h : BkZ p q := by
 intro kZ
 refine Gm ?_
 refine rn3 ?_
 refine sc ?_
 refine Gm ?_
 refine rn4 ?_
 refine ZaH ?_
 refine cq_ (blk bk 98 [vL, vi q.kind, vi q.line, vi q.value, vi id, vi home, vo, vd] :: row 102 vd ds :: foc 67 vL ls m.line.toNat [vi 0, vi 0, vi 0, vi l.serial, vi m.turn, vi m.turn, vi l.value] :: row 105 vo ms :: blk bm 105 m.cells :: LX) ?_
 refine jd_ (fun ρ S => blk bk 98 (bif S 19 then [vL, vi q.kind, vi q.line, vi q.value, vi id, vi home, vo, (Gh.dec (γ := Value) (ρ 16))] else [vL, vi q.kind, vi q.line, vi q.value, vi id, vi home, vo, vd]) :: (bif S 16 then row 102 (Gh.dec (γ := Value) (ρ 16)) (ds ++ [(⟨id, q, 0⟩ : Done)]) else row 102 vd ds) :: foc 67 vL ls m.line.toNat [vi 0, vi 0, vi 0, vi l.serial, vi m.turn, vi m.turn, vi l.value] :: row 105 vo ms :: blk bm 105 m.cells :: (LX)) ?_
 refine dn4 ?_
 exact kZ.out) : p := h ⟨k⟩
theorem Zay {p q : Prop} (k : q) (h : BkZ p q := by
 intro kZ
 have hlen := Bv h0 hs
 have hm0 := hm
 unfold Msg.wf Ao at hm0
 have hid0 := hid
 unfold Ao at hid0
 refine Ah Try.func41 rfl Try.ntmps41 rfl hs ?_
 revert hlen hm0 hid0
 exact kZ.out) : p := h ⟨k⟩
theorem ZbV {p q : Prop} (k : q) (h : BkZ p q := by
 intro kZ
 refine ob (Ei (a := (ent x i).sharers) (b := (p : Int)) (Kr hsh.1 hsh.2 (by omega) (by omega))) ?_
 refine gy ?_
 refine ob (Ei (a := (((ent x i).sharers.toNat / 2 ^ (p : Int).toNat : Nat) : Int)) (b := 1) (Ht hsh.1 hsh.2 (by omega) (by omega))) ?_
 refine gy ?_
 exact kZ.out) : p := h ⟨k⟩
theorem Zbt {p q : Prop} (k : q) (h : BkZ p q := by
 intro kZ
 refine e_p (v := fun ρ => (Gh.dec (γ := Value × Value) (ρ 6)).1) (fun _ _ => q_x) (Ind.gh (h := fun g => ((Gh.dec (γ := Value × Value) g).1 : Value)) 6 1 rfl) (fun _ _ _ _ _ => rfl) ?_
 refine e_p (v := fun ρ => (Gh.dec (γ := Value × Value) (ρ 6)).2) (fun _ _ => q_x) (Ind.gh (h := fun g => ((Gh.dec (γ := Value × Value) g).2 : Value)) 6 1 rfl) (fun _ _ _ _ _ => rfl) ?_
 exact kZ.out) : p := h ⟨k⟩
theorem Zbu {p q : Prop} (k : q) (h : BkZ p q := by
 intro kZ
 refine e_p (v := fun ρ => (Gh.dec (γ := Value × Value) (ρ 6)).1) (fun _ _ => Ch) (Ind.gh (h := fun g => ((Gh.dec (γ := Value × Value) g).1 : Value)) 6 0 rfl) (fun _ _ _ _ _ => rfl) ?_
 refine e_p (v := fun ρ => (Gh.dec (γ := Value × Value) (ρ 6)).2) (fun _ _ => Ch) (Ind.gh (h := fun g => ((Gh.dec (γ := Value × Value) g).2 : Value)) 6 0 rfl) (fun _ _ _ _ _ => rfl) ?_
 exact kZ.out) : p := h ⟨k⟩
theorem Zbb {p q : Prop} (k : q) (h : BkZ p q := by
 intro kZ
 refine ZaG ?_
 refine Aa ?_
 refine ZaZ ?_
 refine s_B Try.sizeOf38 ?_
 refine Ga1 ?_
 have er : Aw c = (Dd, 3) := F7 (by omega)
 rw [er]
 revert er
 exact kZ.out) : p := h ⟨k⟩
theorem Zaj {p q : Prop} (k : q) (h : BkZ p q := by
 intro kZ
 refine Bb ?_
 refine rn6 ?_
 refine gy ?_
 refine Ea ?_
 exact kZ.out) : p := h ⟨k⟩
theorem Zao {p q : Prop} (k : q) (h : BkZ p q := by
 intro kZ
 refine dc (fun _ _ => Ai rfl rfl (C6 (by omega))) ?_
 refine ZT ?_
 refine dn2 ?_
 exact kZ.out) : p := h ⟨k⟩
theorem Zbv {p q : Prop} (k : q) (h : BkZ p q := by
 intro kZ
 refine kp [1, 2, 3, 4, 5, 6, 7, 8, 10, 11, 12, 13, 14, 15, 16, 17, 18, 19, 20, 21, 22, 23, 24, 25, 26, 27, 28, 29, 30, 31, 32, 33, 34, 35, 36, 37, 38, 39, 40, 41, 42, 43, 44, 45, 46, 47, 48, 49, 50, 51, 52, 53, 54, 55, 56, 57, 58, 59, 60, 61, 62, 63, 64, 65, 66, 67, 68, 69, 70, 71, 72, 73, 74, 75, 76, 77, 78, 79, 80, 81, 82, 83, 84, 85, 86] ?_
 exact kZ.out) : p := h ⟨k⟩
theorem ZF {p q : Prop} (k : q) (h : BkZ p q := by
 intro kZ
 refine Az ?_
 refine Gd1 ?_
 exact kZ.out) : p := h ⟨k⟩
theorem Zap {p q : Prop} (k : q) (h : BkZ p q := by
 intro kZ
 refine dc (fun _ _ => Ai rfl rfl (Av (by omega))) ?_
 exact kZ.out) : p := h ⟨k⟩
theorem Zaz {p q : Prop} (k : q) (h : BkZ p q := by
 intro kZ
 refine dc (fun _ _ => Ai rfl rfl (C1 (by omega))) ?_
 refine ZT ?_
 refine dn9 ?_
 exact kZ.out) : p := h ⟨k⟩
theorem ZD {p q : Prop} (k : q) (h : BkZ p q := by
 intro kZ
 refine Gm ?_
 refine Ga2 ?_
 exact kZ.out) : p := h ⟨k⟩
theorem Zbc {p q : Prop} (k : q) (h : BkZ p q := by
 intro kZ
 refine JC.slNil Line ?_
 refine JC.slNil Msg ?_
 refine ZM ?_
 refine Aa ?_
 refine ob (D5 (cs := [.slice none 0 0, vi 0, vi 0, vi 0]) J0) ?_
 refine s_B Try.sizeOf57 ?_
 refine Ga3 ?_
 exact kZ.out) : p := h ⟨k⟩
theorem Zbw {p q : Prop} (k : q) (h : BkZ p q := by
 intro kZ
 refine JC.conseq (L' := row 67 vL ls :: blk b68 98 [vL, vi q0.kind, vi q0.line, vi q0.value, vi id, vi home, .slice none 0 0, .slice none 0 0] :: blk b8 57 [.slice none 0 0, vi 0, vi 0, vi 0] :: blk b7 33 q.cells :: L) (fun w hs => Af (C8 hl hlw (hs.pick pkk))) ?_
 exact kZ.out) : p := h ⟨k⟩
theorem Zbd {p q : Prop} (k : q) (h : BkZ p q := by
 intro kZ
 refine F3 (ls := ls) (l := l) (i := m.line) pkk hl (by omega) (by omega) (fun hlw hA => ?_)
 have hlw0 := hlw
 unfold Line.wf Ao at hlw0
 have honeL : (ep vL 7 m.line.toNat 0).oneCell' = true := hA.one
 refine A8 ?_
 revert hlw hA hlw0 honeL
 exact kZ.out) : p := h ⟨k⟩
theorem ZbW {p q : Prop} (k : q) (h : BkZ p q := by
 intro kZ
 refine kp [0, 1, 96, 97, 98, 99, 100, 101, 102, 103, 104] ?_
 refine A8 ?_
 refine dn9 ?_
 refine dtl ?_; intro ρ
 refine Ak Try.call61 rfl (fun w hs => Ed (vL := vL) (vd := vd) (q := q) (id := id) (home := home) (ms := ms) (kind := 10) (line := m.line) (serial := 0) (turn := m.turn) (value := 0) (LX := foc 67 vL ls m.line.toNat [vi l.state, vi l.value, vi l.want, vi l.serial, vi l.seen, vi l.gave, vi l.given] :: row 102 vd ds :: blk bm 105 m.cells :: LX) (Af hs) hn (by unfold Msg.wf Ao; simp only; omega)) ?_; intro v105
 refine Gl ?_
 revert ρ v105
 exact kZ.out) : p := h ⟨k⟩
theorem ZG {p q : Prop} (k : q) (h : BkZ p q := by
 intro kZ
 refine Aa ?_
 refine rn4 ?_
 exact kZ.out) : p := h ⟨k⟩
theorem Zbx {p q : Prop} (k : q) (h : BkZ p q := by
 intro kZ
 refine kp [1, 2, 3, 4, 5, 6, 7, 8, 10, 11, 12, 13, 14, 15, 16, 17, 18, 19, 20, 21, 22, 23, 24, 25, 26, 27, 28, 29, 30, 31, 32, 33, 34, 35, 36, 37, 38, 39, 40, 41, 42, 43, 44, 45, 46, 47, 48, 49, 50, 51, 52, 53, 54, 55, 56, 57, 58, 59, 60, 61, 62] ?_
 exact kZ.out) : p := h ⟨k⟩
theorem ZZ {p q : Prop} (k : q) (h : BkZ p q := by
 intro kZ
 refine dc (fun _ _ => Ai rfl rfl (A1 (by omega))) ?_
 exact kZ.out) : p := h ⟨k⟩
theorem Zbe {p q : Prop} (k : q) (h : BkZ p q := by
 intro kZ
 refine dj ?_
 refine dc (fun _ _ => It (v := vL) (i := m.line) Kz (hl := Cd (α := Line) (xs := ls) pkk)) ?_
 refine ZI ?_;intro ρ
 refine Gl ?_
 revert ρ
 exact kZ.out) : p := h ⟨k⟩
theorem Zbf {p q : Prop} (k : q) (h : BkZ p q := by
 intro kZ
 refine dnl ?_; intro ρ
 refine Glc ?_
 refine kp [1, 5, 6, 7, 8, 41] ?_
 refine Aa ?_
 refine Ga3 ?_
 have er : Al l id m = (l, []) := by unfold Al; rw [if_pos (by omega)]
 rw [er]
 revert ρ er
 exact kZ.out) : p := h ⟨k⟩
theorem Zaq {p q : Prop} (k : q) (h : BkZ p q := by
 intro kZ
 refine J.nil ?_
 refine A2 ?_
 exact kZ.out) : p := h ⟨k⟩
theorem Zaa {p q : Prop} (k : q) (h : BkZ p q := by
 intro kZ
 refine C7 rfl ?_
 refine Zaq ?_
 exact kZ.out) : p := h ⟨k⟩
theorem Zby {p q : Prop} (k : q) (h : BkZ p q := by
 intro kZ
 refine Ie ([(⟨id, q, 0⟩ : Done)] : List Done) K1 rfl (fun _ => rfl) rfl (fun _ => rfl) rfl rfl (fun ρ R hd => Mu ⟨hid, hq.1, hq.2.1, hq.2.2, by unfold Ao; simp only; omega⟩) (fun _ _ _ _ _ => rfl) ?_
 exact kZ.out) : p := h ⟨k⟩
theorem ZJ {p q : Prop} (k : q) (h : BkZ p q := by
 intro kZ
 refine sc ?_
 refine Gm ?_
 exact kZ.out) : p := h ⟨k⟩
theorem ZbX {p q : Prop} (k : q) (h : BkZ p q := by
 intro kZ
 refine ZaG ?_
 refine ZM ?_
 refine Aa ?_
 refine ZaZ ?_
 refine s_B (cs := [.slice none 0 0, .slice none 0 0, .slice none 0 0]) Try.sizeOf38 ?_
 refine Ga2 ?_
 have er : Am x s = (Dd, [], 5) := by unfold Am Ba; rw [if_pos (by omega), if_pos (by omega)]
 rw [er]
 revert er
 exact kZ.out) : p := h ⟨k⟩
theorem ZbY {p q : Prop} (k : q) (h : BkZ p q := by
 intro kZ
 have hbn : EB ({ e with need := 0, phase := 3 }) := en ▸ Fo hb
 refine Ak Try.call65 rfl (fun w hs => Gv (e := { e with need := 0, phase := 3 }) (u := u) (ms := ms) (line := line) (id := id) (LX := foc 54 vh xs i [vi e.value, vi e.owner, vi e.sharers, vi 3, vi e.who, vi e.serial, .bool e.alone, vi e.turn, vi 0, u] :: LX) (Af hs) (Kt .hd rfl) hA hn hbn hl hid) ?_; intro v72
 refine Gl ?_
 rw [en]
 revert hbn v72
 exact kZ.out) : p := h ⟨k⟩
theorem ZaS {p q : Prop} (k : q) (h : BkZ p q := by
 intro kZ
 refine JC.conseq (L' := foc 54 g13.1 l m.line.toNat (Entry.cells uo (Ad (Ag l m.line) id m).1) :: row 3 uo (Ad (Ag l m.line) id m).1.last :: blk b51 136 [ep g13.1 10 m.line.toNat 0, vi m.line, vi id, .slice none 0 0] :: row 105 (.slice none 0 0) (Ad (Ag l m.line) id m).2 :: L) (fun w hs => by rw [eh]; exact Af hs) ?_
 exact kZ.out) : p := h ⟨k⟩
theorem Zbg {p q : Prop} (k : q) (h : BkZ p q := by
 intro kZ
 have eh : (Ad (Ag l m.line) id m) = ((Ag l m.line), []) := by unfold Ad; rw [if_neg (by omega), if_neg (by omega), if_neg (by omega), if_neg (by omega), if_neg (by omega)]
 refine ZaS ?_
 refine Zam ?_;intro hEB
 refine Zan ?_;intro ρ er
 revert eh hEB ρ er
 exact kZ.out) : p := h ⟨k⟩
theorem ZN {p q : Prop} (k : q) (h : BkZ p q := by
 intro kZ
 refine ob (Cu rfl (decide_eq_true (by omega))) ?_
 refine ZE ?_
 exact kZ.out) : p := h ⟨k⟩
theorem Za0 {p q : Prop} (k : q) (h : BkZ p q := by
 intro kZ
 refine ZE ?_
 refine Bb ?_
 refine ZE ?_
 exact kZ.out) : p := h ⟨k⟩
theorem Zbz {p q : Prop} (k : q) (h : BkZ p q := by
 intro kZ
 refine kp [1, 7, 8, 9, 10, 11, 12, 42, 43] ?_
 refine Aa ?_
 refine Gb2 ?_
 exact kZ.out) : p := h ⟨k⟩
theorem Zbh {p q : Prop} (k : q) (h : BkZ p q := by
 intro kZ
 refine ZaX ?_;intro b4 b7 b8 vL honeV b18
 refine ZB ?_
 refine Zaj ?_
 refine Gc1 ?_
 refine A8 ?_
 refine dn9 ?_
 refine dnl ?_; intro ρ
 refine Gl ?_
 refine Zbz ?_
 refine ZF ?_
 revert b4 b7 b8 vL honeV b18 ρ
 exact kZ.out) : p := h ⟨k⟩
theorem ZbZ {p q : Prop} (k : q) (h : BkZ p q := by
 intro kZ
 refine rn2 ?_
 refine ZW ?_
 refine rn2 ?_
 refine ob (Ai rfl rfl (Yo (by omega) (by omega))) ?_
 refine rn2 ?_
 refine ob (Ai rfl rfl U1) ?_
 refine ob (Ai rfl rfl (Yp (by omega) (by omega) (by omega) (by omega))) ?_
 refine ZW ?_
 refine rn2 ?_
 refine ZW ?_
 refine rn2 ?_
 refine ob (Ai rfl rfl F9) ?_
 refine ZW ?_
 refine rn2 ?_
 refine ZW ?_
 refine rn2 ?_
 refine ob (Ai rfl rfl F9) ?_
 refine ZW ?_
 refine rn2 ?_
 refine ZW ?_
 refine rn2 ?_
 refine ZW ?_
 refine rn1 ?_
 exact kZ.out) : p := h ⟨k⟩
theorem ZaD {p q : Prop} (k : q) (h : BkZ p q := by
 intro kZ
 refine JC.know (p := uo.oneCell' = true) (fun w hs => Fq (.head _) hs) (fun honeo => ?_)
 refine ZbP ?_;intro hEw u hE hE0 hL hone hlin
 revert honeo hEw u hE hE0 hL hone hlin
 exact kZ.out) : p := h ⟨k⟩
theorem Zb0 {p q : Prop} (k : q) (h : BkZ p q := by
 intro kZ
 refine kp [1, 2, 8, 9, 12, 13, 14, 15, 17, 19, 20, 22, 50, 51, 52, 53, 54, 55, 56, 57, 58, 59, 60, 61, 62, 63, 64, 65, 66, 67, 68, 69, 70, 71, 72, 73, 74, 75, 76, 77, 78, 79, 80, 81, 82] ?_
 refine ZC ?_
 exact kZ.out) : p := h ⟨k⟩
theorem Zak {p q : Prop} (k : q) (h : BkZ p q := by
 intro kZ
 refine A8 ?_
 refine dn6 ?_
 exact kZ.out) : p := h ⟨k⟩
theorem ZaI {p q : Prop} (k : q) (h : BkZ p q := by
 intro kZ
 refine Zak ?_
 refine ZaQ ?_
 refine djc (fun _ _ => Ch) ?_
 refine ZaW ?_;intro ρ
 revert ρ
 exact kZ.out) : p := h ⟨k⟩
theorem Zb1 {p q : Prop} (k : q) (h : BkZ p q := by
 intro kZ
 refine Ie ([(⟨11, id, m.src, line, m.serial, 0, 0, false⟩ : Msg)] : List Msg) Km rfl (fun _ => rfl) rfl (fun _ => rfl) rfl rfl (fun ρ R hd => S1 hwf) (fun _ _ _ _ _ => rfl) ?_
 exact kZ.out) : p := h ⟨k⟩
theorem ZX {p q : Prop} (k : q) (h : BkZ p q := by
 intro kZ
 refine ZY ?_
 refine djm ?_
 exact kZ.out) : p := h ⟨k⟩
theorem Za1 {p q : Prop} (k : q) (h : BkZ p q := by
 intro kZ
 refine Zap ?_
 refine ZX ?_
 refine dn6 ?_
 exact kZ.out) : p := h ⟨k⟩
theorem Zb2 {p q : Prop} (k : q) (h : BkZ p q := by
 intro kZ
 refine J.know (p := va.oneCell' = true) (fun w hs => isSlice.one (hs.fact (.head _))) (fun honeva => ?_)
 refine rn4 ?_
 refine sc ?_
 refine Ga1 ?_
 refine kp [4, 5, 6, 7, 8, 9, 114, 115] ?_
 revert honeva
 exact kZ.out) : p := h ⟨k⟩
theorem Zb3 {p q : Prop} (k : q) (h : BkZ p q := by
 intro kZ
 refine T8 (fun _ => rfl) (by first | exact Ind.const _ | exact fun _ _ _ _ _ => rfl | exact Ind.self | exact Ind.gh _ 3 rfl) (fun _ _ _ _ => rfl) ?_
 refine dj ?_
 exact kZ.out) : p := h ⟨k⟩
theorem Zca {p q : Prop} (k : q) (h : BkZ p q := by
 intro kZ
 refine dn4 ?_
 refine Hv (v := .agg q.cells.toArray) (fun ρ S hS hB hA => by have h19 : S 19 = false := hA 19 ⟨9, rfl⟩; simp only [h19, cond_false]; exact Ev (b := bk) (f := 1) (vs := [vL, vi q.kind, vi q.line, vi q.value, vi id, vi home, vo, vd]) 3 Try.isAgg33 Try.sizeOf33) (fun _ _ _ _ _ => rfl) ?_
 exact kZ.out) : p := h ⟨k⟩
theorem Zb4 {p q : Prop} (k : q) (h : BkZ p q := by
 intro kZ
 refine JC.shut (v := vL) (xs := ls) .hd ?_
 refine JC.slNil Msg ?_
 refine ZM ?_
 exact kZ.out) : p := h ⟨k⟩
theorem Zcb {p q : Prop} (k : q) (h : BkZ p q := by
 intro kZ
 refine Zb4 ?_
 refine Aa ?_
 refine rn3 ?_
 refine ob (Ev 4 Try.isAgg57 Try.sizeOf57) ?_
 refine s_B (cs := [vL, vi q.kind, vi q.line, vi q.value]) Try.sizeOf57 ?_
 refine Ga2 ?_
 have er : (Ac ⟨ls, q⟩ id home m) = (⟨ls, q⟩, [], []) := Pz hg
 rw [er]
 revert er
 exact kZ.out) : p := h ⟨k⟩
theorem Zbi {p q : Prop} (k : q) (h : BkZ p q := by
 intro kZ
 refine kp [0, 3, 4, 5, 6] ?_
 refine Aa ?_
 refine Ga3 ?_
 have er : Dh m o = ([], 0, 3) := Fh (by omega) (by omega)
 rw [er]
 revert er
 exact kZ.out) : p := h ⟨k⟩
theorem Zcc {p q : Prop} (k : q) (h : BkZ p q := by
 intro kZ
 refine dnl ?_; intro ρ
 refine Glc ?_
 refine kp [1, 2, 4, 5, 6, 7, 8, 15, 16, 17, 18, 19, 20, 21, 22, 23, 24, 25, 26, 27, 28, 29, 30, 31, 32, 33, 34, 35, 36, 37, 38, 39, 40, 41, 42, 43, 44, 45, 46, 47, 48, 49, 50, 51, 52, 53, 54, 55] ?_
 refine Aa ?_
 refine Ga5 ?_
 have er : Cz x i = (lin x i p).value := Mg hvn ho (by omega)
 rw [er]
 revert ρ er
 exact kZ.out) : p := h ⟨k⟩
theorem Zb5 {p q : Prop} (k : q) (h : BkZ p q := by
 intro kZ
 refine F3 (ls := ls) (l := l) (i := q.line) pkk hl (by omega) (by omega) (fun hlw hA => ?_)
 have hlw0 := hlw
 unfold Line.wf Ao at hlw0
 have honeL : (ep vL 7 q.line.toNat 0).oneCell' = true := hA.one
 revert hlw hA hlw0 honeL
 exact kZ.out) : p := h ⟨k⟩
theorem Zb6 {p q : Prop} (k : q) (h : BkZ p q := by
 intro kZ
 refine JC.shut (v := cY) (xs := x.cores) pkk ?_
 refine ZM ?_
 refine ZB ?_
 refine s_B (cs := [cY, hY, va]) Try.sizeOf38 ?_
 refine Ga2 ?_
 exact kZ.out) : p := h ⟨k⟩
theorem Zb7 {p q : Prop} (k : q) (h : BkZ p q := by
 intro kZ
 have hnt : Ck x.frames s.n = (x.frames.eraseIdx s.n.toNat, Cq x.frames s.n, 0) := by unfold Ck; rw [if_neg (show ¬ (s.n < 0 ∨ (x.frames.length : Int) ≤ s.n) from hc)]
 revert hnt
 exact kZ.out) : p := h ⟨k⟩
theorem Zcd {p q : Prop} (k : q) (h : BkZ p q := by
 intro kZ
 refine cq_ (foc 54 vh xs i [vi e.value, vi e.owner, vi e.sharers, vi e.phase, vi e.who, vi e.serial, .bool e.alone, vi e.turn, vi e.need, u] :: blk bk 136 [(ep vh 10 i 0), vi line, vi id, vo] :: row 105 vo ms :: row 3 u (e.last.set m.src.toNat m.serial) :: blk bm 105 m.cells :: LX) ?_
 exact kZ.out) : p := h ⟨k⟩
theorem Zce {p q : Prop} (k : q) (h : BkZ p q := by
 intro kZ
 refine rn1 ?_
 refine Ak Try.call58 rfl (fun w hs => Ts (vh := g13.1) (vo := .slice none 0 0) (u := uo) (i := m.line.toNat) (e := (Ag l m.line)) (ms := []) (line := m.line) (id := id) (xs := l) (m := m) (bm := b5) (LX := L) (Af hs) hA honeo (by simp) hE hm.2.2.2.1 hid hm rfl (by omega) hL (by omega)) ?_; intro v69
 revert v69
 exact kZ.out) : p := h ⟨k⟩
theorem ZK {p q : Prop} (k : q) (h : BkZ p q := by
 intro kZ
 refine rn3 ?_
 refine gy ?_
 exact kZ.out) : p := h ⟨k⟩
theorem ZaE {p q : Prop} (k : q) (h : BkZ p q := by
 intro kZ
 refine ZG ?_
 refine C3 ?_
 refine ZE ?_
 exact kZ.out) : p := h ⟨k⟩
theorem Zab {p q : Prop} (k : q) (h : BkZ p q := by
 intro kZ
 refine rn5 ?_
 refine gy ?_
 exact kZ.out) : p := h ⟨k⟩
theorem Zb8 {p q : Prop} (k : q) (h : BkZ p q := by
 intro kZ
 refine ZaE ?_
 refine ZbV ?_
 refine ob (Ai rfl rfl (Av (by rw [if_neg hm.2.1]))) ?_
 refine Zab ?_
 exact kZ.out) : p := h ⟨k⟩
theorem Zbj {p q : Prop} (k : q) (h : BkZ p q := by
 intro kZ
 simp only [Int.toNat_natCast, hi]
 refine hI.way fun m' hm' => ?_
 rw [List.mem_singleton.1 hm']
 exact kZ.out) : p := h ⟨k⟩
theorem ZL {p q : Prop} (k : q) (h : BkZ p q := by
 intro kZ
 refine Gb1 ?_
 refine Ga2 ?_
 exact kZ.out) : p := h ⟨k⟩
theorem Zb9 {p q : Prop} (k : q) (h : BkZ p q := by
 intro kZ
 refine dnl ?_; intro ρ
 refine Glc ?_
 have er : Ad e id m = (e, []) := by unfold Ad; rw [if_pos (by omega), if_pos (by unfold Fe; omega)]
 rw [er, List.append_nil]
 revert ρ er
 exact kZ.out) : p := h ⟨k⟩
theorem Zcf {p q : Prop} (k : q) (h : BkZ p q := by
 intro kZ
 refine cq_ (foc 67 vL ls m.line.toNat [vi l.state, vi l.value, vi l.want, vi l.serial, vi l.seen, vi l.gave, vi l.given] :: blk bk 98 [vL, vi q.kind, vi q.line, vi q.value, vi id, vi home, vo, vd] :: row 105 vo ms :: row 102 vd ds :: blk bm 105 m.cells :: LX) ?_
 exact kZ.out) : p := h ⟨k⟩
theorem ZQ {p q : Prop} (k : q) (h : BkZ p q := by
 intro kZ
 refine Aa ?_
 refine Dl rfl ?_
 exact kZ.out) : p := h ⟨k⟩
theorem Zcg {p q : Prop} (k : q) (h : BkZ p q := by
 intro kZ
 refine djf ?_
 refine dnl ?_; intro ρ
 refine Glc ?_
 refine kp [1, 2, 4, 5, 6, 7, 8, 15, 16, 17, 18, 19, 20, 21, 22, 23, 24, 25, 26, 27, 28, 29, 30, 31, 32, 33, 34, 35, 36, 37, 38, 39, 40, 41, 42, 43, 44, 45, 46, 47, 48, 49, 50, 51, 52, 53, 54, 55, 56] ?_
 refine Aa ?_
 refine Ga2 ?_
 revert ρ
 exact kZ.out) : p := h ⟨k⟩
theorem ZR {p q : Prop} (k : q) (h : BkZ p q := by
 intro kZ
 refine A8 ?_
 refine dn8 ?_
 exact kZ.out) : p := h ⟨k⟩
theorem Zar {p q : Prop} (k : q) (h : BkZ p q := by
 intro kZ
 refine ZB ?_
 refine Bb ?_
 refine ZK ?_
 refine D9 ?_
 exact kZ.out) : p := h ⟨k⟩
theorem ZbA {p q : Prop} (k : q) (h : BkZ p q := by
 intro kZ
 refine kp [0, 1, 4, 5, 25, 26, 27, 28, 29, 30, 31, 32, 33, 34, 35, 36, 37, 38, 39, 40, 41, 42, 43, 44, 45, 46, 47, 48, 49] ?_
 exact kZ.out) : p := h ⟨k⟩
theorem ZbB {p q : Prop} (k : q) (h : BkZ p q := by
 intro kZ
 refine F1 ?_
 refine A2 ?_
 refine Aa ?_
 refine H3 rfl rfl (U2 (by omega) (by omega)) ?_
 refine Dl rfl ?_
 refine J.nil ?_
 exact kZ.out) : p := h ⟨k⟩
theorem Zac {p q : Prop} (k : q) (h : BkZ p q := by
 intro kZ
 refine Aa ?_
 refine Ga2 ?_
 exact kZ.out) : p := h ⟨k⟩
theorem ZO {p q : Prop} (k : q) (h : BkZ p q := by
 intro kZ
 refine ZaQ ?_
 refine djm ?_
 exact kZ.out) : p := h ⟨k⟩
theorem Zch {p q : Prop} (k : q) (h : BkZ p q := by
 intro kZ
 refine Gb1 ?_
 refine rn2 ?_
 refine ob (Ai rfl rfl F9) ?_
 refine ZW ?_
 refine rn1 ?_
 refine ZW ?_
 refine li (α := UInt8) ([u8 (Jz (Cw m) / 256), u8 (Jz (Cw m))] : List UInt8) Kn rfl (fun j hj => ⟨⟨_, rfl, rfl⟩, ⟨_, rfl, rfl⟩, trivial⟩) ?_; intro v49
 revert v49
 exact kZ.out) : p := h ⟨k⟩
theorem Zbk {p q : Prop} (k : q) (h : BkZ p q := by
 intro kZ
 refine ob (D5 (cs := zMsg.cells) Cg) ?_
 refine s_B Try.sizeOf105 ?_
 refine Ga1 ?_
 exact kZ.out) : p := h ⟨k⟩
theorem Zbl {p q : Prop} (k : q) (h : BkZ p q := by
 intro kZ
 refine Zak ?_
 refine djc (fun _ _ => Ai rfl rfl (A1 (by omega))) ?_
 exact kZ.out) : p := h ⟨k⟩
theorem ZbC {p q : Prop} (k : q) (h : BkZ p q := by
 intro kZ
 refine A8 ?_
 refine dn7 ?_
 refine djc (fun _ _ => Ai rfl rfl (D2 (by omega))) ?_
 refine djm ?_
 refine dn16 ?_
 exact kZ.out) : p := h ⟨k⟩
theorem ZaF {p q : Prop} (k : q) (h : BkZ p q := by
 intro kZ
 refine ZF ?_
 refine ZF ?_
 refine C3 ?_
 exact kZ.out) : p := h ⟨k⟩
theorem ZbD {p q : Prop} (k : q) (h : BkZ p q := by
 intro kZ
 refine Gm ?_
 refine bx ?_; intro b1
 refine al_ (cs := [.slice none 0 0, .slice none 0 0, .slice none 0 0]) Try.zeroValue38 ?_; intro b2
 revert b1 b2
 exact kZ.out) : p := h ⟨k⟩
theorem ZaJ {p q : Prop} (k : q) (h : BkZ p q := by
 intro kZ
 refine ob (Ai rfl rfl (D2 rfl)) ?_
 refine Glc ?_
 exact kZ.out) : p := h ⟨k⟩
theorem ZbE {p q : Prop} (k : q) (h : BkZ p q := by
 intro kZ
 have hnt : Ck x.frames s.n = ([], [], 5) := by unfold Ck; rw [if_pos (show s.n < 0 ∨ (x.frames.length : Int) ≤ s.n from hc)]
 revert hnt
 exact kZ.out) : p := h ⟨k⟩
theorem ZbF {p q : Prop} (k : q) (h : BkZ p q := by
 intro kZ
 refine A8 ?_
 refine dn7 ?_
 refine dj ?_
 refine dc (fun _ _ => It (v := vL) (i := q.line) Kz (hl := Cd (α := Line) (xs := ls) pkk)) ?_
 refine ZI ?_;intro ρ
 revert ρ
 exact kZ.out) : p := h ⟨k⟩
theorem ZaK {p q : Prop} (k : q) (h : BkZ p q := by
 intro kZ
 refine dn9 ?_
 refine djf ?_
 refine ZI ?_;intro ρ
 refine Zbq ?_
 refine Zav ?_
 refine Za4 ?_;intro ρ
 refine Zbg ?_;intro eh hEB ρ er
 revert eh hEB ρ er
 exact kZ.out) : p := h ⟨k⟩
theorem Zas {p q : Prop} (k : q) (h : BkZ p q := by
 intro kZ
 refine Za0 ?_
 refine D9 ?_
 exact kZ.out) : p := h ⟨k⟩
theorem ZaT {p q : Prop} (k : q) (h : BkZ p q := by
 intro kZ
 refine gy ?_
 refine ZN ?_
 refine Zaj ?_
 refine Zas ?_
 exact kZ.out) : p := h ⟨k⟩
theorem ZbG {p q : Prop} (k : q) (h : BkZ p q := by
 intro kZ
 refine kp [1, 2, 4, 7, 8, 9, 10, 11, 47, 48, 49, 50, 51, 52, 53, 54, 55, 56, 57, 58, 59, 60, 61] ?_
 refine ZP ?_
 exact kZ.out) : p := h ⟨k⟩
theorem ZaU {p q : Prop} (k : q) (h : BkZ p q := by
 intro kZ
 refine ob (Ai rfl rfl (Ga (by decide))) ?_
 refine Glc ?_
 exact kZ.out) : p := h ⟨k⟩
theorem Zad {p q : Prop} (k : q) (h : BkZ p q := by
 intro kZ
 refine Gm ?_
 refine rn1 ?_
 exact kZ.out) : p := h ⟨k⟩
theorem Zci {p q : Prop} (k : q) (h : BkZ p q := by
 intro kZ
 refine kp [1, 2, 3, 4, 5, 6, 7, 8, 10, 11, 12, 13, 14, 15, 16, 17, 18, 19, 20, 21, 22, 23, 24, 25, 26, 27, 28, 29, 30, 31, 32, 33, 34, 35, 36, 37, 38, 39, 40, 41, 42, 43, 44, 45, 46] ?_
 exact kZ.out) : p := h ⟨k⟩
theorem ZS {p q : Prop} (k : q) (h : BkZ p q := by
 intro kZ
 refine ZY ?_
 refine ZI ?_;intro ρ
 revert ρ
 exact kZ.out) : p := h ⟨k⟩
theorem ZbH {p q : Prop} (k : q) (h : BkZ p q := by
 intro kZ
 refine ZR ?_
 refine djc (fun _ _ => Ai rfl rfl (I7 (by omega))) ?_
 refine djm ?_
 refine dn4 ?_
 exact kZ.out) : p := h ⟨k⟩
theorem ZaL {p q : Prop} (k : q) (h : BkZ p q := by
 intro kZ
 have hCq := hC q hq
 have hl : e'.last q = e.last q := by rw [f8]
 revert hCq hl
 exact kZ.out) : p := h ⟨k⟩
theorem ZbI {p q : Prop} (k : q) (h : BkZ p q := by
 intro kZ
 have hwf : ((⟨11, id, m.src, line, m.serial, 0, 0, false⟩ : Msg) : Msg).wf := by unfold Msg.wf Ao; simp only; omega
 revert hwf
 exact kZ.out) : p := h ⟨k⟩
theorem Zcj {p q : Prop} (k : q) (h : BkZ p q := by
 intro kZ
 refine Aa ?_
 refine Ga3 ?_
 refine kp [1, 2, 3, 4, 5, 7, 10, 11, 12, 13, 14, 15, 16, 17, 18, 19, 20, 21, 22, 23, 24, 25, 26, 27, 28, 29, 30, 31, 32, 33, 34, 35] ?_
 refine Zac ?_
 exact kZ.out) : p := h ⟨k⟩
theorem Zae {p q : Prop} (k : q) (h : BkZ p q := by
 intro kZ
 refine ZC ?_
 refine Bb ?_
 exact kZ.out) : p := h ⟨k⟩
theorem Zag {p q : Prop} (k : q) (h : BkZ p q := by
 intro kZ
 refine Gm ?_
 refine Ga4 ?_
 exact kZ.out) : p := h ⟨k⟩
theorem Zah {p q : Prop} (k : q) (h : BkZ p q := by
 intro kZ
 refine Aa ?_
 refine rn5 ?_
 exact kZ.out) : p := h ⟨k⟩
theorem ZbJ {p q : Prop} (k : q) (h : BkZ p q := by
 intro kZ
 refine kp [8, 9, 10, 11, 130, 131, 132, 133, 134, 135, 136, 137, 138, 139, 140, 141] ?_
 exact kZ.out) : p := h ⟨k⟩
theorem ZbK {p q : Prop} (k : q) (h : BkZ p q := by
 intro kZ
 refine Ga5 ?_
 have hve : Jp x i x.cores.length = none := by rw [show x.cores.length = p by omega]; exact hvn
 revert hve
 exact kZ.out) : p := h ⟨k⟩
theorem ZbL {p q : Prop} (k : q) (h : BkZ p q := by
 intro kZ
 refine kp [1, 2, 3, 4, 5, 6, 7, 8, 9, 10, 11, 12, 13, 14, 15, 16, 17, 18, 19, 20] ?_
 exact kZ.out) : p := h ⟨k⟩
theorem Zal {p q : Prop} (k : q) (h : BkZ p q := by
 intro kZ
 refine rn2 ?_
 refine gy ?_
 exact kZ.out) : p := h ⟨k⟩
theorem Zck {p q : Prop} (k : q) (h : BkZ p q := by
 intro kZ
 refine cq_ (blk b3 47 s.cells :: blk b 38 [cv, hv, fv] :: L) ?_
 refine jd_ (fun ρ S => blk b3 47 s.cells :: blk b 38 [cv, hv, fv] :: L) ?_
 refine dn6 ?_
 exact kZ.out) : p := h ⟨k⟩
theorem Zcl {p q : Prop} (k : q) (h : BkZ p q := by
 intro kZ
 refine Abo ?_
 refine es_ 23 0 [] [] (fun ρ => b2) (fun ρ => zConfig.cells) (fun ρ => [vi (x.cores.length : Int), vi (x.home.length : Int)]) Try.sizeOf23 ?_
 refine dnl ?_; intro ρ
 revert ρ
 exact kZ.out) : p := h ⟨k⟩
theorem Zcm {p q : Prop} (k : q) (h : BkZ p q := by
 intro kZ
 refine dc (fun _ _ => Ei (a := (((Ag l m.line).need.toNat / 2 ^ m.src.toNat : Nat) : Int)) (b := 1) (Ht (by omega) (by omega) (by omega) (by omega))) ?_
 exact kZ.out) : p := h ⟨k⟩
theorem Zcn {p q : Prop} (k : q) (h : BkZ p q := by
 intro kZ
 refine dn8 ?_
 refine es_ 57 0 [] [] (fun ρ => b8) (fun ρ => [.slice none 0 0, vi 0, vi 0, vi 0]) (fun ρ => [vL, vi 0, vi 0, vi 0]) Try.sizeOf57 ?_
 exact kZ.out) : p := h ⟨k⟩
theorem ZbM {p q : Prop} (k : q) (h : BkZ p q := by
 intro kZ
 refine dc (fun _ _ => Dm (hc := G8 (xs := e.last) pkk (by omega)) Try.isAgg3) ?_
 exact kZ.out) : p := h ⟨k⟩
theorem Zco {p q : Prop} (k : q) (h : BkZ p q := by
 intro kZ
 refine rn7 ?_
 refine gy ?_
 refine ob (Ai (a := 8) (b := ((l.getD n.toNat []).length : Int)) rfl rfl (Ack (by omega) (by omega))) ?_
 refine gy ?_
 exact kZ.out) : p := h ⟨k⟩
theorem Zcp {p q : Prop} (k : q) (h : BkZ p q := by
 intro kZ
 rw [Nat.testBit_lt_two_pow (show (ent x i).sharers.toNat < 2 ^ q by have : 2 ^ n ≤ 2 ^ q := Nat.pow_le_pow_right (by omega) (by omega); omega)]
 exact kZ.out) : p := h ⟨k⟩
theorem Zbm {p q : Prop} (k : q) (h : BkZ p q := by
 intro kZ
 refine Bb ?_
 refine rn6 ?_
 refine gy ?_
 refine Jk ?_
 exact kZ.out) : p := h ⟨k⟩
theorem ZaM {p q : Prop} (k : q) (h : BkZ p q := by
 intro kZ
 refine Gm ?_
 refine bx ?_; intro b1
 refine Gb1 ?_
 revert b1
 exact kZ.out) : p := h ⟨k⟩
theorem Zcq {p q : Prop} (k : q) (h : BkZ p q := by
 intro kZ
 refine rn1 ?_
 refine s_B (cs := Core.cells up (cor x p)) Try.sizeOf57 ?_
 refine Gm ?_
 refine Ga5 ?_
 refine G0 (x := x) (p := p) i (u := up) mm (by omega) (fun hwl => ?_)
 revert hwl
 exact kZ.out) : p := h ⟨k⟩
theorem Zcr {p q : Prop} (k : q) (h : BkZ p q := by
 intro kZ
 refine h.home hi (by simpa using hla) ⟨hb.1, ⟨by simp only; omega, by have : 0 < 2 ^ n := Nat.two_pow_pos n; simp only; omega⟩⟩ ?_
 exact kZ.out) : p := h ⟨k⟩
theorem Zat {p q : Prop} (k : q) (h : BkZ p q := by
 intro kZ
 refine ZB ?_
 refine E4 ?_
 exact kZ.out) : p := h ⟨k⟩
theorem Zcs {p q : Prop} (k : q) (h : BkZ p q := by
 intro kZ
 refine kp [7, 8, 9, 10, 11, 12, 13, 119, 120, 121, 122, 123, 124, 125, 126, 127, 128, 129, 130, 131, 132, 133, 134, 135, 136] ?_
 exact kZ.out) : p := h ⟨k⟩
theorem ZaV {p q : Prop} (k : q) (h : BkZ p q := by
 intro kZ
 refine ZB ?_
 refine Bb ?_
 refine ZK ?_
 refine Ha ?_
 exact kZ.out) : p := h ⟨k⟩
theorem Za2 {p q : Prop} (k : q) (h : BkZ p q := by
 intro kZ
 refine Gm ?_
 refine Ga3 ?_
 exact kZ.out) : p := h ⟨k⟩
theorem Za3 {p q : Prop} (k : q) (h : BkZ p q := by
 intro kZ
 refine ZJ ?_
 refine rn2 ?_
 exact kZ.out) : p := h ⟨k⟩
theorem ZbN {p q : Prop} (k : q) (h : BkZ p q := by
 intro kZ
 refine JC.shut (v := v74) (xs := [Bk 8 id home m.line m.turn 0]) pkk ?_
 refine ZM ?_
 exact kZ.out) : p := h ⟨k⟩
theorem ZbO {p q : Prop} (k : q) (h : BkZ p q := by
 intro kZ
 refine s_B (cs := [vi 0, vi 0, .bool false]) Try.sizeOf28 ?_
 refine Ga1 ?_
 exact kZ.out) : p := h ⟨k⟩
theorem Zct {p q : Prop} (k : q) (h : BkZ p q := by
 intro kZ
 refine Ga1 ?_
 have er : Jh x node = 5 ∧ D6 x node = x.frames := by unfold Jh D6 Ba; rw [if_pos (by omega), if_pos (by omega)]; exact ⟨rfl, rfl⟩
 rw [er.1, er.2]
 revert er
 exact kZ.out) : p := h ⟨k⟩
theorem Zcu {p : Prop} (h : p := by
 intro ht95
 refine ZbU ?_
 refine Hv (v := vd) (fun ρ S hS hB hA => by have h19 : S 19 = false := hA 19 ⟨0, rfl⟩; simp only [h19, cond_false]; exact Dm (hc := Bd pkk (by repeat (first | exact rfl | refine Cp rfl ?_))) Try.isAgg48) (fun _ _ _ _ _ => rfl) ?_
 refine dn3 ?_
 refine Hv (v := vi id) (fun ρ S hS hB hA => by have h19 : S 19 = false := hA 19 ⟨0, rfl⟩; simp only [h19, cond_false]; exact Dm (hc := Bd pkk (by repeat (first | exact rfl | refine Cp rfl ?_))) Try.isAgg3) (fun _ _ _ _ _ => rfl) ?_
 refine Zca ?_
 first | refine epc (fun _ _ => D5 Er) ?_ | refine epc (fun _ _ => Eh Er) ?_ | refine epp (fun _ _ => D5 Er) ?_ | refine epp (fun _ _ => Eh Er) ?_
 refine Zby ?_
 refine Ec (e := 102) (xs := ds) (ys := [(⟨id, q, 0⟩ : Done)]) (v := vd) K1 (fun _ => rfl) (fun _ => rfl) rfl (by decide) (fun ρ R hd => (hd.dep (it := ⟨15, _, _, _, _⟩) (by repeat (first | exact List.Mem.head _ | refine List.Mem.tail _ ?_)) ⟨9, rfl⟩ (List.Mem.head _))) (by have : maxN = 16777216 := rfl; simp only [List.length_cons, List.length_nil]; omega) (fun ρ g S hS hB hA => ?_) ?_
 ·have ui : upS S 16 16 = true := rfl; have u19 : upS S 16 19 = S 19 := rfl; have h19 : S 19 = false := hA 19 ⟨0, rfl⟩; have rs : (Gh.dec (γ := Value) (Rho.set ρ 16 (Gh.enc g) 16)) = g := rfl
  simp only [ui, hS, u19, h19, rs, cond_true, cond_false]
  exact pex
 refine dn2 ?_
 refine Di (T0 := 98) (f := 7) (vs := fun ρ => [vL, vi q.kind, vi q.line, vi q.value, vi id, vi home, vo, vd]) (v := fun ρ => (Gh.dec (γ := Value) (ρ 16))) (fun ρ => bk) Try.sizeOf48 (fun _ => rfl) (fun _ => rfl) (fun ρ S R w L9 hB hd hs => by have h16 : S 16 = true := hB 16 ⟨9, rfl⟩; simp only [h16, cond_true] at hs; exact A6 pkk hs) (fun _ => rfl) (fun ρ g S hS hB hA => ?_) ?_
 ·have ui : upS S 19 19 = true := rfl; have u16 : upS S 19 16 = S 16 := rfl; have r16 : Rho.set ρ 19 g 16 = ρ 16 := rfl
  simp only [ui, hS, u16, r16, cond_true, cond_false]
  exact pex
 refine ZbS ?_;intro v120 v121 ρ v142 ef er
 refine A0 (.inl rfl) (fun B w hs => Gb rfl _ w) (fun w hs => ⟨(v142, v121), rfl, Af (Ci ({ l with seen := m.turn, gave := m.turn, given := l.value, state := 0, value := 0, want := 0 }) (by unfold Line.wf Ao; simp only; omega) (hs.pick pkk))⟩)) : p := h
theorem Zcv {p : Prop} (h : p := by
 refine An ?_ (fun w hs => hs)
 refine ⟨by first | exact congrArg (fun b => some (Value.bool b)) (decide_eq_false (by grind)).symm | exact congrArg (fun b => some (Value.bool b)) (by simp; omega), alT⟩) : p := h
theorem Zcw {p : Prop} (h : p := by
 rcases (show s = 0 ∨ s = 1 ∨ s = 2 ∨ s = 3 ∨ s = 4 ∨ s = 5 ∨ s = 6 ∨ s = 7 ∨ s = 8 ∨ s = 9 ∨ s = 10 ∨ s = 11 ∨ s = 12 ∨ s = 13 ∨ s = 14 ∨ s = 15 by omega) with h | h | h | h | h | h | h | h | h | h | h | h | h | h | h | h <;> rcases (show k = 0 ∨ k = 1 ∨ k = 2 ∨ k = 3 by omega) with g | g | g | g <;> subst h <;> subst g <;> rfl) : p := h
theorem Zcx {p : Prop} (h : p := by
 refine C3 ?_
 refine Gc1 ?_
 refine ZV ?_
 refine JC.rowNil 102 Done ?_
 have hkd : m.kind = 5 ∨ m.kind = 6 := by omega
 refine ZC ?_
 refine Ak Try.call62 rfl (fun w hs => Np (vL := vL) (vo := .slice none 0 0) (vd := .slice none 0 0) (bk := b18) (bm := b7) (q := q) (id := id) (home := home) (ls := ls) (l := l) (ms := []) (ds := []) (m := m) (LX := blk b8 57 [.slice none 0 0, vi 0, vi 0, vi 0] :: L) (Af hs) hl (by omega) (by omega) hm hid hhome (by simp) (by simp) hk.wwf hkd) ?_; intro ⟨g1, g2⟩
 refine J.conseq (L' := blk b18 98 [vL, vi (Ac ⟨ls, q⟩ id home m).1.wait.kind, vi (Ac ⟨ls, q⟩ id home m).1.wait.line, vi (Ac ⟨ls, q⟩ id home m).1.wait.value, vi id, vi home, g1, g2] :: row 67 vL (Ac ⟨ls, q⟩ id home m).1.lines :: row 105 g1 (Ac ⟨ls, q⟩ id home m).2.1 :: row 102 g2 (Ac ⟨ls, q⟩ id home m).2.2 :: blk b8 57 [.slice none 0 0, vi 0, vi 0, vi 0] :: L) (fun w hs => by rw [List.nil_append, List.nil_append] at hs; exact Af hs) ?_
 refine Zbn ?_;intro ρ
 exact Es (vL, g1, g2) Try.isAgg57 Try.sizeOf57) : p := h
theorem Zcy {p : Prop} (h : p := by
 constructor
 ·have g0 := hG.own; have g1 := hG.own; grind
 ·have g0 := hG.own; have g1 := hG.ph; grind
 ·have g0 := hG.own; have g1 := hG.idle; grind
 ·have g0 := hG.own; have g1 := hG.whor; grind
 ·have g0 := hG.own; have g1 := hG.f1; grind
 ·have g0 := hG.own; have g1 := hG.f23; grind
 ·intro h2; omega
 ·have g0 := hG.own; have g1 := hG.al; grind
 ·have g0 := hG.own; have g1 := hG.tu; grind
 ·have g0 := hG.own; have g1 := hG.va; grind
 ·have g0 := hG.own; have g1 := hG.se; grind) : p := h
theorem Zcz {p : Prop} (h : p := by
 exact De (g13.1, .slice none 0 0) (hs := fun w hs => Af (St.shut (hs.pick pkk)))) : p := h
theorem Zc0 {p : Prop} (h : p := by
 refine An ?_ (fun w hs => hs)
 refine ⟨by first | exact congrArg (fun b => some (Value.bool b)) (decide_eq_false (by first | exact .inl hm | exact .inr hm | exact .inl ⟨hc1, hal⟩ | exact .inr ⟨hc1, hal⟩ | (rintro (⟨a, b⟩ | ⟨a, b⟩) <;> first | omega | exact absurd (hal.symm.trans b) (by decide)))).symm | exact congrArg (fun b => some (Value.bool b)) (by simp; omega), alT⟩) : p := h
theorem Zc1 {p : Prop} (h : p := by
 have al := hG.al; have f23 := hG.f23; have f1 := hG.f1; cases h; constructor <;> (try simp only) <;> grind) : p := h
theorem Zc2 {p : Prop} (h : p := by
 exact Es (.slice none 0 0, .slice none 0 0, .slice none 0 0, .slice none 0 0) Try.isAgg38 Try.sizeOf38) : p := h
theorem Zc3 {p : Prop} (h : p := by
 refine ⟨?_, fun m' hm' => ?_⟩
 ·exact Zc1
 ·have al := hG.al; have f23 := hG.f23; have f1 := hG.f1; cases h; cases hm'; constructor <;> (try simp only) <;> first | assumption | grind) : p := h
theorem Zc4 {p : Prop} (h : p := by
 refine ⟨?_, fun m hm => ?_⟩
 ·exact Zc1
 ·have al := hG.al; have f23 := hG.f23; have f1 := hG.f1; cases h; cases hm; constructor <;> (try simp only) <;> first | assumption | grind) : p := h
theorem Zc5 {p : Prop} (h : p := by
 exact Ir (.slice none 0 0, .slice none 0 0, .slice none 0 0) Try.isAgg57 Try.sizeOf57) : p := h
theorem Zc6 {p : Prop} (h : p := by
 have al := hG.al; have f23 := hG.f23; have f1 := hG.f1; cases h; cases hm; constructor <;> (try simp only) <;> first | assumption | grind) : p := h
theorem Zc7 {p : Prop} (h : p := by
 have ui : upS S 23 23 = true := rfl; have u26 : upS S 23 26 = S 26 := rfl; have h26 : S 26 = false := hA 26 ⟨0, rfl⟩; have rs : (Gh.dec (γ := Value) (Rho.set ρ 23 (Gh.enc g) 23)) = g := rfl
 simp only [ui, hS, u26, h26, rs, cond_true, cond_false]
 exact pex) : p := h
theorem Zc8 {p : Prop} (h : p := by
 unfold Fa
 generalize Fi (fun p => stN x i p == 2) x.cores.length = a at hc ⊢
 generalize Fi (fun p => stN x i p == 1) x.cores.length = b at hc ⊢
 simp; omega) : p := h
theorem Zc9 {p : Prop} (h : p := by
 refine An ?_ (fun w hs => hs)
 exact meT) : p := h
theorem ZcA {p : Prop} (h : p := by
 refine An ?_ (fun w hs => hs)
 refine ⟨by first | exact congrArg (fun b => some (Value.bool b)) (decide_eq_false (by rw [hgd]; omega)).symm | exact congrArg (fun b => some (Value.bool b)) (by simp; omega), alT⟩) : p := h
theorem ZcB {p : Prop} (h : p := by
 constructor
 ·have k0 := hm'.get; grind
 ·have k0 := hm'.put; have c0 := hCq.own; grind
 ·have k0 := hm'.inv; have c0 := hCq.ga; grind
 ·have k0 := hm'.fet; have c0 := hCq.ga; grind
 ·have k0 := hm'.gra; have c0 := hCq.taken; have c1 := hCq.la; have c2 := hCq.wa; grind
 ·have k0 := hm'.gon; grind
 ·have k0 := hm'.dat; have c0 := hCq.ga; grind
 ·have k0 := hm'.tha; grind
 ·have k0 := hm'.tak; grind) : p := h
theorem ZcC {p : Prop} (h : p := by
 rw [er]
 exact De (.slice none 0 0) (hs := fun w hs => Af (hs.rowNil 60 (List UInt8)))) : p := h
theorem ZcD {p : Prop} (h : p := by
 refine An ?_ (fun w hs => hs)
 refine ⟨by first | exact congrArg (fun b => some (Value.bool b)) (decide_eq_true (by first | exact .inl hm | exact .inr hm | exact .inl ⟨hc1, hal⟩ | exact .inr ⟨hc1, hal⟩ | (rintro (⟨a, b⟩ | ⟨a, b⟩) <;> first | omega | exact absurd (hal.symm.trans b) (by decide)))).symm | exact congrArg (fun b => some (Value.bool b)) (by simp; omega), alT⟩) : p := h
theorem ZcE {p : Prop} (h : p := by
 have ui : upS S 26 26 = true := rfl; have u23 : upS S 26 23 = S 23 := rfl; have r23 : Rho.set ρ 26 g 23 = ρ 23 := rfl
 simp only [ui, hS, u23, r23, cond_true, cond_false]
 exact pex) : p := h
theorem ZcF {p : Prop} (h : p := by
 constructor
 ·have k0 := hm'.get; grind
 ·have k0 := hm'.put; grind
 ·have k0 := hm'.inv; have c0 := hCq.ga; grind
 ·have k0 := hm'.fet; grind
 ·have k0 := hm'.gra; have c0 := hCq.taken; have c1 := hCq.cur; have c2 := hCq.wa; grind
 ·have k0 := hm'.gon; grind
 ·have k0 := hm'.dat; grind
 ·have k0 := hm'.tha; grind
 ·have k0 := hm'.tak; grind) : p := h
theorem ZcG {p : Prop} (h : p := by
 exact Iq (.slice none 0 0) (hs := fun w hs => Af (St.shut (hs.rowNil 3 Int)))) : p := h
theorem ZcH {p : Prop} (h : p := by
 constructor
 ·have k0 := hm'.get; grind
 ·have k0 := hm'.put; grind
 ·have k0 := hm'.inv; grind
 ·have k0 := hm'.fet; grind
 ·have k0 := hm'.gra; have c0 := hCq.taken; have c1 := hCq.la; have c2 := hCq.wa; grind
 ·have k0 := hm'.gon; grind
 ·have k0 := hm'.dat; grind
 ·have k0 := hm'.tha; grind
 ·have k0 := hm'.tak; grind) : p := h
theorem ZcI {p : Prop} (h : p := by
 refine An ?_ (fun w hs => hs)
 exact meF) : p := h
theorem ZcJ {p : Prop} (h : p := by
 rw [er]
 exact Be ()) : p := h
theorem ZcK {p : Prop} (h : p := by
 refine Be () (hs := fun w hs => hs.perm (Pick.perm hp).symm) (hv := ?_)
 first | rw [decide_eq_true (by omega)] | rw [decide_eq_false (by omega)]) : p := h
theorem ZcL {p : Prop} (h : p := by
 refine kp [1, 2, 4, 5, 45] ?_
 refine Aa ?_
 refine Zbk ?_
 have er : Ae c b = (zMsg, 2) := by
  unfold Ae
  rw [if_neg (by omega), if_neg (by show ¬ Jz (b.take 10) ≠ _; unfold at8; omega), if_pos (by unfold at8; omega)]
 rw [er]
 exact Gf () Try.isAgg105 Try.sizeOf105) : p := h
theorem ZcM {p : Prop} (h : p := by
 rw [List.getElem?_map] at he
 obtain ⟨x, hx, hxe⟩ := Option.map_eq_some_iff.1 he
 have h3 := r3 k x r hx hkr
 refine ⟨x.u, ?_, ?_, ?_⟩
 ·rw [← hxe]; exact h3.1
 ·rw [← hxe]; exact hr _ (hf x (List.mem_of_getElem? hx))
 ·rw [← hxe]; exact h3.2.1) : p := h
theorem ZcN {p : Prop} (h : p := by
 have ui : upS S 13 13 = true := rfl; have u16 : upS S 13 16 = S 16 := rfl; have h16 : S 16 = false := hA 16 ⟨0, rfl⟩; have rs : (Gh.dec (γ := Value) (Rho.set ρ 13 (Gh.enc g) 13)) = g := rfl
 simp only [ui, hS, u16, h16, rs, cond_true, cond_false]
 exact pex) : p := h
theorem ZcO {p : Prop} (h : p := by
 refine Zbb ?_;intro er
 exact Gf (.slice none 0 0, .slice none 0 0) Try.isAgg38 Try.sizeOf38) : p := h
theorem ZcP {p : Prop} (h : p := by
 exact Ins.perm (by repeat (first | exact .hd | exact .hc | refine .tl ?_ | refine .ap ?_))) : p := h
theorem ZcQ {p : Prop} (h : p := by
 intro a ha; rw [List.mem_singleton.1 ha]; exact Jx h1 h2 h3 (by omega) ht (by omega)) : p := h
theorem ZcR {p : Prop} (h : p := by
 refine A0 (.inr rfl) (fun B w hs => Gb rfl _ w) (fun w hs => ⟨vo, rfl, Af hs⟩)) : p := h
theorem ZcS {p : Prop} (h : p := by
 refine Ga3 ?_
 have er : Ck l n = ([], [], 5) := by unfold Ck; rw [if_pos (by omega)]
 rw [er]
 exact Iq (.slice none 0 0, .slice none 0 0) (hs := fun w hs => Af (St.shut (((hs.rowNil 60 (List UInt8)).rowNil 5 UInt8))))) : p := h
theorem ZcT {p : Prop} (h : p := by
 refine Ga2 ?_
 refine An ?_ (fun w hs => hs)
 refine ⟨by first | exact congrArg (fun b => some (Value.bool b)) (decide_eq_true (by grind)).symm | exact congrArg (fun b => some (Value.bool b)) (by simp; omega), alT⟩) : p := h
theorem ZcU {p : Prop} (h : p := by
 exact Es (vL, .slice none 0 0, .slice none 0 0) Try.isAgg57 Try.sizeOf57) : p := h
theorem ZcV {p : Prop} (h : p := by
 rw [er]
 exact Iq v40 (hs := fun w hs => Af (St.shut (hs.pick pkk)))) : p := h
theorem ZcW {p : Prop} (h : p := by
 have ui : upS S 16 16 = true := rfl; have u13 : upS S 16 13 = S 13 := rfl; have r13 : Rho.set ρ 16 g 13 = ρ 13 := rfl
 simp only [ui, hS, u13, r13, cond_true, cond_false]
 exact pex) : p := h
theorem ZcX {p : Prop} (h : p := by
 refine Zct ?_;intro er
 exact Be fv (hs := fun w hs => (Af hs : St _ R w).sub .refl (fun f hf => by rcases List.mem_cons.1 hf with e | e; rw [e]; exact hfv; exact e))) : p := h
theorem ZcY {p : Prop} (h : p := by
 unfold EB Entry.wf Ao; simp only; omega) : p := h
theorem ZcZ {p : Prop} (h : p := by
 rw [er, List.append_nil, List.append_nil]
 refine A0 (.inr rfl) (fun B w hs => Gb rfl _ w) (fun w hs => ⟨(vo, vd), rfl, Af (C8 hl hlw (hs.pick pkk))⟩)) : p := h
theorem Zda {p : Prop} (h : p := by
 refine ZaK ?_;intro eh hEB ρ er
 exact Zcz) : p := h
theorem Zdb {p : Prop} (h : p := by
 refine ZaS ?_
 refine Zam ?_;intro hEB
 refine Zan ?_;intro ρ er
 exact Zcz) : p := h
theorem Zdc {p : Prop} (h : p := by
 refine Zbc ?_
 have er : (Aj ⟨ls, q0⟩ id home q) = (Ez, [], [], 8) := beg_8 hl (by omega) (by omega) (by omega) (by omega)
 rw [er]
 exact Zc5) : p := h
theorem Zdd {p : Prop} (h : p := by
 exact (show SB _ N from h).mono (by omega)) : p := h
theorem Zde {p : Prop} (h : p := by
 have : (3 : Int) = E3 (cor x p).wait.kind := by rw [← w3]; exact hw.symm
 unfold E3 at this; split at this <;> (try split at this) <;> omega) : p := h
theorem Zdf {p : Prop} (h : p := by
 intro a ha; cases ha) : p := h
theorem Zdg {p : Prop} (h : p := by
 rw [er]
 exact Es (vL, v74, .slice none 0 0) Try.isAgg57 Try.sizeOf57) : p := h
theorem Zdh {p : Prop} (h : p := by
 rw [er]
 exact Gf () Try.isAgg105 Try.sizeOf105) : p := h
theorem Zdi {p : Prop} (h : p := by
 refine Ga2 ?_
 have er : Bo l n bit = ([], 3) := by unfold Bo Cq; rw [if_neg (by omega), if_pos (by omega)]
 exact ZcC) : p := h
theorem Zdj {p : Prop} (h : p := by
 have er : Ee x = false := Gx (show i < x.home.length by omega) (Gx (show p < x.cores.length by omega) hka)
 exact ZcJ) : p := h
theorem Zdk {p : Prop} (h : p := by
 refine Zbc ?_
 have er : (Aj ⟨ls, q0⟩ id home q) = (Ez, [], [], 1) := beg_1 (by omega)
 rw [er]
 exact Zc5) : p := h
theorem Zdl {p : Prop} (h : p := by
 refine ZbY ?_;intro hbn v72
 refine A0 (.inl rfl) (fun B w hs => Gb rfl _ w) (fun w hs => ⟨v72, rfl, Af hs⟩)) : p := h
theorem Zdm {p : Prop} (h : p := by
 refine Zcg ?_;intro ρ
 refine A3 (p + 1) ⟨by omega, Mj hvn ho⟩ (by omega) alT (fun w hs => Af hs)) : p := h
theorem Zdn {p : Prop} (h : p := by
 generalize (if e.alone = true then e.sharers else Gj e.sharers e.owner) = z at hs4 ⊢
 exact ZcY) : p := h
theorem Zdo {p : Prop} (h : p := by
 refine Ga2 ?_
 have er : Bo l n bit = ([], 5) := by unfold Bo; rw [if_pos (by omega)]
 exact ZcC) : p := h
theorem Zdp {p : Prop} (h : p := by
 refine Ga2 ?_
 refine A3 (i + 1) ⟨by omega, Fy hal hat⟩ (by omega) alT (fun w hs => Af hs)) : p := h
theorem Zdq {p : Prop} (h : p := by
 refine Ga2 ?_
 have er : Du l n = ([], 5) := by unfold Du; rw [if_pos (by omega)]
 exact ZcC) : p := h
theorem Zdr {p : Prop} (h : p := by
 refine Ga1 ?_
 have er : Ef x = false := Gx (show i < x.home.length by omega) hat
 exact ZcJ) : p := h
theorem Zds {p : Prop} (h : p := by
 rw [er]
 refine A0 (.inl rfl) (fun B w hs => Gb rfl _ w) (fun w hs => ⟨v29, rfl, Af hs⟩)) : p := h
theorem Zdt {p : Prop} (h : p := by
 exact Gf () Try.isAgg28 Try.sizeOf28) : p := h
theorem Zdu {p : Prop} (h : p := by
 show E8 _ [] M
 simp only [E8]
 rw [Fr (.inr hk4), w2, Int.toNat_natCast, h.same i hin]) : p := h
theorem Zdv {p : Prop} (h : p := by
 refine Zbi ?_;intro er
 exact ZcG) : p := h
theorem Zdw {p : Prop} (h : p := by
 refine Zba ?_;intro er
 exact Zc5) : p := h
theorem Zdx {p : Prop} (h : p := by
 simp only; rw [Cy _ _ _ _ _ (by rw [hla]; exact hp), if_pos rfl]; exact Int.le_refl _) : p := h
theorem Zdy {p : Prop} (h : p := by
 rw [hz, Dk] at this
 unfold upd at this
 rw [if_neg hqp] at this
 exact this.symm) : p := h
theorem Zdz {p : Prop} (h : p := by
 refine Ga3 ?_
 have er : Dh m o = ([], 0, 1) := Kj (by omega)
 rw [er]
 exact ZcG) : p := h
theorem Zd0 {p : Prop} (h : p := by
 refine A0 (.inl rfl) (fun B w hs => Gb rfl _ w) (fun w hs => ⟨(), rfl, Af hs⟩)) : p := h
theorem Zd1 {p : Prop} (h : p := by
 have c0 := hCp.bits; grind) : p := h
theorem Zd2 {p : Prop} (h : p := by
 have c0 := hCq.back; grind) : p := h
theorem Zd3 {p : Prop} (h : p := by
 refine Zbg ?_;intro eh hEB ρ er
 exact Zcz) : p := h
theorem Zd4 {p : Prop} (h : p := by
 unfold D3; rw [List.range_succ, List.filter_append, List.map_append]; simp [h]) : p := h
theorem Zd5 {p : Prop} (h : p := by
 have c0 := hCp.cle; grind) : p := h
theorem Zd6 {p : Prop} (h : p := by
 have c0 := hCp.gra; grind) : p := h
theorem Zd7 {p : Prop} (h : p := by
 have c0 := hCq.cle; grind) : p := h
theorem Zd8 {p : Prop} (h : p := by
 rw [er]
 exact Es (cY, hY, va, .slice none 0 0) Try.isAgg38 Try.sizeOf38) : p := h
theorem Zd9 {p : Prop} (h : p := by
 have c0 := hCp.ga; grind) : p := h
theorem ZdA {p : Prop} (h : p := by
 have c0 := hCp.la; grind) : p := h
theorem ZdB {p : Prop} (h : p := by
 have c0 := hCq.ga; grind) : p := h
theorem ZdC {p : Prop} (h : p := by
 have c0 := hCq.la; grind) : p := h
theorem ZdD {p : Prop} (h : p := by
 intro a ha; rw [List.mem_singleton.1 ha]; unfold MsgIn; simp only; omega) : p := h
theorem ZdE {p : Prop} (h : p := by
 refine ZU ?_
 refine Zav ?_
 exact Zda) : p := h
end Go.Proofs.Ytbigiimomnfpdaa
namespace Go.Proofs.Ytbigiimomnfpdaa
open Go
variable {L : List Chunk} {R : List Fact} {w : World}
def pv (b : Nat) (u : Bool) : Value := bif u then bp b 0 else .pointer none
section
variable {P : Program} {n : Nat} {ops : Array Oper} {Q : Exit → Act → World → Prop} {rest : List Oper} {L L' : List Chunk} {R : List Fact} {al : List (Nat × Value)} {d : Nat} {x y : Operand} {T ty : TypeId} {pos : String} {aft : Array Edge}
theorem q_toU {src dst t : TypeId} {b : Nat} {T0 : TypeId} {vs : List Value} (hs : P.underlying src = some (.pointer t)) (hd : P.underlying dst = some .unsafePointer) (ht : (P.info? t).any (fun j => j.size != 0) = true) (hx : ev n al x = some (bp b 0)) (hp : Pick L (blk b T0 vs) L') (h0 : 0 < vs.length) :
  As P n al L R ⟨some d, .convert src dst x, ty, pos, aft, none⟩ (bp b 0) :=
 ⟨rfl, fun ρ w h hst => by
  show (convert src dst (ρ x) >>= fun v => Pure.pure (Next.value v)).run P w = _
  have hb : w.heap[b]? = some (.cells vs.toArray T0 (0, 0)) := (hst.pick hp).blk_get
  have hsh : w.shape? b = some (T0, vs.length) := by unfold World.shape?; rw [hb]; simp
  obtain ⟨j, hj, hjs⟩ : ∃ j, P.info? t = some j ∧ j.size ≠ 0 := by
   cases hi : P.info? t with
   | none => rw [hi] at ht; exact absurd ht (by simp)
   | some j => rw [hi] at ht; exact ⟨j, rfl, by simpa using ht⟩
  rw [h x (by simp [Op.operands]) _ hx, Sem.run_bind, show bp b 0 = .pointer (some ⟨b, 0, none⟩) from rfl, Lib.run_to_unsafe w ⟨b, 0, none⟩ hs hd hj hjs hsh h0]; rfl⟩
theorem Y7 {src dst u : TypeId} {b : Nat} {T0 : TypeId} {vs : List Value} {k : Nat} (hs : P.underlying src = some .unsafePointer) (hd : P.underlying dst = some (.pointer u)) (hu : (P.info? u).isSome = true) (hk : vs.length = k) (hl : liesAt P P.depth T0 (k / P.cellsOf T0) 0 u 1 = true) (hx : ev n al x = some (bp b 0)) (hp : Pick L (blk b T0 vs) L') :
  As P n al L R ⟨some d, .convert src dst x, ty, pos, aft, none⟩ (bp b 0) :=
 ⟨rfl, fun ρ w h hst => by
  show (convert src dst (ρ x) >>= fun v => Pure.pure (Next.value v)).run P w = _
  have hb : w.heap[b]? = some (.cells vs.toArray T0 (0, 0)) := (hst.pick hp).blk_get
  have hsh : w.shape? b = some (T0, vs.length) := by unfold World.shape?; rw [hb]; simp
  obtain ⟨j, hj⟩ := Option.isSome_iff_exists.1 hu
  rw [h x (by simp [Op.operands]) _ hx, Sem.run_bind, show bp b 0 = .pointer (some ⟨b, 0, none⟩) from rfl, Lib.run_from_unsafe w ⟨b, 0, none⟩ hs hd hj hsh (by rw [hk]; exact hl)]; rfl⟩
theorem r_ext {f : FuncId} {fn : Func} {e : Array Value → Sem Value} {args : List Operand} {ts : Array TypeId} {vs : List Value} {v : Value} (hf : P.funcs[f]? = some fn) (hname : (fn.name == "runtime.NumGoroutine") = false) (hb : fn.body.isNone = true) (hn : Extern.findNext fn = none) (he : Extern.find fn = some e)
  (ha : evL n al args = some vs) (hv : ∀ w, (e vs.toArray).run P w = .ok v w) (k : J P n ops Q rest L R ((d, v) :: al)) : J P n ops Q (⟨some d, .call { callee := .value (.func f), args := args.toArray, argTypes := ts }, ty, pos, aft, none⟩ :: rest) L R al :=
 J.pure rfl rfl (fun B w hs => by
  have hcf : ∀ zs w', (callFunc f zs).run P w' = ((e zs).run P w').andThen fun v w' => .ok (.value v) w' := fun zs w' => run_callFunc_extern hf hname hb hn he zs w'
  have hρ : (mkA n al B).eval (.func f) = .func (.func f) #[] #[] := rfl
  simp only [execOp, resolve, hρ, Deferred.ofValue, invoke]
  simp [hcf, List.map_toArray, I4 ha, hv, Result.andThen]) k
theorem Kf {op : BinOp} {a b : Option Addr} (w : World) : (eqGuard op T x y (.pointer a) (.pointer b)).run P w = .ok () w := by unfold eqGuard; cases op <;> rfl
theorem Xw {tp te : TypeId} (hp : P.underlying tp = some (.pointer te)) (w : World) : (binOp .eql tp (.pointer none) (.pointer none)).run P w = .ok (.bool true) w := by
 have h : ∀ d : Nat, (Op.equalIn (d + 1) tp (.pointer none) (.pointer none)).run P w = .ok true w := fun d => by
  simp [Op.equalIn, run_underlying hp]
 simp only [binOp]
 simp [Op.equal, Op.maxDepth, h 9999]
theorem Xv {tp te : TypeId} {a : Addr} (hp : P.underlying tp = some (.pointer te)) (w : World) : (binOp .eql tp (.pointer (some a)) (.pointer none)).run P w = .ok (.bool false) w := by
 have h : ∀ d : Nat, (Op.equalIn (d + 1) tp (.pointer (some a)) (.pointer none)).run P w = .ok false w := fun d => by
  simp [Op.equalIn, run_underlying hp]
 simp only [binOp]
 simp [Op.equal, Op.maxDepth, h 9999]
theorem Uz {tp te : TypeId} {a : Addr} (hp : P.underlying tp = some (.pointer te)) (hte : (P.info? te).isSome = true) (w : World) : (binOp .neq tp (.pointer (some a)) (.pointer (some a))).run P w = .ok (.bool false) w := by
 obtain ⟨j, hj⟩ := Option.isSome_iff_exists.1 hte
 exact Lib.run_neq_ptr_same w a hp hj
theorem q_usd {v : Value} {bs : List UInt8} {ts : Array TypeId} {T0 : TypeId} (hx : ev n al x = some v) (hp : Pick L (row T0 v bs) L') (h0 : bs ≠ []) :
  As P n al L R ⟨some d, .call { callee := .builtin .unsafeSliceData, args := #[x], argTypes := ts }, ty, pos, aft, none⟩ (ep v 1 0 0) :=
 ⟨rfl, fun ρ w h hst => by
  have hx' := h x (by simp [Op.operands, Call.operands]) _ hx
  obtain ⟨m, j, _, _, _, hr, _⟩ := (hst.pick hp).head
  obtain ⟨_, ⟨_, hb⟩ | ⟨g, cap, cur, cs, hv, _, hcap, _⟩⟩ := hr
  ·exact absurd hb h0
  ·have hc : cap ≠ 0 := by
    have : 0 < bs.length := List.length_pos_iff.2 h0
    omega
   have e := Lib.run_unsafeSliceData_row (P := P) w ts ty ⟨g, 0, none⟩ bs.length cap hc
   rw [hv] at hx' ⊢
   simp [execOp, resolve, invoke, builtin, hx', e, ep, Addr.add]⟩
theorem r_ustr {v : Value} {bs : List UInt8} {pt it T0 : TypeId} (hpt : P.underlying pt = some (.pointer T0)) (hc : P.cellsOf T0 = 1) (hx : ev n al x = some (ep v 1 0 0)) (hy : ev n al y = some (vi (bs.length : Int))) (hp : Pick L (row T0 v bs) L') (h0 : bs ≠ [])
  (k : J P n ops Q rest L' R ((d, .string (Mf bs)) :: al)) : J P n ops Q (⟨some d, .call { callee := .builtin .unsafeString, args := #[x, y], argTypes := #[pt, it] }, ty, pos, aft, none⟩ :: rest) L R al :=
 J.yieldEx (γ := Unit) (v := fun _ => .string (Mf bs)) (L' := fun _ => L') (R' := fun _ => R) rfl rfl (fun B w hs => by
  obtain ⟨m, i, hd, hm, hi, ⟨m1, m2, hd', h1, h2, hr, hst⟩, hR⟩ := hs.pick hp
  obtain ⟨hml, ⟨_, hb⟩ | ⟨g, cap, cur, cs, hv, hg, hcap, hmx, hsz, htk, hrd⟩⟩ := hr
  ·exact absurd hb h0
  have hbw : w.heap[g]? = some (.cells cur T0 (0, 0)) := He (hm _ _ (h1 _ _ hg))
  have hsz1 : cur.size = cap := by rw [hsz]; show cap * 1 = cap; omega
  have hcells : ∀ (j : Nat) (u : UInt8), bs[j]? = some u → w.cell? ((⟨g, 0, none⟩ : Addr).add j) = some (.int .u8 u.toNat) := by
   intro j u hu
   obtain ⟨p, c, q, e1, e2, e3, _⟩ := hrd.get hu
   have hc' : c = [vb u] := e3
   have hp1 : p.length = j := by rw [e2]; show j * 1 = j; omega
   have hj : j < cs.length := by rw [e1, hc']; simp; omega
   have hcs : cs[j]? = some (vb u) := by rw [e1, hc', List.append_assoc, List.getElem?_append_right (by omega), show j - p.length = 0 by omega]; rfl
   rw [← htk, List.getElem?_take] at hcs
   split at hcs
   ·rw [Ge, Nat.zero_add]
    rw [Ex hbw, ← Array.getElem?_toList]; exact hcs
   ·cases hcs
  have h63 : bs.length ≤ 9223372036854775807 := by have : maxN = 16777216 := rfl; omega
  have e := Lib.run_unsafeString_row (P := P) w pt it ty T0 hpt hc g cap (by unfold World.shape?; rw [hbw, ← hsz1]) bs h0 hcap h63 hcells
  refine ⟨(), w.freeze ⟨g, 0, none⟩ bs.length, ?_, ?_⟩
  ·have ex := Ax (B := B) hx
   have ey := Ax (B := B) hy
   rw [hv] at ex
   have ex' : (mkA n al B).eval x = .pointer (some ⟨g, 0, none⟩) := by rw [ex]; simp [ep, Addr.add]
   simp [execOp, resolve, invoke, builtin, ex', ey, e, Mf]
  ·have hl : bs.length ≠ 0 := by simpa using h0
   have hput := St.put (c' := ⟨fun _ _ => True, fun _ _ _ _ _ => trivial⟩) (w' := w.freeze ⟨g, 0, none⟩ bs.length) (o' := .cells cur T0 (0, 0 + bs.length)) hd hm hi hd' h1 h2 hst hR hg (by
    unfold World.freeze; rw [if_neg hl]; simp only [Array.getElem?_modify, if_pos]; rw [hbw]; rfl) (fun x hx => by unfold World.freeze; rw [if_neg hl]; simp only [Array.getElem?_modify]; rw [if_neg (fun e => hx e.symm)]) (by unfold World.freeze; rw [if_neg hl]) (by unfold World.freeze; rw [if_neg hl]) trivial
   exact hput.sub (.drop .refl) (fun f h => h)) (fun _ => k)
end
set_option maxHeartbeats 1000000
set_option maxRecDepth 8000
variable {L : List Chunk} {R : List Fact} {w : World}
theorem Yg {P : Program} {t : TypeId} {k : IntKind} {d : Nat} {a b : Int} (ht : P.underlying t = some (.int k)) (w : World) : (Op.equalIn (d + 1) t (.int k a) (.int k b)).run P w = .ok (a == b) w := by
 unfold Op.equalIn; simp [Cb ht]
theorem Abf {P : Program} {t : TypeId} {d : Nat} {a b : Bool} (ht : P.underlying t = some .bool) (w : World) : (Op.equalIn (d + 1) t (.bool a) (.bool b)).run P w = .ok (a == b) w := by
 unfold Op.equalIn; simp [Cb ht]
theorem Abg (x y : Seen) {d : Nat} (w : World) : (Op.equalIn (d + 3) 28 (.agg x.cells.toArray) (.agg y.cells.toArray)).run Try.prog w = .ok (decide (x = y)) w := by
 show (Op.equalIn ((d + 2) + 1) 28 _ _).run _ _ = _
 rw [run_equalIn_struct w (d + 2) 28 _ _ (by kernel_rfl) (by kernel_rfl)]
 have e3 : ∀ (a b : Int) w, (Op.equalIn (d + 2) 3 (vi a) (vi b)).run Try.prog w = .ok (a == b) w := fun a b w => Yg (d := d + 1) Try.underlying3 w
 have e4 : ∀ (a b : Bool) w, (Op.equalIn (d + 2) 4 (.bool a) (.bool b)).run Try.prog w = .ok (a == b) w := fun a b w => Abf (d := d + 1) Try.underlying4 w
 have e26 : ∀ (a b : Int) w, (Op.equalIn (d + 2) 26 (vi a) (vi b)).run Try.prog w = .ok (a == b) w := fun a b w => Yg (d := d + 1) Try.underlying26 w
 simp only [Program.fieldsOf, Try.underlying28]
 simp [Op.eqFields, part, Try.isAgg3, Try.isAgg4, Try.isAgg26, Seen.cells, e3, e4, e26]
 cases x; cases y; simp
 repeat' split
 all_goals simp_all
theorem Acp (x y : Seen) {xo yo : Operand} (op : BinOp) (w : World) : (eqGuard op 28 xo yo (.agg x.cells.toArray) (.agg y.cells.toArray)).run Try.prog w = .ok () w := by
 have h : Try.prog.eqGuardType Try.prog.depth 28 = false := by kernel_rfl
 unfold eqGuard
 cases op <;> simp [h]
theorem Acg (x y : Seen) (w : World) : (binOp .eql 28 (.agg x.cells.toArray) (.agg y.cells.toArray)).run Try.prog w = .ok (.bool (decide (x = y))) w := by
 show (Op.equal 28 (.agg x.cells.toArray) (.agg y.cells.toArray) >>= fun r => Pure.pure (Value.bool r)).run _ w = _
 rw [Sem.run_bind, show Op.equal 28 (.agg x.cells.toArray) (.agg y.cells.toArray) = Op.equalIn (9997 + 3) 28 _ _ from rfl, Abg x y w]; rfl
theorem Uw {x y : Seen} (h : x = y) (w : World) : (binOp .eql 28 (.agg x.cells.toArray) (.agg y.cells.toArray)).run Try.prog w = .ok (.bool true) w := by rw [Acg, decide_eq_true h]
def EB (e : Entry) : Prop := e.wf ∧ (0 ≤ e.sharers ∧ e.sharers < 16) ∧ (0 ≤ e.need ∧ e.need < 16) ∧ (0 ≤ e.who ∧ e.who < 4) ∧ (-1 ≤ e.owner ∧ e.owner < 4) ∧ 0 ≤ e.turn
def zEC : List Value := [vi 0, vi 0, vi 0, vi 0, vi 0, vi 0, .bool false, vi 0, vi 0, .slice none 0 0]
theorem Il (id home : Int) : ∀ (l : List Line) (i : Int) (x : Line), Br id home i (l ++ [x]) = Br id home i l ++ if x.want ≠ 0 then [Bz x id home (i + (l.length : Int))] else []
 | [], i, x => by simp only [List.nil_append, Br, List.length_nil]; split <;> simp
 | a :: l, i, x => by
  have ih := Il id home l (i + 1) x
  have e : i + 1 + (l.length : Int) = i + ((a :: l).length : Int) := by simp only [List.length_cons]; omega
  rw [e] at ih
  simp only [List.cons_append, Br]
  split <;> simp [ih]
theorem Ml (id home : Int) : ∀ (l : List Line) (i : Int), (Br id home i l).length ≤ l.length
 | [], i => Nat.le_refl _
 | a :: l, i => by
  have := Ml id home l (i + 1)
  simp only [Br]; split <;> simp only [List.length_cons] <;> omega
def D3 (e : Entry) (line id : Int) (k : Nat) : List Msg := ((List.range k).filter (fun p => e.need.toNat.testBit p)).map fun (p : Nat) => (⟨4, id, (p : Int), line, 0, e.turn, 0, false⟩ : Msg)
theorem Qj {e : Entry} {line id : Int} {k : Nat} (h : e.need.toNat.testBit k = true) : D3 e line id (k + 1) = D3 e line id k ++ [⟨4, id, (k : Int), line, 0, e.turn, 0, false⟩] := by
 exact Zd4
theorem Sw {e : Entry} {line id : Int} {k : Nat} (h : e.need.toNat.testBit k = false) : D3 e line id (k + 1) = D3 e line id k := by
 exact Zd4
theorem Qk (e : Entry) (line id : Int) (k : Nat) : (D3 e line id k).length ≤ k := by
 unfold D3; rw [List.length_map]
 exact Nat.le_trans (List.length_filter_le ..) (by simp)
theorem Ql {e : Entry} {line id : Int} (h : e.phase = 2) : D3 e line id 4 = Hl e line id := by
 unfold D3 Hl
 rw [if_neg (by omega), if_pos h]
 show _ = List.map _ (List.filter _ ([0, 1, 2, 3].map (fun p : Nat => (p : Int))))
 rw [List.filter_map, List.map_map]
 rfl
theorem Xr : ∀ (s : _root_.Fin 16) (k : _root_.Fin 4), (s.val.testBit k.val = true → Gj (s.val : Int) (k.val : Int) = (s.val : Int) ∧ Gd (s.val : Int) (k.val : Int) = (s.val : Int) - ((2 ^ k.val : Nat) : Int)) ∧ (s.val.testBit k.val = false → Gj (s.val : Int) (k.val : Int) = (s.val : Int) + ((2 ^ k.val : Nat) : Int) ∧ Gd (s.val : Int) (k.val : Int) = (s.val : Int)) ∧ (0 ≤ Gj (s.val : Int) (k.val : Int) ∧ Gj (s.val : Int) (k.val : Int) < 16) ∧ (0 ≤ Gd (s.val : Int) (k.val : Int) ∧ Gd (s.val : Int) (k.val : Int) < 16) := by decide
theorem Eg {s k : Int} (h0 : 0 ≤ s) (h1 : s < 16) (h2 : 0 ≤ k) (h3 : k < 4) : (s.toNat.testBit k.toNat = true → Gj s k = s ∧ Gd s k = s - ((2 ^ k.toNat : Nat) : Int)) ∧ (s.toNat.testBit k.toNat = false → Gj s k = s + ((2 ^ k.toNat : Nat) : Int) ∧ Gd s k = s) ∧ (0 ≤ Gj s k ∧ Gj s k < 16) ∧ (0 ≤ Gd s k ∧ Gd s k < 16) := by
 obtain ⟨a, rfl⟩ := Int.eq_ofNat_of_zero_le h0
 obtain ⟨b, rfl⟩ := Int.eq_ofNat_of_zero_le h2
 exact Xr ⟨a, by omega⟩ ⟨b, by omega⟩
theorem G1 (e : Entry) : (Cs e).last = e.last := by
 unfold Cs; split
 ·rfl
 ·split <;> rfl
theorem Fo {e : Entry} (h : EB e) : EB (Cs e) := by
 obtain ⟨h1, h2, h3, h4, h5, h6⟩ := h
 obtain ⟨_, _, _, r⟩ := Eg h2.1 h2.2 h4.1 h4.2
 unfold Entry.wf Ao at h1
 unfold Cs EB Entry.wf Ao
 split
 ·simp only; omega
 split
 ·simp only; omega
 ·simp only; omega
theorem G8 {L L' : List Chunk} {R : List Fact} {T : TypeId} {v : Value} {xs : List Int} {i : Nat} (hp : Pick L (row T v xs) L') (hi : i < xs.length) : Bx L R (ep v 1 i 0) [vi (xs.getD i 0)] := U4 hp (getD_some 0 hi)
theorem Gp {P : Program} {n : Nat} {Q : Exit → Act → World → Prop} {L : List Chunk} {R : List Fact} {al : List (Nat × Value)} {c : Code} {v : Value} {l : List Entry} (i : Int) (hm : sl v l ∈ R) (h0 : 0 ≤ i) (hi : i < l.length) (k : (Ag l i).wf → ∀ u, JC P n c Q L (cF v 10 i.toNat (Entry.cells u (Ag l i)) :: sl u (Ag l i).last :: R) al) : JC P n c Q L R al := JC.open1 i.toNat hm (by omega) k
theorem Gu {v : Value} {xs : List Int} (hm : sl v xs ∈ R) (hs : St L R w) : ∀ x ∈ xs, Ao x := by
 intro x hx
 obtain ⟨i, hi, rfl⟩ := List.getElem_of_mem hx
 obtain ⟨cs, m, hr⟩ := sl_rd hm (List.getElem?_eq_getElem hi) hs
 exact hr.2
def dX (m : List Int) (o : Op) : List Int := m.set o.line.toNat (A7 (m.getD o.line.toNat 0) o).1
theorem opv1 {v : Int} {o : Op} (h : o.kind = 1) : A7 v o = (v, v) := by unfold A7; rw [if_pos h]
theorem opv2 {v : Int} {o : Op} (h : o.kind = 2) : A7 v o = (o.value, 0) := by unfold A7; rw [if_neg (by omega), if_pos h]
theorem opv3 {v : Int} {o : Op} (h : o.kind = 3) : A7 v o = ((v + o.value) % 256, v) := by unfold A7; rw [if_neg (by omega), if_neg (by omega), if_pos h]
theorem opv4 {v : Int} {o : Op} (h : o.kind = 4) : A7 v o = (v, 0) := by unfold A7; rw [if_neg (by omega), if_neg (by omega), if_neg (by omega)]
def Jy (v : Int) (o : Op) : List Int := (List.replicate (o.line + 1).toNat 0).set o.line.toNat v
theorem Mn {v : Int} {o : Op} (h : 0 ≤ o.line) : (Jy v o).length = o.line.toNat + 1 := by unfold Jy; rw [List.length_set, List.length_replicate]; omega
theorem Ll {v : Int} {o : Op} (h : 0 ≤ o.line) : (Jy v o).getD o.line.toNat 0 = v := by
 unfold Jy
 rw [List.getD_eq_getElem?_getD, List.getElem?_set_self (by rw [List.length_replicate]; omega)]; rfl
theorem tellDo {v : Int} {o : Op} (hk : 1 ≤ o.kind ∧ o.kind ≤ 4) (h : 0 ≤ o.line) (h2 : 0 ≤ o.value ∧ o.value ≤ 255) : Dh (Jy v o) o = (dX (Jy v o) o, (A7 v o).2, 0) := by
 have hl := Mn (v := v) h
 unfold Dh; rw [if_neg (by omega), if_neg (by omega), Ll h]; unfold dX; rw [Ll h]
theorem dX_at {m : List Int} {o : Op} (h : o.line.toNat < m.length) : (dX m o).getD o.line.toNat 0 = (A7 (m.getD o.line.toNat 0) o).1 := by
 unfold dX; rw [List.getD_eq_getElem?_getD, List.getElem?_set_self h]; rfl
end Go.Proofs.Ytbigiimomnfpdaa
namespace Go.Proofs.Ytbigiimomnfpdaa
namespace Abs
structure Ab where
 value : Int
 owner : Int
 phase : Int
 who : Int
 serial : Int
 alone : Int
 turn : Int
 last : Nat → Int
 sh : Nat → Int
 nd : Nat → Int
structure GI (n : Nat) (e : Ab) : Prop where
 own : -1 ≤ e.owner ∧ e.owner < n
 ph : 0 ≤ e.phase ∧ e.phase ≤ 3
 idle : e.phase = 0 → e.who = 0 ∧ e.serial = 0 ∧ e.alone = 0
 whor : e.phase ≠ 0 → 0 ≤ e.who ∧ e.who < n
 f1 : e.phase = 1 → 0 ≤ e.owner ∧ e.owner ≠ e.who
 f23 : 2 ≤ e.phase → e.owner = -1
 c2 : e.phase = 2 → e.alone = 1 ∧ ∃ p : Nat, p < n ∧ e.nd p = 1
 al : 0 ≤ e.alone ∧ e.alone ≤ 1
 tu : 0 ≤ e.turn ∧ e.turn ≤ 65535
 va : 0 ≤ e.value ∧ e.value ≤ 255
 se : 0 ≤ e.serial ∧ e.serial ≤ 65535
structure CI (e : Ab) (p : Nat) (l : Line) (V : Int) : Prop where
 st : 0 ≤ l.state ∧ l.state ≤ 3
 va : 0 ≤ l.value ∧ l.value ≤ 255
 wa : 0 ≤ l.want ∧ l.want ≤ 3
 se : 0 ≤ l.serial ∧ l.serial ≤ 65535
 ga : 0 ≤ l.gave ∧ l.gave ≤ l.seen ∧ l.seen ≤ e.turn
 gi : 0 ≤ l.given ∧ l.given ≤ 255
 la : 0 ≤ e.last p ∧ e.last p ≤ l.serial
 bits : 0 ≤ e.sh p ∧ e.sh p ≤ 1 ∧ 0 ≤ e.nd p ∧ e.nd p ≤ 1
 leav : l.state = 3 ↔ l.want = 3
 w1 : l.want = 1 → l.state = 0
 w2 : l.want = 2 → l.state ≤ 1
 taken : l.want = 1 ∨ l.want = 2 → e.last p = l.serial → e.phase ≠ 0 ∧ e.who = p
 back : l.want = 3 → e.last p = l.serial → e.owner ≠ p
 cur : e.phase ≠ 0 → e.who = p → e.serial = e.last p ∧
  ((l.serial = e.serial ∧ l.want = 1 + e.alone ∧ l.seen < e.turn) ∨
   ((l.serial ≠ e.serial ∨ l.want = 0) ∧ e.phase = 3 ∧ l.seen = e.turn ∧ (e.alone = 1 → 2 ≤ l.state) ∧ (e.alone = 0 → l.state ≤ 1)))
 own : e.owner = p → (2 ≤ l.state ∧ (e.phase = 1 → l.seen < e.turn)) ∨ (l.state < 2 ∧ e.phase = 1 ∧ l.gave = e.turn ∧ l.given = V ∧ (e.alone = 1 → l.state = 0))
 alo : l.state = 2 ∨ (l.state = 3 ∧ e.last p < l.serial) → (e.owner = p ∨ (e.phase = 3 ∧ e.who = p ∧ e.alone = 1)) ∧ l.value = V
 cop : l.state = 1 → (e.sh p = 1 ∨ e.owner = p ∨ (e.phase = 3 ∧ e.who = p ∧ l.seen = e.turn)) ∧ l.value = V
 shs : e.sh p = 1 → (l.state ≤ 1 ∨ (e.phase = 3 ∧ e.who = p ∧ e.alone = 1)) ∧ e.owner = -1
 ned : e.nd p = 1 → e.phase = 2 ∧ e.who ≠ p ∧ (l.seen = e.turn → l.state = 0)
 cle : e.phase = 2 → e.who ≠ p → e.nd p = e.sh p
 gra : e.phase = 3 → e.alone = 1 → e.who ≠ p → e.sh p = 0
 val : e.owner = -1 → (e.phase = 3 → e.alone = 1 → e.who = p ∧ l.seen < e.turn) → e.value = V
structure MI (e : Ab) (p : Nat) (l : Line) (m : Msg) : Prop where
 get : m.kind = 1 ∨ m.kind = 2 → m.serial ≤ l.serial ∧ (e.last p < m.serial → m.serial = l.serial ∧ l.want = m.kind)
 put : m.kind = 3 → m.serial ≤ l.serial ∧ (e.last p < m.serial → (m.serial = l.serial ∧ l.want = 3 ∧ m.value = l.value) ∨
  ((m.serial < l.serial ∨ l.want = 0) ∧ (e.owner ≠ p ∨ (e.phase = 1 ∧ l.gave = e.turn)) ∧ (e.phase = 0 ∨ e.who ≠ p)))
 inv : m.kind = 4 → m.turn ≤ e.turn ∧ (l.seen < m.turn → m.turn = e.turn ∧ e.phase = 2 ∧ e.nd p = 1)
 fet : m.kind = 5 ∨ m.kind = 6 → m.turn ≤ e.turn ∧ (l.seen < m.turn → m.turn = e.turn ∧ e.phase = 1 ∧ e.owner = p ∧ m.kind = 5 + e.alone)
 gra : m.kind = 7 → m.serial ≤ e.last p ∧ (m.serial = l.serial → l.want ≠ 0 → e.phase = 3 ∧ e.who = p ∧ m.turn = e.turn ∧ (m.alone = true ↔ e.alone = 1) ∧ m.value = e.value) ∧
  ((m.serial ≠ l.serial ∨ l.want = 0) → m.turn ≤ l.seen)
 gon : m.kind = 8 → m.turn ≤ l.seen
 dat : m.kind = 9 → m.turn ≤ l.seen ∧ (m.turn = e.turn → e.phase = 1 → e.owner = p → l.gave = e.turn ∧ m.value = l.given)
 tha : m.kind = 10 → m.turn ≤ l.seen
 tak : m.kind = 11 → m.serial ≤ e.last p
def upd {α : Type} (f : Nat → α) (p : Nat) (x : α) : Nat → α := fun q => if q = p then x else f q
end Abs
end Go.Proofs.Ytbigiimomnfpdaa
namespace Go.Proofs.Ytbigiimomnfpdaa
namespace Abs
set_option maxHeartbeats 2000000
section core
variable {n : Nat} {e : Ab} {p : Nat} {l : Line} {V : Int}
theorem Xp (hG : GI n e) (h : CI e p l V) (hw : l.want = 0) (hs : l.state ≠ 2) : CI e p { l with state := 0, value := 0 } V ∧ ∀ m, MI e p l m → MI e p { l with state := 0, value := 0 } m := by
 exact Zc4
theorem c_put (hG : GI n e) (h : CI e p l V) (hw : l.want = 0) (hs : l.state = 2) (hn : l.serial < 65535) : CI e p { l with state := 3, want := 3, serial := l.serial + 1 } V ∧ ∀ m, MI e p l m → MI e p { l with state := 3, want := 3, serial := l.serial + 1 } m := by
 exact Zc4
theorem c_ask {k : Int} (hG : GI n e) (h : CI e p l V) (hw : l.want = 0) (hk : k = 1 ∧ l.state = 0 ∨ k = 2 ∧ l.state ≤ 1) (hn : l.serial < 65535) : CI e p { l with want := k, serial := l.serial + 1 } V ∧ ∀ m, MI e p l m → MI e p { l with want := k, serial := l.serial + 1 } m := by
 rcases hk with ⟨rfl, hk⟩ | ⟨rfl, hk⟩ <;> refine ⟨?_, fun m hm => ?_⟩
 ·exact Zc1
 ·exact Zc6
 ·exact Zc1
 ·exact Zc6
theorem Aby {v : Int} (hG : GI n e) (h : CI e p l V) (hs : l.state = 2) (hv : 0 ≤ v ∧ v ≤ 255) : CI e p { l with value := v } v ∧ ∀ m, MI e p l m → MI e p { l with value := v } m := by
 exact Zc4
theorem Xo {q : Nat} {k : Line} {v : Int} (hG : GI n e) (h : CI e p l V) (hs : 2 ≤ l.state) (hl : l.state = 3 → e.last p < l.serial) (hq : q ≠ p) (hk : CI e q k V) : CI e q k v := by
 have ho : (e.owner = p ∨ (e.phase = 3 ∧ e.who = p ∧ e.alone = 1)) ∧ l.value = V := h.alo (by have := h.st; omega)
 have h1 := hk.own; have h2 := hk.alo; have h3 := hk.cop; have h4 := hk.val
 have h5 := h.own; have h6 := h.cur; have g1 := hG.f23; have g2 := hk.shs; have g3 := hk.gra; have g4 := hk.bits
 have g5 := hk.ga
 refine ⟨hk.st, hk.va, hk.wa, hk.se, hk.ga, hk.gi, hk.la, hk.bits, hk.leav, hk.w1, hk.w2, hk.taken, hk.back, hk.cur, ?_, ?_, ?_, hk.shs, hk.ned, hk.cle, hk.gra, ?_⟩
 ·clear h2 h3 h4; grind
 ·clear h1 h3 h4; grind
 ·clear h1 h2 h4; grind
 ·clear h1 h2 h3; grind
theorem c_inv {m : Msg} (hG : GI n e) (h : CI e p l V) (hm : MI e p l m) (hk : m.kind = 4) : CI e p (Dg l m.turn) V ∧ ∀ m', MI e p l m' → MI e p (Dg l m.turn) m' := by
 unfold Dg
 have := hm.inv hk
 split
 ·split
  ·exact Zc3
  ·exact Zc3
 ·exact ⟨h, fun _ h => h⟩
theorem Acb {m : Msg} (hG : GI n e) (h : CI e p l V) (hm : MI e p l m) (hk : m.kind = 5 ∨ m.kind = 6) (hf : Ew l m.turn) :
  CI e p (Cm l m.kind m.turn) V ∧ (∀ m', MI e p l m' → MI e p (Cm l m.kind m.turn) m') ∧ l.value = V ∧ ∀ m' : Msg, m'.kind = 9 → m'.turn = m.turn → m'.value = l.value → MI e p (Cm l m.kind m.turn) m' := by
 obtain ⟨hf1, hf2, hf3⟩ := hf
 obtain ⟨g0, g1, g2, g3⟩ := (hm.fet hk).2 hf2
 have hown := hG.f1 g1
 have how : e.who ≠ p := by rw [← g2]; exact fun h => hown.2 h.symm
 have hse := h.ga
 have hl0 : l.want = 3 → e.last p < l.serial := by intro hw; have := h.back hw; have := h.la; grind
 have hv : l.value = V := (h.alo (by have := h.leav; have := h.st; grind)).2
 have h2 := h.own g2
 have hwant : l.want = 0 ∨ l.want = 3 := by have := h.wa; have := h.w1; have := h.w2; grind
 have hsh : e.sh p = 0 := by have := h.shs; have := h.bits; grind
 have hnd : e.nd p = 0 := by have := h.ned; have := h.bits; grind
 have hal := hG.al
 have hmt : m.turn = e.turn := g0
 rw [hmt]
 unfold Cm
 have key : ∀ (st va wa : Int), (st = 0 ∨ st = 1 ∧ e.alone = 0) → wa = 0 → 0 ≤ va ∧ va ≤ 255 → (st = 1 → va = l.value) →
   CI e p ⟨st, va, wa, l.serial, e.turn, e.turn, l.value⟩ V ∧ (∀ m', MI e p l m' → MI e p ⟨st, va, wa, l.serial, e.turn, e.turn, l.value⟩ m') ∧ ∀ m' : Msg, m'.kind = 9 → m'.turn = e.turn → m'.value = l.value → MI e p ⟨st, va, wa, l.serial, e.turn, e.turn, l.value⟩ m' := by
  intro st va wa h1 h2 h3 h4
  refine ⟨?_, fun m' hm' => ?_, fun m' k1 k2 k3 => ?_⟩
  ·have k1 := h.se; have k2 := h.la; have k3 := h.va; have k4 := hG.tu; have k5 := h.bits
   constructor <;> (try simp only) <;> grind
  ·have k1 := hm'.get; have k2 := hm'.put; have k3 := hm'.inv; have k4 := hm'.fet; have k5 := hm'.gra; have k6 := hm'.gon; have k7 := hm'.dat; have k8 := hm'.tha; have k9 := hm'.tak
   constructor <;> (try simp only)
   ·clear k2 k3 k4 k5 k6 k7 k8 k9; grind
   ·clear k1 k3 k4 k5 k6 k7 k8 k9; grind
   ·clear k1 k2 k4 k5 k6 k7 k8 k9; grind
   ·clear k1 k2 k3 k5 k6 k7 k8 k9; grind
   ·clear k1 k2 k3 k4 k6 k7 k8 k9; grind
   ·clear k1 k2 k3 k4 k5 k7 k8 k9; grind
   ·clear k1 k2 k3 k4 k5 k6 k8 k9; grind
   ·clear k1 k2 k3 k4 k5 k6 k7 k9; grind
   ·clear k1 k2 k3 k4 k5 k6 k7 k8; grind
  ·constructor <;> (try simp only) <;> grind
 split
 ·obtain ⟨c1, c2, c3⟩ := key 0 0 0 (.inl rfl) rfl (by omega) (by omega)
  exact ⟨c1, c2, hv, c3⟩
 ·rename_i hw
  have hw0 : l.want = 0 := by omega
  split
  ·obtain ⟨c1, c2, c3⟩ := key 0 0 l.want (.inl rfl) hw0 (by omega) (by omega)
   exact ⟨c1, c2, hv, c3⟩
  ·obtain ⟨c1, c2, c3⟩ := key 1 l.value l.want (.inr ⟨rfl, by omega⟩) hw0 h.va (fun _ => rfl)
   exact ⟨c1, c2, hv, c3⟩
theorem Abz {m : Msg} (hG : GI n e) (h : CI e p l V) (hm : MI e p l m) (hk : m.kind = 11) (hw : l.want = 3) (hs : m.serial = l.serial) :
  CI e p { l with state := 0, value := 0, want := 0 } V ∧ ∀ m', MI e p l m' → MI e p { l with state := 0, value := 0, want := 0 } m' := by
 have h1 := hm.tak hk
 exact Zc3
theorem Aca {m : Msg} {v : Int} (hG : GI n e) (h : CI e p l V) (hm : MI e p l m) (hk : m.kind = 7) (ha : Ku l m) (hv : 0 ≤ v ∧ v ≤ 255) (hsame : m.alone = false → v = m.value) :
    CI e p { l with state := if m.alone then 2 else 1, value := v, want := 0, seen := m.turn } v ∧ (∀ m', MI e p l m' → MI e p { l with state := if m.alone then 2 else 1, value := v, want := 0, seen := m.turn } m') ∧
    m.value = V ∧ (∀ (q : Nat) (k : Line), q ≠ p → CI e q k V → CI e q k v) ∧ ∀ m' : Msg, m'.kind = 10 → m'.turn = m.turn → MI e p { l with state := if m.alone then 2 else 1, value := v, want := 0, seen := m.turn } m' := by
 obtain ⟨ha1, ha2⟩ := ha
 have hne : l.want ≠ 0 := by omega
 obtain ⟨g1, g2, g3, g4, g5⟩ := (hm.gra hk).2.1 ha1 hne
 have hcur := h.cur (by omega) g2
 have hown := hG.f23 (by omega)
 have hst : l.state ≤ 1 := by have := h.w1; have := h.w2; grind
 have hse : e.last p = l.serial := by have := h.la; have := (hm.gra hk).1; omega
 have hse' : l.serial = e.serial := by have := hcur.1; omega
 have hseen : l.seen < e.turn := by have := hcur.2; grind
 have hal := hG.al
 have hV : e.value = V := h.val hown (fun _ _ => ⟨g2, hseen⟩)
 have hwa : l.want = 1 + e.alone := by have := hcur.2; grind
 have halone : m.alone = true ∧ e.alone = 1 ∨ m.alone = false ∧ e.alone = 0 := by
  cases h' : m.alone with
  | true => exact .inl ⟨rfl, g4.1 h'⟩
  | false => right; refine ⟨rfl, ?_⟩; have : ¬ e.alone = 1 := fun h1 => by have := g4.2 h1; rw [h'] at this; cases this
             omega
 have hvV : e.alone = 0 → v = V := by intro h0; rw [hsame (halone.elim (fun h' => by omega) (fun h' => h'.1)), g5, hV]
 have hnd : e.nd p = 0 := by have := h.ned; have := h.bits; grind
 have key : ∀ st : Int, st = 1 + e.alone → CI e p ⟨st, v, 0, l.serial, m.turn, l.gave, l.given⟩ v ∧ (∀ m', MI e p l m' → MI e p ⟨st, v, 0, l.serial, m.turn, l.gave, l.given⟩ m') ∧ ∀ m' : Msg, m'.kind = 10 → m'.turn = m.turn → MI e p ⟨st, v, 0, l.serial, m.turn, l.gave, l.given⟩ m' := by
  intro st h1
  refine ⟨?_, fun m' hm' => ?_, fun m' k1 k2 => ?_⟩
  ·have k1 := h.se; have k2 := h.la; have k3 := h.va; have k4 := hG.tu; have k5 := h.bits; have k6 := h.gi; have k7 := h.ga; have k8 := h.gra; have k9 := h.shs
   have k10 := hcur.1; have k11 := h.cop; have k12 := h.alo
   constructor <;> (try simp only) <;> grind
  ·have k1 := hm'.get; have k2 := hm'.put; have k3 := hm'.inv; have k4 := hm'.fet; have k5 := hm'.gra; have k6 := hm'.gon; have k7 := hm'.dat; have k8 := hm'.tha; have k9 := hm'.tak
   constructor <;> (try simp only)
   ·clear k2 k3 k4 k5 k6 k7 k8 k9; grind
   ·clear k1 k3 k4 k5 k6 k7 k8 k9; grind
   ·clear k1 k2 k4 k5 k6 k7 k8 k9; grind
   ·clear k1 k2 k3 k5 k6 k7 k8 k9; grind
   ·clear k1 k2 k3 k4 k6 k7 k8 k9; grind
   ·clear k1 k2 k3 k4 k5 k7 k8 k9; grind
   ·clear k1 k2 k3 k4 k5 k6 k8 k9; grind
   ·clear k1 k2 k3 k4 k5 k6 k7 k9; grind
   ·clear k1 k2 k3 k4 k5 k6 k7 k8; grind
  ·constructor <;> (try simp only) <;> grind
 have hst2 : (if m.alone = true then (2 : Int) else 1) = 1 + e.alone := by rcases halone with h | h <;> rw [h.1, h.2] <;> rfl
 obtain ⟨c1, c2, c3⟩ := key _ hst2
 refine ⟨c1, c2, by rw [g5, hV], fun q k hq hk' => ?_, c3⟩
 have h1 := hk'.own; have h2 := hk'.alo; have h3 := hk'.cop; have h4 := hk'.val; have h5 := hk'.gra; have h6 := hk'.bits
 refine ⟨hk'.st, hk'.va, hk'.wa, hk'.se, hk'.ga, hk'.gi, hk'.la, hk'.bits, hk'.leav, hk'.w1, hk'.w2, hk'.taken, hk'.back, hk'.cur, ?_, ?_, ?_, hk'.shs, hk'.ned, hk'.cle, hk'.gra, ?_⟩
 ·clear h2 h3 h4; grind
 ·clear h1 h3 h4; grind
 ·clear h1 h2 h4; grind
 ·clear h1 h2 h3; grind
end core
end Abs
end Go.Proofs.Ytbigiimomnfpdaa
namespace Go.Proofs.Ytbigiimomnfpdaa
namespace Abs
set_option maxHeartbeats 2000000
section home
variable {n : Nat} {e e' : Ab} {L : Nat → Line} {V : Int}
theorem Zt {m : Msg} {p : Nat} (hG : GI n e) (hC : ∀ q, q < n → CI e q (L q) V) (hp : p < n) (hM : MI e p (L p) m) (hk : m.kind = 1 ∨ m.kind = 2) (hms : 0 ≤ m.serial ∧ m.serial ≤ 65535) (h0 : e.phase = 0) (hs : e.last p < m.serial) (ht : e.turn < 65535)
  (f1 : e'.value = e.value) (f2 : e'.owner = e.owner) (f3 : e'.sh = e.sh) (f4 : e'.who = p) (f5 : e'.serial = m.serial) (f6 : e'.alone = m.kind - 1) (f7 : e'.turn = e.turn + 1) (f8 : e'.last = upd e.last p m.serial)
  (f9 : (0 ≤ e.owner ∧ e'.phase = 1 ∧ ∀ q, e'.nd q = 0) ∨ (e.owner < 0 ∧ m.kind = 2 ∧ e'.phase = 2 ∧ (∃ q : Nat, q < n ∧ e'.nd q = 1) ∧ (∀ q : Nat, e'.nd q = if q = p then 0 else e.sh q)) ∨
   (e.owner < 0 ∧ e'.phase = 3 ∧ (∀ q, e'.nd q = 0) ∧ (m.kind = 2 → ∀ q : Nat, q < n → q ≠ p → e.sh q = 0))) :
  GI n e' ∧ (∀ q, q < n → CI e' q (L q) V) ∧ ∀ q, q < n → ∀ m', MI e q (L q) m' → MI e' q (L q) m' := by
 have h1 := (hM.get hk).2 hs
 have hCp := hC p hp
 have hst : (L p).state ≤ 1 := by have := hCp.w1; have := hCp.w2; grind
 have hnow : e.owner ≠ p := by have := hCp.own; grind
 have how := hG.own
 have hval : e.owner < 0 → e.value = V := by intro h; exact hCp.val (by omega) (by omega)
 have hph : (0 ≤ e.owner ∧ e'.phase = 1) ∨ (e.owner < 0 ∧ m.kind = 2 ∧ e'.phase = 2) ∨ (e.owner < 0 ∧ e'.phase = 3) := by
  rcases f9 with ⟨g1, g2, _⟩ | ⟨g1, g2, g3, _⟩ | ⟨g1, g2, _⟩
  ·exact .inl ⟨g1, g2⟩
  ·exact .inr (.inl ⟨g1, g2, g3⟩)
  ·exact .inr (.inr ⟨g1, g2⟩)
 have hc2 : e'.phase = 2 → ∃ q : Nat, q < n ∧ e'.nd q = 1 := by
  intro h2
  rcases f9 with ⟨g1, g2, _⟩ | ⟨g1, g2, g3, g4, _⟩ | ⟨g1, g2, _⟩
  ·omega
  ·exact g4
  ·omega
 have hnp : e'.nd p = 0 := by
  rcases f9 with ⟨_, _, g⟩ | ⟨_, _, _, _, g⟩ | ⟨_, _, g, _⟩
  ·exact g p
  ·rw [g p, if_pos rfl]
  ·exact g p
 have hnq : ∀ q : Nat, q < n → q ≠ p → (e'.phase = 2 → e'.nd q = e.sh q) ∧ (e'.phase ≠ 2 → e'.nd q = 0) ∧ (e'.phase = 3 → m.kind = 2 → e.sh q = 0) := by
  intro q hq hqp
  rcases f9 with ⟨_, g1, g⟩ | ⟨_, _, g1, _, g⟩ | ⟨_, g1, g, g'⟩
  ·exact ⟨by omega, fun _ => g q, by omega⟩
  ·exact ⟨fun _ => by rw [g q, if_neg hqp], by omega, by omega⟩
  ·exact ⟨by omega, fun _ => g q, fun _ hk => g' hk q hq hqp⟩
 have hlp : e'.last p = m.serial := by rw [f8]; simp [upd]
 have hlq : ∀ q, q ≠ p → e'.last q = e.last q := fun q hqp => by rw [f8]; simp [upd, hqp]
 clear f8 f9
 refine ⟨?_, fun q hq => ?_, fun q hq m' hm' => ?_⟩
 ·constructor
  ·have g0 := hG.own; have g1 := hG.own; grind
  ·have g0 := hG.own; have g1 := hG.ph; grind
  ·have g0 := hG.own; have g1 := hG.idle; grind
  ·intro _; rw [f4]; clear hc2; omega
  ·have g0 := hG.own; have g1 := hG.f1; grind
  ·have g0 := hG.own; have g1 := hG.f23; grind
  ·intro h2; exact ⟨by clear hc2; grind, hc2 h2⟩
  ·have g0 := hG.own; have g1 := hG.al; grind
  ·have g0 := hG.own; have g1 := hG.tu; grind
  ·have g0 := hG.own; have g1 := hG.va; grind
  ·have g0 := hG.own; have g1 := hG.se; grind
 ·have hCq := hC q hq
  have hsh : e'.sh q = e.sh q := by rw [f3]
  clear f3 hc2
  by_cases hqp : q = p
  ·subst hqp
   clear hnq hlq
   have w0 := hCp.wa
   constructor
   ·exact hCp.st
   ·exact hCp.va
   ·exact hCp.wa
   ·exact hCp.se
   ·exact Zd9
   ·exact hCp.gi
   ·exact ZdA
   ·exact Zd1
   ·exact hCp.leav
   ·exact hCp.w1
   ·exact hCp.w2
   ·have c0 := hCp.taken; grind
   ·have c0 := hCp.back; have c1 := hCp.wa; grind
   ·have c0 := hCp.cur; have c1 := hCp.ga; grind
   ·have c0 := hCp.own; have c1 := hCp.st; grind
   ·have c0 := hCp.alo; have c1 := hCp.leav; grind
   ·have c0 := hCp.cop; grind
   ·have c0 := hCp.shs; grind
   ·have c0 := hCp.ned; have c1 := hCp.ga; grind
   ·exact Zd5
   ·exact Zd6
   ·have c0 := hCp.val; have c1 := hCp.ga; grind
  ·have hn2 := hnq q hq hqp
   have hl2 := hlq q hqp
   clear hnq hlq hlp hnp hCp
   constructor
   ·exact hCq.st
   ·exact hCq.va
   ·exact hCq.wa
   ·exact hCq.se
   ·exact ZdB
   ·exact hCq.gi
   ·exact ZdC
   ·have c0 := hCq.bits; have c1 := hCq.bits; grind
   ·exact hCq.leav
   ·exact hCq.w1
   ·exact hCq.w2
   ·have c0 := hCq.taken; grind
   ·exact Zd2
   ·have c0 := hCq.cur; grind
   ·have c0 := hCq.own; have c1 := hCq.ga; grind
   ·have c0 := hCq.alo; grind
   ·have c0 := hCq.cop; grind
   ·have c0 := hCq.shs; grind
   ·have c0 := hCq.ned; have c1 := hCq.ga; have c2 := hCq.bits; grind
   ·exact Zd7
   ·have c0 := hCq.gra; grind
   ·have c0 := hCq.val; grind
 ·have hCq := hC q hq
  clear hc2 f3
  by_cases hqp : q = p
  ·subst hqp
   clear hnq hlq
   exact ZcB
  ·have hn2 := hnq q hq hqp
   have hl2 := hlq q hqp
   clear hnq hlq hlp hnp hCp
   exact ZcB
theorem h_put {m : Msg} {p : Nat} (hG : GI n e) (hC : ∀ q, q < n → CI e q (L q) V) (hp : p < n) (hM : MI e p (L p) m) (hk : m.kind = 3) (hmv : 0 ≤ m.value ∧ m.value ≤ 255) (h0 : e.phase = 0) (hs : e.last p < m.serial)
  (f3 : e'.sh = e.sh) (f4 : e'.who = e.who) (f5 : e'.serial = e.serial) (f6 : e'.alone = e.alone) (f7 : e'.turn = e.turn) (f8 : e'.last = upd e.last p m.serial) (f9 : e'.phase = e.phase) (f10 : e'.nd = e.nd)
  (f1 : (e.owner = p ∧ e'.owner = -1 ∧ e'.value = m.value) ∨ (e.owner ≠ p ∧ e'.owner = e.owner ∧ e'.value = e.value)) :
  GI n e' ∧ (∀ q, q < n → CI e' q (L q) V) ∧ ∀ q, q < n → ∀ m', MI e q (L q) m' → MI e' q (L q) m' := by
 have h1 := (hM.put hk).2 hs
 have h2 := (hM.put hk).1
 have hCp := hC p hp
 have how := hG.own
 have hA : e.owner = p → (L p).state = 3 ∧ (L p).want = 3 ∧ m.serial = (L p).serial ∧ m.value = V := by
  intro ho
  have hc : m.serial = (L p).serial ∧ (L p).want = 3 ∧ m.value = (L p).value := by grind
  have h3 := hCp.leav.2 hc.2.1
  exact ⟨h3, hc.2.1, hc.1, by rw [hc.2.2]; exact (hCp.alo (.inr ⟨h3, by omega⟩)).2⟩
 have hB : e.owner ≠ p → m.serial < (L p).serial ∨ (L p).want = 0 := by
  intro ho
  rcases h1 with h1 | h1
  ·exfalso
   have h3 := hCp.leav.2 h1.2.1
   have := (hCp.alo (.inr ⟨h3, by omega⟩)).1
   grind
  ·exact h1.1
 have hlp : e'.last p = m.serial := by rw [f8]; simp [upd]
 have hlq : ∀ q, q ≠ p → e'.last q = e.last q := fun q hqp => by rw [f8]; simp [upd, hqp]
 clear f8
 refine ⟨?_, fun q hq => ?_, fun q hq m' hm' => ?_⟩
 ·exact Zcy
 ·have hCq := hC q hq
  have hsh : e'.sh q = e.sh q := by rw [f3]
  have hnd : e'.nd q = e.nd q := by rw [f10]
  clear f3 f10
  by_cases hqp : q = p
  ·subst hqp
   clear hlq
   have l0 := hCp.leav
   have a0 := hCp.la
   constructor
   ·exact hCp.st
   ·exact hCp.va
   ·exact hCp.wa
   ·exact hCp.se
   ·exact Zd9
   ·exact hCp.gi
   ·exact ZdA
   ·exact Zd1
   ·exact hCp.leav
   ·exact hCp.w1
   ·exact hCp.w2
   ·have c0 := hCp.taken; have c1 := hCp.wa; grind
   ·have c0 := hCp.back; grind
   ·have c0 := hCp.cur; grind
   ·have c0 := hCp.own; have c1 := hCp.st; grind
   ·have c0 := hCp.alo; grind
   ·have c0 := hCp.cop; have c1 := hCp.cop; grind
   ·have c0 := hCp.shs; have c1 := hCp.st; grind
   ·have c0 := hCp.ned; grind
   ·exact Zd5
   ·exact Zd6
   ·have c0 := hCp.val; have c1 := hCp.val; grind
  ·have hl2 := hlq q hqp
   clear hlq hlp hCp
   constructor
   ·exact hCq.st
   ·exact hCq.va
   ·exact hCq.wa
   ·exact hCq.se
   ·exact ZdB
   ·exact hCq.gi
   ·exact ZdC
   ·have c0 := hCq.bits; grind
   ·exact hCq.leav
   ·exact hCq.w1
   ·exact hCq.w2
   ·have c0 := hCq.taken; grind
   ·exact Zd2
   ·have c0 := hCq.cur; grind
   ·have c0 := hCq.own; grind
   ·have c0 := hCq.alo; grind
   ·have c0 := hCq.cop; grind
   ·have c0 := hCq.shs; grind
   ·have c0 := hCq.ned; grind
   ·exact Zd7
   ·have c0 := hCq.gra; grind
   ·have c0 := hCq.val; grind
 ·have hCq := hC q hq
  have hnd : e'.nd q = e.nd q := by rw [f10]
  clear f3 f10
  by_cases hqp : q = p
  ·subst hqp
   clear hlq
   exact ZcH
  ·have hl2 := hlq q hqp
   clear hlq hlp hCp
   exact ZcH
theorem h_data {m : Msg} {p : Nat} (hG : GI n e) (hC : ∀ q, q < n → CI e q (L q) V) (hp : p < n) (hM : MI e p (L p) m) (hk : m.kind = 9) (hmv : 0 ≤ m.value ∧ m.value ≤ 255) (h0 : e.phase = 1) (ht : m.turn = e.turn) (ho : e.owner = p)
  (f1 : e'.value = m.value) (f2 : e'.owner = -1) (f3 : ∀ q : Nat, e'.sh q = if q = p ∧ e.alone = 0 then 1 else e.sh q) (f4 : e'.who = e.who) (f5 : e'.serial = e.serial) (f6 : e'.alone = e.alone) (f7 : e'.turn = e.turn) (f8 : e'.last = e.last) (f9 : e'.phase = 3) (f10 : ∀ q, e'.nd q = 0) :
  GI n e' ∧ (∀ q, q < n → CI e' q (L q) V) ∧ ∀ q, q < n → ∀ m', MI e q (L q) m' → MI e' q (L q) m' := by
 have h1 := (hM.dat hk).2 ht h0 ho
 have hCp := hC p hp
 have hga := hCp.ga
 have hown := hCp.own ho
 have hmV : m.value = V ∧ (L p).state < 2 ∧ (L p).seen = e.turn ∧ (e.alone = 1 → (L p).state = 0) := by grind
 have hf := hG.f1 h0
 have hwp : e.who ≠ p := by rw [← ho]; exact fun h => hf.2 h.symm
 have hw0 : (L p).want ≠ 3 := by have := hCp.leav; have := hCp.st; grind
 have hal := hG.al
 have hsp : (e.alone = 0 → e'.sh p = 1) ∧ (e.alone ≠ 0 → e'.sh p = e.sh p) := by have := f3 p; grind
 have hsq : ∀ q, q ≠ p → e'.sh q = e.sh q := by intro q hq; have := f3 q; grind
 clear f3
 refine ⟨?_, fun q hq => ?_, fun q hq m' hm' => ?_⟩
 ·exact Zcy
 ·refine ZaL ?_;intro hCq hl
  have hnd := f10 q
  have b0 := hCq.bits
  have s0 := hCq.shs
  clear f10 f8
  by_cases hqp : q = p
  ·subst hqp
   clear hsq
   constructor
   ·exact hCp.st
   ·exact hCp.va
   ·exact hCp.wa
   ·exact hCp.se
   ·exact Zd9
   ·exact hCp.gi
   ·exact ZdA
   ·exact Zd1
   ·exact hCp.leav
   ·exact hCp.w1
   ·exact hCp.w2
   ·have c0 := hCp.taken; grind
   ·have c0 := hCp.back; grind
   ·have c0 := hCp.cur; have c1 := hCp.cur; grind
   ·have c0 := hCp.own; grind
   ·have c0 := hCp.alo; have c1 := hCp.st; have c2 := hCp.leav; grind
   ·have c0 := hCp.cop; grind
   ·have c0 := hCp.shs; grind
   ·have c0 := hCp.ned; grind
   ·exact Zd5
   ·exact Zd6
   ·have c0 := hCp.val; grind
  ·have hs2 := hsq q hqp
   clear hsq hsp hCp
   constructor
   ·exact hCq.st
   ·exact hCq.va
   ·exact hCq.wa
   ·exact hCq.se
   ·exact ZdB
   ·exact hCq.gi
   ·exact ZdC
   ·have c0 := hCq.bits; grind
   ·exact hCq.leav
   ·exact hCq.w1
   ·exact hCq.w2
   ·have c0 := hCq.taken; have c1 := hCq.taken; grind
   ·exact Zd2
   ·have c0 := hCq.cur; have c1 := hCq.cur; grind
   ·have c0 := hCq.own; grind
   ·have c0 := hCq.alo; have c1 := hCq.alo; grind
   ·have c0 := hCq.cop; grind
   ·have c0 := hCq.shs; grind
   ·have c0 := hCq.ned; grind
   ·exact Zd7
   ·have c0 := hCq.gra; have c1 := hCq.gra; grind
   ·have c0 := hCq.val; grind
 ·refine ZaL ?_;intro hCq hl
  have hnd := f10 q
  clear f10 f8
  by_cases hqp : q = p
  ·subst hqp
   constructor
   ·have k0 := hm'.get; grind
   ·have k0 := hm'.put; have c0 := hCq.st; grind
   ·have k0 := hm'.inv; grind
   ·have k0 := hm'.fet; grind
   ·have k0 := hm'.gra; have c0 := hCq.taken; have c1 := hCq.cur; grind
   ·have k0 := hm'.gon; grind
   ·have k0 := hm'.dat; grind
   ·have k0 := hm'.tha; grind
   ·have k0 := hm'.tak; grind
  ·clear hCp
   constructor
   ·have k0 := hm'.get; grind
   ·have k0 := hm'.put; have c0 := hCq.st; grind
   ·have k0 := hm'.inv; grind
   ·have k0 := hm'.fet; grind
   ·have k0 := hm'.gra; have c0 := hCq.taken; have c1 := hCq.cur; have c2 := hCq.wa; grind
   ·have k0 := hm'.gon; grind
   ·have k0 := hm'.dat; grind
   ·have k0 := hm'.tha; grind
   ·have k0 := hm'.tak; grind
theorem Ye {m : Msg} {p : Nat} (hG : GI n e) (hC : ∀ q, q < n → CI e q (L q) V) (hp : p < n) (hM : MI e p (L p) m) (hk : m.kind = 8) (h0 : e.phase = 2) (ht : m.turn = e.turn) (ho : e.nd p = 1)
  (f1 : e'.value = e.value) (f2 : e'.owner = e.owner) (f3 : e'.sh = upd e.sh p 0) (f4 : e'.who = e.who) (f5 : e'.serial = e.serial) (f6 : e'.alone = e.alone) (f7 : e'.turn = e.turn) (f8 : e'.last = e.last)
  (f9 : (e'.phase = 2 ∧ (e'.nd = upd e.nd p 0) ∧ ∃ q : Nat, q < n ∧ e'.nd q = 1) ∨ (e'.phase = 3 ∧ (∀ q, e'.nd q = 0) ∧ ∀ q : Nat, q ≠ p → q < n → e.nd q = 0)) :
  GI n e' ∧ (∀ q, q < n → CI e' q (L q) V) ∧ ∀ q, q < n → ∀ m', MI e q (L q) m' → MI e' q (L q) m' := by
 have h1 := hM.gon hk
 have hCp := hC p hp
 have hga := hCp.ga
 have hned := hCp.ned ho
 have hst : (L p).state = 0 ∧ (L p).seen = e.turn ∧ e.who ≠ p := by grind
 have how := hG.f23 (by omega)
 have hal := (hG.c2 h0).1
 have hph : e'.phase = 2 ∨ e'.phase = 3 := by rcases f9 with ⟨g, _⟩ | ⟨g, _⟩ <;> omega
 have hc2 : e'.phase = 2 → ∃ q : Nat, q < n ∧ e'.nd q = 1 := by
  intro h2
  rcases f9 with ⟨_, _, g⟩ | ⟨g, _⟩
  ·exact g
  ·omega
 have hnp : e'.nd p = 0 := by
  rcases f9 with ⟨_, g, _⟩ | ⟨_, g, _⟩
  ·rw [g]; simp [upd]
  ·exact g p
 have hnq : ∀ q : Nat, q < n → q ≠ p → e'.nd q = e.nd q ∧ (e'.phase = 3 → e.nd q = 0) := by
  intro q hq hqp
  rcases f9 with ⟨g1, g, _⟩ | ⟨g1, g, g'⟩
  ·exact ⟨by rw [g]; simp [upd, hqp], by omega⟩
  ·exact ⟨by rw [g q, g' q hqp hq], fun _ => g' q hqp hq⟩
 have hsp : e'.sh p = 0 := by rw [f3]; simp [upd]
 have hsq : ∀ q, q ≠ p → e'.sh q = e.sh q := fun q hqp => by rw [f3]; simp [upd, hqp]
 clear f9 f3
 refine ⟨?_, fun q hq => ?_, fun q hq m' hm' => ?_⟩
 ·constructor
  ·have g0 := hG.own; have g1 := hG.own; grind
  ·have g0 := hG.own; have g1 := hG.ph; grind
  ·have g0 := hG.own; have g1 := hG.idle; grind
  ·have g0 := hG.own; have g1 := hG.whor; grind
  ·have g0 := hG.own; have g1 := hG.f1; grind
  ·have g0 := hG.own; have g1 := hG.f23; grind
  ·intro h2; exact ⟨by clear hc2; grind, hc2 h2⟩
  ·have g0 := hG.own; have g1 := hG.al; grind
  ·have g0 := hG.own; have g1 := hG.tu; grind
  ·have g0 := hG.own; have g1 := hG.va; grind
  ·have g0 := hG.own; have g1 := hG.se; grind
 ·refine ZaL ?_;intro hCq hl
  clear f8 hc2
  by_cases hqp : q = p
  ·subst hqp
   clear hnq hsq
   constructor
   ·exact hCp.st
   ·exact hCp.va
   ·exact hCp.wa
   ·exact hCp.se
   ·exact Zd9
   ·exact hCp.gi
   ·exact ZdA
   ·exact Zd1
   ·exact hCp.leav
   ·exact hCp.w1
   ·exact hCp.w2
   ·have c0 := hCp.taken; grind
   ·have c0 := hCp.back; grind
   ·have c0 := hCp.cur; grind
   ·have c0 := hCp.own; grind
   ·have c0 := hCp.alo; have c1 := hCp.st; grind
   ·have c0 := hCp.cop; grind
   ·have c0 := hCp.shs; grind
   ·have c0 := hCp.ned; grind
   ·exact Zd5
   ·exact Zd6
   ·have c0 := hCp.val; grind
  ·have hn2 := hnq q hq hqp
   have hs2 := hsq q hqp
   have b0 := hCq.bits
   clear hnq hsq hCp
   constructor
   ·exact hCq.st
   ·exact hCq.va
   ·exact hCq.wa
   ·exact hCq.se
   ·exact ZdB
   ·exact hCq.gi
   ·exact ZdC
   ·have c0 := hCq.bits; grind
   ·exact hCq.leav
   ·exact hCq.w1
   ·exact hCq.w2
   ·have c0 := hCq.taken; grind
   ·exact Zd2
   ·have c0 := hCq.cur; have c1 := hCq.cur; grind
   ·have c0 := hCq.own; grind
   ·have c0 := hCq.alo; have c1 := hCq.alo; grind
   ·have c0 := hCq.cop; have c1 := hCq.cop; grind
   ·have c0 := hCq.shs; grind
   ·have c0 := hCq.ned; have c1 := hCq.ned; grind
   ·exact Zd7
   ·have c0 := hCq.gra; have c1 := hCq.cle; grind
   ·have c0 := hCq.val; grind
 ·refine ZaL ?_;intro hCq hl
  clear f8 hc2
  by_cases hqp : q = p
  ·subst hqp
   clear hnq hsq
   exact ZcF
  ·have hn2 := hnq q hq hqp
   clear hnq hsq hCp
   exact ZcF
theorem P0 {m : Msg} {p : Nat} (hG : GI n e) (hC : ∀ q, q < n → CI e q (L q) V) (hp : p < n) (hM : MI e p (L p) m) (hk : m.kind = 10) (h0 : e.phase = 3) (ht : m.turn = e.turn) (hw : e.who = p)
  (f1 : e'.value = e.value) (f4 : e'.who = 0) (f5 : e'.serial = 0) (f6 : e'.alone = 0) (f7 : e'.turn = e.turn) (f8 : e'.last = e.last) (f9 : e'.phase = 0) (f10 : ∀ q, e'.nd q = e.nd q)
  (f2 : (e.alone = 1 ∧ e'.owner = p ∧ ∀ q, e'.sh q = 0) ∨ (e.alone = 0 ∧ e'.owner = e.owner ∧ ∀ q : Nat, e'.sh q = if q = p then 1 else e.sh q)) :
  GI n e' ∧ (∀ q, q < n → CI e' q (L q) V) ∧ ∀ q, q < n → ∀ m', MI e q (L q) m' → MI e' q (L q) m' := by
 have h1 := hM.tha hk
 have hCp := hC p hp
 have hga := hCp.ga
 have hcur := hCp.cur (by omega) hw
 have hst : (L p).seen = e.turn ∧ (e.alone = 1 → 2 ≤ (L p).state) ∧ (e.alone = 0 → (L p).state ≤ 1) ∧ ((L p).serial ≠ e.serial ∨ (L p).want = 0) := by grind
 have how := hG.f23 (by omega)
 have hal := hG.al
 have ha2 : (e.alone = 1 ∧ e'.owner = p) ∨ (e.alone = 0 ∧ e'.owner = -1) := by
  rcases f2 with ⟨g1, g2, _⟩ | ⟨g1, g2, _⟩
  ·exact .inl ⟨g1, g2⟩
  ·exact .inr ⟨g1, by rw [g2]; exact how⟩
 have hsp : (e.alone = 1 → e'.sh p = 0) ∧ (e.alone = 0 → e'.sh p = 1) := by
  rcases f2 with ⟨g1, _, g⟩ | ⟨g1, _, g⟩
  ·exact ⟨fun _ => g p, by omega⟩
  ·exact ⟨by omega, fun _ => by rw [g p, if_pos rfl]⟩
 have hsq : ∀ q : Nat, q ≠ p → (e.alone = 1 → e'.sh q = 0) ∧ (e.alone = 0 → e'.sh q = e.sh q) := by
  intro q hqp
  rcases f2 with ⟨g1, _, g⟩ | ⟨g1, _, g⟩
  ·exact ⟨fun _ => g q, by omega⟩
  ·exact ⟨by omega, fun _ => by rw [g q, if_neg hqp]⟩
 clear f2
 refine ⟨?_, fun q hq => ?_, fun q hq m' hm' => ?_⟩
 ·exact Zcy
 ·refine ZaL ?_;intro hCq hl
  have hnd := f10 q
  have n0 := hCq.ned
  have b0 := hCq.bits
  clear f10 f8
  by_cases hqp : q = p
  ·subst hqp
   clear hsq
   have l0 := hCp.leav
   have s0 := hCp.st
   constructor
   ·exact hCp.st
   ·exact hCp.va
   ·exact hCp.wa
   ·exact hCp.se
   ·exact Zd9
   ·exact hCp.gi
   ·exact ZdA
   ·exact Zd1
   ·exact hCp.leav
   ·exact hCp.w1
   ·exact hCp.w2
   ·have c0 := hCp.taken; have c1 := hCp.wa; grind
   ·have c0 := hCp.back; have c1 := hCp.la; grind
   ·have c0 := hCp.cur; grind
   ·have c0 := hCp.own; have c1 := hCp.own; grind
   ·have c0 := hCp.alo; have c1 := hCp.alo; grind
   ·have c0 := hCp.cop; grind
   ·have c0 := hCp.shs; grind
   ·have c0 := hCp.ned; grind
   ·exact Zd5
   ·exact Zd6
   ·have c0 := hCp.val; grind
  ·have hs2 := hsq q hqp
   clear hsq hsp hCp
   constructor
   ·exact hCq.st
   ·exact hCq.va
   ·exact hCq.wa
   ·exact hCq.se
   ·exact ZdB
   ·exact hCq.gi
   ·exact ZdC
   ·have c0 := hCq.bits; grind
   ·exact hCq.leav
   ·exact hCq.w1
   ·exact hCq.w2
   ·have c0 := hCq.taken; grind
   ·exact Zd2
   ·have c0 := hCq.cur; grind
   ·have c0 := hCq.own; grind
   ·have c0 := hCq.alo; grind
   ·have c0 := hCq.cop; have c1 := hCq.gra; grind
   ·have c0 := hCq.shs; have c1 := hCq.gra; grind
   ·have c0 := hCq.ned; grind
   ·exact Zd7
   ·have c0 := hCq.gra; grind
   ·have c0 := hCq.val; have c1 := hCq.val; grind
 ·refine ZaL ?_;intro hCq hl
  have hnd := f10 q
  have n0 := hCq.ned
  clear f10 f8
  by_cases hqp : q = p
  ·subst hqp
   have l0 := hCp.leav
   have s0 := hCp.st
   constructor
   ·have k0 := hm'.get; grind
   ·have k0 := hm'.put; have c0 := hCq.la; grind
   ·have k0 := hm'.inv; grind
   ·have k0 := hm'.fet; grind
   ·have k0 := hm'.gra; have c0 := hCq.la; have c1 := hCq.wa; have c2 := hCq.ga; grind
   ·have k0 := hm'.gon; grind
   ·have k0 := hm'.dat; grind
   ·have k0 := hm'.tha; grind
   ·have k0 := hm'.tak; grind
  ·clear hCp
   constructor
   ·have k0 := hm'.get; grind
   ·have k0 := hm'.put; grind
   ·have k0 := hm'.inv; grind
   ·have k0 := hm'.fet; grind
   ·have k0 := hm'.gra; have c0 := hCq.la; have c1 := hCq.wa; have c2 := hCq.taken; grind
   ·have k0 := hm'.gon; grind
   ·have k0 := hm'.dat; grind
   ·have k0 := hm'.tha; grind
   ·have k0 := hm'.tak; grind
end home
end Abs
end Go.Proofs.Ytbigiimomnfpdaa
namespace Go.Proofs.Ytbigiimomnfpdaa
open Abs
def Dq (s : Int) (p : Nat) : Int := if s.toNat.testBit p then 1 else 0
def ab (e : Entry) : Ab :=
  { value := e.value, owner := e.owner, phase := e.phase, who := e.who, serial := e.serial, alone := if e.alone then 1 else 0, turn := e.turn,
    last := fun p => e.last.getD p 0, sh := Dq e.sharers, nd := Dq e.need }
def ent (x : Chip) (i : Nat) : Entry := x.home.getD i Ay
def cor (x : Chip) (p : Nat) : Core := x.cores.getD p Ez
def lin (x : Chip) (i p : Nat) : Line := (cor x p).lines.getD i zLine
def Qy (n : Nat) (m : Msg) : Nat := if m.dst = (n : Int) then m.src.toNat else m.dst.toNat
def E3 (k : Int) : Int := if k = 1 then 1 else if k = 4 then 3 else 2
structure CW (k : Core) (nl : Nat) : Prop where
 free : k.wait.kind = 0 → k.wait = zOp ∧ ∀ i, i < nl → (k.lines.getD i zLine).want = 0
 busy : k.wait.kind ≠ 0 → (1 ≤ k.wait.kind ∧ k.wait.kind ≤ 4) ∧ (0 ≤ k.wait.line ∧ k.wait.line < nl) ∧ (0 ≤ k.wait.value ∧ k.wait.value ≤ 255) ∧
  ∀ i, i < nl → (k.lines.getD i zLine).want = if (i : Int) = k.wait.line then E3 k.wait.kind else 0
def MX (n : Nat) (x : Chip) (m : Msg) : Prop := MI (ab (ent x m.line.toNat)) (Qy n m) (lin x m.line.toNat (Qy n m)) m
def F8 (n nl : Nat) : Config := ⟨(n : Int), (nl : Int)⟩
structure Inv (n nl : Nat) (x : Chip) (M : List Int) : Prop where
 n1 : 1 ≤ n ∧ n ≤ 4
 l1 : 1 ≤ nl ∧ nl ≤ 4
 nc : x.cores.length = n
 nh : x.home.length = nl
 ncl : ∀ p, p < n → (cor x p).lines.length = nl
 nla : ∀ i, i < nl → (ent x i).last.length = n
 ml : M.length = nl
 mv : ∀ i, i < nl → 0 ≤ M.getD i 0 ∧ M.getD i 0 ≤ 255
 bit : ∀ i, i < nl → (0 ≤ (ent x i).sharers ∧ (ent x i).sharers < (2 ^ n : Nat)) ∧ (0 ≤ (ent x i).need ∧ (ent x i).need < (2 ^ n : Nat))
 gi : ∀ i, i < nl → GI n (ab (ent x i))
 ci : ∀ i, i < nl → ∀ p, p < n → CI (ab (ent x i)) p (lin x i p) (M.getD i 0)
 cw : ∀ p, p < n → CW (cor x p) nl
 fr : x.frames.length ≤ 40
 mi : ∀ b ∈ x.frames, b.length = 12 ∧ ∀ m, Ae (F8 n nl) b = (m, 0) → MX n x m
section
variable {n nl : Nat} {x : Chip} {M : List Int}
theorem Inv.core {p i : Nat} {l' : Line} {w' : Op} {V' : Int} (h : Inv n nl x M) (hp : p < n) (hi : i < nl) (hl : CI (ab (ent x i)) p l' V') (ho : ∀ q, q < n → q ≠ p → CI (ab (ent x i)) q (lin x i q) (M.getD i 0) → CI (ab (ent x i)) q (lin x i q) V')
  (hm : ∀ m, MI (ab (ent x i)) p (lin x i p) m → MI (ab (ent x i)) p l' m) (hw : CW (Bw (cor x p) i l' w') nl) (hv : 0 ≤ V' ∧ V' ≤ 255) :
  Inv n nl ⟨x.cores.set p (Bw (cor x p) i l' w'), x.home, x.frames⟩ (M.set i V') := by
 have hpc : p < x.cores.length := by rw [h.nc]; exact hp
 have hcl := h.ncl p hp
 have hcor : ∀ q, cor ⟨x.cores.set p (Bw (cor x p) i l' w'), x.home, x.frames⟩ q = if q = p then Bw (cor x p) i l' w' else cor x q := fun q => Cy _ _ _ _ _ hpc
 have hlin : ∀ j q, lin ⟨x.cores.set p (Bw (cor x p) i l' w'), x.home, x.frames⟩ j q = if q = p ∧ j = i then l' else lin x j q := by
  intro j q
  unfold lin
  rw [hcor]
  by_cases hq : q = p
  ·subst hq
   rw [if_pos rfl]
   show ((cor x q).lines.set _ l').getD j zLine = _
   rw [Int.toNat_natCast, Cy _ _ _ _ _ (by rw [hcl]; exact hi)]
   by_cases hj : j = i
   ·rw [if_pos hj, if_pos ⟨rfl, hj⟩]
   ·rw [if_neg hj, if_neg (by simp [hj])]
  ·rw [if_neg hq, if_neg (by simp [hq])]
 have hM : ∀ j, (M.set i V').getD j 0 = if j = i then V' else M.getD j 0 := fun j => Cy _ _ _ _ _ (by rw [h.ml]; exact hi)
 refine ⟨h.n1, h.l1, by simp [h.nc], h.nh, ?_, h.nla, by simp [h.ml], ?_, h.bit, h.gi, ?_, ?_, h.fr, ?_⟩
 ·intro q hq
  rw [hcor]
  split
  ·show ((cor x p).lines.set _ l').length = nl
   rw [List.length_set]; exact hcl
  ·exact h.ncl q hq
 ·intro j hj
  rw [hM]; split
  ·exact hv
  ·exact h.mv j hj
 ·intro j hj q hq
  rw [hlin, hM]
  by_cases hji : j = i
  ·subst hji
   rw [if_pos rfl]
   by_cases hqp : q = p
   ·subst hqp; rw [if_pos ⟨rfl, rfl⟩]; exact hl
   ·rw [if_neg (by simp [hqp])]; exact ho q hq hqp (h.ci j hj q hq)
  ·rw [if_neg (by simp [hji]), if_neg hji]; exact h.ci j hj q hq
 ·intro q hq
  rw [hcor]; split
  ·exact hw
  ·exact h.cw q hq
 ·intro b hb
  obtain ⟨h1, h2⟩ := h.mi b hb
  refine ⟨h1, fun m hmp => ?_⟩
  have h3 := h2 m hmp
  unfold MX at h3 ⊢
  rw [hlin]
  show MI (ab (ent x m.line.toNat)) _ _ m
  split
  ·rename_i hc
   rw [hc.1, hc.2] at h3 ⊢
   exact hm m h3
  ·exact h3
theorem Inv.home {i : Nat} {e' : Entry} (h : Inv n nl x M) (hi : i < nl) (hla : e'.last.length = n) (hb : (0 ≤ e'.sharers ∧ e'.sharers < (2 ^ n : Nat)) ∧ (0 ≤ e'.need ∧ e'.need < (2 ^ n : Nat)))
  (hg : GI n (ab e') ∧ (∀ q, q < n → CI (ab e') q (lin x i q) (M.getD i 0)) ∧ ∀ q, q < n → ∀ m, MI (ab (ent x i)) q (lin x i q) m → MI (ab e') q (lin x i q) m) :
  Inv n nl ⟨x.cores, x.home.set i e', x.frames⟩ M := by
 have hic : i < x.home.length := by rw [h.nh]; exact hi
 have hent : ∀ j, ent ⟨x.cores, x.home.set i e', x.frames⟩ j = if j = i then e' else ent x j := fun q => Cy _ _ _ _ _ hic
 obtain ⟨hg1, hg2, hg3⟩ := hg
 refine ⟨h.n1, h.l1, h.nc, by simp [h.nh], h.ncl, ?_, h.ml, h.mv, ?_, ?_, ?_, h.cw, h.fr, ?_⟩
 ·intro j hj; rw [hent]; split
  ·exact hla
  ·exact h.nla j hj
 ·intro j hj; rw [hent]; split
  ·exact hb
  ·exact h.bit j hj
 ·intro j hj; rw [hent]; split
  ·exact hg1
  ·exact h.gi j hj
 ·intro j hj q hq
  rw [hent]
  show CI _ q (lin x j q) _
  by_cases hji : j = i
  ·subst hji; rw [if_pos rfl]; exact hg2 q hq
  ·rw [if_neg hji]; exact h.ci j hj q hq
 ·intro b hb
  obtain ⟨h1, h2⟩ := h.mi b hb
  refine ⟨h1, fun m hmp => ?_⟩
  have h3 := h2 m hmp
  have hw := Hw (Js hmp).2.2.2.2.1
  have hpe : Qy n m < n := by
   unfold Qy
   have h4 : m.src = (n : Int) ↔ ¬ m.dst = (n : Int) := by
    have := hw.2.2.2.2.2.2
    simp only [F8] at this
    by_cases h : m.src = (n : Int) <;> by_cases h' : m.dst = (n : Int) <;> simp_all
   have h5 := hw.2.1
   simp only [F8] at h5
   split
   ·have : ¬ m.src = (n : Int) := by rename_i hd; intro hs; exact h4.1 hs hd
    omega
   ·omega
  unfold MX at h3 ⊢
  rw [hent]
  show MI _ _ (lin x m.line.toNat _) m
  split
  ·rename_i hc
   rw [hc] at h3 ⊢
   exact hg3 _ hpe m h3
  ·exact h3
theorem Inv.frames {f : Frames} (h : Inv n nl x M) (hl : f.length ≤ 40) (hf : ∀ b ∈ f, b.length = 12 ∧ ∀ m, Ae (F8 n nl) b = (m, 0) → MX n x m) : Inv n nl ⟨x.cores, x.home, f⟩ M :=
 ⟨h.n1, h.l1, h.nc, h.nh, h.ncl, h.nla, h.ml, h.mv, h.bit, h.gi, h.ci, h.cw, hl, hf⟩
theorem Inv.send {b : List UInt8} (h : Inv n nl x M) (hb : b.length = 12 ∧ ∀ m, Ae (F8 n nl) b = (m, 0) → MX n x m) : Inv n nl ⟨x.cores, x.home, Dx x.frames b⟩ M := by
 unfold Dx
 have := h.fr
 split
 ·refine h.frames (by simp; omega) fun b' hb' => ?_
  rcases List.mem_append.1 hb' with e | e
  ·exact h.mi b' e
  ·rw [List.mem_singleton.1 e]; exact hb
 ·exact h
theorem Inv.msg {m : Msg} (h : Inv n nl x M) (hw : Bc (F8 n nl) m = 0) (hm : MX n x m) : (Bj m).length = 12 ∧ ∀ m', Ae (F8 n nl) (Bj m) = (m', 0) → MX n x m' := by
 refine ⟨M8 m, fun m' h' => ?_⟩
 have h1 := h.n1; have h2 := h.l1
 rw [Og hw (by simp only [F8]; omega) (by simp only [F8]; omega)] at h'
 cases h'; exact hm
theorem Inv.way {ms : List Msg} : ∀ {x : Chip}, Inv n nl x M → (∀ m ∈ ms, Bc (F8 n nl) m = 0 ∧ MX n x m) → Inv n nl ⟨x.cores, x.home, way x.frames ms⟩ M := by
 induction ms with
 | nil => intro x h _; exact h
 | cons m ms ih =>
  intro x h hm
  have h1 := hm m (List.mem_cons_self ..)
  have h2 := h.send (h.msg h1.1 h1.2)
  exact ih h2 fun m' hm' => hm m' (List.mem_cons_of_mem _ hm')
theorem Inv.erase (h : Inv n nl x M) (k : Nat) : Inv n nl ⟨x.cores, x.home, x.frames.eraseIdx k⟩ M := by
 have := h.fr
 refine h.frames (Nat.le_trans (List.length_eraseIdx_le _ _) h.fr) fun b hb => h.mi b (List.mem_of_mem_eraseIdx hb)
theorem J9 {l : Frames} {k : Int} (h : ¬ (k < 0 ∨ (l.length : Int) ≤ k)) : Cq l k ∈ l := by
 unfold Cq
 rw [List.getD_eq_getElem?_getD, List.getElem?_eq_getElem (by omega)]
 exact List.getElem_mem _
theorem Inv.spoil {k bit : Int} (h : Inv n nl x M) (h1 : ¬ (k < 0 ∨ (x.frames.length : Int) ≤ k)) (h2 : (Ae (F8 n nl) (Cq x.frames k)).2 = 0) (h3 : 0 ≤ bit) (h4 : bit < 8 * ((Cq x.frames k).length : Int)) :
  Inv n nl ⟨x.cores, x.home, x.frames.set k.toNat (D1 (Cq x.frames k) bit)⟩ M := by
 refine h.frames (by rw [List.length_set]; exact h.fr) fun b hb => ?_
 rcases List.mem_or_eq_of_mem_set hb with e | e
 ·exact h.mi b e
 ·subst e
  have hl := (h.mi _ (J9 h1)).1
  refine ⟨by rw [Pe]; exact hl, fun m hm => ?_⟩
  have hp : Ae (F8 n nl) (Cq x.frames k) = ((Ae (F8 n nl) (Cq x.frames k)).1, 0) := by rw [← h2]
  rw [Qe hp h3 (by rw [hl] at h4; exact h4)] at hm
  cases hm
end
set_option maxHeartbeats 1000000
set_option maxRecDepth 8000
variable {L : List Chunk} {R : List Fact} {w : World}
structure KB (c : Core) : Prop where
 n : c.lines.length ≤ 4
 v : ∀ i, i < c.lines.length → 0 ≤ (c.lines.getD i zLine).value ∧ (c.lines.getD i zLine).value ≤ 255
 w : CW c c.lines.length
theorem S8 {v : Int} {o : Op} (hv : Ao v) : Ao (A7 v o).2 := by
 unfold A7; split
 ·exact hv
 split
 ·unfold Ao; simp only; omega
 split
 ·exact hv
 ·unfold Ao; simp only; omega
theorem KB.wait {c : Core} (h : KB c) (i : Int) (hi : i.toNat < c.lines.length) (hw : (Bn c i).want ≠ 0) : (1 ≤ c.wait.kind ∧ c.wait.kind ≤ 4) ∧ (0 ≤ c.wait.line ∧ c.wait.line < c.lines.length) ∧ (0 ≤ c.wait.value ∧ c.wait.value ≤ 255) := by
 have hb := h.w.busy (fun h0 => hw ((h.w.free h0).2 i.toNat hi))
 exact ⟨hb.1, hb.2.1, hb.2.2.1⟩
theorem KB.wwf {c : Core} (h : KB c) : c.wait.wf := by
 by_cases h0 : c.wait.kind = 0
 ·rw [(h.w.free h0).1]; unfold Op.wf Ao zOp; simp only; omega
 ·obtain ⟨h1, h2, h3, _⟩ := h.w.busy h0
  have := h.n
  unfold Op.wf Ao; omega
theorem Pz {c : Core} {id home : Int} {m : Msg} (h : m.line < 0 ∨ (c.lines.length : Int) ≤ m.line) : Ac c id home m = (c, [], []) := by unfold Ac; rw [if_pos h]
end Go.Proofs.Ytbigiimomnfpdaa
