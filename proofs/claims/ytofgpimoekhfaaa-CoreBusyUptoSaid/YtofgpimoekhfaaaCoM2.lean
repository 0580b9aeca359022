/- This file proves parts of what its law needs: each part is told ahead of it. No conditions. -/
import Derived.Test.YtofgpimoekhfaaaCoM1
import Derived.Laws.StructEq
/- This file proves how one element of an array lies open: its cells, and slices that lie in them. No conditions. -/
set_option linter.unusedVariables false
set_option linter.unusedSimpArgs false
namespace Go.Proofs.Ytofgpimoekhfaaa
open Go
def cF (v : Value) (sz i : Nat) (cs : List Value) : Fact :=
  ⟨fun m => ∃ a cells T fz, ep v sz i 0 = .pointer (some a) ∧ (∀ f, ep v sz i f = .pointer (some (a.add f))) ∧ a.spot = none ∧ m (a.block + 1) = some (.ob (.cells cells T fz)) ∧ ∀ (k : Nat) c, cs[k]? = some c → cells[a.off + k]? = some c,
   fun m m' h ⟨a, cells, T, fz, h1, h2, h3, h4, h5⟩ => ⟨a, cells, T, fz, h1, h2, h3, h _ _ h4, h5⟩⟩
section
variable {P : Program} {n : Nat} {ops : Array Oper} {Q : Exit → Act → World → Prop} {rest : List Oper} {L L' : List Chunk} {R : List Fact} {al : List (Nat × Value)} {d : Nat} {x y : Operand} {T ty : TypeId} {pos : String} {aft : Array Edge}
theorem Xl {v : Value} {sz i f : Nat} {cs ds : List Value} (hm : cF v sz i cs ∈ R) (hd : ∀ (k : Nat) c, ds[k]? = some c → cs[f + k]? = some c) : Cw L R (ep v sz i f) ds := by
 intro w hs
 obtain ⟨m, hle, hr⟩ := hs.ex
 obtain ⟨a, cells, T, fz, h1, h2, h3, h4, h5⟩ := hr _ hm
 refine ⟨a.add f, h2 f, fun k c hk => ?_⟩
 rw [G1, Ey h3, Fq (I6 (hle _ _ h4))]
 exact h5 _ _ (hd k c hk)
theorem at_c1 {v : Value} {sz i f : Nat} {cs : List Value} {c : Value} (hm : cF v sz i cs ∈ R) (hc : cs[f]? = some c) : Cw L R (ep v sz i f) [c] :=
 Xl hm fun k c' hk => by
  match k, hk with
  | 0, hk => simp at hk; subst hk; exact hc
  | k + 1, hk => simp at hk
theorem at_cN {v : Value} {sz i f k : Nat} {cs : List Value} (hm : cF v sz i cs ∈ R) : Cw L R (ep v sz i f) ((cs.drop f).take k) :=
  Xl hm fun j c hk => by
    rw [List.getElem?_take] at hk
    split at hk
    · rw [List.getElem?_drop] at hk; exact hk
    · cases hk
theorem Xw {v : Value} {sz i : Nat} {cs : List Value} (hm : cF v sz i cs ∈ R) : Cw L R (ep v sz i 0) cs := Xl hm fun k c hk => by rw [Nat.zero_add]; exact hk
variable {α : Type} [Enc α] {v : Value} {xs : List α} {i : Nat} {e : α}
theorem Qu {m : Mem} (h : isSlice v xs m) (hi : xs[i]? = some e) : ∃ cs, Enc.rd e cs m ∧ (cF v (Enc.sz α) i cs).p m := by
  obtain ⟨base, cap, hv, hn, hc⟩ := h
  have hne : xs ≠ [] := by intro h0; rw [h0] at hi; simp at hi
  obtain ⟨a, cells, T, fz, cs, h1, h2, h3, h4, h5⟩ := hc hne
  obtain ⟨p, c, q, e1, e2, e3, _⟩ := h5.get hi
  subst h1
  refine ⟨c, e3, a.add (i * Enc.sz α), cells, T, fz, by rw [hv, Kn, Nat.add_zero], fun f => by rw [hv, Kn, G1], by rw [Ey h2], by rw [Ey h2]; exact h3, fun k u hk => ?_⟩
  rw [Ey h2]
  have hcs : cs[i * Enc.sz α + k]? = some u := by
    rw [e1, List.append_assoc, List.getElem?_append_right (by omega), show i * Enc.sz α + k - p.length = k by omega, List.getElem?_append_left]
    · exact hk
    · exact (List.getElem?_eq_some_iff.1 hk).1
  rw [← h4, List.getElem?_take] at hcs
  split at hcs
  · rw [List.getElem?_drop] at hcs
    rw [← Array.getElem?_toList, ← hcs, Nat.add_assoc]
  · cases hcs
end
class El0 (α : Type) [Enc α] where
 cs : α → List Value
 wf : α → Prop
 df : α
 ok : ∀ (x : α) ds m, Enc.rd x ds m → ds = cs x ∧ wf x
class El1 (α : Type) (β : outParam Type) [Enc α] [Enc β] where
 cs : Value → α → List Value
 wf : α → Prop
 df : α
 sub : α → List β
 ok : ∀ (x : α) ds m, Enc.rd x ds m → ∃ u, ds = cs u x ∧ isSlice u (sub x) m ∧ wf x
instance e0Int : El0 Int := ⟨fun x => [vi x], Am, 0, fun _ _ _ h => h⟩
instance e0Byte : El0 UInt8 := ⟨fun x => [vb x], fun _ => True, 0, fun _ _ _ h => ⟨h, trivial⟩⟩
instance e0Msg : El0 Msg := ⟨Msg.cells, Msg.wf, zMsg, fun _ _ _ h => h⟩
instance e0Line : El0 Line := ⟨Line.cells, Line.wf, zLine, fun _ _ _ h => h⟩
instance e0Done : El0 Done := ⟨Done.cells, Done.wf, zDone, fun _ _ _ h => h⟩
instance e0Step : El0 Step := ⟨Step.cells, Step.wf, zStep, fun _ _ _ h => h⟩
instance e0Pair : El0 (Int × Int) := ⟨fun x => [vi x.1, vi x.2], fun x => Am x.1 ∧ Am x.2, (0, 0), fun _ _ _ h => h⟩
instance e1List {β : Type} [Enc β] : El1 (List β) β := ⟨fun u _ => [u], fun _ => True, [], fun x => x, fun _ _ _ h => by obtain ⟨u, h1, h2⟩ := h; exact ⟨u, h1, h2, trivial⟩⟩
instance e1Core : El1 Core Line := ⟨fun u x => x.cells u, fun x => x.wait.wf, E0, fun x => x.lines, fun _ _ _ h => h⟩
instance e1Entry : El1 Entry Int := ⟨fun u x => x.cells u, fun x => x.wf, Bc, fun x => x.last, fun _ _ _ h => h⟩
section
variable {P : Program} {n : Nat} {ops : Array Oper} {Q : Exit → Act → World → Prop} {L L' : List Chunk} {R : List Fact} {al : List (Nat × Value)}
variable {α β : Type} [Enc α] [Enc β] {v : Value} {xs : List α}
theorem St.open0 [El0 α] {w : World} (i : Nat) (hm : sl v xs ∈ R) (hi : i < xs.length) (hs : St L R w) : El0.wf (xs.getD i El0.df) ∧ St L (cF v (Enc.sz α) i (El0.cs (xs.getD i El0.df)) :: R) w := by
 obtain ⟨m, j, hd, hmw, hjw, hst, hr⟩ := hs
 obtain ⟨cs, h1, h2⟩ := Qu (hr _ hm) (getD_some El0.df hi)
 obtain ⟨rfl, h4⟩ := El0.ok _ _ _ h1
 refine ⟨h4, m, j, hd, hmw, hjw, hst, fun g hg => ?_⟩
 cases List.mem_cons.1 hg with
 | inl e => rw [e]; exact h2
 | inr e => exact hr g e
theorem St.open1 [El1 α β] {w : World} (i : Nat) (hm : sl v xs ∈ R) (hi : i < xs.length) (hs : St L R w) : El1.wf (xs.getD i El1.df) ∧ ∃ u, St L (cF v (Enc.sz α) i (El1.cs u (xs.getD i El1.df)) :: sl u (El1.sub (xs.getD i El1.df)) :: R) w := by
 obtain ⟨m, j, hd, hmw, hjw, hst, hr⟩ := hs
 obtain ⟨cs, h1, h2⟩ := Qu (hr _ hm) (getD_some El1.df hi)
 obtain ⟨u, rfl, h3, h4⟩ := El1.ok _ _ _ h1
 refine ⟨h4, u, m, j, hd, hmw, hjw, hst, fun g hg => ?_⟩
 cases List.mem_cons.1 hg with
 | inl e => rw [e]; exact h2
 | inr e => cases List.mem_cons.1 e with
  | inl e => rw [e]; exact h3
  | inr e => exact hr g e
theorem JC.open0 [El0 α] {c : Code} (i : Nat) (hm : sl v xs ∈ R) (hi : i < xs.length) (k : El0.wf (xs.getD i El0.df) → JC P n c Q L (cF v (Enc.sz α) i (El0.cs (xs.getD i El0.df)) :: R) al) : JC P n c Q L R al :=
 fun B w hs => let h := hs.open0 i hm hi; k h.1 B w h.2
theorem J.open0 [El0 α] {l : List Oper} (i : Nat) (hm : sl v xs ∈ R) (hi : i < xs.length) (k : El0.wf (xs.getD i El0.df) → J P n ops Q l L (cF v (Enc.sz α) i (El0.cs (xs.getD i El0.df)) :: R) al) : J P n ops Q l L R al :=
 fun B w hs => let h := hs.open0 i hm hi; k h.1 B w h.2
theorem JC.open1 [El1 α β] {c : Code} (i : Nat) (hm : sl v xs ∈ R) (hi : i < xs.length) (k : El1.wf (xs.getD i El1.df) → ∀ u, JC P n c Q L (cF v (Enc.sz α) i (El1.cs u (xs.getD i El1.df)) :: sl u (El1.sub (xs.getD i El1.df)) :: R) al) : JC P n c Q L R al :=
 fun B w hs => let ⟨h, u, h'⟩ := hs.open1 i hm hi; k h u B w h'
theorem J.open1 [El1 α β] {l : List Oper} (i : Nat) (hm : sl v xs ∈ R) (hi : i < xs.length) (k : El1.wf (xs.getD i El1.df) → ∀ u, J P n ops Q l L (cF v (Enc.sz α) i (El1.cs u (xs.getD i El1.df)) :: sl u (El1.sub (xs.getD i El1.df)) :: R) al) : J P n ops Q l L R al :=
 fun B w hs => let ⟨h, u, h'⟩ := hs.open1 i hm hi; k h u B w h'
end
def Raw (k : Nat) : Type := { l : List Value // l.length = k ∧ ∀ u ∈ l, u.oneCell' = true }
instance instEncRaw {k : Nat} : Enc (Raw k) where
 sz := k
 rd x cs _ := cs = x.1
 mono _ _ _ _ _ h := h
 len x cs _ h := by rw [h]; exact x.2.1
 one x cs _ h := by rw [h]; exact x.2.2
def foc {α : Type} [Enc α] (T : TypeId) (v : Value) (xs : List α) (i : Nat) (cs : List Value) : Chunk :=
  ⟨fun m j => ∃ rs : List (Raw (Enc.sz α)), (row T v rs).p m j ∧ rs.length = xs.length ∧ (∃ r, rs[i]? = some r ∧ r.1 = cs) ∧ ∀ (k : Nat) e r, k ≠ i → xs[k]? = some e → rs[k]? = some r → Enc.rd e r.1 j,
   fun m j j' h ⟨rs, h1, h2, h3, h4⟩ => ⟨rs, (row T v rs).mono _ _ _ h h1, h2, h3, fun k e r hk he hr => Enc.mono _ _ _ _ h (h4 k e r hk he hr)⟩⟩
section
variable {α : Type} [Enc α]
theorem RdL.raw {m : Mem} : ∀ {xs : List α} {cs : List Value}, RdL xs cs m → ∃ rs : List (Raw (Enc.sz α)), RdL rs cs m ∧ rs.length = xs.length ∧ ∀ (k : Nat) e r, xs[k]? = some e → rs[k]? = some r → Enc.rd e r.1 m
 | [], cs, h => ⟨[], h, rfl, fun k e r h' => by simp at h'⟩
 | x :: xs, cs, ⟨c1, c2, h1, h2, h3⟩ => by
  obtain ⟨rs, e1, e2, e3⟩ := RdL.raw h3
  obtain ⟨r0, hr0⟩ : ∃ r0 : Raw (Enc.sz α), r0.1 = c1 := ⟨⟨c1, Enc.len _ _ _ h2, Enc.one _ _ _ h2⟩, rfl⟩
  refine ⟨r0 :: rs, ⟨c1, c2, h1, hr0.symm, e1⟩, by simp [e2], fun k e r hx hr => ?_⟩
  cases k with
  | zero =>
   have ex : x = e := by simpa using hx
   have er : r0 = r := by simpa using hr
   rw [← ex, ← er, hr0]; exact h2
  | succ k => exact e3 k e r (by simpa using hx) (by simpa using hr)
theorem RdL.typed {m : Mem} : ∀ {xs : List α} {rs : List (Raw (Enc.sz α))} {cs : List Value}, RdL rs cs m → rs.length = xs.length → (∀ (k : Nat) e r, xs[k]? = some e → rs[k]? = some r → Enc.rd e r.1 m) → RdL xs cs m
 | [], [], cs, h, _, _ => h
 | [], _ :: _, _, _, hl, _ => by simp at hl
 | _ :: _, [], _, _, hl, _ => by simp at hl
 | x :: xs, r :: rs, cs, ⟨c1, c2, h1, h2, h3⟩, hl, hr => by
  refine ⟨c1, c2, h1, ?_, RdL.typed h3 (by simpa using hl) (fun k e r' hx hr' => hr (k + 1) e r' (by simpa using hx) (by simpa using hr'))⟩
  have := hr 0 x r rfl rfl
  rw [show c1 = r.1 from h2]; exact this
theorem U9 {T : TypeId} {v : Value} {xs : List α} {m j : Mem} (h : (row T v xs).p m j) : ∃ rs : List (Raw (Enc.sz α)), (row T v rs).p m j ∧ rs.length = xs.length ∧ ∀ (k : Nat) e r, xs[k]? = some e → rs[k]? = some r → Enc.rd e r.1 j := by
  obtain ⟨h0, hv | ⟨g, cap, cur, cs, hv, hg, hcap, hml, hsz, htk, hrd⟩⟩ := h
  · exact ⟨[], ⟨Nat.zero_le _, .inl ⟨hv.1, rfl⟩⟩, by rw [hv.2]; rfl, fun k e r hx => by rw [hv.2] at hx; simp at hx⟩
  · obtain ⟨rs, e1, e2, e3⟩ := hrd.raw
    exact ⟨rs, ⟨by rw [e2]; exact h0, .inr ⟨g, cap, cur, cs, by rw [e2]; exact hv, hg, by rw [e2]; exact hcap, hml, hsz, by rw [e2]; exact htk, e1⟩⟩, e2, e3⟩
theorem Vd {T : TypeId} {v : Value} {xs : List α} {rs : List (Raw (Enc.sz α))} {m j : Mem} (h : (row T v rs).p m j) (hl : rs.length = xs.length) (hr : ∀ (k : Nat) e r, xs[k]? = some e → rs[k]? = some r → Enc.rd e r.1 j) : (row T v xs).p m j := by
  obtain ⟨h0, hv | ⟨g, cap, cur, cs, hv, hg, hcap, hml, hsz, htk, hrd⟩⟩ := h
  · have : xs = [] := by rw [hv.2] at hl; exact List.length_eq_zero_iff.1 hl.symm
    exact ⟨by rw [← hl]; exact h0, .inl ⟨hv.1, this⟩⟩
  · exact ⟨by rw [← hl]; exact h0, .inr ⟨g, cap, cur, cs, by rw [← hl]; exact hv, hg, by rw [← hl]; exact hcap, hml, hsz, by rw [← hl]; exact htk, hrd.typed hl hr⟩⟩
end
section
variable {P : Program} {n : Nat} {ops : Array Oper} {Q : Exit → Act → World → Prop} {rest : List Oper} {L L' : List Chunk} {R : List Fact} {al : List (Nat × Value)} {d : Nat} {x y : Operand} {T ty : TypeId} {pos : String} {aft : Array Edge}
variable {α β : Type} [Enc α] [Enc β] {v : Value} {xs : List α} {i : Nat}
theorem St.focus {w : World} (hi : i < xs.length) (hs : St (row T v xs :: L) R w) : ∃ cs, St (foc T v xs i cs :: L) R w ∧ cs.length = Enc.sz α ∧ ∃ j e, xs[i]? = some e ∧ Enc.rd e cs j ∧ Mem.le j (Ce w) ∧ ∀ f ∈ R, f.p j := by
 obtain ⟨m, j, hd, hm, hj, ⟨m1, m2, hd', h1, h2, hc, hst⟩, hr⟩ := hs
 obtain ⟨rs, e1, e2, e3⟩ := U9 hc
 have hi' : i < rs.length := by omega
 refine ⟨(rs[i]'hi').1, ⟨m, j, hd, hm, hj, ⟨m1, m2, hd', h1, h2, ⟨rs, e1, e2, ⟨_, List.getElem?_eq_getElem hi', rfl⟩, fun k e r _ => e3 k e r⟩, hst⟩, hr⟩, (rs[i]'hi').2.1, j, xs[i], List.getElem?_eq_getElem hi, e3 i _ _ (List.getElem?_eq_getElem hi) (List.getElem?_eq_getElem hi'), hj, hr⟩
theorem St.focus0 [El0 α] {w : World} (hi : i < xs.length) (hs : St (row T v xs :: L) R w) : El0.wf (xs.getD i El0.df) ∧ St (foc T v xs i (El0.cs (xs.getD i El0.df)) :: L) R w := by
 obtain ⟨cs, h1, h2, j, e, h3, h4, h5, h6⟩ := hs.focus hi
 have : xs.getD i El0.df = e := by simp [List.getD_eq_getElem?_getD, h3]
 rw [this]
 obtain ⟨rfl, hw⟩ := El0.ok _ _ _ h4
 exact ⟨hw, h1⟩
theorem St.unfocus {w : World} {cs : List Value} {e : α} (he : ∀ j, (∀ f ∈ R, f.p j) → Enc.rd e cs j) (hs : St (foc T v xs i cs :: L) R w) : St (row T v (xs.set i e) :: L) R w := by
  obtain ⟨m, j, hd, hm, hj, ⟨m1, m2, hd', h1, h2, ⟨rs, e1, e2, ⟨r0, e3, e4⟩, e5⟩, hst⟩, hr⟩ := hs
  refine ⟨m, j, hd, hm, hj, ⟨m1, m2, hd', h1, h2, Vd e1 (by simpa using e2) (fun k e' r hx hk => ?_), hst⟩, hr⟩
  by_cases h : k = i
  · subst h
    have hlt : k < xs.length := by
      have := (List.getElem?_eq_some_iff.1 e3).1; omega
    rw [List.getElem?_set_self hlt] at hx
    cases hx
    rw [e3] at hk; cases hk
    rw [e4]; exact he j hr
  · rw [List.getElem?_set_ne (Ne.symm h)] at hx
    exact e5 k e' r h hx hk
theorem Rn {w : World} {cs : List Value} (hs : St (foc T v xs i cs :: L) R w) : ∃ rs : List (Raw (Enc.sz α)), St (row T v rs :: L) R w ∧ ∃ r, rs[i]? = some r ∧ r.1 = cs := by
 obtain ⟨m, j, hd, hm, hj, ⟨m1, m2, hd', h1, h2, ⟨rs, e1, e2, e3, e5⟩, hst⟩, hr⟩ := hs
 exact ⟨rs, ⟨m, j, hd, hm, hj, ⟨m1, m2, hd', h1, h2, e1, hst⟩, hr⟩, e3⟩
theorem foc_at {f sz : Nat} {cs ds : List Value} (hp : Pick L (foc T v xs i cs) L') (hsz : Enc.sz α = sz) (hd : ∀ (k : Nat) c, ds[k]? = some c → cs[f + k]? = some c) : Cw L R (ep v sz i f) ds := by
 subst hsz
 intro w hs
 obtain ⟨rs, h1, r, h2, h3⟩ := Rn (hs.pick hp)
 exact Xu (α := Raw (Enc.sz α)) (L := row T v rs :: L') (f := f) .hd h2 (fun cs' m hr k c hk => by rw [show cs' = r.1 from hr, h3]; exact hd k c hk) w h1
theorem at_f1 {f sz : Nat} {cs : List Value} {c : Value} (hp : Pick L (foc T v xs i cs) L') (hsz : Enc.sz α = sz) (hc : cs[f]? = some c) : Cw L R (ep v sz i f) [c] :=
 foc_at hp hsz fun k c' hk => by
  match k, hk with
  | 0, hk => simp at hk; subst hk; exact hc
  | k + 1, hk => simp at hk
theorem Na {w : World} {f : Nat} {cs us : List Value} (hs : St (foc T v xs i cs :: L) R w) (h1 : ∀ u ∈ us, u.oneCell' = true) (hf : f + us.length ≤ cs.length) :
    ∃ g cap cur, v = .slice (some ⟨g, 0, none⟩) xs.length cap ∧ w.heap[g]? = some (.cells cur T (0, 0)) ∧ i * Enc.sz α + f + us.length ≤ cur.size ∧
      St (foc T v xs i (cs.take f ++ us ++ cs.drop (f + us.length)) :: L) R (w.setRow g (cur.toList.take (i * Enc.sz α + f) ++ us ++ cur.toList.drop (i * Enc.sz α + f + us.length)).toArray) := by
  obtain ⟨m, j, hd, hm, hj, ⟨m1, m2, hd', g1, g2, ⟨rs, e1, e2, ⟨r0, e3, e4⟩, e5⟩, hst⟩, hr⟩ := hs
  have hlen : (cs.take f ++ us ++ cs.drop (f + us.length)).length = cs.length := by simp; omega
  have hcs : cs.length = Enc.sz α := by rw [← e4]; exact r0.2.1
  let r1 : Raw (Enc.sz α) := ⟨cs.take f ++ us ++ cs.drop (f + us.length), by rw [hlen]; exact hcs, fun u hu => by
    rcases List.mem_append.1 hu with h | h
    · rcases List.mem_append.1 h with h | h
      · exact r0.2.2 u (by rw [e4]; exact List.mem_of_mem_take h)
      · exact h1 u h
    · exact r0.2.2 u (by rw [e4]; exact List.mem_of_mem_drop h)⟩
  -- one piece for all others, with what is known of them
  have hK : St (row T v rs :: L) (⟨fun m => ∀ (k : Nat) e r, k ≠ i → xs[k]? = some e → rs[k]? = some r → Enc.rd e r.1 m, fun m m' h hp k e r hk he hr' => Enc.mono _ _ _ _ h (hp k e r hk he hr')⟩ :: R) w :=
    ⟨m, j, hd, hm, hj, ⟨m1, m2, hd', g1, g2, e1, hst⟩, fun q hq => by
      cases List.mem_cons.1 hq with
      | inl e => rw [e]; exact e5
      | inr e => exact hr q e⟩
  obtain ⟨g, cap, cur, hv, hg, hfit, hst'⟩ := Jv (w' := w) (e := r0) (e' := r1) (f := f) (cs := us) hK e3 (fun ds m hr => by rw [show ds = r0.1 from hr, e4]; exact hf) (fun j _ ds hr => by
    rw [show ds = r0.1 from hr, e4]; rfl)
  refine ⟨g, cap, cur, by rw [hv, e2], hg, hfit, ?_⟩
  obtain ⟨m', j', hd2, hm', hj', ⟨n1, n2, hd3, k1, k2, hc', hst2⟩, hr'⟩ := hst'
  have hilt : i < rs.length := (List.getElem?_eq_some_iff.1 e3).1
  refine ⟨m', j', hd2, hm', hj', ⟨n1, n2, hd3, k1, k2, ⟨rs.set i r1, hc', by simpa using e2, ⟨r1, List.getElem?_set_self hilt, rfl⟩, fun k e r hk he hrk => ?_⟩, hst2⟩, fun q hq => hr' q (List.mem_cons_of_mem _ hq)⟩
  rw [List.getElem?_set_ne (Ne.symm hk)] at hrk
  exact hr' _ (List.mem_cons_self ..) k e r hk he hrk
theorem Te {f sz k : Nat} {c : Value} {cs us : List Value} {T' : TypeId} (hsz : ∀ w, (sizeOf T).run P w = .ok k w) (hx : ev n al x = some (ep v sz i f)) (hy : ev n al y = some c) (hc : c.cells = us.toArray) (hl : us.length = k) (h1 : ∀ u ∈ us, u.oneCell' = true)
  (hp : Pick L (foc T' v xs i cs) L') (hes : Enc.sz α = sz) (hf : Nat.ble (f + us.length) cs.length = true) {cs' : List Value} (hcs : cs.take f ++ us ++ cs.drop (f + us.length) = cs')
  (kk : J P n ops Q rest (foc T' v xs i cs' :: L') R al) : J P n ops Q (⟨none, .store T x y, ty, pos, aft, none⟩ :: rest) L R al :=
 J.skip rfl rfl (fun B w hs => by
  subst hes
  obtain ⟨g, cap, cur, hv, hg, hfit, hst⟩ := Na (hs.pick hp) h1 (Nat.le_of_ble_eq_true hf)
  refine ⟨_, D7 ?_, by rw [← hcs]; exact hst⟩
  rw [Bo hx, Bo hy, hv, Kn, G0]
  have := run_storeCells_at P g (i * Enc.sz α + f) T' us 0 cur w hg (by simpa using hfit) h1
  simp only [Nat.add_zero, Nat.zero_add] at this ⊢
  subst hl
  simp [Instr.storeAt, Instr.sureAddr, storeVar, hsz, hc, this]) kk
theorem J.focus0 [El0 α] {l : List Oper} (i : Nat) (hp : Pick L (row T v xs) L') (hi : i < xs.length) (k : El0.wf (xs.getD i El0.df) → J P n ops Q l (foc T v xs i (El0.cs (xs.getD i El0.df)) :: L') R al) : J P n ops Q l L R al :=
 fun B w hs => let h := (hs.pick hp).focus0 hi; k h.1 B w h.2
theorem JC.focus0 [El0 α] {c : Code} (i : Nat) (hp : Pick L (row T v xs) L') (hi : i < xs.length) (k : El0.wf (xs.getD i El0.df) → JC P n c Q (foc T v xs i (El0.cs (xs.getD i El0.df)) :: L') R al) : JC P n c Q L R al :=
 fun B w hs => let h := (hs.pick hp).focus0 hi; k h.1 B w h.2
theorem J.unfocus {l : List Oper} {cs : List Value} (e : α) (hp : Pick L (foc T v xs i cs) L') (he : ∀ j, (∀ f ∈ R, f.p j) → Enc.rd e cs j) (k : J P n ops Q l (row T v (xs.set i e) :: L') R al) : J P n ops Q l L R al :=
 fun B w hs => k B w ((hs.pick hp).unfocus he)
theorem JC.unfocus {c : Code} {cs : List Value} (e : α) (hp : Pick L (foc T v xs i cs) L') (he : ∀ j, (∀ f ∈ R, f.p j) → Enc.rd e cs j) (k : JC P n c Q (row T v (xs.set i e) :: L') R al) : JC P n c Q L R al :=
 fun B w hs => k B w ((hs.pick hp).unfocus he)
end
end Go.Proofs.Ytofgpimoekhfaaa

/- This file proves the walk's rules once more, each with the plain parts of its proof found by a tactic of its own. No conditions. -/
set_option linter.unusedVariables false
set_option linter.unusedSimpArgs false
namespace Go.Proofs.Ytofgpimoekhfaaa
open Go
section
variable {P : Program} {n : Nat} {ops : Array Oper} {Q : Exit → Act → World → Prop} {rest : List Oper} {L L' : List Chunk} {R : List Fact} {al : List (Nat × Value)} {d : Nat} {x y : Operand} {T ty : TypeId} {pos : String} {aft : Array Edge}
theorem mm {f : Fact} (h : f ∈ R := by first | assumption | exact .head _ | (refine .tail _ ?_; first | assumption | exact .head _ | (refine .tail _ ?_; first | assumption | exact .head _ | (refine .tail _ ?_; first | assumption | exact .head _ | (refine .tail _ ?_; first | assumption | exact .head _ | (refine .tail _ ?_; first | assumption | exact .head _ | (refine .tail _ ?_; first | assumption | exact .head _ | (refine .tail _ ?_; first | assumption | exact .head _ | (refine .tail _ ?_; first | assumption | exact .head _ | (refine .tail _ ?_; first | assumption | exact .head _ | (refine .tail _ ?_; first | assumption | exact .head _ | (refine .tail _ ?_; first | assumption | exact .head _ | (refine .tail _ ?_; first | assumption | exact .head _ | (refine .tail _ ?_; first | assumption | exact .head _ | (refine .tail _ ?_; first | assumption | exact .head _ | (refine .tail _ ?_; first | assumption | exact .head _ | (refine .tail _ ?_; first | assumption | exact .head _ | (refine .tail _ ?_; first | assumption | exact .head _ | (refine .tail _ ?_; first | assumption | exact .head _ | (refine .tail _ ?_; first | assumption | exact .head _ | (refine .tail _ ?_; first | assumption | exact .head _ | (refine .tail _ ?_; first | assumption | exact .head _ | (refine .tail _ ?_; first | assumption | exact .head _ | (refine .tail _ ?_; first | assumption | exact .head _ | (refine .tail _ ?_; first | assumption | exact .head _ | (refine .tail _ ?_; first | assumption | exact .head _ | (refine .tail _ ?_; first | assumption | exact .head _))))))))))))))))))))))))))) : f ∈ R := h
theorem pkk {c : Chunk} (h : Pick L c L' := by first | exact .hd | (apply Pick.tl; first | exact .hd | (apply Pick.tl; first | exact .hd | (apply Pick.tl; first | exact .hd | (apply Pick.tl; first | exact .hd | (apply Pick.tl; first | exact .hd | (apply Pick.tl; first | exact .hd | (apply Pick.tl; first | exact .hd | (apply Pick.tl; first | exact .hd | (apply Pick.tl; first | exact .hd | (apply Pick.tl; first | exact .hd | (apply Pick.tl; first | exact .hd | (apply Pick.tl; exact .hd))))))))))))) : Pick L c L' := h
theorem Al {R' : List Fact} {w : World} (hs : St L R w) (hl : LSub L L' := by repeat (first | exact .refl | exact .nil | (apply LSub.cons; focus (exact pkk)) | apply LSub.drop)) (hf : FSub R R' := by repeat (first | exact FSub.refl | exact FSub.nil | (apply FSub.cons; focus (exact mm)) | apply FSub.drop)) : St L' R' w := hs.sub hl hf
theorem C3 : ∀ u ∈ ([] : List Value), u.oneCell' = true := fun _ h => by cases h
theorem A6 {c : Value} {l : List Value} (hc : c.oneCell' = true) (hl : ∀ u ∈ l, u.oneCell' = true) : ∀ u ∈ c :: l, u.oneCell' = true := fun u h => by
 cases List.mem_cons.1 h with
 | inl e => rw [e]; exact hc
 | inr e => exact hl u e
theorem Cx {v : Value} (hx : ev n al x = some v := by exact rfl) : Ax P n al L R ⟨some d, .move x, ty, pos, aft, none⟩ v :=
 ⟨rfl, fun ρ w h _ => by show Result.ok (Next.value _) w = _; rw [h x (by simp [Op.operands]) _ hx]⟩
theorem Db {v : Value} (hx : ev n al x = some v := by exact rfl) : Ax P n al L R ⟨some d, .assign x, ty, pos, aft, none⟩ v :=
 ⟨rfl, fun ρ w h _ => by show Result.ok (Next.value _) w = _; rw [h x (by simp [Op.operands]) _ hx]⟩
theorem Gg {c : Operand} {v : Value} (hc : ev n al c = some (.bool true) := by exact rfl) (hx : ev n al x = some v := by exact rfl) : Ax P n al L R ⟨some d, .pick c x y, ty, pos, aft, none⟩ v :=
 ⟨rfl, fun ρ w h _ => by simp [execOp, h c (by simp [Op.operands]) _ hc, h x (by simp [Op.operands]) _ hx, asBool, bind, pure, Sem.bind, Sem.run]⟩
theorem Em {c : Operand} {v : Value} (hc : ev n al c = some (.bool false) := by exact rfl) (hy : ev n al y = some v := by exact rfl) : Ax P n al L R ⟨some d, .pick c x y, ty, pos, aft, none⟩ v :=
 ⟨rfl, fun ρ w h _ => by simp [execOp, h c (by simp [Op.operands]) _ hc, h y (by simp [Op.operands]) _ hy, asBool, bind, pure, Sem.bind, Sem.run]⟩
theorem Ll {b : Bool} (hx : ev n al x = some (.bool b) := by exact rfl) : Ax P n al L R ⟨some d, .unOp .not T x, ty, pos, aft, none⟩ (.bool (!b)) :=
 ⟨rfl, fun ρ w h _ => by simp [execOp, h x (by simp [Op.operands]) _ hx, Op.unary]⟩
theorem Qj {k : IntKind} {a b : Int} (w : World) : (binOp .eql T (.int k a) (.int k b)).run P w = .ok (.bool (decide (a = b))) w := by rw [Xs]; by_cases h : a = b <;> simp [h]
theorem Qh {k : IntKind} {a b : Int} (w : World) : (binOp .neq T (.int k a) (.int k b)).run P w = .ok (.bool (decide (a ≠ b))) w := by rw [Uo]; by_cases h : a = b <;> simp [h]
theorem Gs {op : BinOp} {k k' : IntKind} {a b : Int} {v : Value} {U : TypeId} (hv : ∀ w : World, (binOp op T (.int k a) (.int k' b)).run P w = .ok v w) (hx : ev n al x = some (.int k a) := by exact rfl) (hy : ev n al y = some (.int k' b) := by exact rfl) : Ax P n al L R ⟨some d, .binOp op T x y U, ty, pos, aft, none⟩ v := Af hx hy hv
theorem Fc {a b : Int} {U : TypeId} (hx : ev n al x = some (vi a) := by exact rfl) (hy : ev n al y = some (vi b) := by exact rfl) (h1 : -9223372036854775808 ≤ a + b := by omega) (h2 : a + b ≤ 9223372036854775807 := by omega) : Ax P n al L R ⟨some d, .binOp .add T x y U, ty, pos, aft, none⟩ (vi (a + b)) := Af hx hy (Mb h1 h2)
theorem D6 {a b : Nat} {U : TypeId} (hx : ev n al x = some (vi (a : Int)) := by exact rfl) (hy : ev n al y = some (vi (b : Int)) := by exact rfl) (h2 : a + b ≤ 9223372036854775807 := by omega) : Ax P n al L R ⟨some d, .binOp .add T x y U, ty, pos, aft, none⟩ (vi ((a + b : Nat) : Int)) := Af hx hy (b_addN h2)
theorem Mv {a b : Int} {U : TypeId} (hx : ev n al x = some (vi a) := by exact rfl) (hy : ev n al y = some (vi b) := by exact rfl) (h1 : -9223372036854775808 ≤ a - b := by omega) (h2 : a - b ≤ 9223372036854775807 := by omega) : Ax P n al L R ⟨some d, .binOp .sub T x y U, ty, pos, aft, none⟩ (vi (a - b)) := Af hx hy (Um h1 h2)
theorem Km {a b : Int} {U : TypeId} (hx : ev n al x = some (vi a) := by exact rfl) (hy : ev n al y = some (vi b) := by exact rfl) (h1 : -9223372036854775808 ≤ a * b := by omega) (h2 : a * b ≤ 9223372036854775807 := by omega) : Ax P n al L R ⟨some d, .binOp .mul T x y U, ty, pos, aft, none⟩ (vi (a * b)) := Af hx hy (Ns h1 h2)
def EpOk (L : List Chunk) (R : List Fact) (v : Value) (sz i : Nat) : Prop := ∀ w, St L R w → ∃ a : Addr, ∀ f, ep v sz i f = .pointer (some (a.add f))
theorem ok_c {v : Value} {sz i : Nat} {cs : List Value} (hm : cF v sz i cs ∈ R) : EpOk L R v sz i := fun w hs => by
 obtain ⟨m, hle, hr⟩ := hs.ex
 obtain ⟨a, cells, T, fz, h1, h2, h3, h4, h5⟩ := hr _ hm
 exact ⟨a, h2⟩
theorem ok_l {v : Value} {sz i len : Nat} (hl : Da L R v len) (h0 : 0 < len) : EpOk L R v sz i := fun w hs => by
 obtain ⟨base, cap, rfl, hb⟩ := hl w hs
 obtain ⟨a, rfl⟩ := hb h0
 exact ⟨a.add (i * sz), fun f => by rw [Kn, G1]⟩
theorem ok_f {α : Type} [Enc α] {v : Value} {sz i : Nat} {xs : List α} {cs : List Value} (hp : Pick L (foc T v xs i cs) L') : EpOk L R v sz i := fun w hs => by
 obtain ⟨rs, h1, r, h2, h3⟩ := Rn (hs.pick hp)
 have hlt : i < rs.length := (List.getElem?_eq_some_iff.1 h2).1
 exact ok_l (Eb .hd) (by omega) w h1
def EpAll (v : Value) (sz i : Nat) : Prop := ∃ a : Addr, ∀ f, ep v sz i f = .pointer (some (a.add f))
theorem EpAll.one {v : Value} {sz i f : Nat} (h : EpAll v sz i) : (ep v sz i f).oneCell' = true := by
 obtain ⟨a, ha⟩ := h
 rw [ha]; rfl
theorem Sg {b f fld off : Nat} (hf : A0 P T fld off) (hx : ev n al x = some (bp b f) := by exact rfl) : Ax P n al L R ⟨some d, .fieldAddr T x fld, ty, pos, aft, none⟩ (bp b (f + off)) :=
 ⟨rfl, fun ρ w h _ => Hj (by rw [h x (by simp [Op.operands]) _ hx]; show (Instr.fieldAt T (.pointer (some ⟨b, f, none⟩)) fld).run P w = _; rw [Ju hf, G0]; rfl)⟩
theorem Sf {v : Value} {sz i f fld off : Nat} (hf : A0 P T fld off) (hx : ev n al x = some (ep v sz i f) := by exact rfl) (hok : EpOk L R v sz i := by first | exact ok_c mm | exact ok_f pkk | exact ok_a (by assumption) | exact ok_l (Eb pkk) (by omega) | exact ok_l (Fd mm) (by omega)) : Ax P n al L R ⟨some d, .fieldAddr T x fld, ty, pos, aft, none⟩ (ep v sz i (f + off)) :=
 ⟨rfl, fun ρ w h hs => Hj (by
  obtain ⟨a, ha⟩ := hok w hs
  rw [h x (by simp [Op.operands]) _ hx, ha, Ju hf, G1, ha])⟩
theorem q_nb {b f : Nat} (hx : ev n al x = some (bp b f) := by exact rfl) : Ax P n al L R ⟨some d, .nilCheck x, ty, pos, aft, none⟩ (bp b f) :=
 ⟨rfl, fun ρ w h _ => by simp only [execOp, h x (by simp [Op.operands]) _ hx]; rfl⟩
theorem q_ne {v : Value} {sz i f : Nat} (hx : ev n al x = some (ep v sz i f) := by exact rfl) (hok : EpOk L R v sz i := by first | exact ok_c mm | exact ok_f pkk | exact ok_a (by assumption) | exact ok_l (Eb pkk) (by omega) | exact ok_l (Fd mm) (by omega)) : Ax P n al L R ⟨some d, .nilCheck x, ty, pos, aft, none⟩ (ep v sz i f) :=
 ⟨rfl, fun ρ w h hs => by
  obtain ⟨a, ha⟩ := hok w hs
  simp only [execOp, h x (by simp [Op.operands]) _ hx, ha]; rfl⟩
theorem E4 {α : Type} [Enc α] {v : Value} {i : Nat} {xs : List α} {cs : List Value} (hp : Pick L (foc T v xs i cs) L') : Da L R v xs.length := fun w hs => by
 obtain ⟨m, j, hd, hm, hj, ⟨m1, m2, hd', h1, h2, ⟨rs, e1, e2, e3, e5⟩, hst⟩, hr⟩ := hs.pick hp
 have h : Da (row T v rs :: L') R v rs.length := Eb .hd
 rw [e2] at h
 exact h w ⟨m, j, hd, hm, hj, ⟨m1, m2, hd', h1, h2, e1, hst⟩, hr⟩
theorem Gi {v : Value} {e : TypeId} {sz len i : Nat} (ht : Dl P T e sz) (hx : ev n al x = some v := by exact rfl) (hy : ev n al y = some (vi (i : Int)) := by exact rfl) (hl : Da L R v len := by first | exact Eb pkk | exact E4 pkk | exact Fd mm) (h1 : i < len := by first | assumption | omega | (simp only [List.length_nil, List.length_cons, List.length_append, List.length_take, List.length_drop, List.length_set, List.length_replicate, Int.toNat_natCast]; omega) | decide) : Ax P n al L R ⟨some d, .indexAddr T x y, ty, pos, aft, none⟩ (ep v sz i 0) := I3 ht hx hy hl h1
theorem J1 {v : Value} {e : TypeId} {sz len : Nat} {i : Int} (ht : Dl P T e sz) (hx : ev n al x = some v := by exact rfl) (hy : ev n al y = some (vi i) := by exact rfl) (hl : Da L R v len := by first | exact Eb pkk | exact E4 pkk | exact Fd mm) (h0 : 0 ≤ i := by first | assumption | omega | (simp only [List.length_nil, List.length_cons, List.length_append, List.length_take, List.length_drop, List.length_set, List.length_replicate, Int.toNat_natCast]; omega) | decide) (h1 : i < len := by first | assumption | omega | (simp only [List.length_nil, List.length_cons, List.length_append, List.length_take, List.length_drop, List.length_set, List.length_replicate, Int.toNat_natCast]; omega) | decide) : Ax P n al L R ⟨some d, .indexAddr T x y, ty, pos, aft, none⟩ (ep v sz i.toNat 0) :=
 I3 ht hx (by rw [hy, Int.toNat_of_nonneg h0]) hl (by omega)
theorem Q5 {t e : TypeId} {v : Value} {len : Nat} (ht : P.underlying t = some (.slice e)) (hx : ev n al x = some v := by exact rfl) (hl : Da L R v len := by first | exact Eb pkk | exact E4 pkk | exact Fd mm) : Ax P n al L R ⟨some d, .call { callee := .builtin .len, args := #[x], argTypes := #[t] }, ty, pos, aft, none⟩ (vi (len : Int)) :=
 ⟨rfl, fun ρ w h hs => by
  obtain ⟨base, cap, rfl, _⟩ := hl w hs
  have hx' := h x (by simp [Op.operands, Call.operands]) _ hx
  have e1 : (Builtin.len_ #[t] ty #[ρ x]).run P w = .ok (vi (len : Int)) w := by
   rw [hx']; simp [Builtin.len_, C9 ht, goInt]
  exact Pa e1⟩
theorem q_x {vs : List Value} {i : Nat} {v : Value} (hx : ev n al x = some (.tuple vs.toArray) := by exact rfl) (hv : vs[i]? = some v := by exact rfl) : Ax P n al L R ⟨some d, .extract x i, ty, pos, aft, none⟩ v :=
 ⟨rfl, fun ρ w h _ => by simp [execOp, h x (by simp [Op.operands]) _ hx, Instr.extract, hv]⟩
theorem Dn {p c : Value} (hT : ∀ w, (isAgg T).run P w = .ok false w) (hx : ev n al x = some p := by exact rfl) (hc : Cw L R p [c] := by first | exact A2 pkk (by exact rfl) | exact at_c1 mm (by exact rfl) | exact at_f1 pkk rfl (by exact rfl) | exact at_a1 (by assumption) (by assumption) (by repeat (first | exact .refl | exact .nil | (apply LSub.cons; focus (exact pkk)) | apply LSub.drop)) (by repeat (first | exact FSub.refl | exact FSub.nil | (apply FSub.cons; focus (exact mm)) | apply FSub.drop)) (by exact rfl)) : Ax P n al L R ⟨some d, .load T x, ty, pos, aft, none⟩ c :=
 ⟨rfl, fun ρ w h hs => by
  obtain ⟨a, rfl, hk⟩ := hc w hs
  exact Kc (by rw [h x (by simp [Op.operands]) _ hx]; exact Mj hT (by simpa [Addr.add] using hk 0 c rfl))⟩
theorem Se {p : Value} {cs : List Value} {sz : Nat} (hT : ∀ w, (isAgg T).run P w = .ok true w) (hsz : ∀ w, (sizeOf T).run P w = .ok sz w) (hx : ev n al x = some p := by exact rfl) (hc : Cw L R p cs := by first | exact Nu pkk | exact Xw mm | exact at_fAll pkk rfl) (hl : cs.length = sz := by exact rfl) : Ax P n al L R ⟨some d, .load T x, ty, pos, aft, none⟩ (.agg cs.toArray) :=
 ⟨rfl, fun ρ w h hs => by
  obtain ⟨a, rfl, hk⟩ := hc w hs
  exact Kc (by rw [h x (by simp [Op.operands]) _ hx]; exact Mi hT hsz hl hk)⟩
theorem Dy {b f : Nat} {vs : List Value} {T0 : TypeId} (sz : Nat) (hT : ∀ w, (isAgg T).run P w = .ok true w) (hsz : ∀ w, (sizeOf T).run P w = .ok sz w) (hx : ev n al x = some (bp b f) := by exact rfl) (hp : Pick L (blk b T0 vs) L' := by exact pkk) (hl : ((vs.drop f).take sz).length = sz := by exact rfl) : Ax P n al L R ⟨some d, .load T x, ty, pos, aft, none⟩ (.agg ((vs.drop f).take sz).toArray) := Se hT hsz hx (Mc hp) hl
theorem N7 {v : Value} {k i f : Nat} {vs : List Value} (sz : Nat) (hT : ∀ w, (isAgg T).run P w = .ok true w) (hsz : ∀ w, (sizeOf T).run P w = .ok sz w) (hx : ev n al x = some (ep v k i f) := by exact rfl) (hm : cF v k i vs ∈ R := by exact mm) (hl : ((vs.drop f).take sz).length = sz := by exact rfl) : Ax P n al L R ⟨some d, .load T x, ty, pos, aft, none⟩ (.agg ((vs.drop f).take sz).toArray) := Se hT hsz hx (at_cN hm) hl
def P4 (places : List (Nat × Nat)) : List Value → List (Nat × List Value) → Option (List Value)
 | cells, [] => some cells
 | cells, (i, c) :: rest => match places[i]? with
  | none => none
  | some (off, size) => match Nat.beq c.length size with
   | false => none
   | true => match J2 cells off c with
    | none => none
    | some cells' => P4 places cells' rest
def Lb : List Value → List (List Value) → Prop
 | [], [] => True
 | v :: vs, c :: cs => v.cells.toList = c ∧ Lb vs cs
 | _, _ => False
theorem Nn {v : Value} (h : v.oneCell' = true) : v.cells.toList = [v] := by
 cases v <;> first | rfl | (simp [Value.oneCell'] at h)
theorem Rq (places : List (Nat × Nat)) : ∀ (idx : List Nat) (vs : List Value) (css : List (List Value)) (cells cs : List Value), Lb vs css → P4 places cells (idx.zip css) = some cs → Lx places cells (idx.zip vs) = some cs
 | [], _, _, cells, cs, _, h => by simpa [P4, Lx] using h
 | _ :: _, [], [], cells, cs, _, h => by simpa [P4, Lx] using h
 | _ :: _, [], _ :: _, _, _, hc, _ => by cases hc
 | _ :: _, _ :: _, [], _, _, hc, _ => by cases hc
 | i :: idx, v :: vs, c :: css, cells, cs, hc, h => by
  obtain ⟨hv, hc⟩ := hc
  have hsz : v.cells.size = c.length := by rw [← hv, Array.length_toList]
  simp only [List.zip_cons_cons, P4, Lx] at h ⊢
  rw [hsz, hv]
  cases hp : places[i]? with
  | none => rw [hp] at h; cases h
  | some q =>
   obtain ⟨off, size⟩ := q
   rw [hp] at h
   simp only at h ⊢
   cases hb : Nat.beq c.length size with
   | false => rw [hb] at h; cases h
   | true =>
    rw [hb] at h
    simp only at h ⊢
    cases hq : J2 cells off c with
    | none => rw [hq] at h; cases h
    | some c' => rw [hq] at h; exact Rq places idx vs css c' cs hc h
theorem cl_nil : Lb [] [] := trivial
theorem Xf {v : Value} {c : List Value} {vs : List Value} {cs : List (List Value)} (h : v.cells.toList = c) (h' : Lb vs cs) : Lb (v :: vs) (c :: cs) := ⟨h, h'⟩
theorem F5 {zc cs : List Value} {places : List (Nat × Nat)} {parts : List (Nat × Operand)} {vs : List Value} {css : List (List Value)} (hT : Du P T zc places) (ha : evL n al (parts.map (·.2)) = some vs := by exact rfl) (hc : Lb vs css := by repeat (first | exact cl_nil | apply Xf (by first | exact Nn (by assumption) | exact rfl))) (h' : P4 places zc ((parts.map (·.1)).zip css) = some cs := by exact rfl) : Ax P n al L R ⟨some d, .build T parts.toArray, ty, pos, aft, none⟩ (.agg cs.toArray) := Q6 hT ha (Rq _ _ _ _ _ _ hc h')
theorem E2 {zc cs : List Value} {places : List (Nat × Nat)} {parts : List (Nat × Operand)} {vs : List Value} (hT : Du P T zc places) (ha : evL n al (parts.map (·.2)) = some vs := by exact rfl) (h' : Lx places zc ((parts.map (·.1)).zip vs) = some cs := by exact rfl) : Ax P n al L R ⟨some d, .build T parts.toArray, ty, pos, aft, none⟩ (.agg cs.toArray) := Q6 hT ha h'
theorem ob {op : Oper} {v : Value} (hp : Ax P n al L R op v) (k : J P n ops Q rest L R ((d, v) :: al)) (hd : op.dst = some d := by exact rfl) : J P n ops Q (op :: rest) L R al := r_p hp hd k
theorem dc {Sh : Rho → (Nat → Bool) → List Chunk} {R0 : List Fact} {al0 : List (Nat × Value)} {i : Nat} {its : List Item} {op : Oper} {v : Value} (hp : ∀ ρ S, Ax P n (Dt its al0 ρ) (Sh ρ S) R0 op v)
  (k : DJ P n ops Q Sh R0 al0 (i + 1) rest (⟨i, some d, fun _ => v, fun _ => [], fun _ => []⟩ :: its)) (hd : op.dst = some d := by exact rfl) (hSh : ∀ ρ g S, S i = false → Sh (Rho.set ρ i g) (upS S i) = Sh ρ S := by exact fun _ _ _ _ => rfl) : DN P n ops Q Sh R0 al0 i op rest its := d_pc hp hd hSh k
theorem dp {Sh : Rho → (Nat → Bool) → List Chunk} {R0 : List Fact} {al0 : List (Nat × Value)} {i : Nat} {its : List Item} {op : Oper} {v : Rho → Value} (hp : ∀ ρ S, Ax P n (Dt its al0 ρ) (Sh ρ S) R0 op (v ρ))
  (k : DJ P n ops Q Sh R0 al0 (i + 1) rest (⟨i, some d, v, fun _ => [], fun _ => []⟩ :: its)) (hd : op.dst = some d := by exact rfl) (hSh : ∀ ρ g S, S i = false → Sh (Rho.set ρ i g) (upS S i) = Sh ρ S := by exact fun _ _ _ _ => rfl) (hi : Ind ops i v := by first | exact Ind.const _ | exact fun _ _ _ _ _ => rfl | exact Ind.self | exact Ind.gh _ 3 rfl) : DN P n ops Q Sh R0 al0 i op rest its := d_p hp hd hi hSh k
theorem s_b {b f : Nat} {vs : List Value} {T0 : TypeId} {c : Value} (hsz : ∀ w, (sizeOf T).run P w = .ok 1 w) (k : ∀ cs', vs.set f c = cs' → J P n ops Q rest (blk b T0 cs' :: L') R al) (hx : ev n al x = some (bp b f) := by exact rfl) (hy : ev n al y = some c := by exact rfl) (hp : Pick L (blk b T0 vs) L' := by exact pkk) (h1 : c.oneCell' = true := by first | exact rfl | assumption | simp [*]) (hf : Nat.blt f vs.length = true := by exact rfl) : J P n ops Q (⟨none, .store T x y, ty, pos, aft, none⟩ :: rest) L R al :=
 Tf hsz hx hy h1 hp hf (k _ rfl)
theorem F0 {v : Value} (h : v.oneCell' = true) : v.cells = #[v] := Array.toList_inj.1 (Nn h)
theorem s_f {α : Type} [Enc α] {v : Value} {xs : List α} {i f sz : Nat} {cs : List Value} {T0 : TypeId} {c : Value} (hsz : ∀ w, (sizeOf T).run P w = .ok 1 w) (k : ∀ cs', cs.set f c = cs' → J P n ops Q rest (foc T0 v xs i cs' :: L') R al) (hx : ev n al x = some (ep v sz i f) := by exact rfl) (hy : ev n al y = some c := by exact rfl) (hp : Pick L (foc T0 v xs i cs) L' := by exact pkk) (hes : Enc.sz α = sz := by exact rfl) (hc : c.cells = #[c] := by first | exact rfl | exact F0 (by assumption)) (h1 : c.oneCell' = true := by first | exact rfl | assumption | simp [*]) (hf : Nat.blt f cs.length = true := by exact rfl) : J P n ops Q (⟨none, .store T x y, ty, pos, aft, none⟩ :: rest) L R al :=
 Te (us := [c]) hsz hx hy hc rfl (by intro u hu; cases List.mem_singleton.1 hu; exact h1) hp hes (Nat.ble_eq_true_of_le (blt_iff.1 hf)) (by rw [List.set_eq_take_append_cons_drop, if_pos (blt_iff.1 hf)]; simp) (k _ rfl)
theorem s_N {b f : Nat} {vs cs : List Value} {T0 : TypeId} {sz : Nat} (new : List Value) (hsz : ∀ w, (sizeOf T).run P w = .ok sz w) (k : J P n ops Q rest (blk b T0 new :: L') R al) (hx : ev n al x = some (bp b f) := by exact rfl) (hy : ev n al y = some (.agg cs.toArray) := by exact rfl) (hp : Pick L (blk b T0 vs) L' := by exact pkk) (hl : cs.length = sz := by exact rfl) (h1 : ∀ u ∈ cs, u.oneCell' = true := by repeat (first | exact C3 | refine A6 (by first | exact rfl | assumption) ?_)) (hf : Nat.ble (f + sz) vs.length = true := by exact rfl) (hn : vs.take f ++ cs ++ vs.drop (f + sz) = new := by exact rfl) : J P n ops Q (⟨none, .store T x y, ty, pos, aft, none⟩ :: rest) L R al :=
 O0 hsz hx hy hl h1 hp hf (by rw [hn]; exact k)
theorem s_B {b : Nat} {vs cs : List Value} {T0 : TypeId} {sz : Nat} (hsz : ∀ w, (sizeOf T).run P w = .ok sz w) (k : J P n ops Q rest (blk b T0 cs :: L') R al) (hx : ev n al x = some (bp b 0) := by exact rfl) (hy : ev n al y = some (.agg cs.toArray) := by exact rfl) (hp : Pick L (blk b T0 vs) L' := by exact pkk) (hl : cs.length = sz := by exact rfl) (h1 : ∀ u ∈ cs, u.oneCell' = true := by repeat (first | exact C3 | refine A6 (by first | exact rfl | assumption) ?_)) (hf : vs.length = sz := by exact rfl) : J P n ops Q (⟨none, .store T x y, ty, pos, aft, none⟩ :: rest) L R al :=
 Pw hsz hx hy hl h1 hp hf k
theorem bx {v : Value} {cs : List Value} (k : ∀ b, J P n ops Q rest (blk b T cs :: L) R ((d, bp b 0) :: al)) (hx : ev n al x = some v := by exact rfl) (hv : v.cells = cs.toArray := by exact rfl) : J P n ops Q (⟨some d, .box T x, ty, pos, aft, none⟩ :: rest) L R al := r_box hx hv k
theorem al_ {z : Value} {cs : List Value} (hz : ∀ w, (zeroValue T).run P w = .ok z w) (k : ∀ b, J P n ops Q rest (blk b T cs :: L) R ((d, bp b 0) :: al)) (hv : z.cells = cs.toArray := by exact rfl) : J P n ops Q (⟨some d, .alloc T, ty, pos, aft, none⟩ :: rest) L R al := Vh hz hv k
theorem ap {α : Type} [Enc α] {t e : TypeId} {sz bytes : Nat} {z : Value} {xs ys : List α} {v u : Value} (he : ElemOf P t e sz z bytes) (hx : ev n al x = some v := by exact rfl) (hy : ev n al y = some u := by exact rfl) (hp : Pick L (row e v xs) L' := by exact pkk) (hm : sl u ys ∈ R := by exact mm) (hsz : Enc.sz α = sz := by exact rfl) (hpos : 0 < sz := by decide) (hb : ∀ w, St L R w → xs.length + ys.length ≤ maxN) (k : ∀ v', J P n ops Q rest (row e v' (xs ++ ys) :: L') R ((d, v') :: al)) : J P n ops Q (⟨some d, .call { callee := .builtin .append, args := #[x, y], argTypes := #[t, t] }, ty, pos, aft, none⟩ :: rest) L R al := Ji he hx hy hsz hpos hp hm hb k
theorem li {α : Type} [Enc α] {t el : TypeId} {sz bytes len : Nat} {z : Value} {parts : List (Nat × Operand)} {vs : List Value} (xs : List α) (he : ElemOf P t el sz z bytes) (ha : evL n al (parts.map (·.2)) = some vs) (hrd : ∀ j, (∀ q ∈ R, q.p j) → RdV xs vs j) (k : ∀ v, J P n ops Q rest L (sl v xs :: R) ((d, v) :: al)) (hsz : Enc.sz α = sz := by exact rfl) (hidx : parts.map (·.1) = List.range' 0 len := by exact rfl) (hlv : vs.length = len := by exact rfl) (hsmall : Nat.ble (len * sz) 1000 = true := by exact rfl) (hsm2 : Nat.ble len 1000 = true := by exact rfl) : J P n ops Q (⟨some d, .buildSlice t len parts.toArray, ty, pos, aft, none⟩ :: rest) L R al :=
 Q4 xs he hsz ha hidx hlv hsmall hsm2 hrd fun v => J.shut .hd (k v)
theorem liO {α : Type} [Enc α] {t el : TypeId} {sz bytes len : Nat} {z : Value} {parts : List (Nat × Operand)} {vs : List Value} (xs : List α) (he : ElemOf P t el sz z bytes) (ha : evL n al (parts.map (·.2)) = some vs) (hrd : ∀ j, (∀ q ∈ R, q.p j) → RdV xs vs j) (k : ∀ v, J P n ops Q rest (row el v xs :: L) R ((d, v) :: al)) (hsz : Enc.sz α = sz := by exact rfl) (hidx : parts.map (·.1) = List.range' 0 len := by exact rfl) (hlv : vs.length = len := by exact rfl) (hsmall : Nat.ble (len * sz) 1000 = true := by exact rfl) (hsm2 : Nat.ble len 1000 = true := by exact rfl) : J P n ops Q (⟨some d, .buildSlice t len parts.toArray, ty, pos, aft, none⟩ :: rest) L R al := Q4 xs he hsz ha hidx hlv hsmall hsm2 hrd k
theorem Fw {α : Type} [Enc α] {j : Mem} : RdV ([] : List α) [] j := trivial
theorem rd_sl {α : Type} [Enc α] {u : Value} {ys : List α} (hm : sl u ys ∈ R := by exact mm) : ∀ j, (∀ q ∈ R, q.p j) → RdV [ys] [u] j := fun j h => by
 have hs := h _ hm
 obtain ⟨base, cap, hv, _⟩ := id hs
 exact ⟨⟨[u], by rw [hv]; rfl, u, rfl, hs⟩, trivial⟩
theorem rd_0 {α : Type} [Enc α] [El0 α] {x : α} {v : Value} {cs : List Value} (hr : ∀ j, Enc.rd x cs j) (hv : v.cells = cs.toArray := by exact rfl) : ∀ j, (∀ q ∈ R, q.p j) → RdV [x] [v] j := fun j _ => ⟨⟨cs, hv, hr j⟩, trivial⟩
theorem cd {t : Nat} {a b : Code} {p : Prop} {hd : Decidable p} (hT : p → JC P n a Q L R ((t, .bool true) :: al)) (hF : ¬ p → JC P n b Q L R ((t, .bool false) :: al)) (hc : ev n al (.tmp t) = some (.bool (decide p)) := by exact rfl) : JC P n (.cond (.tmp t) a b) Q L R al :=
 Bp hc (fun h => hT (of_decide_eq_true h)) (fun h => hF (of_decide_eq_false h))
theorem cT {c : Operand} {a b : Code} (h : JC P n a Q L R al) (hc : ev n al c = some (.bool true) := by exact rfl) : JC P n (.cond c a b) Q L R al := O5 hc h
theorem cF_ {c : Operand} {a b : Code} (h : JC P n b Q L R al) (hc : ev n al c = some (.bool false) := by exact rfl) : JC P n (.cond c a b) Q L R al := Lr hc h
theorem cTp {t : Nat} {a b : Code} {p : Prop} {hd : Decidable p} (hp : p) (h : JC P n a Q L R al) (hc : ev n al (.tmp t) = some (.bool (decide p)) := by exact rfl) : JC P n (.cond (.tmp t) a b) Q L R al := O5 (by rw [hc, decide_eq_true hp]) h
theorem cFp {t : Nat} {a b : Code} {p : Prop} {hd : Decidable p} (hp : ¬ p) (h : JC P n b Q L R al) (hc : ev n al (.tmp t) = some (.bool (decide p)) := by exact rfl) : JC P n (.cond (.tmp t) a b) Q L R al := Lr (by rw [hc, decide_eq_false hp]) h
theorem jg {t : Nat} {p : Prop} {hd : Decidable p} {l : List Oper} (hT : p → J P n ops Q l L R ((t, .bool true) :: al)) (hF : ¬ p → J P n ops Q l L R ((t, .bool false) :: al)) (hc : ev n al (.tmp t) = some (.bool (decide p)) := by exact rfl) : J P n ops Q l L R al :=
 Ls hc (fun h => hT (of_decide_eq_true h)) (fun h => hF (of_decide_eq_false h))
theorem jgx {t : Nat} {p : Prop} {hd : Decidable p} {l : List Oper} (hc : ev n al (.tmp t) = some (.bool (decide p))) (hT : p → J P n ops Q l L R ((t, .bool true) :: al)) (hF : ¬ p → J P n ops Q l L R ((t, .bool false) :: al)) : J P n ops Q l L R al := jg hT hF hc
theorem cdx {t : Nat} {a b : Code} {p : Prop} {hd : Decidable p} (hc : ev n al (.tmp t) = some (.bool (decide p))) (hT : p → JC P n a Q L R ((t, .bool true) :: al)) (hF : ¬ p → JC P n b Q L R ((t, .bool false) :: al)) : JC P n (.cond (.tmp t) a b) Q L R al := cd hT hF hc
theorem Di {a : Code} {K : Act → World → Prop} (t : Nat) (v : Value) (hx : JC P n a (Exit.then (fun a' w => ∃ B, a' = mkA n ((t, v) :: al) B ∧ St L R w) Q) L R al) (hy : JX n (Exit.then K Q) .normal L R ((t, v) :: al)) : JC P n a (Exit.then K Q) L R al := by
 intro B w hs
 refine wp_mono (hx B w hs) ?_
 intro e a' w' hq
 cases e with
 | normal => obtain ⟨B1, rfl, hs1⟩ := hq; exact hy B1 w' hs1
 | exit id => exact hq
 | goto l => exact hq
 | ret => exact hq
 | panic c => exact hq
 | outgrown => exact hq
theorem Aw {L1 : List Chunk} {R1 : List Fact} {al2 : List (Nat × Value)} (hal : Nv al n al2) (hst : ∀ w, St L R w → St L1 R1 w) : JX n (Exit.then (fun a' w => ∃ B, a' = mkA n al2 B ∧ St L1 R1 w) Q) .normal L R al := by
 intro B w hs
 obtain ⟨B', hB⟩ := Ob hal B
 exact ⟨B', hB, hst w hs⟩
inductive Keep : List Nat → List (Nat × Value) → List (Nat × Value) → List (Nat × Value) → Prop
 | nil {ts acc} : Keep ts [] acc acc
 | yes {ts ts' : List Nat} {t v r acc out} : ts.contains t = true → ts.erase t = ts' → Keep ts' r ((t, v) :: acc) out → Keep ts ((t, v) :: r) acc out
 | no {ts t v r acc out} : ts.contains t = false → Keep ts r acc out → Keep ts ((t, v) :: r) acc out
theorem Oe {d t : Nat} {u : Value} {r : List (Nat × Value)} (h : d ≠ t) : G6 ((d, u) :: r) t = G6 r t := by
 simp only [G6]
 cases hb : Nat.beq d t with
 | true => exact absurd (Nat.eq_of_beq_eq_true hb) h
 | false => rfl
theorem Q9 {d : Nat} {u : Value} {r : List (Nat × Value)} : G6 ((d, u) :: r) d = some u := by simp [G6]
theorem Keep.sub_aux {ts : List Nat} {al acc out : List (Nat × Value)} (h : Keep ts al acc out) : ∀ t v, G6 out t = some v → (∀ t, ts.count t ≤ 1) → G6 acc t = some v ∨ (G6 al t = some v ∧ t ∈ ts) := by
  induction h with
  | nil => intro t v h _; exact .inl h
  | @yes ts ts' d u r acc out h1 h2 h3 ih =>
    intro t v h hn
    subst h2
    have hd : d ∈ ts := by simpa using h1
    rcases ih t v h (fun s => Nat.le_trans (List.Sublist.count_le _ List.erase_sublist) (hn s)) with e | ⟨e1, e2⟩
    · by_cases hdt : d = t
      · subst hdt
        rw [Q9] at e
        right; rw [Q9]; exact ⟨e, hd⟩
      · rw [Oe hdt] at e; exact .inl e
    · by_cases hdt : d = t
      · subst hdt
        exfalso
        have h4 := List.count_erase_self (a := d) (l := ts)
        have h5 := hn d
        have h6 : 0 < (ts.erase d).count d := List.count_pos_iff.2 e2
        omega
      · right; rw [Oe hdt]; exact ⟨e1, List.mem_of_mem_erase e2⟩
  | @no ts d u r acc out h1 h3 ih =>
    intro t v h hn
    rcases ih t v h hn with e | ⟨e1, e2⟩
    · exact .inl e
    · right
      have hdt : d ≠ t := by intro e; subst e; simp at h1; exact h1 e2
      rw [Oe hdt]; exact ⟨e1, e2⟩
def My : List Nat → Bool
 | [] => true
 | x :: r => !(r.contains x) && My r
theorem I4 : ∀ {l : List Nat}, My l = true → ∀ t, l.count t ≤ 1
  | [], _, t => by simp
  | x :: r, h, t => by
    simp only [My, Bool.and_eq_true, Bool.not_eq_true', List.contains_eq_mem, decide_eq_false_iff_not] at h
    rw [List.count_cons]
    have := I4 h.2 t
    by_cases hx : x = t
    · subst hx; rw [List.count_eq_zero_of_not_mem h.1]; simp
    · simp [hx]; exact this
theorem Tm {ts : List Nat} {al al' : List (Nat × Value)} (h : Keep ts al [] al') (hn : My ts = true) (B : Nat → Value) : ∃ B', mkA n al B = mkA n al' B' := by
  refine ⟨fun t => (G6 al t).getD (B t), ?_⟩
  unfold mkA
  simp only [Act.mk.injEq, and_true]
  congr 1
  funext i
  cases hl : G6 al' i with
  | none => simp
  | some v =>
    rcases h.sub_aux i v hl (I4 hn) with e | e
    · cases e
    · simp [e.1]
theorem kp {c : Code} (ts : List Nat) {al' : List (Nat × Value)} (k : JC P n c Q L R al') (h : Keep ts al [] al' := by repeat (first | exact .nil | apply Keep.yes rfl rfl | apply Keep.no rfl)) (hn : My ts = true := by exact rfl) : JC P n c Q L R al := by
 intro B w hs
 obtain ⟨B', hB⟩ := Tm h hn B
 rw [hB]; exact k B' w hs
theorem alT {al' : List (Nat × Value)} (h : Nv al n al' := by repeat (first | exact trivial | refine ⟨rfl, ?_⟩)) : Nv al n al' := h
end
section
variable {P : Program} {n : Nat} {Q : Exit → Act → World → Prop} {rest : List Oper} {L L' : List Chunk} {R : List Fact} {al : List (Nat × Value)} {d : Nat} {ty : TypeId} {pos : String} {aft : Array Edge}
theorem gy {l : List Oper} {dst : Option Tmp} {op : Go.Op} {i : Nat} {b : Bool} (k : J P n l.toArray Q (⟨dst, op, ty, pos, aft, none⟩ :: rest) L R al) (hv : gv n al l i = some b := by exact rfl) : J P n l.toArray Q (⟨dst, op, ty, pos, aft, some (i, b)⟩ :: rest) L R al := J.guardYes hv k
variable {Sh : Rho → (Nat → Bool) → List Chunk} {R0 : List Fact} {al0 : List (Nat × Value)} {its : List Item} {i : Nat}
theorem dgy {l : List Oper} {dst : Option Tmp} {op : Go.Op} {q : Nat} {b : Bool} (k : DN P n l.toArray Q Sh R0 al0 i ⟨dst, op, ty, pos, aft, none⟩ rest its) (hv : ∀ ρ, gv n (Dt its al0 ρ) l q = some b := by exact fun _ => rfl) : DN P n l.toArray Q Sh R0 al0 i ⟨dst, op, ty, pos, aft, some (q, b)⟩ rest its := P7 hv k
theorem dgn {l : List Oper} {op : Go.Op} {q : Nat} {b : Bool} (k : DJ P n l.toArray Q Sh R0 al0 (i + 1) rest (⟨i, some d, fun _ => undef, fun _ => [], fun _ => []⟩ :: its)) (hv : ∀ ρ, gv n (Dt its al0 ρ) l q = some (!b) := by exact fun _ => rfl) (hSh : ∀ ρ g S, S i = false → Sh (Rho.set ρ i g) (upS S i) = Sh ρ S := by exact fun _ _ _ _ => rfl) : DN P n l.toArray Q Sh R0 al0 i ⟨some d, op, ty, pos, aft, some (q, b)⟩ rest its := Rt hv hSh k
theorem dgu {l : List Oper} {op : Go.Op} {q : Nat} {b : Bool} (k : DJ P n l.toArray Q Sh R0 al0 (i + 1) rest (⟨i, some d, fun _ => undef, fun _ => [], fun _ => []⟩ :: its)) (hv : ∀ ρ, gu n (Dt its al0 ρ) l q = true := by exact fun _ => rfl) (hSh : ∀ ρ g S, S i = false → Sh (Rho.set ρ i g) (upS S i) = Sh ρ S := by exact fun _ _ _ _ => rfl) : DN P n l.toArray Q Sh R0 al0 i ⟨some d, op, ty, pos, aft, some (q, b)⟩ rest its := Nf hv hSh k
end
end Go.Proofs.Ytofgpimoekhfaaa

/- This file proves rules for parts of an array of the call's own, for appending in place, for clearing, and for slices held against nil. No conditions. -/
set_option linter.unusedVariables false
set_option linter.unusedSimpArgs false
namespace Go.Proofs.Ytofgpimoekhfaaa
open Go
def J9 : Value → Bool
 | .slice none _ _ => true
 | _ => false
theorem T4 {P : Program} {T e : TypeId} {k : Nat} {b : Option Addr} {l c : Nat} (ht : P.underlying T = some (.slice e)) (w : World) : (Op.equalIn (k + 1) T (.slice b l c) (.slice none 0 0)).run P w = .ok (J9 (.slice b l c)) w := by
 unfold Op.equalIn
 cases b <;> simp [C9 ht, J9]
section
variable {P : Program} {n : Nat} {ops : Array Oper} {Q : Exit → Act → World → Prop} {rest : List Oper} {L L' : List Chunk} {R : List Fact} {al : List (Nat × Value)} {d : Nat} {x y : Operand} {T ty : TypeId} {pos : String} {aft : Array Edge}
theorem q_nil {e U : TypeId} {v : Value} {len : Nat} (ht : P.underlying T = some (.slice e)) (hl : Da L R v len) (hx : ev n al x = some v := by exact rfl) : Ax P n al L R ⟨some d, .binOp .eql T x (.const (.slice none 0 0)) U, ty, pos, aft, none⟩ (.bool (J9 v)) :=
 ⟨rfl, fun ρ w h hs => by
  obtain ⟨base, cap, rfl, _⟩ := hl w hs
  have e1 : ρ (.const (.slice none 0 0)) = .slice none 0 0 := h _ (by simp [Op.operands]) _ rfl
  have e2 := h x (by simp [Op.operands]) _ hx
  have g : (eqGuard .eql T x (.const (.slice none 0 0)) (.slice base len cap) (.slice none 0 0)).run P w = .ok () w := by
   unfold eqGuard; rfl
  have e : (binOp .eql T (.slice base len cap) (.slice none 0 0)).run P w = .ok (.bool (J9 (.slice base len cap))) w := by
   show (Op.equal T (.slice base len cap) (.slice none 0 0) >>= fun r => Pure.pure (Value.bool r)).run P w = _
   rw [Sem.run_bind]
   have : (Op.equal T (.slice base len cap) (.slice none 0 0)).run P w = .ok (J9 (.slice base len cap)) w := by
    rw [show Op.equal T (.slice base len cap) (.slice none 0 0) = Op.equalIn (9999 + 1) T (.slice base len cap) (.slice none 0 0) from rfl, T4 ht w]
   rw [this]; rfl
  have : (execOp ρ ⟨some d, .binOp .eql T x (.const (.slice none 0 0)) U, ty, pos, aft, none⟩) = (do let v ← (do eqGuard .eql T x (.const (.slice none 0 0)) (.slice base len cap) (.slice none 0 0); binOp .eql T (.slice base len cap) (.slice none 0 0)); pure (Next.value v)) := by
   simp only [execOp, e1, e2]
  rw [this]
  simp [g, e]⟩
theorem nil_of {α : Type} [Enc α] {v : Value} {xs : List α} {w : World} (hm : sl v xs ∈ R) (hs : St L R w) (h : J9 v = true) : xs = [] := by
 obtain ⟨base, cap, rfl, _, hc⟩ := hs.fact hm
 cases base with
 | none =>
  apply Classical.byContradiction
  intro hne
  obtain ⟨a, _, _, _, _, h1, _⟩ := hc hne
  cases h1
 | some a => cases h
theorem JC.nilOf {α : Type} [Enc α] {c : Code} {v : Value} {xs : List α} (h : J9 v = true) (hm : sl v xs ∈ R) (k : xs = [] → JC P n c Q L R al) : JC P n c Q L R al := JC.know (fun w hs => nil_of hm hs h) k
end
section
variable {P : Program} {n : Nat} {L : List Chunk} {R : List Fact} {al : List (Nat × Value)} {d : Nat} {x y : Operand} {T ty : TypeId} {pos : String} {aft : Array Edge}
end
section
variable {P : Program} {n : Nat} {ops : Array Oper} {Q : Exit → Act → World → Prop} {rest : List Oper} {L L' : List Chunk} {R : List Fact} {al : List (Nat × Value)} {d : Nat} {x y : Operand} {T ty : TypeId} {pos : String} {aft : Array Edge}
variable {α : Type} [Enc α] {v : Value} {xs : List α}
end
theorem frz {P : Program} {γ : Type} {f : FuncId} {args : Array Value} {w : World} {α : Type} [Enc α] {T : TypeId} {xs : List α} {val p : γ → Value} {L : γ → List Chunk} {R : γ → List Fact} (h : Calls P f args w (Ch val (fun g => row T (p g) xs :: L g) R)) : Calls P f args w (Ch val L (fun g => sl (p g) xs :: R g)) :=
 h.mono fun e w' ⟨g, h1, h2⟩ => ⟨g, h1, h2.shut⟩
section
variable {P : Program} {n : Nat} {ops : Array Oper} {Q : Exit → Act → World → Prop} {rest : List Oper} {L L' : List Chunk} {R : List Fact} {al : List (Nat × Value)} {d : Nat} {x y : Operand} {T ty : TypeId} {pos : String} {aft : Array Edge}
theorem Ft {α : Type} {l : List α} {k : Nat} (d : α) (h : k < l.length) : l.take (k + 1) = l.take k ++ [l.getD k d] := by
 rw [List.take_add_one, getD_some d h]; rfl
end
end Go.Proofs.Ytofgpimoekhfaaa

/- This file proves the rules of a statement whose order is open where memory is made and written in it, each piece by a chain of operations. No conditions. -/
set_option linter.unusedVariables false
set_option linter.unusedSimpArgs false
namespace Go.Proofs.Ytofgpimoekhfaaa
open Go
section
variable {P : Program} {n : Nat} {Q : Exit → Act → World → Prop} {Sh : Rho → (Nat → Bool) → List Chunk} {R0 : List Fact} {al0 : List (Nat × Value)}
variable {ops : Array Oper} {i : Nat} {rest : List Oper} {its : List Item} {d : Nat} {x y : Operand} {T ty : TypeId} {pos : String} {aft : Array Edge}
def Ii (ops : Array Oper) (Sh : Rho → (Nat → Bool) → List Chunk) (i : Nat) : Prop := ∀ ρ g S, S i = false → (∀ j, Bef ops i j → S j = false) → Sh (Rho.set ρ i g) (upS S i) = Sh ρ S
theorem T9 {γ : Type} [Gh γ] {o : Oper} {val : γ → Value} {F : γ → List Fact} {C : γ → List Chunk} (hg : o.guard = none) (hd : o.dst = some d) (hSh : Ii ops Sh i)
  (h : ∀ ρ S a L' R' w (K : Act → World → Prop), Now ops n Sh R0 al0 i its o ρ S a L' R' w → (∀ g w', St (C g ++ (Sh ρ S ++ L')) (F g ++ R') w' → K (a.put (some d) (val g)) w') → o.wp P a w K Q)
  (k : DJ P n ops Q Sh R0 al0 (i + 1) rest (⟨i, some d, fun ρ => val (Gh.dec (ρ i)), fun ρ => F (Gh.dec (ρ i)), fun ρ => C (Gh.dec (ρ i))⟩ :: its)) : DJ P n ops Q Sh R0 al0 i (o :: rest) its := by
 refine dj ⟨⟨i, some d, fun ρ => val (Gh.dec (ρ i)), fun ρ => F (Gh.dec (ρ i)), fun ρ => C (Gh.dec (ρ i))⟩, rfl, hd.symm, Ind.self (h := fun g => val (Gh.dec g)), Ind.self (h := fun g => F (Gh.dec g)), Ind.self (h := fun g => C (Gh.dec g)), ?_, k⟩
 intro ρ S a L' R' w K hS hbef haft hag hdep hbase hst hK
 rw [if_pos (by simp [Region.wanted, hg])]
 left
 refine h ρ S a L' R' w K ⟨hS, hag, hdep, hbase, hst⟩ ?_
 intro g w' hs'
 have e : (Rho.set ρ i (Gh.enc g)) i = Gh.enc g := by simp [Rho.set]
 have := hK (Gh.enc g) w'
 simp only [e, Gh.ok, hd, hSh ρ (Gh.enc g) S hS haft] at this
 refine this (hs'.perm ?_)
 rw [← List.append_assoc, ← List.append_assoc]
 exact List.Perm.append_right _ List.perm_append_comm
theorem e_p {op : Oper} {v : Rho → Value} (hp : ∀ ρ S, Ax P n (Dt its al0 ρ) (Sh ρ S) R0 op (v ρ)) (hi : Ind ops i v) (hSh : Ii ops Sh i)
  (k : DJ P n ops Q Sh R0 al0 (i + 1) rest (⟨i, some d, v, fun _ => [], fun _ => []⟩ :: its)) (hd : op.dst = some d := by exact rfl) : DJ P n ops Q Sh R0 al0 i (op :: rest) its := by
 refine dj ⟨⟨i, some d, v, fun _ => [], fun _ => []⟩, rfl, hd.symm, hi, Ind.const _, Ind.const _, ?_, k⟩
 intro ρ S a L' R' w K hS hbef haft hag hdep hbase hst hK
 have hp0 := hp ρ S
 rw [if_pos (by simp [Region.wanted, hp0.1])]
 left
 unfold Oper.wp
 have h : Now ops n Sh R0 al0 i its op ρ S a L' R' w := ⟨hS, hag, hdep, hbase, hst⟩
 rw [hp0.2 _ w (fun x hx u hu => Cd h.agree hx hu) (h.st.fewer h.base), Oper.upon_value]
 have hsh := hSh ρ (ρ i) S hS haft
 rw [Rho.set_same] at hsh
 have := hK (ρ i) w
 rw [Rho.set_same] at this
 exact this (by rw [hsh]; exact hst)
theorem Ko {op : Oper} {v : Value} (hp : ∀ ρ S, S i = false → (∀ j, Bef ops j i → S j = true) → (∀ j, Bef ops i j → S j = false) → Ax P n (Dt its al0 ρ) (Sh ρ S) R0 op v) (hSh : Ii ops Sh i)
  (k : DJ P n ops Q Sh R0 al0 (i + 1) rest (⟨i, some d, fun _ => v, fun _ => [], fun _ => []⟩ :: its)) (hpure : op.guard = none := by exact rfl) (hd : op.dst = some d := by exact rfl) : DJ P n ops Q Sh R0 al0 i (op :: rest) its := by
 refine dj ⟨⟨i, some d, fun _ => v, fun _ => [], fun _ => []⟩, rfl, hd.symm, Ind.const _, Ind.const _, Ind.const _, ?_, k⟩
 intro ρ S a L' R' w K hS hbef haft hag hdep hbase hst hK
 have hp0 := hp ρ S hS hbef haft
 rw [if_pos (by simp [Region.wanted, hp0.1])]
 left
 unfold Oper.wp
 have h : Now ops n Sh R0 al0 i its op ρ S a L' R' w := ⟨hS, hag, hdep, hbase, hst⟩
 rw [hp0.2 _ w (fun x hx u hu => Cd h.agree hx hu) (h.st.fewer h.base), Oper.upon_value]
 have hsh := hSh ρ (ρ i) S hS haft
 rw [Rho.set_same] at hsh
 have := hK (ρ i) w
 rw [Rho.set_same] at this
 exact this (by rw [hsh]; exact hst)
theorem Eh {s : Bool} {x y : List Value} {f : Nat} {c : Value} (hx : x[f]? = some c) (hy : y[f]? = some c) : (bif s then x else y)[f]? = some c := by cases s <;> assumption
theorem Jn {op : Oper} {v : Value} (hp : ∀ ρ S, Ax P n (Dt its al0 ρ) (Sh ρ S) R0 op v) (hSh : Ii ops Sh i)
  (k : DJ P n ops Q Sh R0 al0 (i + 1) rest (⟨i, some d, fun _ => v, fun _ => [], fun _ => []⟩ :: its)) (hd : op.dst = some d := by exact rfl) : DJ P n ops Q Sh R0 al0 i (op :: rest) its := e_p hp (Ind.const _) hSh k hd
theorem Bn {γ : Type} [Gh γ] {val : γ → Value} {F : γ → List Fact} {f : FuncId} {args : List Operand} {ts : Array TypeId} {vs : Rho → List Value} (hf : ∀ args w, (callFunc f args).run P w = .ok (.enter f args) w)
  (ha : ∀ ρ, evL n (Dt its al0 ρ) args = some (vs ρ)) (hc : ∀ ρ L' R' w, Deps ops R0 its i ρ R' → St L' R' w → Calls P f (vs ρ).toArray w (Ch val (fun _ => L') (fun g => F g ++ R'))) (hSh : Ii ops Sh i)
  (k : DJ P n ops Q Sh R0 al0 (i + 1) rest (⟨i, some d, fun ρ => val (Gh.dec (ρ i)), fun ρ => F (Gh.dec (ρ i)), fun ρ => []⟩ :: its)) :
  DJ P n ops Q Sh R0 al0 i (⟨some d, .call { callee := .value (.func f), args := args.toArray, argTypes := ts }, ty, pos, aft, none⟩ :: rest) its :=
 T9 (C := fun _ => []) rfl rfl hSh (fun ρ S a L' R' w K h hK => by
  unfold Oper.wp
  rw [H5 hf rfl, Oper.upon_enter, List.map_toArray, F1 h.agree (fun x hx => by simp [Op.operands, Call.operands, hx]) (ha ρ)]
  refine (hc ρ _ _ w ⟨h.base, h.deps⟩ h.st).mono ?_
  rintro e w' ⟨g, rfl, hs'⟩
  exact hK g w' hs') k
theorem Gz {γ : Type} [Gh γ] {val : γ → Value} {F : γ → List Fact} {f : FuncId} {args : List Operand} {ts : Array TypeId} {vs caps : List Value} (hx : ∀ ρ, ev n (Dt its al0 ρ) x = some (.func (.func f) #[] caps.toArray)) (hf : ∀ args w, (callFunc f args).run P w = .ok (.enter f args) w)
  (ha : ∀ ρ, evL n (Dt its al0 ρ) args = some vs) (hc : ∀ ρ S L' R' w, St (Sh ρ S ++ L') R' w → Deps ops R0 its i ρ R' → Calls P f (vs ++ caps).toArray w (Ch val (fun _ => Sh ρ S ++ L') (fun g => F g ++ R'))) (hSh : Ii ops Sh i)
  (k : DJ P n ops Q Sh R0 al0 (i + 1) rest (⟨i, some d, fun ρ => val (Gh.dec (ρ i)), fun ρ => F (Gh.dec (ρ i)), fun ρ => []⟩ :: its)) :
  DJ P n ops Q Sh R0 al0 i (⟨some d, .call { callee := .value x, args := args.toArray, argTypes := ts }, ty, pos, aft, none⟩ :: rest) its :=
 T9 (C := fun _ => []) rfl rfl hSh (fun ρ S a L' R' w K h hK => by
  unfold Oper.wp
  have e1 : a.eval x = .func (.func f) #[] caps.toArray := Cd h.agree (by simp [Op.operands, Call.operands]) (hx ρ)
  rw [K5 hf e1, Oper.upon_enter, List.map_toArray, F1 h.agree (fun x hx => by simp [Op.operands, Call.operands, hx]) (ha ρ), List.append_toArray]
  refine (hc ρ S L' R' w h.st ⟨h.base, h.deps⟩).mono ?_
  rintro e w' ⟨g, rfl, hs'⟩
  exact hK g w' hs') k
theorem E7 {α : Type} [Enc α] {t el : TypeId} {sz bytes len : Nat} {z : Value} {parts : List (Nat × Operand)} {vs : Rho → List Value} (xs : List α) (he : ElemOf P t el sz z bytes) (hsz : Enc.sz α = sz)
  (ha : ∀ ρ, evL n (Dt its al0 ρ) (parts.map (·.2)) = some (vs ρ)) (hidx : parts.map (·.1) = List.range' 0 len) (hlv : ∀ ρ, (vs ρ).length = len) (hsmall : Nat.ble (len * sz) 1000 = true) (hsm2 : Nat.ble len 1000 = true)
  (hrd : ∀ ρ R', Deps ops R0 its i ρ R' → ∀ j, (∀ q ∈ R', q.p j) → RdV xs (vs ρ) j) (hSh : Ii ops Sh i)
  (k : DJ P n ops Q Sh R0 al0 (i + 1) rest (⟨i, some d, fun ρ => (Gh.dec (ρ i) : Value), fun ρ => [sl (Gh.dec (ρ i) : Value) xs], fun _ => []⟩ :: its)) :
  DJ P n ops Q Sh R0 al0 i (⟨some d, .buildSlice t len parts.toArray, ty, pos, aft, none⟩ :: rest) its :=
 T9 (γ := Value) (val := fun v => v) (F := fun v => [sl v xs]) (C := fun _ => []) rfl rfl hSh (fun ρ S ac L' R' w K h hK => by
  obtain ⟨j, hj, hrj⟩ := h.st.ex
  have hrd' := hrd ρ R' ⟨h.base, h.deps⟩
  obtain ⟨h1, h2, h3⟩ := (hrd' j hrj).list
  have hlen := hlv ρ
  have hb := Nat.le_of_ble_eq_true hsmall
  have hb2 := Nat.le_of_ble_eq_true hsm2
  have hrun := He (vs := vs ρ) he (fun v hv => by rw [h2 v hv, hsz]) (by rw [hlen]; exact hb) w
  have e : (execOp ac.eval ⟨some d, .buildSlice t len parts.toArray, ty, pos, aft, none⟩).run P w = .ok (.value (.slice (some ⟨w.heap.size, 0, none⟩) len len)) (w.alloc (.cells ((vs ρ).flatMap fun v => v.cells.toList).toArray el)) := by
   show (Instr.buildSlice t len (parts.toArray.map fun (i, x) => (i, ac.eval x)) >>= fun v => Pure.pure (Next.value v)).run P w = _
   have hp : (parts.toArray.map fun (i, x) => (i, ac.eval x)) = ((parts.map (·.1)).zip (vs ρ)).toArray := by
    rw [← F1 h.agree (fun x hx => by simpa [Op.operands] using hx) (ha ρ)]
    simp only [List.map_toArray, List.map_map, List.zip_map', Function.comp_def]
   rw [hp, hidx, Sem.run_bind, ← hlen, hrun]; rfl
  unfold Oper.wp
  rw [e, Oper.upon_value]
  refine hK _ _ ?_
  obtain ⟨m, j', hd, hmw, hjw, hst, hr⟩ := h.st
  have hnew : St (row el (.slice (some ⟨w.heap.size, 0, none⟩) len len) xs :: (Sh ρ S ++ L')) R' (w.alloc (.cells ((vs ρ).flatMap fun v => v.cells.toList).toArray el)) := by
   obtain ⟨g1, g2, g3⟩ := (hrd' j' hr).list
   have hcl : ((vs ρ).flatMap fun v => v.cells.toList).length = len * sz := by rw [g3.len, g1, hlen, hsz]
   exact St.newC hd hmw hjw hst hr rfl rfl rfl ⟨by rw [g1, hlen]; have : maxN = 16777216 := rfl; omega, .inr ⟨w.heap.size, len, _, _, by rw [g1, hlen], E6 _ _, by rw [g1, hlen]; exact Nat.le_refl _, by unfold maxLen; omega, by rw [hsz]; simpa using hcl, rfl, by
    rw [g1, hlen, hsz, ← hcl, List.toList_toArray, List.take_length]; exact g3⟩⟩
  exact hnew.shut) k
theorem Ux {α : Type} [Enc α] {t el : TypeId} {sz bytes : Nat} {z : Value} {zc : List Value} {a : Int} {x0 : α} (he : ElemOf P t el sz z bytes) (hsz : Enc.sz α = sz) (hpos : 0 < sz) (hx : ∀ ρ, ev n (Dt its al0 ρ) x = some (vi a)) (hy : ∀ ρ, ev n (Dt its al0 ρ) y = some (vi a))
  (hzc : z.cells = zc.toArray) (hrd : ∀ j, Enc.rd x0 zc j) (h0 : 0 ≤ a) (hN : a ≤ 16777216) (hSh : ∀ ρ g S, S i = false → Sh (Rho.set ρ i g) (upS S i) = Sh ρ S)
  (k : DJ P n ops Q Sh R0 al0 (i + 1) rest (⟨i, some d, fun ρ => (Gh.dec (ρ i) : Value), fun ρ => [sl (Gh.dec (ρ i) : Value) (List.replicate a.toNat x0)], fun _ => []⟩ :: its)) :
  DJ P n ops Q Sh R0 al0 i (⟨some d, .makeSlice t x y, ty, pos, aft, none⟩ :: rest) its := dj (d_make he hsz hpos hx hy hzc hrd h0 hN hSh k)
theorem Gc {z : Value} {cs : List Value} (hz : ∀ w, (zeroValue T).run P w = .ok z w) (hv : z.cells = cs.toArray) (hSh : ∀ ρ (b : Nat) S, S i = false → (∀ j, Bef ops i j → S j = false) → (Sh (Rho.set ρ i (Gh.enc b)) (upS S i)).Perm (blk b T cs :: Sh ρ S))
  (k : DJ P n ops Q Sh R0 al0 (i + 1) rest (⟨i, some d, fun ρ => bp (Gh.dec (γ := Nat) (ρ i)) 0, fun _ => [], fun _ => []⟩ :: its)) : DJ P n ops Q Sh R0 al0 i (⟨some d, .alloc T, ty, pos, aft, none⟩ :: rest) its := dj (Ru hz hv hSh k)
theorem W7 {f : Nat} {vs us : Rho → List Value} {v : Rho → Value} {sz : Nat} {T0 : TypeId} (bb : Rho → Nat) (hsz : ∀ w, (sizeOf T).run P w = .ok sz w) (hx : ∀ ρ, ev n (Dt its al0 ρ) x = some (bp (bb ρ) f)) (hy : ∀ ρ, ev n (Dt its al0 ρ) y = some (v ρ)) (hv : ∀ ρ, (v ρ).cells = (us ρ).toArray) (hl : ∀ ρ, (us ρ).length = sz)
  (h1 : ∀ ρ R' w L', Deps ops R0 its i ρ R' → St L' R' w → ∀ u ∈ us ρ, u.oneCell' = true) (hf : ∀ ρ, Nat.ble (f + sz) (vs ρ).length = true)
  (hSh : ∀ ρ g S, S i = false → (∀ j, Bef ops j i → S j = true) → (∀ j, Bef ops i j → S j = false) → ∃ L1, (Sh ρ S).Perm (blk (bb ρ) T0 (vs ρ) :: L1) ∧ (Sh (Rho.set ρ i g) (upS S i)).Perm (blk (bb ρ) T0 ((vs ρ).take f ++ us ρ ++ (vs ρ).drop (f + sz)) :: L1))
  (k : DJ P n ops Q Sh R0 al0 (i + 1) rest (⟨i, none, fun _ => undef, fun _ => [], fun _ => []⟩ :: its)) : DJ P n ops Q Sh R0 al0 i (⟨none, .store T x y, ty, pos, aft, none⟩ :: rest) its := by
 refine dj ⟨⟨i, none, fun _ => undef, fun _ => [], fun _ => []⟩, rfl, rfl, Ind.const _, Ind.const _, Ind.const _, ?_, k⟩
 intro ρ S a L' R' w K hS hbef haft hag hdep hbase hst hK
 rw [if_pos (by simp [Region.wanted])]
 left
 unfold Oper.wp
 obtain ⟨L1, p1, p2⟩ := hSh ρ (ρ i) S hS hbef haft
 have hs' : St (blk (bb ρ) T0 (vs ρ) :: (L1 ++ L')) R' w := hst.perm (p1.append_right L')
 have hone := h1 ρ R' w _ ⟨hbase, hdep⟩ hst
 have hfit : f + (us ρ).length ≤ (vs ρ).length := by rw [hl]; exact Nat.le_of_ble_eq_true (hf ρ)
 have e : (execOp a.eval ⟨none, .store T x y, ty, pos, aft, none⟩).run P w = .ok .skip (w.setRow (bb ρ) ((vs ρ).take f ++ us ρ ++ (vs ρ).drop (f + (us ρ).length)).toArray) := by
  refine D7 ?_
  rw [Cd hag (by simp [Op.operands]) (hx ρ), Cd hag (by simp [Op.operands]) (hy ρ)]
  have := run_storeCells_at P (bb ρ) f T0 (us ρ) 0 (vs ρ).toArray w hs'.blk_get (by simpa using hfit) hone
  simp only [Nat.add_zero] at this
  have hl' := hl ρ
  simp [Instr.storeAt, Instr.sureAddr, storeVar, hsz, hv, bp, hl', this]
 rw [e, Oper.upon_skip]
 refine hK (ρ i) _ ?_
 have hnew := hs'.blk_set (D5 (us := (vs ρ).take f ++ us ρ ++ (vs ρ).drop (f + (us ρ).length)) hs'.blk_get).1 (D5 hs'.blk_get).2 rfl rfl
 rw [hl] at hnew ⊢
 exact hnew.perm (p2.symm.append_right L')
end
inductive Ins : List Chunk → List Chunk → Chunk → Prop
 | hd {r x} : Ins ([x] ++ r) r x
 | hc {r x} : Ins (x :: r) r x
 | tl {r r' x c} : Ins r' r x → Ins (c :: r') (c :: r) x
 | ap {r r' x P} : Ins r' r x → Ins (P ++ r') (P ++ r) x
theorem Ins.perm {l' l : List Chunk} {x : Chunk} (h : Ins l' l x) : l'.Perm (x :: l) := by
 induction h with
 | hd => exact .refl _
 | hc => exact .refl _
 | tl _ ih => exact (ih.cons _).trans (.swap ..)
 | ap _ ih => exact (ih.append_left _).trans List.perm_middle
inductive Pos : List Chunk → List Chunk → Chunk → Chunk → List Chunk → Prop
 | hd {r x x'} : Pos ([x] ++ r) ([x'] ++ r) x x' r
 | hc {r x x'} : Pos (x :: r) (x' :: r) x x' r
 | tl {r r' x x' c L1} : Pos r r' x x' L1 → Pos (c :: r) (c :: r') x x' (c :: L1)
 | ap {r r' x x' P L1} : Pos r r' x x' L1 → Pos (P ++ r) (P ++ r') x x' (P ++ L1)
theorem Pos.ex {l l' L1 : List Chunk} {x x' : Chunk} (h : Pos l l' x x' L1) : ∃ L1, l.Perm (x :: L1) ∧ l'.Perm (x' :: L1) := by
 induction h with
 | hd => exact ⟨_, .refl _, .refl _⟩
 | hc => exact ⟨_, .refl _, .refl _⟩
 | tl _ ih => obtain ⟨L1, h1, h2⟩ := ih; exact ⟨_ :: L1, (h1.cons _).trans (.swap ..), (h2.cons _).trans (.swap ..)⟩
 | ap _ ih => obtain ⟨L1, h1, h2⟩ := ih; exact ⟨_ ++ L1, (h1.append_left _).trans List.perm_middle, (h2.append_left _).trans List.perm_middle⟩
section
variable {P : Program} {n : Nat} {ops : Array Oper} {Q : Exit → Act → World → Prop} {rest : List Oper} {L L' : List Chunk} {R : List Fact} {al : List (Nat × Value)} {d : Nat} {x y : Operand} {T ty : TypeId} {pos : String} {aft : Array Edge}
theorem s_W {α : Type} [Enc α] {T' : TypeId} {v : Value} {xs : List α} {i sz : Nat} {cs : List Value} (e' : α) (hsz : ∀ w, (sizeOf T).run P w = .ok sz w) (hx : ev n al x = some (ep v sz i 0)) (hy : ev n al y = some (.agg cs.toArray)) (hes : Enc.sz α = sz) (hp : Pick L (row T' v xs) L') (hi : i < xs.length) (hrd : ∀ j, (∀ q ∈ R, q.p j) → Enc.rd e' cs j)
  (k : J P n ops Q rest (row T' v (xs.set i e') :: L') R al) : J P n ops Q (⟨none, .store T x y, ty, pos, aft, none⟩ :: rest) L R al := fun B w hs => by
 obtain ⟨j, _, hr⟩ := hs.ex
 have hl := Enc.len _ _ _ (hrd j hr)
 subst hes
 obtain ⟨e, he⟩ : ∃ e, xs[i]? = some e := ⟨xs[i], List.getElem?_eq_getElem hi⟩
 refine K1 (α := α) (f := 0) (cs := cs) (e := e) (e' := e') hsz hx hy rfl hl (Enc.one _ _ _ (hrd j hr)) hp he (fun ds m hr => by rw [Enc.len _ _ _ hr, hl]; omega) (fun j hj ds hr => ?_) k B w hs
 have hd := Enc.len _ _ _ hr
 have : ds.take 0 ++ cs ++ ds.drop (0 + cs.length) = cs := by rw [List.drop_of_length_le (by omega)]; simp
 rw [this]; exact hrd j hj
theorem Vc {u : Value} {e : Entry} (hm : sl u e.last ∈ R) (hw : e.wf) : ∀ j, (∀ q ∈ R, q.p j) → Enc.rd e (e.cells u) j := fun j h => ⟨u, rfl, h _ hm, hw⟩
theorem rdCore {u : Value} {e : Core} (hm : sl u e.lines ∈ R) (hw : e.wait.wf) : ∀ j, (∀ q ∈ R, q.p j) → Enc.rd e (e.cells u) j := fun j h => ⟨u, rfl, h _ hm, hw⟩
theorem rdLine {e : Line} (hw : e.wf) : ∀ j, (∀ q ∈ R, q.p j) → Enc.rd e e.cells j := fun j h => ⟨rfl, hw⟩
theorem Io {e : Msg} (hw : e.wf) : ∀ j, (∀ q ∈ R, q.p j) → RdV [e] [.agg e.cells.toArray] j := fun j _ => ⟨⟨_, rfl, rfl, hw⟩, trivial⟩
theorem E5 {e : Done} (hw : e.wf) : ∀ j, (∀ q ∈ R, q.p j) → RdV [e] [.agg e.cells.toArray] j := fun j _ => ⟨⟨_, rfl, rfl, hw⟩, trivial⟩
end
end Go.Proofs.Ytofgpimoekhfaaa

/- This file proves the rule of a statement whose order is open that writes a whole element of an owned row. No conditions. -/
set_option linter.unusedVariables false
set_option linter.unusedSimpArgs false
namespace Go.Proofs.Ytofgpimoekhfaaa
open Go
section
variable {P : Program} {n : Nat} {Q : Exit → Act → World → Prop} {Sh : Rho → (Nat → Bool) → List Chunk} {R0 : List Fact} {al0 : List (Nat × Value)}
variable {ops : Array Oper} {i : Nat} {rest : List Oper} {its : List Item} {x y : Operand} {T ty : TypeId} {pos : String} {aft : Array Edge}
theorem Fm {f : Nat} {vs : Rho → List Value} {v : Rho → Value} {T0 : TypeId} (bb : Rho → Nat) (hsz : ∀ w, (sizeOf T).run P w = .ok 1 w) (hx : ∀ ρ, ev n (Dt its al0 ρ) x = some (bp (bb ρ) f)) (hy : ∀ ρ, ev n (Dt its al0 ρ) y = some (v ρ))
  (h1 : ∀ ρ S R' w L', (∀ j, Bef ops j i → S j = true) → Deps ops R0 its i ρ R' → St (Sh ρ S ++ L') R' w → (v ρ).oneCell' = true) (hf : ∀ ρ, Nat.ble (f + 1) (vs ρ).length = true)
  (hSh : ∀ ρ g S, S i = false → (∀ j, Bef ops j i → S j = true) → (∀ j, Bef ops i j → S j = false) → ∃ L1, (Sh ρ S).Perm (blk (bb ρ) T0 (vs ρ) :: L1) ∧ (Sh (Rho.set ρ i g) (upS S i)).Perm (blk (bb ρ) T0 ((vs ρ).take f ++ [v ρ] ++ (vs ρ).drop (f + 1)) :: L1))
  (k : DJ P n ops Q Sh R0 al0 (i + 1) rest (⟨i, none, fun _ => undef, fun _ => [], fun _ => []⟩ :: its)) : DJ P n ops Q Sh R0 al0 i (⟨none, .store T x y, ty, pos, aft, none⟩ :: rest) its := by
 refine dj ⟨⟨i, none, fun _ => undef, fun _ => [], fun _ => []⟩, rfl, rfl, Ind.const _, Ind.const _, Ind.const _, ?_, k⟩
 intro ρ S a L' R' w K hS hbef haft hag hdep hbase hst hK
 rw [if_pos (by simp [Region.wanted])]
 left
 unfold Oper.wp
 obtain ⟨L1, p1, p2⟩ := hSh ρ (ρ i) S hS hbef haft
 have hs' : St (blk (bb ρ) T0 (vs ρ) :: (L1 ++ L')) R' w := hst.perm (p1.append_right L')
 have hone := h1 ρ S R' w _ hbef ⟨hbase, hdep⟩ hst
 have hone' : ∀ u ∈ [v ρ], u.oneCell' = true := by intro u hu; cases List.mem_singleton.1 hu; exact hone
 have hfit : f + [v ρ].length ≤ (vs ρ).length := Nat.le_of_ble_eq_true (hf ρ)
 have hc := F0 hone
 have e : (execOp a.eval ⟨none, .store T x y, ty, pos, aft, none⟩).run P w = .ok .skip (w.setRow (bb ρ) ((vs ρ).take f ++ [v ρ] ++ (vs ρ).drop (f + 1)).toArray) := by
  refine D7 ?_
  rw [Cd hag (by simp [Op.operands]) (hx ρ), Cd hag (by simp [Op.operands]) (hy ρ)]
  have := run_storeCells_at P (bb ρ) f T0 [v ρ] 0 (vs ρ).toArray w hs'.blk_get (by simpa using hfit) hone'
  simp only [Nat.add_zero, List.length_cons, List.length_nil, Nat.zero_add] at this
  simp [Instr.storeAt, Instr.sureAddr, storeVar, hsz, hc, bp, this]
 rw [e, Oper.upon_skip]
 refine hK (ρ i) _ ?_
 have hnew := hs'.blk_set (D5 (us := (vs ρ).take f ++ [v ρ] ++ (vs ρ).drop (f + 1)) hs'.blk_get).1 (D5 hs'.blk_get).2 rfl rfl
 exact hnew.perm (p2.symm.append_right L')
theorem e_pd {op : Oper} {d : Nat} {v : Rho → Value} (hp : ∀ ρ S R' L' w, Deps ops R0 its i ρ R' → St (Sh ρ S ++ L') R' w → Ax P n (Dt its al0 ρ) (Sh ρ S) R0 op (v ρ)) (hi : Ind ops i v) (hSh : Ii ops Sh i)
  (k : DJ P n ops Q Sh R0 al0 (i + 1) rest (⟨i, some d, v, fun _ => [], fun _ => []⟩ :: its)) (hg : op.guard = none := by exact rfl) (hd : op.dst = some d := by exact rfl) : DJ P n ops Q Sh R0 al0 i (op :: rest) its := by
 refine dj ⟨⟨i, some d, v, fun _ => [], fun _ => []⟩, rfl, hd.symm, hi, Ind.const _, Ind.const _, ?_, k⟩
 intro ρ S a L' R' w K hS hbef haft hag hdep hbase hst hK
 have hp0 := hp ρ S R' L' w ⟨hbase, hdep⟩ hst
 rw [if_pos (by simp [Region.wanted, hg])]
 left
 unfold Oper.wp
 have h : Now ops n Sh R0 al0 i its op ρ S a L' R' w := ⟨hS, hag, hdep, hbase, hst⟩
 rw [hp0.2 _ w (fun x hx u hu => Cd h.agree hx hu) (h.st.fewer h.base), Oper.upon_value]
 have hsh := hSh ρ (ρ i) S hS haft
 rw [Rho.set_same] at hsh
 have := hK (ρ i) w
 rw [Rho.set_same] at this
 exact this (by rw [hsh]; exact hst)
theorem De {α : Type} [Enc α] {L L' : List Chunk} {R : List Fact} {w : World} {T : TypeId} {v : Value} {xs : List α} (hp : Pick L (row T v xs) L') (hs : St L R w) : v.oneCell' = true := isSlice.one (St.fact (List.Mem.head _) (hs.pick hp).shut)
theorem Gb {α : Type} [Enc α] {f k sz : Nat} {hv : Value} {xs : List α} {vs : Rho → List Value} {v : Rho → Value} {T0 : TypeId} (hes : Enc.sz α = sz) (hsz : ∀ w, (sizeOf T).run P w = .ok 1 w) (hx : ∀ ρ, ev n (Dt its al0 ρ) x = some (ep hv sz k f)) (hy : ∀ ρ, ev n (Dt its al0 ρ) y = some (v ρ))
  (h1 : ∀ ρ S R' w L', (∀ j, Bef ops j i → S j = true) → Deps ops R0 its i ρ R' → St (Sh ρ S ++ L') R' w → (v ρ).oneCell' = true) (hf : ∀ ρ, Nat.ble (f + 1) (vs ρ).length = true)
  (hSh : ∀ ρ g S, S i = false → (∀ j, Bef ops j i → S j = true) → (∀ j, Bef ops i j → S j = false) → ∃ L1, (Sh ρ S).Perm (foc T0 hv xs k (vs ρ) :: L1) ∧ (Sh (Rho.set ρ i g) (upS S i)).Perm (foc T0 hv xs k ((vs ρ).take f ++ [v ρ] ++ (vs ρ).drop (f + 1)) :: L1))
  (kk : DJ P n ops Q Sh R0 al0 (i + 1) rest (⟨i, none, fun _ => undef, fun _ => [], fun _ => []⟩ :: its)) : DJ P n ops Q Sh R0 al0 i (⟨none, .store T x y, ty, pos, aft, none⟩ :: rest) its := by
 refine dj ⟨⟨i, none, fun _ => undef, fun _ => [], fun _ => []⟩, rfl, rfl, Ind.const _, Ind.const _, Ind.const _, ?_, kk⟩
 intro ρ S a L' R' w K hS hbef haft hag hdep hbase hst hK
 rw [if_pos (by simp [Region.wanted])]
 left
 unfold Oper.wp
 obtain ⟨L1, p1, p2⟩ := hSh ρ (ρ i) S hS hbef haft
 have hs' : St (foc T0 hv xs k (vs ρ) :: (L1 ++ L')) R' w := hst.perm (p1.append_right L')
 have hone := h1 ρ S R' w _ hbef ⟨hbase, hdep⟩ hst
 have hone' : ∀ u ∈ [v ρ], u.oneCell' = true := by intro u hu; cases List.mem_singleton.1 hu; exact hone
 have hfit : f + [v ρ].length ≤ (vs ρ).length := Nat.le_of_ble_eq_true (hf ρ)
 have hc := F0 hone
 subst hes
 obtain ⟨g, cap, cur, hv', hg, hfit', hst'⟩ := Na hs' hone' hfit
 have e : (execOp a.eval ⟨none, .store T x y, ty, pos, aft, none⟩).run P w = .ok .skip (w.setRow g (cur.toList.take (k * Enc.sz α + f) ++ [v ρ] ++ cur.toList.drop (k * Enc.sz α + f + [v ρ].length)).toArray) := by
  refine D7 ?_
  rw [Cd hag (by simp [Op.operands]) (hx ρ), Cd hag (by simp [Op.operands]) (hy ρ), hv', Kn, G0]
  have := run_storeCells_at P g (k * Enc.sz α + f) T0 [v ρ] 0 cur w hg (by simpa using hfit') hone'
  simp only [Nat.add_zero, List.length_cons, List.length_nil, Nat.zero_add] at this ⊢
  simp [Instr.storeAt, Instr.sureAddr, storeVar, hsz, hc, this]
 rw [e, Oper.upon_skip]
 refine hK (ρ i) _ ?_
 exact hst'.perm (p2.symm.append_right L')
theorem G9 {α : Type} [Enc α] {t e : TypeId} {d sz bytes : Nat} {z : Value} {xs ys : List α} {v : Value} {u : Rho → Value} (he : ElemOf P t e sz z bytes) (hx : ∀ ρ, ev n (Dt its al0 ρ) x = some v) (hy : ∀ ρ, ev n (Dt its al0 ρ) y = some (u ρ)) (hsz : Enc.sz α = sz) (hpos : 0 < sz)
  (hm : ∀ ρ R', Deps ops R0 its i ρ R' → sl (u ρ) ys ∈ R') (hb : xs.length + ys.length ≤ maxN)
  (hSh : ∀ ρ (g : Value) S, S i = false → (∀ j, Bef ops j i → S j = true) → (∀ j, Bef ops i j → S j = false) → ∃ L1, (Sh ρ S).Perm (row e v xs :: L1) ∧ (Sh (Rho.set ρ i (Gh.enc g)) (upS S i)).Perm (row e g (xs ++ ys) :: L1))
  (k : DJ P n ops Q Sh R0 al0 (i + 1) rest (⟨i, some d, fun ρ => (Gh.dec (ρ i) : Value), fun _ => [], fun _ => []⟩ :: its)) :
  DJ P n ops Q Sh R0 al0 i (⟨some d, .call { callee := .builtin .append, args := #[x, y], argTypes := #[t, t] }, ty, pos, aft, none⟩ :: rest) its := by
 refine dj ⟨⟨i, some d, fun ρ => (Gh.dec (ρ i) : Value), fun _ => [], fun _ => []⟩, rfl, rfl, Ind.self (h := fun g => (Gh.dec g : Value)), Ind.const _, Ind.const _, ?_, k⟩
 intro ρ S a L' R' w K hS hbef haft hag hdep hbase hst hK
 rw [if_pos (by simp [Region.wanted])]
 left
 unfold Oper.wp
 obtain ⟨L1, p1, _⟩ := hSh ρ undef S hS hbef haft
 have hs' : St (row e v xs :: (L1 ++ L')) R' w := hst.perm (p1.append_right L')
 obtain ⟨v', w', h1, h2⟩ := K9 (ty := ty) he hsz hpos hs' (hm ρ R' ⟨hbase, hdep⟩) hb
 have hx' := Cd hag (by simp [Op.operands, Call.operands]) (hx ρ)
 have hy' := Cd hag (by simp [Op.operands, Call.operands]) (hy ρ)
 rw [Kd (w' := w') (v := v') (by rw [hx', hy']; exact h1), Oper.upon_value]
 obtain ⟨L2, q1, q2⟩ := hSh ρ v' S hS hbef haft
 have e2 : (Rho.set ρ i (Gh.enc v')) i = Gh.enc v' := by simp [Rho.set]
 have h3 := h2
 have hL : L1.Perm L2 := (List.perm_cons _).1 (p1.symm.trans q1)
 have := hK (Gh.enc v') w' ((h3.perm ((hL.append_right L').cons _)).perm (by
  refine List.Perm.trans ?_ (q2.symm.append_right L')
  exact List.Perm.refl _))
 simp only [e2, Gh.ok] at this
 exact this
theorem T8 {α : Type} [Enc α] {v : Value} {xs : List α} {k sz : Nat} {T0 : TypeId} {e' : α} {c : Rho → Value} {cs : Rho → List Value} (hsz : ∀ w, (sizeOf T).run P w = .ok sz w) (hes : Enc.sz α = sz) (hi : k < xs.length)
  (hx : ∀ ρ, ev n (Dt its al0 ρ) x = some (ep v sz k 0)) (hy : ∀ ρ, ev n (Dt its al0 ρ) y = some (c ρ)) (hc : ∀ ρ, (c ρ).oneCell' = true → (c ρ).cells = (cs ρ).toArray) (hone : ∀ ρ R' w L', Deps ops R0 its i ρ R' → St L' R' w → (c ρ).oneCell' = true)
  (hrd : ∀ ρ R', Deps ops R0 its i ρ R' → ∀ j, (∀ q ∈ R', q.p j) → Enc.rd e' (cs ρ) j)
  (hSh : ∀ ρ g S, S i = false → (∀ j, Bef ops j i → S j = true) → (∀ j, Bef ops i j → S j = false) → ∃ L1, (Sh ρ S).Perm (row T0 v xs :: L1) ∧ (Sh (Rho.set ρ i g) (upS S i)).Perm (row T0 v (xs.set k e') :: L1))
  (kk : DJ P n ops Q Sh R0 al0 (i + 1) rest (⟨i, none, fun _ => undef, fun _ => [], fun _ => []⟩ :: its)) : DJ P n ops Q Sh R0 al0 i (⟨none, .store T x y, ty, pos, aft, none⟩ :: rest) its := by
 refine dj ⟨⟨i, none, fun _ => undef, fun _ => [], fun _ => []⟩, rfl, rfl, Ind.const _, Ind.const _, Ind.const _, ?_, kk⟩
 intro ρ S a L' R' w K hS hbef haft hag hdep hbase hst hK
 rw [if_pos (by simp [Region.wanted])]
 left
 unfold Oper.wp
 obtain ⟨L1, p1, p2⟩ := hSh ρ (ρ i) S hS hbef haft
 have hs' : St (row T0 v xs :: (L1 ++ L')) R' w := hst.perm (p1.append_right L')
 have hdeps : Deps ops R0 its i ρ R' := ⟨hbase, hdep⟩
 have h1c := hone ρ R' w _ hdeps hst
 obtain ⟨j0, _, hr0⟩ := hst.ex
 have hrd0 := hrd ρ R' hdeps
 have hl := Enc.len _ _ _ (hrd0 j0 hr0)
 have h1 := Enc.one _ _ _ (hrd0 j0 hr0)
 obtain ⟨e, he⟩ : ∃ e, xs[k]? = some e := ⟨xs[k], List.getElem?_eq_getElem hi⟩
 subst hes
 have hf : ∀ ds m, Enc.rd e ds m → 0 + (cs ρ).length ≤ ds.length := fun ds m hr => by rw [Enc.len _ _ _ hr, hl]; omega
 have hw : ∀ j, (∀ q ∈ R', q.p j) → ∀ ds, Enc.rd e ds j → Enc.rd e' (ds.take 0 ++ cs ρ ++ ds.drop (0 + (cs ρ).length)) j := fun j hj ds hr => by
  have hd := Enc.len _ _ _ hr
  have : ds.take 0 ++ cs ρ ++ ds.drop (0 + (cs ρ).length) = cs ρ := by rw [List.drop_of_length_le (by omega)]; simp
  rw [this]; exact hrd0 j hj
 obtain ⟨g, cap, cur, hv, hg, hfit, hst'⟩ := Jv (w' := w) hs' he hf hw
 have hcx := hc ρ h1c
 have e9 : (execOp a.eval ⟨none, .store T x y, ty, pos, aft, none⟩).run P w = .ok .skip (w.setRow g (cur.toList.take (k * Enc.sz α + 0) ++ cs ρ ++ cur.toList.drop (k * Enc.sz α + 0 + (cs ρ).length)).toArray) := by
  refine D7 ?_
  rw [Cd hag (by simp [Op.operands]) (hx ρ), Cd hag (by simp [Op.operands]) (hy ρ), hv, Kn, G0]
  have := run_storeCells_at P g (k * Enc.sz α + 0) T0 (cs ρ) 0 cur w hg (by simpa using hfit) h1
  simp only [Nat.add_zero, Nat.zero_add] at this ⊢
  rw [hl] at this ⊢
  simp [Instr.storeAt, Instr.sureAddr, storeVar, hsz, hcx, hl, this]
 rw [e9, Oper.upon_skip]
 refine hK (ρ i) _ ?_
 exact hst'.perm (p2.symm.append_right L')
end
end Go.Proofs.Ytofgpimoekhfaaa

/- This file proves how many plain operations are walked in one step; the facts of types are found by their numbers. No conditions. -/
set_option linter.unusedVariables false
set_option linter.unusedSimpArgs false
set_option maxHeartbeats 1000000
set_option maxRecDepth 8000
namespace Go.Proofs.Ytofgpimoekhfaaa
open Go
class CFo (T f : Nat) (off : outParam Nat) : Prop where
 h : A0 Try.prog T f off
class CAg (T : Nat) : Prop where
 h : ∀ w, (isAgg T).run Try.prog w = .ok true w
class CNa (T : Nat) : Prop where
 h : ∀ w, (isAgg T).run Try.prog w = .ok false w
class CSz (T : Nat) (sz : outParam Nat) : Prop where
 h : ∀ w, (sizeOf T).run Try.prog w = .ok sz w
class CSo (T : Nat) (e sz : outParam Nat) : Prop where
 h : Dl Try.prog T e sz
class CUs (T : Nat) (e : outParam Nat) : Prop where
 h : Try.prog.underlying T = some (.slice e)
class CSt (T : Nat) (zc : outParam (List Value)) (pl : outParam (List (Nat × Nat))) : Prop where
 h : Du Try.prog T zc pl
instance : CNa 3 := ⟨Try.isAgg3⟩
instance : CSz 3 1 := ⟨Try.sizeOf3⟩
instance : CNa 4 := ⟨Try.isAgg4⟩
instance : CSz 4 1 := ⟨Try.sizeOf4⟩
instance : CNa 5 := ⟨Try.isAgg5⟩
instance : CNa 22 := ⟨Try.isAgg22⟩
instance : CSz 22 1 := ⟨Try.sizeOf22⟩
instance : CSo 22 23 1 := ⟨so_22⟩
instance : CUs 22 23 := ⟨Try.underlying22⟩
instance : CNa 23 := ⟨Try.isAgg23⟩
instance : CUs 23 5 := ⟨Try.underlying23⟩
instance : CFo 39 0 0 := ⟨Wz⟩
instance : CFo 39 1 1 := ⟨Wy⟩
instance : CSt 39 (Try.t39.zero.getD undef).cells.toList [(0, 1), (1, 1)] := ⟨st_39⟩
instance : CAg 39 := ⟨Try.isAgg39⟩
instance : CSz 39 2 := ⟨Try.sizeOf39⟩
instance : CSo 40 98 7 := ⟨so_40⟩
instance : CUs 40 98 := ⟨Try.underlying40⟩
instance : CFo 42 0 0 := ⟨Wx⟩
instance : CFo 42 1 1 := ⟨Ww⟩
instance : CFo 42 2 2 := ⟨Wv⟩
instance : CFo 42 3 3 := ⟨Wu⟩
instance : CFo 42 4 4 := ⟨Wt⟩
instance : CFo 42 5 5 := ⟨Ws⟩
instance : CFo 42 6 6 := ⟨Wr⟩
instance : CFo 42 7 7 := ⟨Wq⟩
instance : CSt 42 (Try.t42.zero.getD undef).cells.toList [(0, 1), (1, 1), (2, 1), (3, 1), (4, 1), (5, 1), (6, 1), (7, 1)] := ⟨Hs⟩
instance : CAg 42 := ⟨Try.isAgg42⟩
instance : CSz 42 8 := ⟨Try.sizeOf42⟩
instance : CNa 43 := ⟨Try.isAgg43⟩
instance : CSz 43 1 := ⟨Try.sizeOf43⟩
instance : CSo 43 69 4 := ⟨Pp⟩
instance : CUs 43 69 := ⟨Try.underlying43⟩
instance : CNa 44 := ⟨Try.isAgg44⟩
instance : CSz 44 1 := ⟨Try.sizeOf44⟩
instance : CSo 44 58 10 := ⟨so_44⟩
instance : CUs 44 58 := ⟨Try.underlying44⟩
instance : CFo 46 0 0 := ⟨Wp⟩
instance : CFo 46 1 1 := ⟨Wo⟩
instance : CFo 46 2 2 := ⟨Wn⟩
instance : CSt 46 (Try.t46.zero.getD undef).cells.toList [(0, 1), (1, 1), (2, 1)] := ⟨Po⟩
instance : CAg 46 := ⟨Try.isAgg46⟩
instance : CSz 46 3 := ⟨Try.sizeOf46⟩
instance : CNa 47 := ⟨Try.isAgg47⟩
instance : CSo 47 84 5 := ⟨U6⟩
instance : CUs 47 84 := ⟨Try.underlying47⟩
instance : CNa 50 := ⟨Try.isAgg50⟩
instance : CSo 50 42 8 := ⟨U5⟩
instance : CUs 50 42 := ⟨Try.underlying50⟩
instance : CNa 56 := ⟨Try.isAgg56⟩
instance : CSz 56 1 := ⟨Try.sizeOf56⟩
instance : CSo 56 3 1 := ⟨Qt⟩
instance : CUs 56 3 := ⟨Try.underlying56⟩
instance : CFo 58 0 0 := ⟨Wm⟩
instance : CFo 58 1 1 := ⟨Wl⟩
instance : CFo 58 2 2 := ⟨Wk⟩
instance : CFo 58 3 3 := ⟨Wj⟩
instance : CFo 58 4 4 := ⟨Wi⟩
instance : CFo 58 5 5 := ⟨Wh⟩
instance : CFo 58 6 6 := ⟨Wg⟩
instance : CFo 58 7 7 := ⟨Wf⟩
instance : CFo 58 8 8 := ⟨We⟩
instance : CFo 58 9 9 := ⟨Wd⟩
instance : CAg 58 := ⟨Try.isAgg58⟩
instance : CSz 58 10 := ⟨Try.sizeOf58⟩
instance : CFo 66 0 0 := ⟨F8⟩
instance : CFo 66 1 1 := ⟨Wc⟩
instance : CFo 66 2 2 := ⟨Wb⟩
instance : CSt 66 (Try.t66.zero.getD undef).cells.toList [(0, 1), (1, 1), (2, 1)] := ⟨Kl⟩
instance : CAg 66 := ⟨Try.isAgg66⟩
instance : CSz 66 3 := ⟨Try.sizeOf66⟩
instance : CNa 67 := ⟨Try.isAgg67⟩
instance : CSo 67 82 7 := ⟨Ja⟩
instance : CUs 67 82 := ⟨Try.underlying67⟩
instance : CFo 69 0 0 := ⟨Wa⟩
instance : CFo 69 1 1 := ⟨V9⟩
instance : CSt 69 (Try.t69.zero.getD undef).cells.toList [(0, 1), (1, 3)] := ⟨F4⟩
instance : CAg 69 := ⟨Try.isAgg69⟩
instance : CSz 69 4 := ⟨Try.sizeOf69⟩
instance : CFo 82 0 0 := ⟨V8⟩
instance : CFo 82 1 1 := ⟨V7⟩
instance : CFo 82 2 2 := ⟨V6⟩
instance : CFo 82 3 3 := ⟨V5⟩
instance : CFo 82 4 4 := ⟨V4⟩
instance : CFo 82 5 5 := ⟨V3⟩
instance : CFo 82 6 6 := ⟨V2⟩
instance : CAg 82 := ⟨Try.isAgg82⟩
instance : CSz 82 7 := ⟨Try.sizeOf82⟩
instance : CSt 84 (Try.t84.zero.getD undef).cells.toList [(0, 1), (1, 3), (4, 1)] := ⟨Gj⟩
instance : CAg 84 := ⟨Try.isAgg84⟩
instance : CSz 84 5 := ⟨Try.sizeOf84⟩
instance : CFo 98 0 0 := ⟨V1⟩
instance : CFo 98 1 1 := ⟨V0⟩
instance : CFo 98 2 2 := ⟨Vz⟩
instance : CFo 98 3 3 := ⟨Vy⟩
instance : CFo 98 4 4 := ⟨Vx⟩
instance : CAg 98 := ⟨Try.isAgg98⟩
instance : CSz 98 7 := ⟨Try.sizeOf98⟩
instance : CFo 115 0 0 := ⟨T3⟩
instance : CFo 115 1 4 := ⟨T2⟩
instance : CFo 115 2 5 := ⟨T1⟩
instance : CFo 115 3 6 := ⟨Tz⟩
instance : CFo 115 4 7 := ⟨Ty⟩
instance : CSt 115 (Try.t115.zero.getD undef).cells.toList [(0, 4), (4, 1), (5, 1), (6, 1), (7, 1)] := ⟨st_115⟩
instance : CAg 143 := ⟨Try.isAgg143⟩
instance : CSz 143 2 := ⟨Try.sizeOf143⟩
instance : CSo 144 143 2 := ⟨so_144⟩
instance : CUs 144 143 := ⟨Try.underlying144⟩
section
variable {n : Nat} {Q : Exit → Act → World → Prop} {ops : Array Oper} {rest : List Oper} {L : List Chunk} {R : List Fact} {al al' : List (Nat × Value)} {d k : Nat} {x y z : Operand} {T ty U : TypeId} {pos : String} {aft : Array Edge} {v : Value} {l l' : List Oper}
theorem kmv (h : Ax Try.prog n al L R ⟨some d, .move x, ty, pos, aft, none⟩ v) : Ax Try.prog n al L R ⟨some d, .move x, ty, pos, aft, none⟩ v := h
theorem kas (h : Ax Try.prog n al L R ⟨some d, .assign x, ty, pos, aft, none⟩ v) : Ax Try.prog n al L R ⟨some d, .assign x, ty, pos, aft, none⟩ v := h
theorem kfa {i : Nat} (h : Ax Try.prog n al L R ⟨some d, .fieldAddr T x i, ty, pos, aft, none⟩ v) : Ax Try.prog n al L R ⟨some d, .fieldAddr T x i, ty, pos, aft, none⟩ v := h
theorem kld (h : Ax Try.prog n al L R ⟨some d, .load T x, ty, pos, aft, none⟩ v) : Ax Try.prog n al L R ⟨some d, .load T x, ty, pos, aft, none⟩ v := h
theorem knc (h : Ax Try.prog n al L R ⟨some d, .nilCheck x, ty, pos, aft, none⟩ v) : Ax Try.prog n al L R ⟨some d, .nilCheck x, ty, pos, aft, none⟩ v := h
theorem kpk (h : Ax Try.prog n al L R ⟨some d, .pick x y z, ty, pos, aft, none⟩ v) : Ax Try.prog n al L R ⟨some d, .pick x y z, ty, pos, aft, none⟩ v := h
theorem kix (h : Ax Try.prog n al L R ⟨some d, .indexAddr T x y, ty, pos, aft, none⟩ v) : Ax Try.prog n al L R ⟨some d, .indexAddr T x y, ty, pos, aft, none⟩ v := h
theorem kxt {i : Nat} (h : Ax Try.prog n al L R ⟨some d, .extract x i, ty, pos, aft, none⟩ v) : Ax Try.prog n al L R ⟨some d, .extract x i, ty, pos, aft, none⟩ v := h
theorem kun (h : Ax Try.prog n al L R ⟨some d, .unOp .not T x, ty, pos, aft, none⟩ v) : Ax Try.prog n al L R ⟨some d, .unOp .not T x, ty, pos, aft, none⟩ v := h
theorem kle (h : Ax Try.prog n al L R ⟨some d, .call { callee := .builtin .len, args := #[x], argTypes := #[T] }, ty, pos, aft, none⟩ v) : Ax Try.prog n al L R ⟨some d, .call { callee := .builtin .len, args := #[x], argTypes := #[T] }, ty, pos, aft, none⟩ v := h
theorem kbd {ps : Array (Nat × Operand)} (h : Ax Try.prog n al L R ⟨some d, .build T ps, ty, pos, aft, none⟩ v) : Ax Try.prog n al L R ⟨some d, .build T ps, ty, pos, aft, none⟩ v := h
theorem kbe (h : Ax Try.prog n al L R ⟨some d, .binOp .eql T x y U, ty, pos, aft, none⟩ v) : Ax Try.prog n al L R ⟨some d, .binOp .eql T x y U, ty, pos, aft, none⟩ v := h
theorem kbn (h : Ax Try.prog n al L R ⟨some d, .binOp .neq T x y U, ty, pos, aft, none⟩ v) : Ax Try.prog n al L R ⟨some d, .binOp .neq T x y U, ty, pos, aft, none⟩ v := h
theorem kbl (h : Ax Try.prog n al L R ⟨some d, .binOp .lss T x y U, ty, pos, aft, none⟩ v) : Ax Try.prog n al L R ⟨some d, .binOp .lss T x y U, ty, pos, aft, none⟩ v := h
theorem kbg (h : Ax Try.prog n al L R ⟨some d, .binOp .gtr T x y U, ty, pos, aft, none⟩ v) : Ax Try.prog n al L R ⟨some d, .binOp .gtr T x y U, ty, pos, aft, none⟩ v := h
theorem kbh (h : Ax Try.prog n al L R ⟨some d, .binOp .geq T x y U, ty, pos, aft, none⟩ v) : Ax Try.prog n al L R ⟨some d, .binOp .geq T x y U, ty, pos, aft, none⟩ v := h
theorem kba (h : Ax Try.prog n al L R ⟨some d, .binOp .add T x y U, ty, pos, aft, none⟩ v) : Ax Try.prog n al L R ⟨some d, .binOp .add T x y U, ty, pos, aft, none⟩ v := h
theorem kbu (h : Ax Try.prog n al L R ⟨some d, .binOp .mul T x y U, ty, pos, aft, none⟩ v) : Ax Try.prog n al L R ⟨some d, .binOp .mul T x y U, ty, pos, aft, none⟩ v := h
structure Run (n : Nat) (ops : Array Oper) (Q : Exit → Act → World → Prop) (L : List Chunk) (R : List Fact) (k : Nat) (l : List Oper) (al : List (Nat × Value)) (l' : List Oper) (al' : List (Nat × Value)) : Prop where
 go : J Try.prog n ops Q l' L R al' → J Try.prog n ops Q l L R al
theorem R0 : Run n ops Q L R 0 l al l al := ⟨fun h => h⟩
theorem Rc {op : Oper} (hp : Ax Try.prog n al L R op v) (hd : op.dst = some d) (h : Run n ops Q L R k rest ((d, v) :: al) l' al') : Run n ops Q L R (k + 1) (op :: rest) al l' al' := ⟨fun kk => ob hp (h.go kk) hd⟩
theorem Rgy {dst : Option Tmp} {op : Go.Op} {i : Nat} {b : Bool} {m : List Oper} (hv : gv n al m i = some b) (h : Run n m.toArray Q L R (k + 1) (⟨dst, op, ty, pos, aft, none⟩ :: rest) al l' al') : Run n m.toArray Q L R (k + 1) (⟨dst, op, ty, pos, aft, some (i, b)⟩ :: rest) al l' al' := ⟨fun kk => J.guardYes hv (h.go kk)⟩
theorem Rgn {op : Go.Op} {i : Nat} {b : Bool} {m : List Oper} (hv : gv n al m i = some (!b)) (h : Run n m.toArray Q L R k rest ((d, undef) :: al) l' al') : Run n m.toArray Q L R (k + 1) (⟨some d, op, ty, pos, aft, some (i, b)⟩ :: rest) al l' al' := ⟨fun kk => J.guardNo hv (h.go kk)⟩
theorem RgU {op : Go.Op} {i : Nat} {b : Bool} {m : List Oper} (hv : gu n al m i = true) (h : Run n m.toArray Q L R k rest ((d, undef) :: al) l' al') : Run n m.toArray Q L R (k + 1) (⟨some d, op, ty, pos, aft, some (i, b)⟩ :: rest) al l' al' := ⟨fun kk => J.guardUndef hv (h.go kk)⟩
theorem mr (h : Run n ops Q L R k l al l' al' := by repeat (first | exact R0 | (apply Rc; (focus (first | (apply kmv; exact Cx) | (apply kas; exact Db) | (apply kfa; first | exact Sg CFo.h | exact Sf CFo.h) | (apply kld; first | exact Dn CNa.h | exact Se CAg.h CSz.h | exact Dy _ CAg.h CSz.h | exact N7 _ CAg.h CSz.h | exact q_lNf _ CAg.h CSz.h) | (apply knc; first | exact q_nb | exact q_ne) | (apply kpk; first | exact Gg | exact Em) | (apply kix; first | exact Gi CSo.h | exact J1 CSo.h) | (apply kxt; exact q_x) | (apply kun; first | exact q_notD | exact Ll) | (apply kle; exact Q5 CUs.h) | (apply kbd; first | exact E2 CSt.h | exact F5 CSt.h) | (apply kbe; exact Gs Qj) | (apply kbn; exact Gs Qh) | (apply kbl; exact Gs Kt) | (apply kbm; exact Gs Qi) | (apply kbg; exact Gs Oo) | (apply kbh; exact Gs Nt) | (apply kba; first | exact D6 | exact Fc) | (apply kbs; exact Mv) | (apply kbu; exact Km))); (focus exact rfl)) | (apply Rgy; (focus exact rfl)) | (apply Rgn; (focus exact rfl)) | (apply RgU; (focus exact rfl)))) : Run n ops Q L R k l al l' al' := h
theorem rn1 (kk : J Try.prog n ops Q l' L R al') (h : Run n ops Q L R 1 l al l' al' := by exact mr) : J Try.prog n ops Q l L R al := h.go kk
theorem rn2 (kk : J Try.prog n ops Q l' L R al') (h : Run n ops Q L R 2 l al l' al' := by exact mr) : J Try.prog n ops Q l L R al := h.go kk
theorem rn3 (kk : J Try.prog n ops Q l' L R al') (h : Run n ops Q L R 3 l al l' al' := by exact mr) : J Try.prog n ops Q l L R al := h.go kk
theorem rn4 (kk : J Try.prog n ops Q l' L R al') (h : Run n ops Q L R 4 l al l' al' := by exact mr) : J Try.prog n ops Q l L R al := h.go kk
theorem rn5 (kk : J Try.prog n ops Q l' L R al') (h : Run n ops Q L R 5 l al l' al' := by exact mr) : J Try.prog n ops Q l L R al := h.go kk
theorem rn6 (kk : J Try.prog n ops Q l' L R al') (h : Run n ops Q L R 6 l al l' al' := by exact mr) : J Try.prog n ops Q l L R al := h.go kk
theorem rn7 (kk : J Try.prog n ops Q l' L R al') (h : Run n ops Q L R 7 l al l' al' := by exact mr) : J Try.prog n ops Q l L R al := h.go kk
theorem rn8 (kk : J Try.prog n ops Q l' L R al') (h : Run n ops Q L R 8 l al l' al' := by exact mr) : J Try.prog n ops Q l L R al := h.go kk
theorem Va (kk : J Try.prog n ops Q l' L R al') (h : Run n ops Q L R 12 l al l' al' := by exact mr) : J Try.prog n ops Q l L R al := h.go kk
variable {Sh : Rho → (Nat → Bool) → List Chunk} {R0' : List Fact} {al0 : List (Nat × Value)} {its its' : List Item} {i i' : Nat}
structure DRun (n : Nat) (ops : Array Oper) (Q : Exit → Act → World → Prop) (Sh : Rho → (Nat → Bool) → List Chunk) (R0 : List Fact) (al0 : List (Nat × Value)) (k i : Nat) (l : List Oper) (its : List Item) (i' : Nat) (l' : List Oper) (its' : List Item) : Prop where
 go : DJ Try.prog n ops Q Sh R0 al0 i' l' its' → DJ Try.prog n ops Q Sh R0 al0 i l its
theorem D0 : DRun n ops Q Sh R0' al0 0 i l its i l its := ⟨fun h => h⟩
theorem Dc {op : Oper} (hp : ∀ ρ S, Ax Try.prog n (Dt its al0 ρ) (Sh ρ S) R0' op v) (hSh : Ii ops Sh i) (hd : op.dst = some d) (h : DRun n ops Q Sh R0' al0 k (i + 1) rest (⟨i, some d, fun _ => v, fun _ => [], fun _ => []⟩ :: its) i' l' its') : DRun n ops Q Sh R0' al0 (k + 1) i (op :: rest) its i' l' its' := ⟨fun kk => Jn hp hSh (h.go kk) hd⟩
theorem Dp {op : Oper} {v : Rho → Value} (hp : ∀ ρ S, Ax Try.prog n (Dt its al0 ρ) (Sh ρ S) R0' op (v ρ)) (hi : Ind ops i v) (hSh : Ii ops Sh i) (hd : op.dst = some d) (h : DRun n ops Q Sh R0' al0 k (i + 1) rest (⟨i, some d, v, fun _ => [], fun _ => []⟩ :: its) i' l' its') : DRun n ops Q Sh R0' al0 (k + 1) i (op :: rest) its i' l' its' := ⟨fun kk => e_p hp hi hSh (h.go kk) hd⟩
theorem Dgc {op : Go.Op} {q : Nat} {b : Bool} {m : List Oper} (hv : ∀ ρ, gv n (Dt its al0 ρ) m q = some b) (hp : ∀ ρ S, Ax Try.prog n (Dt its al0 ρ) (Sh ρ S) R0' ⟨some d, op, ty, pos, aft, none⟩ v) (hSh : ∀ ρ g S, S i = false → Sh (Rho.set ρ i g) (upS S i) = Sh ρ S) (h : DRun n m.toArray Q Sh R0' al0 k (i + 1) rest (⟨i, some d, fun _ => v, fun _ => [], fun _ => []⟩ :: its) i' l' its') : DRun n m.toArray Q Sh R0' al0 (k + 1) i (⟨some d, op, ty, pos, aft, some (q, b)⟩ :: rest) its i' l' its' := ⟨fun kk => dj (dgy (dc hp (h.go kk) rfl hSh) hv)⟩
theorem Dgn {op : Go.Op} {q : Nat} {b : Bool} {m : List Oper} (hv : ∀ ρ, gv n (Dt its al0 ρ) m q = some (!b)) (hSh : ∀ ρ g S, S i = false → Sh (Rho.set ρ i g) (upS S i) = Sh ρ S) (h : DRun n m.toArray Q Sh R0' al0 k (i + 1) rest (⟨i, some d, fun _ => undef, fun _ => [], fun _ => []⟩ :: its) i' l' its') : DRun n m.toArray Q Sh R0' al0 (k + 1) i (⟨some d, op, ty, pos, aft, some (q, b)⟩ :: rest) its i' l' its' := ⟨fun kk => dj (dgn (h.go kk) hv hSh)⟩
theorem Dgu {op : Go.Op} {q : Nat} {b : Bool} {m : List Oper} (hv : ∀ ρ, gu n (Dt its al0 ρ) m q = true) (hSh : ∀ ρ g S, S i = false → Sh (Rho.set ρ i g) (upS S i) = Sh ρ S) (h : DRun n m.toArray Q Sh R0' al0 k (i + 1) rest (⟨i, some d, fun _ => undef, fun _ => [], fun _ => []⟩ :: its) i' l' its') : DRun n m.toArray Q Sh R0' al0 (k + 1) i (⟨some d, op, ty, pos, aft, some (q, b)⟩ :: rest) its i' l' its' := ⟨fun kk => dj (dgu (h.go kk) hv hSh)⟩
theorem mdr (h : DRun n ops Q Sh R0' al0 k i l its i' l' its' := by repeat (first | exact D0 | (apply Dc; (focus (intro _ _; first | (apply kmv; exact Cx) | (apply kas; exact Db) | (apply kfa; first | exact Sg CFo.h | exact Sf CFo.h) | (apply kld; first | exact Dn CNa.h | exact Se CAg.h CSz.h | exact Dy _ CAg.h CSz.h | exact N7 _ CAg.h CSz.h | exact q_lNf _ CAg.h CSz.h) | (apply knc; first | exact q_nb | exact q_ne) | (apply kpk; first | exact Gg | exact Em) | (apply kix; first | exact Gi CSo.h | exact J1 CSo.h) | (apply kxt; exact q_x) | (apply kun; first | exact q_notD | exact Ll) | (apply kle; exact Q5 CUs.h) | (apply kbd; first | exact E2 CSt.h | exact F5 CSt.h) | (apply kbe; exact Gs Qj) | (apply kbn; exact Gs Qh) | (apply kbl; exact Gs Kt) | (apply kbm; exact Gs Qi) | (apply kbg; exact Gs Oo) | (apply kbh; exact Gs Nt) | (apply kba; first | exact D6 | exact Fc) | (apply kbs; exact Mv) | (apply kbu; exact Km))); (focus exact (fun _ _ _ _ _ => rfl)); (focus exact rfl)) | (apply Dgc; (focus exact (fun _ => rfl)); (focus (intro _ _; first | (apply kmv; exact Cx) | (apply kas; exact Db) | (apply kfa; first | exact Sg CFo.h | exact Sf CFo.h) | (apply kld; first | exact Dn CNa.h | exact Se CAg.h CSz.h | exact Dy _ CAg.h CSz.h | exact N7 _ CAg.h CSz.h | exact q_lNf _ CAg.h CSz.h) | (apply knc; first | exact q_nb | exact q_ne) | (apply kpk; first | exact Gg | exact Em) | (apply kix; first | exact Gi CSo.h | exact J1 CSo.h) | (apply kxt; exact q_x) | (apply kun; first | exact q_notD | exact Ll) | (apply kle; exact Q5 CUs.h) | (apply kbd; first | exact E2 CSt.h | exact F5 CSt.h) | (apply kbe; exact Gs Qj) | (apply kbn; exact Gs Qh) | (apply kbl; exact Gs Kt) | (apply kbm; exact Gs Qi) | (apply kbg; exact Gs Oo) | (apply kbh; exact Gs Nt) | (apply kba; first | exact D6 | exact Fc) | (apply kbs; exact Mv) | (apply kbu; exact Km))); (focus exact (fun _ _ _ _ => rfl))) | (apply Dgn; (focus exact (fun _ => rfl)); (focus exact (fun _ _ _ _ => rfl))) | (apply Dgu; (focus exact (fun _ => rfl)); (focus exact (fun _ _ _ _ => rfl))) | (apply Dp; (focus (intro _ _; first | (apply kmv; exact Cx) | (apply kas; exact Db) | (apply kfa; first | exact Sg CFo.h | exact Sf CFo.h) | (apply kld; first | exact Dn CNa.h | exact Se CAg.h CSz.h | exact Dy _ CAg.h CSz.h | exact N7 _ CAg.h CSz.h | exact q_lNf _ CAg.h CSz.h) | (apply knc; first | exact q_nb | exact q_ne) | (apply kpk; first | exact Gg | exact Em) | (apply kix; first | exact Gi CSo.h | exact J1 CSo.h) | (apply kxt; exact q_x) | (apply kun; first | exact q_notD | exact Ll) | (apply kle; exact Q5 CUs.h) | (apply kbd; first | exact E2 CSt.h | exact F5 CSt.h) | (apply kbe; exact Gs Qj) | (apply kbn; exact Gs Qh) | (apply kbl; exact Gs Kt) | (apply kbm; exact Gs Qi) | (apply kbg; exact Gs Oo) | (apply kbh; exact Gs Nt) | (apply kba; first | exact D6 | exact Fc) | (apply kbs; exact Mv) | (apply kbu; exact Km))); (focus exact (fun _ _ _ _ _ => rfl)); (focus exact (fun _ _ _ _ _ => rfl)); (focus exact rfl)))) : DRun n ops Q Sh R0' al0 k i l its i' l' its' := h
theorem dn1 (kk : DJ Try.prog n ops Q Sh R0' al0 i' l' its') (h : DRun n ops Q Sh R0' al0 1 i l its i' l' its' := by exact mdr) : DJ Try.prog n ops Q Sh R0' al0 i l its := h.go kk
theorem dn2 (kk : DJ Try.prog n ops Q Sh R0' al0 i' l' its') (h : DRun n ops Q Sh R0' al0 2 i l its i' l' its' := by exact mdr) : DJ Try.prog n ops Q Sh R0' al0 i l its := h.go kk
theorem dn3 (kk : DJ Try.prog n ops Q Sh R0' al0 i' l' its') (h : DRun n ops Q Sh R0' al0 3 i l its i' l' its' := by exact mdr) : DJ Try.prog n ops Q Sh R0' al0 i l its := h.go kk
theorem dn4 (kk : DJ Try.prog n ops Q Sh R0' al0 i' l' its') (h : DRun n ops Q Sh R0' al0 4 i l its i' l' its' := by exact mdr) : DJ Try.prog n ops Q Sh R0' al0 i l its := h.go kk
theorem dn5 (kk : DJ Try.prog n ops Q Sh R0' al0 i' l' its') (h : DRun n ops Q Sh R0' al0 5 i l its i' l' its' := by exact mdr) : DJ Try.prog n ops Q Sh R0' al0 i l its := h.go kk
theorem dn6 (kk : DJ Try.prog n ops Q Sh R0' al0 i' l' its') (h : DRun n ops Q Sh R0' al0 6 i l its i' l' its' := by exact mdr) : DJ Try.prog n ops Q Sh R0' al0 i l its := h.go kk
theorem dn7 (kk : DJ Try.prog n ops Q Sh R0' al0 i' l' its') (h : DRun n ops Q Sh R0' al0 7 i l its i' l' its' := by exact mdr) : DJ Try.prog n ops Q Sh R0' al0 i l its := h.go kk
theorem dn8 (kk : DJ Try.prog n ops Q Sh R0' al0 i' l' its') (h : DRun n ops Q Sh R0' al0 8 i l its i' l' its' := by exact mdr) : DJ Try.prog n ops Q Sh R0' al0 i l its := h.go kk
theorem dn9 (kk : DJ Try.prog n ops Q Sh R0' al0 i' l' its') (h : DRun n ops Q Sh R0' al0 9 i l its i' l' its' := by exact mdr) : DJ Try.prog n ops Q Sh R0' al0 i l its := h.go kk
theorem Si (kk : DJ Try.prog n ops Q Sh R0' al0 i' l' its') (h : DRun n ops Q Sh R0' al0 10 i l its i' l' its' := by exact mdr) : DJ Try.prog n ops Q Sh R0' al0 i l its := h.go kk
theorem dn11 (kk : DJ Try.prog n ops Q Sh R0' al0 i' l' its') (h : DRun n ops Q Sh R0' al0 11 i l its i' l' its' := by exact mdr) : DJ Try.prog n ops Q Sh R0' al0 i l its := h.go kk
theorem dn12 (kk : DJ Try.prog n ops Q Sh R0' al0 i' l' its') (h : DRun n ops Q Sh R0' al0 12 i l its i' l' its' := by exact mdr) : DJ Try.prog n ops Q Sh R0' al0 i l its := h.go kk
theorem dn13 (kk : DJ Try.prog n ops Q Sh R0' al0 i' l' its') (h : DRun n ops Q Sh R0' al0 13 i l its i' l' its' := by exact mdr) : DJ Try.prog n ops Q Sh R0' al0 i l its := h.go kk
theorem dn14 (kk : DJ Try.prog n ops Q Sh R0' al0 i' l' its') (h : DRun n ops Q Sh R0' al0 14 i l its i' l' its' := by exact mdr) : DJ Try.prog n ops Q Sh R0' al0 i l its := h.go kk
theorem dn30 (kk : DJ Try.prog n ops Q Sh R0' al0 i' l' its') (h : DRun n ops Q Sh R0' al0 30 i l its i' l' its' := by exact mdr) : DJ Try.prog n ops Q Sh R0' al0 i l its := h.go kk
end
structure Hold (p : Prop) : Prop where
 h : p
theorem sc {p q : Prop} (k : p) (h : Hold p → q := by intro h; (first | refine s_b CSz.h ?_ | refine s_f CSz.h ?_); intro cs hcs; simp only [Nat.zero_add, Nat.add_zero, Nat.reduceAdd, List.set_cons_zero, List.set_cons_succ, Config.cells, Msg.cells, Line.cells, Op.cells, Done.cells, Step.cells, Core.cells, Entry.cells, Chip.cells, El0.cs, El1.cs] at hcs; subst hcs; exact h.h) : q := h ⟨k⟩
theorem bm {n : Nat} {Q : Exit → Act → World → Prop} {id id' : Nat} {L : List Chunk} {R : List Fact} {al : List (Nat × Value)} (h : JX n Q (.exit id') L R al) (hne : Nat.beq id' id = false := by with_unfolding_all exact rfl) : JX n (Exit.inBlock id Q) (.exit id') L R al := Ez hne h
theorem Gl {p q : Prop} (k : p) (h : Hold p → q := by intro h; (repeat (with_reducible first | refine J.nil ?_ | refine A3 ?_ | refine Bz ?_ | refine D3 ?_ | refine K3 ?_ | refine E9 ?_ | refine Eo ?_ | refine Ec ?_ | refine Fe ?_ | refine Gw ?_ | refine Dj ?_ | refine Dk ?_ | refine bm ?_)); exact h.h) : q := h ⟨k⟩
theorem Glc {p q : Prop} (k : p) (h : Hold p → q := by intro h; (repeat (first | (with_reducible first | refine J.nil ?_ | refine A3 ?_ | refine Bz ?_ | refine D3 ?_ | refine K3 ?_ | refine E9 ?_ | refine Eo ?_ | refine Ec ?_ | refine Fe ?_ | refine Gw ?_ | refine Dj ?_ | refine Dk ?_ | refine bm ?_) | refine cF_ ?_ | refine cT ?_)); exact h.h) : q := h ⟨k⟩
theorem Gmc {p q : Prop} (k : p) (h : Hold p → q := by intro h; (repeat (first | (with_reducible first | refine J.nil ?_ | refine A3 ?_ | refine Bz ?_ | refine D3 ?_ | refine K3 ?_ | refine E9 ?_ | refine Eo ?_ | refine Ec ?_ | refine Fe ?_ | refine Gw ?_ | refine Dj ?_ | refine Dk ?_ | refine bm ?_) | refine cF_ ?_ | refine cT ?_)); refine Aa ?_; exact h.h) : q := h ⟨k⟩
theorem Gm {p q : Prop} (k : p) (h : Hold p → q := by intro h; (repeat (with_reducible first | refine J.nil ?_ | refine A3 ?_ | refine Bz ?_ | refine D3 ?_ | refine K3 ?_ | refine E9 ?_ | refine Eo ?_ | refine Ec ?_ | refine Fe ?_ | refine Gw ?_ | refine Dj ?_ | refine Dk ?_ | refine bm ?_)); refine Aa ?_; exact h.h) : q := h ⟨k⟩
section
variable {n : Nat} {Q : Exit → Act → World → Prop} {ops : Array Oper} {rest : List Oper} {L : List Chunk} {R : List Fact} {al al' : List (Nat × Value)} {d k : Nat} {x y z : Operand} {T ty U : TypeId} {pos : String} {aft : Array Edge} {v : Value} {l l' : List Oper}
variable {p : Prop}
theorem Ga1 (kk : p) (h : Run n ops Q L R 1 l al l' al' := by exact mr) (hg : Hold p → J Try.prog n ops Q l' L R al' := by intro h; exact Gl h.h) : J Try.prog n ops Q l L R al := h.go (hg ⟨kk⟩)
theorem Ga2 (kk : p) (h : Run n ops Q L R 2 l al l' al' := by exact mr) (hg : Hold p → J Try.prog n ops Q l' L R al' := by intro h; exact Gl h.h) : J Try.prog n ops Q l L R al := h.go (hg ⟨kk⟩)
theorem Ga3 (kk : p) (h : Run n ops Q L R 3 l al l' al' := by exact mr) (hg : Hold p → J Try.prog n ops Q l' L R al' := by intro h; exact Gl h.h) : J Try.prog n ops Q l L R al := h.go (hg ⟨kk⟩)
theorem Ga4 (kk : p) (h : Run n ops Q L R 4 l al l' al' := by exact mr) (hg : Hold p → J Try.prog n ops Q l' L R al' := by intro h; exact Gl h.h) : J Try.prog n ops Q l L R al := h.go (hg ⟨kk⟩)
theorem Ga5 (kk : p) (h : Run n ops Q L R 5 l al l' al' := by exact mr) (hg : Hold p → J Try.prog n ops Q l' L R al' := by intro h; exact Gl h.h) : J Try.prog n ops Q l L R al := h.go (hg ⟨kk⟩)
theorem Ga6 (kk : p) (h : Run n ops Q L R 6 l al l' al' := by exact mr) (hg : Hold p → J Try.prog n ops Q l' L R al' := by intro h; exact Gl h.h) : J Try.prog n ops Q l L R al := h.go (hg ⟨kk⟩)
theorem Ga7 (kk : p) (h : Run n ops Q L R 7 l al l' al' := by exact mr) (hg : Hold p → J Try.prog n ops Q l' L R al' := by intro h; exact Gl h.h) : J Try.prog n ops Q l L R al := h.go (hg ⟨kk⟩)
theorem Ga8 (kk : p) (h : Run n ops Q L R 8 l al l' al' := by exact mr) (hg : Hold p → J Try.prog n ops Q l' L R al' := by intro h; exact Gl h.h) : J Try.prog n ops Q l L R al := h.go (hg ⟨kk⟩)
theorem Ga9 (kk : p) (h : Run n ops Q L R 9 l al l' al' := by exact mr) (hg : Hold p → J Try.prog n ops Q l' L R al' := by intro h; exact Gl h.h) : J Try.prog n ops Q l L R al := h.go (hg ⟨kk⟩)
theorem Ga10 (kk : p) (h : Run n ops Q L R 10 l al l' al' := by exact mr) (hg : Hold p → J Try.prog n ops Q l' L R al' := by intro h; exact Gl h.h) : J Try.prog n ops Q l L R al := h.go (hg ⟨kk⟩)
theorem Ga12 (kk : p) (h : Run n ops Q L R 12 l al l' al' := by exact mr) (hg : Hold p → J Try.prog n ops Q l' L R al' := by intro h; exact Gl h.h) : J Try.prog n ops Q l L R al := h.go (hg ⟨kk⟩)
theorem Ga13 (kk : p) (h : Run n ops Q L R 13 l al l' al' := by exact mr) (hg : Hold p → J Try.prog n ops Q l' L R al' := by intro h; exact Gl h.h) : J Try.prog n ops Q l L R al := h.go (hg ⟨kk⟩)
theorem Ga15 (kk : p) (h : Run n ops Q L R 15 l al l' al' := by exact mr) (hg : Hold p → J Try.prog n ops Q l' L R al' := by intro h; exact Gl h.h) : J Try.prog n ops Q l L R al := h.go (hg ⟨kk⟩)
theorem Ga16 (kk : p) (h : Run n ops Q L R 16 l al l' al' := by exact mr) (hg : Hold p → J Try.prog n ops Q l' L R al' := by intro h; exact Gl h.h) : J Try.prog n ops Q l L R al := h.go (hg ⟨kk⟩)
theorem Ga19 (kk : p) (h : Run n ops Q L R 19 l al l' al' := by exact mr) (hg : Hold p → J Try.prog n ops Q l' L R al' := by intro h; exact Gl h.h) : J Try.prog n ops Q l L R al := h.go (hg ⟨kk⟩)
theorem Gb1 (kk : p) (h : Run n ops Q L R 1 l al l' al' := by exact mr) (hg : Hold p → J Try.prog n ops Q l' L R al' := by intro h; exact Gm h.h) : J Try.prog n ops Q l L R al := h.go (hg ⟨kk⟩)
theorem Gb2 (kk : p) (h : Run n ops Q L R 2 l al l' al' := by exact mr) (hg : Hold p → J Try.prog n ops Q l' L R al' := by intro h; exact Gm h.h) : J Try.prog n ops Q l L R al := h.go (hg ⟨kk⟩)
theorem Gb3 (kk : p) (h : Run n ops Q L R 3 l al l' al' := by exact mr) (hg : Hold p → J Try.prog n ops Q l' L R al' := by intro h; exact Gm h.h) : J Try.prog n ops Q l L R al := h.go (hg ⟨kk⟩)
theorem Gb4 (kk : p) (h : Run n ops Q L R 4 l al l' al' := by exact mr) (hg : Hold p → J Try.prog n ops Q l' L R al' := by intro h; exact Gm h.h) : J Try.prog n ops Q l L R al := h.go (hg ⟨kk⟩)
theorem Gb5 (kk : p) (h : Run n ops Q L R 5 l al l' al' := by exact mr) (hg : Hold p → J Try.prog n ops Q l' L R al' := by intro h; exact Gm h.h) : J Try.prog n ops Q l L R al := h.go (hg ⟨kk⟩)
theorem Gb6 (kk : p) (h : Run n ops Q L R 6 l al l' al' := by exact mr) (hg : Hold p → J Try.prog n ops Q l' L R al' := by intro h; exact Gm h.h) : J Try.prog n ops Q l L R al := h.go (hg ⟨kk⟩)
theorem Gb7 (kk : p) (h : Run n ops Q L R 7 l al l' al' := by exact mr) (hg : Hold p → J Try.prog n ops Q l' L R al' := by intro h; exact Gm h.h) : J Try.prog n ops Q l L R al := h.go (hg ⟨kk⟩)
theorem Gc1 (kk : p) (h : Run n ops Q L R 1 l al l' al' := by exact mr) (hg : Hold p → J Try.prog n ops Q l' L R al' := by intro h; exact Glc h.h) : J Try.prog n ops Q l L R al := h.go (hg ⟨kk⟩)
theorem Gc2 (kk : p) (h : Run n ops Q L R 2 l al l' al' := by exact mr) (hg : Hold p → J Try.prog n ops Q l' L R al' := by intro h; exact Glc h.h) : J Try.prog n ops Q l L R al := h.go (hg ⟨kk⟩)
theorem Gc4 (kk : p) (h : Run n ops Q L R 4 l al l' al' := by exact mr) (hg : Hold p → J Try.prog n ops Q l' L R al' := by intro h; exact Glc h.h) : J Try.prog n ops Q l L R al := h.go (hg ⟨kk⟩)
theorem Gc5 (kk : p) (h : Run n ops Q L R 5 l al l' al' := by exact mr) (hg : Hold p → J Try.prog n ops Q l' L R al' := by intro h; exact Glc h.h) : J Try.prog n ops Q l L R al := h.go (hg ⟨kk⟩)
theorem Gc6 (kk : p) (h : Run n ops Q L R 6 l al l' al' := by exact mr) (hg : Hold p → J Try.prog n ops Q l' L R al' := by intro h; exact Glc h.h) : J Try.prog n ops Q l L R al := h.go (hg ⟨kk⟩)
theorem Gc7 (kk : p) (h : Run n ops Q L R 7 l al l' al' := by exact mr) (hg : Hold p → J Try.prog n ops Q l' L R al' := by intro h; exact Glc h.h) : J Try.prog n ops Q l L R al := h.go (hg ⟨kk⟩)
theorem Gc8 (kk : p) (h : Run n ops Q L R 8 l al l' al' := by exact mr) (hg : Hold p → J Try.prog n ops Q l' L R al' := by intro h; exact Glc h.h) : J Try.prog n ops Q l L R al := h.go (hg ⟨kk⟩)
theorem Gc11 (kk : p) (h : Run n ops Q L R 11 l al l' al' := by exact mr) (hg : Hold p → J Try.prog n ops Q l' L R al' := by intro h; exact Glc h.h) : J Try.prog n ops Q l L R al := h.go (hg ⟨kk⟩)
theorem Gc12 (kk : p) (h : Run n ops Q L R 12 l al l' al' := by exact mr) (hg : Hold p → J Try.prog n ops Q l' L R al' := by intro h; exact Glc h.h) : J Try.prog n ops Q l L R al := h.go (hg ⟨kk⟩)
theorem Gc13 (kk : p) (h : Run n ops Q L R 13 l al l' al' := by exact mr) (hg : Hold p → J Try.prog n ops Q l' L R al' := by intro h; exact Glc h.h) : J Try.prog n ops Q l L R al := h.go (hg ⟨kk⟩)
theorem Gc14 (kk : p) (h : Run n ops Q L R 14 l al l' al' := by exact mr) (hg : Hold p → J Try.prog n ops Q l' L R al' := by intro h; exact Glc h.h) : J Try.prog n ops Q l L R al := h.go (hg ⟨kk⟩)
theorem Gc15 (kk : p) (h : Run n ops Q L R 15 l al l' al' := by exact mr) (hg : Hold p → J Try.prog n ops Q l' L R al' := by intro h; exact Glc h.h) : J Try.prog n ops Q l L R al := h.go (hg ⟨kk⟩)
theorem Gc17 (kk : p) (h : Run n ops Q L R 17 l al l' al' := by exact mr) (hg : Hold p → J Try.prog n ops Q l' L R al' := by intro h; exact Glc h.h) : J Try.prog n ops Q l L R al := h.go (hg ⟨kk⟩)
theorem Gc18 (kk : p) (h : Run n ops Q L R 18 l al l' al' := by exact mr) (hg : Hold p → J Try.prog n ops Q l' L R al' := by intro h; exact Glc h.h) : J Try.prog n ops Q l L R al := h.go (hg ⟨kk⟩)
theorem Gc19 (kk : p) (h : Run n ops Q L R 19 l al l' al' := by exact mr) (hg : Hold p → J Try.prog n ops Q l' L R al' := by intro h; exact Glc h.h) : J Try.prog n ops Q l L R al := h.go (hg ⟨kk⟩)
theorem Gd1 (kk : p) (h : Run n ops Q L R 1 l al l' al' := by exact mr) (hg : Hold p → J Try.prog n ops Q l' L R al' := by intro h; exact Gmc h.h) : J Try.prog n ops Q l L R al := h.go (hg ⟨kk⟩)
theorem Gd2 (kk : p) (h : Run n ops Q L R 2 l al l' al' := by exact mr) (hg : Hold p → J Try.prog n ops Q l' L R al' := by intro h; exact Gmc h.h) : J Try.prog n ops Q l L R al := h.go (hg ⟨kk⟩)
theorem Gd5 (kk : p) (h : Run n ops Q L R 5 l al l' al' := by exact mr) (hg : Hold p → J Try.prog n ops Q l' L R al' := by intro h; exact Gmc h.h) : J Try.prog n ops Q l L R al := h.go (hg ⟨kk⟩)
theorem Gd6 (kk : p) (h : Run n ops Q L R 6 l al l' al' := by exact mr) (hg : Hold p → J Try.prog n ops Q l' L R al' := by intro h; exact Gmc h.h) : J Try.prog n ops Q l L R al := h.go (hg ⟨kk⟩)
theorem Gd7 (kk : p) (h : Run n ops Q L R 7 l al l' al' := by exact mr) (hg : Hold p → J Try.prog n ops Q l' L R al' := by intro h; exact Gmc h.h) : J Try.prog n ops Q l L R al := h.go (hg ⟨kk⟩)
theorem Gd11 (kk : p) (h : Run n ops Q L R 11 l al l' al' := by exact mr) (hg : Hold p → J Try.prog n ops Q l' L R al' := by intro h; exact Gmc h.h) : J Try.prog n ops Q l L R al := h.go (hg ⟨kk⟩)
theorem Gd12 (kk : p) (h : Run n ops Q L R 12 l al l' al' := by exact mr) (hg : Hold p → J Try.prog n ops Q l' L R al' := by intro h; exact Gmc h.h) : J Try.prog n ops Q l L R al := h.go (hg ⟨kk⟩)
theorem jd_ {id : Nat} (Sh : Rho → (Nat → Bool) → List Chunk) (k : DJ Try.prog n l.toArray Q Sh R al 0 l []) (hsl : Lg l.toArray = true := by kernel_rfl) (hed : Iu l.toArray = true := by kernel_rfl) (hL : ∀ ρ, Sh ρ (fun _ => false) = L := by exact fun _ => rfl) : JC Try.prog n (.region id l.toArray true) Q L R al := Rd mixed hsl hed Sh hL k
theorem Dv {id : Nat} (k : DJ Try.prog n l.toArray Q (fun _ _ => L) R al 0 l []) (hsl : Lg l.toArray = true := by kernel_rfl) (hed : Iu l.toArray = true := by kernel_rfl) : JC Try.prog n (.region id l.toArray true) Q L R al := Rd mixed hsl hed (fun _ _ => L) (fun _ => rfl) k
variable {Sh : Rho → (Nat → Bool) → List Chunk} {R0 : List Fact} {al0 : List (Nat × Value)} {its : List Item} {i : Nat} {q : Rho → Prop}
theorem dnl (k : ∀ ρ, q ρ) (h : ∀ ρ, Hold (q ρ) → JX n Q .normal (Fi its ρ ++ Sh ρ (fun j => Nat.blt j i)) (facts its ρ ++ R0) (Dt its al0 ρ) := by intro ρ h; simp only [Fi, facts, Dt, List.append_nil, List.nil_append, List.cons_append]; exact h.h) : DJ Try.prog n ops Q Sh R0 al0 i [] its := d_nilC fun ρ => h ρ ⟨k ρ⟩
theorem dtl {o : Oper} (k : ∀ ρ, q ρ) (ht : Iy ops i = true := by kernel_rfl) (h : ∀ ρ, Hold (q ρ) → J Try.prog n ops Q (o :: rest) (Fi its ρ ++ Sh ρ (fun j => Nat.blt j i)) (facts its ρ ++ R0) (Dt its al0 ρ) := by intro ρ h; simp only [Fi, facts, Dt, List.append_nil, List.nil_append, List.cons_append]; exact h.h) : DJ Try.prog n ops Q Sh R0 al0 i (o :: rest) its := W9 ht fun ρ => h ρ ⟨k ρ⟩
theorem djc {op : Oper} (hp : ∀ ρ S, Ax Try.prog n (Dt its al0 ρ) (Sh ρ S) R0 op v) (k : DJ Try.prog n ops Q Sh R0 al0 (i + 1) rest (⟨i, some d, fun _ => v, fun _ => [], fun _ => []⟩ :: its)) (hd : op.dst = some d := by exact rfl) (hSh : ∀ ρ g S, S i = false → Sh (Rho.set ρ i g) (upS S i) = Sh ρ S := by exact fun _ _ _ _ => rfl) : DJ Try.prog n ops Q Sh R0 al0 i (op :: rest) its := dj (dc hp k hd hSh)
theorem epc {op : Oper} (hp : ∀ ρ S, Ax Try.prog n (Dt its al0 ρ) (Sh ρ S) R0 op v) (k : DJ Try.prog n ops Q Sh R0 al0 (i + 1) rest (⟨i, some d, fun _ => v, fun _ => [], fun _ => []⟩ :: its)) (hSh : Ii ops Sh i := by exact fun _ _ _ _ _ => rfl) (hd : op.dst = some d := by exact rfl) : DJ Try.prog n ops Q Sh R0 al0 i (op :: rest) its := Jn hp hSh k hd
theorem epp {op : Oper} {v : Rho → Value} (hp : ∀ ρ S, Ax Try.prog n (Dt its al0 ρ) (Sh ρ S) R0 op (v ρ)) (k : DJ Try.prog n ops Q Sh R0 al0 (i + 1) rest (⟨i, some d, v, fun _ => [], fun _ => []⟩ :: its)) (hi : Ind ops i v := by first | exact Ind.const _ | exact fun _ _ _ _ _ => rfl | exact Ind.self | exact Ind.gh _ 3 rfl) (hSh : Ii ops Sh i := by exact fun _ _ _ _ _ => rfl) (hd : op.dst = some d := by exact rfl) : DJ Try.prog n ops Q Sh R0 al0 i (op :: rest) its := e_p hp hi hSh k hd
def befs (ops : Array Oper) (i : Nat) (l : List Nat) : Bool := l.all fun j => L8 ops 9 j i
def afts (ops : Array Oper) (i : Nat) (l : List Nat) : Bool := l.all fun j => L8 ops 9 i j
def AllS (S : Nat → Bool) (b : Bool) : List Nat → Prop
 | [] => True
 | j :: r => S j = b ∧ AllS S b r
theorem AllS.mk {S : Nat → Bool} {b : Bool} : ∀ {l : List Nat}, (∀ j, j ∈ l → S j = b) → AllS S b l
 | [], _ => trivial
 | j :: r, h => ⟨h j (.head _), AllS.mk fun j hj => h j (.tail _ hj)⟩
theorem Rho.at_ne {ρ : Rho} {i j : Nat} {g : G} (h : Nat.beq j i = false) : Rho.set ρ i g j = ρ j := by
 have : j ≠ i := fun e => by rw [e, Nat.beq_refl] at h; cases h
 simp [Rho.set, this]
theorem upS_at {S : Nat → Bool} {i : Nat} : upS S i i = true := by simp [upS]
theorem upS_no {S : Nat → Bool} {i j : Nat} (h : Nat.beq j i = false) : upS S i j = S j := by simp [upS, h]
theorem es_ (T0 : TypeId) (f : Nat) (bz az : List Nat) (bb : Rho → Nat) (vs us : Rho → List Value) {v : Rho → Value} {sz : Nat} (hsz : ∀ w, (sizeOf T).run Try.prog w = .ok sz w) (k : DJ Try.prog n ops Q Sh R0 al0 (i + 1) rest (⟨i, none, fun _ => undef, fun _ => [], fun _ => []⟩ :: its)) (hx : ∀ ρ, ev n (Dt its al0 ρ) x = some (bp (bb ρ) f) := by exact fun _ => rfl) (hy : ∀ ρ, ev n (Dt its al0 ρ) y = some (v ρ) := by exact fun _ => rfl) (hv : ∀ ρ, (v ρ).cells = (us ρ).toArray := by exact fun _ => rfl) (hl : ∀ ρ, (us ρ).length = sz := by exact fun _ => rfl)
  (h1 : ∀ ρ R' w L', Deps ops R0 its i ρ R' → St L' R' w → ∀ u ∈ us ρ, u.oneCell' = true := by exact fun _ _ _ _ _ _ => by first | (intro u hu; revert u hu; simp [Value.oneCell', Config.cells, Msg.cells, Line.cells, Op.cells, Done.cells, Step.cells]; done) | (repeat (first | exact C3 | refine A6 (by first | exact rfl | assumption) ?_))) (hf : ∀ ρ, Nat.ble (f + sz) (vs ρ).length = true := by exact fun _ => rfl) (hb : befs ops i bz = true := by kernel_rfl) (ha : afts ops i az = true := by kernel_rfl)
  (hSh : ∀ ρ g S, S i = false → AllS S true bz → AllS S false az → ∃ L1, (Sh ρ S).Perm (blk (bb ρ) T0 (vs ρ) :: L1) ∧ (Sh (Rho.set ρ i g) (upS S i)).Perm (blk (bb ρ) T0 ((vs ρ).take f ++ us ρ ++ (vs ρ).drop (f + sz)) :: L1) := by intro ρ g S hS hB hA; simp only [AllS, and_true] at hB hA; simp +decide only [upS_at, upS_no, Rho.at_ne, hS, hB, hA, cond_true, cond_false]; exact Pos.ex (by repeat (first | exact .hd | exact .hc | apply Pos.tl | apply Pos.ap))) : DJ Try.prog n ops Q Sh R0 al0 i (⟨none, .store T x y, ty, pos, aft, none⟩ :: rest) its :=
 W7 bb hsz hx hy hv hl h1 hf (fun ρ g S hS hB hA => hSh ρ g S hS (AllS.mk fun j hj => hB j ⟨9, List.all_eq_true.1 hb j hj⟩) (AllS.mk fun j hj => hA j ⟨9, List.all_eq_true.1 ha j hj⟩)) k
end
section
variable {P : Program} {n : Nat} {L L' L1 : List Chunk} {R : List Fact} {al : List (Nat × Value)} {γ : Type} {val : γ → Value} {Lf : γ → List Chunk} {Rf : γ → List Fact} {fn : Func} {e : Exit} {t u s r : Nat} {v v1 v2 v3 v4 : Value} {ty : TypeId} {sz b : Nat} {cs : List Value} {T0 : TypeId} {Q : Exit → Act → World → Prop} {c : Code}
theorem cq_ (L' : List Chunk) (k : JC P n c Q L' R al) (h : ∀ w, St L R w → St L' R w := by exact fun w hs => Al hs) : JC P n c Q L R al := JC.conseq h k
theorem xq_ (L' : List Chunk) (k : JX n Q e L' R al) (h : ∀ w, St L R w → St L' R w := by exact fun w hs => hs) : JX n Q e L R al := JX.conseq h k
theorem Cb (g : γ) (he : e = .normal ∨ e = .ret := by first | exact .inr rfl | exact .inl rfl) (hf : fn.results = #[.tmp t] := by exact rfl) (h0 : ev n al (.tmp t) = some v1 := by exact rfl) (hv : v1 = val g := by rfl) (hs : ∀ w, St L R w → St (Lf g) (Rf g) w := by exact fun w hs => Al hs) : JX n (bodyPost P fn (Ch val Lf Rf)) e L R al := Co he (fun B w _ => res1 hf h0 B w) (fun w h => ⟨g, hv, hs w h⟩)
theorem Ml (g : γ) (hT : ∀ w, (isAgg ty).run P w = .ok true w) (hsz : ∀ w, (sizeOf ty).run P w = .ok sz w) (he : e = .normal ∨ e = .ret := by first | exact .inr rfl | exact .inl rfl) (hf : fn.results = #[.cell t ty] := by exact rfl) (h0 : ev n al (.tmp t) = some (bp b 0) := by exact rfl)  (hp : Pick L (blk b T0 cs) L1 := by exact pkk) (hl : cs.length = sz := by exact rfl) (hv : (.agg cs.toArray) = val g := by rfl) (hs : ∀ w, St L R w → St (Lf g) (Rf g) w := by exact fun w hs => Al hs) : JX n (bodyPost P fn (Ch val Lf Rf)) e L R al := Co he (fun B w hw => resC1 hf h0  hT hsz hp hl B w hw) (fun w h => ⟨g, hv, hs w h⟩)
theorem Df (g : γ) (he : e = .normal ∨ e = .ret := by first | exact .inr rfl | exact .inl rfl) (hf : fn.results = #[.tmp t, .tmp u] := by exact rfl) (h0 : ev n al (.tmp t) = some v1 := by exact rfl) (h1 : ev n al (.tmp u) = some v2 := by exact rfl) (hv : (.tuple #[v1, v2]) = val g := by rfl) (hs : ∀ w, St L R w → St (Lf g) (Rf g) w := by exact fun w hs => Al hs) : JX n (bodyPost P fn (Ch val Lf Rf)) e L R al := Co he (fun B w _ => res2 hf h0 h1 B w) (fun w h => ⟨g, hv, hs w h⟩)
theorem Hv (g : γ) (hT : ∀ w, (isAgg ty).run P w = .ok true w) (hsz : ∀ w, (sizeOf ty).run P w = .ok sz w) (he : e = .normal ∨ e = .ret := by first | exact .inr rfl | exact .inl rfl) (hf : fn.results = #[.cell t ty, .tmp u] := by exact rfl) (h0 : ev n al (.tmp t) = some (bp b 0) := by exact rfl) (h1 : ev n al (.tmp u) = some v2 := by exact rfl) (hp : Pick L (blk b T0 cs) L1 := by exact pkk) (hl : cs.length = sz := by exact rfl) (hv : (.tuple #[.agg cs.toArray, v2]) = val g := by rfl) (hs : ∀ w, St L R w → St (Lf g) (Rf g) w := by exact fun w hs => Al hs) : JX n (bodyPost P fn (Ch val Lf Rf)) e L R al := Co he (fun B w hw => resC2 hf h0 h1 hT hsz hp hl B w hw) (fun w h => ⟨g, hv, hs w h⟩)
theorem Fv (g : γ) (he : e = .normal ∨ e = .ret := by first | exact .inr rfl | exact .inl rfl) (hf : fn.results = #[.tmp t, .tmp u, .tmp s] := by exact rfl) (h0 : ev n al (.tmp t) = some v1 := by exact rfl) (h1 : ev n al (.tmp u) = some v2 := by exact rfl) (h2 : ev n al (.tmp s) = some v3 := by exact rfl) (hv : (.tuple #[v1, v2, v3]) = val g := by rfl) (hs : ∀ w, St L R w → St (Lf g) (Rf g) w := by exact fun w hs => Al hs) : JX n (bodyPost P fn (Ch val Lf Rf)) e L R al := Co he (fun B w _ => res3 hf h0 h1 h2 B w) (fun w h => ⟨g, hv, hs w h⟩)
theorem Cg (g : γ) (hT : ∀ w, (isAgg ty).run P w = .ok true w) (hsz : ∀ w, (sizeOf ty).run P w = .ok sz w) (he : e = .normal ∨ e = .ret := by first | exact .inr rfl | exact .inl rfl) (hf : fn.results = #[.cell t ty, .tmp u, .tmp s] := by exact rfl) (h0 : ev n al (.tmp t) = some (bp b 0) := by exact rfl) (h1 : ev n al (.tmp u) = some v2 := by exact rfl) (h2 : ev n al (.tmp s) = some v3 := by exact rfl) (hp : Pick L (blk b T0 cs) L1 := by exact pkk) (hl : cs.length = sz := by exact rfl) (hv : (.tuple #[.agg cs.toArray, v2, v3]) = val g := by rfl) (hs : ∀ w, St L R w → St (Lf g) (Rf g) w := by exact fun w hs => Al hs) : JX n (bodyPost P fn (Ch val Lf Rf)) e L R al := Co he (fun B w hw => resC3 hf h0 h1 h2 hT hsz hp hl B w hw) (fun w h => ⟨g, hv, hs w h⟩)
theorem D2 (g : γ) (hT : ∀ w, (isAgg ty).run P w = .ok true w) (hsz : ∀ w, (sizeOf ty).run P w = .ok sz w) (he : e = .normal ∨ e = .ret := by first | exact .inr rfl | exact .inl rfl) (hf : fn.results = #[.cell t ty, .tmp u, .tmp s, .tmp r] := by exact rfl) (h0 : ev n al (.tmp t) = some (bp b 0) := by exact rfl) (h1 : ev n al (.tmp u) = some v2 := by exact rfl) (h2 : ev n al (.tmp s) = some v3 := by exact rfl) (h3 : ev n al (.tmp r) = some v4 := by exact rfl) (hp : Pick L (blk b T0 cs) L1 := by exact pkk) (hl : cs.length = sz := by exact rfl) (hv : (.tuple #[.agg cs.toArray, v2, v3, v4]) = val g := by rfl) (hs : ∀ w, St L R w → St (Lf g) (Rf g) w := by exact fun w hs => Al hs) : JX n (bodyPost P fn (Ch val Lf Rf)) e L R al := Co he (fun B w hw => resC4 hf h0 h1 h2 h3 hT hsz hp hl B w hw) (fun w h => ⟨g, hv, hs w h⟩)
end
end Go.Proofs.Ytofgpimoekhfaaa

/- This file proves how structs of numbers are compared. No conditions. -/
set_option linter.unusedVariables false
set_option linter.unusedSimpArgs false
set_option maxHeartbeats 1000000
set_option maxRecDepth 8000
namespace Go.Proofs.Ytofgpimoekhfaaa
open Go
theorem Pb {P : Program} {t : TypeId} {k : IntKind} {d : Nat} {a b : Int} (ht : P.underlying t = some (.int k)) (w : World) : (Op.equalIn (d + 1) t (.int k a) (.int k b)).run P w = .ok (a == b) w := by
 unfold Op.equalIn; simp [C9 ht]
theorem W2 {P : Program} {t : TypeId} {d : Nat} {a b : Bool} (ht : P.underlying t = some .bool) (w : World) : (Op.equalIn (d + 1) t (.bool a) (.bool b)).run P w = .ok (a == b) w := by
 unfold Op.equalIn; simp [C9 ht]
theorem W3 (x y : Op) {d : Nat} (w : World) : (Op.equalIn (d + 3) 66 (.agg x.cells.toArray) (.agg y.cells.toArray)).run Try.prog w = .ok (decide (x = y)) w := by
 show (Op.equalIn ((d + 2) + 1) 66 _ _).run _ _ = _
 rw [run_equalIn_struct w (d + 2) 66 _ _ (by kernel_rfl) (by kernel_rfl)]
 have e3 : ∀ (a b : Int) w, (Op.equalIn (d + 2) 3 (vi a) (vi b)).run Try.prog w = .ok (a == b) w := fun a b w => Pb (d := d + 1) Try.underlying3 w
 simp only [Program.fieldsOf, Try.underlying66]
 simp [Op.eqFields, part, Try.isAgg3, Op.cells, e3]
 cases x; cases y; simp
 repeat' split
 all_goals simp_all
theorem Ql (x y : Op) {xo yo : Operand} (op : BinOp) (w : World) : (eqGuard op 66 xo yo (.agg x.cells.toArray) (.agg y.cells.toArray)).run Try.prog w = .ok () w := by
 have h : Try.prog.eqGuardType Try.prog.depth 66 = false := by kernel_rfl
 unfold eqGuard
 cases op <;> simp [h]
theorem be_Op (x y : Op) (w : World) : (binOp .eql 66 (.agg x.cells.toArray) (.agg y.cells.toArray)).run Try.prog w = .ok (.bool (decide (x = y))) w := by
 show (Op.equal 66 (.agg x.cells.toArray) (.agg y.cells.toArray) >>= fun r => Pure.pure (Value.bool r)).run _ w = _
 rw [Sem.run_bind, show Op.equal 66 (.agg x.cells.toArray) (.agg y.cells.toArray) = Op.equalIn (9997 + 3) 66 _ _ from rfl, W3 x y w]; rfl
theorem bn_Op (x y : Op) (w : World) : (binOp .neq 66 (.agg x.cells.toArray) (.agg y.cells.toArray)).run Try.prog w = .ok (.bool (!decide (x = y))) w := by
 show (Op.equal 66 (.agg x.cells.toArray) (.agg y.cells.toArray) >>= fun r => Pure.pure (Value.bool (!r))).run _ w = _
 rw [Sem.run_bind, show Op.equal 66 (.agg x.cells.toArray) (.agg y.cells.toArray) = Op.equalIn (9997 + 3) 66 _ _ from rfl, W3 x y w]; rfl
theorem Sa {x y : Op} (h : x = y) (w : World) : (binOp .eql 66 (.agg x.cells.toArray) (.agg y.cells.toArray)).run Try.prog w = .ok (.bool true) w := by rw [be_Op, decide_eq_true h]
theorem Xr {x y : Op} (h : x ≠ y) (w : World) : (binOp .eql 66 (.agg x.cells.toArray) (.agg y.cells.toArray)).run Try.prog w = .ok (.bool false) w := by rw [be_Op, decide_eq_false h]
theorem Xn {x y : Op} (h : x ≠ y) (w : World) : (binOp .neq 66 (.agg x.cells.toArray) (.agg y.cells.toArray)).run Try.prog w = .ok (.bool true) w := by rw [bn_Op, decide_eq_false h]; rfl
theorem R8 {x y : Op} (h : x = y) (w : World) : (binOp .neq 66 (.agg x.cells.toArray) (.agg y.cells.toArray)).run Try.prog w = .ok (.bool false) w := by rw [bn_Op, decide_eq_true h]; rfl
theorem eq_Msg (x y : Msg) {d : Nat} (w : World) : (Op.equalIn (d + 3) 42 (.agg x.cells.toArray) (.agg y.cells.toArray)).run Try.prog w = .ok (decide (x = y)) w := by
 show (Op.equalIn ((d + 2) + 1) 42 _ _).run _ _ = _
 rw [run_equalIn_struct w (d + 2) 42 _ _ (by kernel_rfl) (by kernel_rfl)]
 have e3 : ∀ (a b : Int) w, (Op.equalIn (d + 2) 3 (vi a) (vi b)).run Try.prog w = .ok (a == b) w := fun a b w => Pb (d := d + 1) Try.underlying3 w
 have e4 : ∀ (a b : Bool) w, (Op.equalIn (d + 2) 4 (.bool a) (.bool b)).run Try.prog w = .ok (a == b) w := fun a b w => W2 (d := d + 1) Try.underlying4 w
 simp only [Program.fieldsOf, Try.underlying42]
 simp [Op.eqFields, part, Try.isAgg3, Try.isAgg4, Msg.cells, e3, e4]
 cases x; cases y; simp
 repeat' split
 all_goals simp_all
theorem ag_Msg (x y : Msg) {xo yo : Operand} (op : BinOp) (w : World) : (eqGuard op 42 xo yo (.agg x.cells.toArray) (.agg y.cells.toArray)).run Try.prog w = .ok () w := by
 have h : Try.prog.eqGuardType Try.prog.depth 42 = false := by kernel_rfl
 unfold eqGuard
 cases op <;> simp [h]
theorem bn_Msg (x y : Msg) (w : World) : (binOp .neq 42 (.agg x.cells.toArray) (.agg y.cells.toArray)).run Try.prog w = .ok (.bool (!decide (x = y))) w := by
 show (Op.equal 42 (.agg x.cells.toArray) (.agg y.cells.toArray) >>= fun r => Pure.pure (Value.bool (!r))).run _ w = _
 rw [Sem.run_bind, show Op.equal 42 (.agg x.cells.toArray) (.agg y.cells.toArray) = Op.equalIn (9997 + 3) 42 _ _ from rfl, eq_Msg x y w]; rfl
theorem Xq (x y : Msg) (w : World) : (binOp .neq 42 (.agg x.cells.toArray) (.agg y.cells.toArray)).run Try.prog w = .ok (.bool (decide (x ≠ y))) w := by rw [bn_Msg, decide_not]
theorem W4 (x y : Line) {d : Nat} (w : World) : (Op.equalIn (d + 3) 82 (.agg x.cells.toArray) (.agg y.cells.toArray)).run Try.prog w = .ok (decide (x = y)) w := by
 show (Op.equalIn ((d + 2) + 1) 82 _ _).run _ _ = _
 rw [run_equalIn_struct w (d + 2) 82 _ _ (by kernel_rfl) (by kernel_rfl)]
 have e3 : ∀ (a b : Int) w, (Op.equalIn (d + 2) 3 (vi a) (vi b)).run Try.prog w = .ok (a == b) w := fun a b w => Pb (d := d + 1) Try.underlying3 w
 simp only [Program.fieldsOf, Try.underlying82]
 simp [Op.eqFields, part, Try.isAgg3, Line.cells, e3]
 cases x; cases y; simp
 repeat' split
 all_goals simp_all
theorem Xx (x y : Line) {xo yo : Operand} (op : BinOp) (w : World) : (eqGuard op 82 xo yo (.agg x.cells.toArray) (.agg y.cells.toArray)).run Try.prog w = .ok () w := by
 have h : Try.prog.eqGuardType Try.prog.depth 82 = false := by kernel_rfl
 unfold eqGuard
 cases op <;> simp [h]
theorem Xo (x y : Line) (w : World) : (binOp .neq 82 (.agg x.cells.toArray) (.agg y.cells.toArray)).run Try.prog w = .ok (.bool (!decide (x = y))) w := by
 show (Op.equal 82 (.agg x.cells.toArray) (.agg y.cells.toArray) >>= fun r => Pure.pure (Value.bool (!r))).run _ w = _
 rw [Sem.run_bind, show Op.equal 82 (.agg x.cells.toArray) (.agg y.cells.toArray) = Op.equalIn (9997 + 3) 82 _ _ from rfl, W4 x y w]; rfl
theorem Ug (x y : Line) (w : World) : (binOp .neq 82 (.agg x.cells.toArray) (.agg y.cells.toArray)).run Try.prog w = .ok (.bool (decide (x ≠ y))) w := by rw [Xo, decide_not]
theorem W5 (x y : Done) {d : Nat} (w : World) : (Op.equalIn (d + 4) 84 (.agg x.cells.toArray) (.agg y.cells.toArray)).run Try.prog w = .ok (decide (x = y)) w := by
 show (Op.equalIn ((d + 3) + 1) 84 _ _).run _ _ = _
 rw [run_equalIn_struct w (d + 3) 84 _ _ (by kernel_rfl) (by kernel_rfl)]
 have e3 : ∀ (a b : Int) w, (Op.equalIn (d + 3) 3 (vi a) (vi b)).run Try.prog w = .ok (a == b) w := fun a b w => Pb (d := d + 2) Try.underlying3 w
 have e66 : ∀ (a b : Op) w, (Op.equalIn (d + 3) 66 (.agg a.cells.toArray) (.agg b.cells.toArray)).run Try.prog w = .ok (decide (a = b)) w := fun a b w => W3 a b (d := d) w
 simp only [Program.fieldsOf, Try.underlying84]
 have p1 : ∀ (a b c : Int), (#[vi a, vi b, vi c] : Array Value) = (Op.mk a b c).cells.toArray := fun _ _ _ => rfl
 cases x with | mk x0 x1 x2 =>
 cases y with | mk y0 y1 y2 =>
 cases x1 with | mk xa xb xc =>
 cases y1 with | mk ya yb yc =>
 simp [Op.eqFields, part, Try.isAgg3, Try.isAgg66, Try.sizeOf66, Done.cells]
 simp [p1, e3, e66]
 repeat' split
 all_goals simp_all
theorem Xy (x y : Done) {xo yo : Operand} (op : BinOp) (w : World) : (eqGuard op 84 xo yo (.agg x.cells.toArray) (.agg y.cells.toArray)).run Try.prog w = .ok () w := by
 have h : Try.prog.eqGuardType Try.prog.depth 84 = false := by kernel_rfl
 unfold eqGuard
 cases op <;> simp [h]
theorem Xp (x y : Done) (w : World) : (binOp .neq 84 (.agg x.cells.toArray) (.agg y.cells.toArray)).run Try.prog w = .ok (.bool (!decide (x = y))) w := by
 show (Op.equal 84 (.agg x.cells.toArray) (.agg y.cells.toArray) >>= fun r => Pure.pure (Value.bool (!r))).run _ w = _
 rw [Sem.run_bind, show Op.equal 84 (.agg x.cells.toArray) (.agg y.cells.toArray) = Op.equalIn (9996 + 4) 84 _ _ from rfl, W5 x y w]; rfl
theorem Uh (x y : Done) (w : World) : (binOp .neq 84 (.agg x.cells.toArray) (.agg y.cells.toArray)).run Try.prog w = .ok (.bool (decide (x ≠ y))) w := by rw [Xp, decide_not]
end Go.Proofs.Ytofgpimoekhfaaa

/- This file proves what small functions of the document's answer compute: comparing, bits, and what the home says. No conditions. -/
set_option linter.unusedVariables false
set_option linter.unusedSimpArgs false
set_option maxHeartbeats 1000000
set_option maxRecDepth 8000
namespace Go.Proofs.Ytofgpimoekhfaaa
open Go
theorem Ss {L : List Chunk} {R : List Fact} {w : World} {v0 v1 : Value} {a b : List Msg} (hs : St (L) R w) (h0 : sl v0 a ∈ R) (h1 : sl v1 b ∈ R) : Calls Try.prog 32 [v0, v1].toArray w (Ch (fun _ : Unit => .bool (decide (a = b))) (fun _ => L) (fun _ => R)) := by
  have hla := Bk h0 hs
  have hlb := Bk h1 hs
  refine Aj Try.func32 rfl Try.ntmps32 rfl hs ?_
  clear hs
  refine Gm ?_
  refine Gb1 ?_
  refine Ga5 ?_
  refine cdx (p := ?p1) (hd := ?d1) ?e1 ?_ ?_; case e1 => exact rfl
  ·
   intro ht10
   refine Gm ?_
   refine Ga1 ?_
   have e : a ≠ b := by intro h; apply ht10; rw [h]
   refine Cb () (hv := ?_)
   simp [e]
  ·
   intro ht10
   refine Gm ?_
   refine Ga3 ?_
   refine Cu (γ := Nat) (fun k => k ≤ a.length ∧ a.take k = b.take k) (fun _ => L) (fun _ => R) (fun k => [(0, v0), (1, v1), (12, vi (a.length : Int)), (13, vi (k : Int))]) (fun k => a.length - k) 0 ⟨Nat.zero_le _, rfl⟩ alT (fun w hs => hs) ?_
   rintro k ⟨hk, hab⟩
   refine Gm ?_
   refine Ga1 ?_
   refine cdx (p := ?p2) (hd := ?d2) ?e2 ?_ ?_; case e2 => exact rfl
   ·
    intro ht14
    refine Gm ?_
    refine Ga2 ?_
    refine JC.open0 (xs := a) (v := v0) k h0 (by omega) (fun _ => ?_)
    refine JC.open0 (xs := b) (v := v1) k (.tail _ h1) (by omega) (fun _ => ?_)
    refine Dv ?_
    refine dn8 ?_
    refine djc (fun _ _ => Hf rfl rfl (ag_Msg _ _ _) (Xq _ _)) ?_
    refine dnl ?_; intro ρ
    refine Gl ?_
    refine cdx (p := ?p3) (hd := ?d3) ?e3 ?_ ?_; case e3 => exact rfl
    ·
     intro ht24
     refine Gm ?_
     refine Ga1 ?_
     have e : a ≠ b := by intro h; apply ht24; rw [h]
     refine Cb () (hv := ?_)
     simp [e]
    ·
     intro ht24
     refine Gm ?_
     refine Ga2 ?_
     refine Be (k + 1) ⟨by omega, ?_⟩ (by omega) alT (fun w hs => Al hs)
     rw [Ft (El0.df : Msg) (by omega), Ft (El0.df : Msg) (by omega), hab]
     exact congrArg (fun z => b.take k ++ [z]) (Classical.byContradiction ht24)
   ·
    intro ht14
    refine Gm ?_
    refine Ga1 ?_
    have e : a = b := by
     have hkl : k = a.length := by omega
     rw [hkl, List.take_length, show a.length = b.length by omega, List.take_length] at hab
     exact hab
    refine Cb () (hv := ?_)
    simp [e]
theorem Kz {L : List Chunk} {R : List Fact} {w : World} {z k : Nat} (hs : St (L) R w) (hz : z ≤ 1000) (hk : k ≤ 60) : Calls Try.prog 70 [vi (z : Int), vi (k : Int)].toArray w (Ch (fun _ : Unit => .bool (z.testBit k)) (fun _ => L) (fun _ => R)) := by
  refine Aj Try.func70 rfl Try.ntmps70 rfl hs ?_
  clear hs
  refine Gm ?_
  refine Gb1 ?_
  refine Ga2 ?_
  refine Cu (γ := Nat) (fun j => j ≤ k) (fun _ => L) (fun _ => R) (fun j => [(0, vi ((z / 2 ^ j : Nat) : Int)), (5, vi (k : Int)), (6, vi (j : Int))]) (fun j => k - j) 0 (Nat.zero_le _) ⟨congrArg (fun q : Nat => some (vi (q : Int))) (by simp), alT⟩ (fun w hs => hs) ?_
  intro j hj
  have hz := Nat.div_le_self z (2 ^ j)
  refine Gm ?_
  refine Ga1 ?_
  refine cdx (p := ?p1) (hd := ?d1) ?e1 ?_ ?_; case e1 => exact rfl
  ·
   intro ht7
   refine Gm ?_
   refine rn1 ?_
   refine ob (Af rfl rfl (b_quoN (b := 2) (by omega) (by decide))) ?_
   refine Gb1 ?_
   refine Ga2 ?_
   refine Be (j + 1) (by omega) (by omega) ⟨congrArg (fun q : Nat => some (vi (q : Int))) (by rw [Nat.div_div_eq_div_mul, ← Nat.pow_succ]), alT⟩ (fun w hs => hs)
  ·
   intro ht7
   refine Gm ?_
   refine rn1 ?_
   refine ob (Af rfl rfl (b_remN (b := 2) (by decide) (by decide))) ?_
   refine Ga2 ?_
   have hjk : j = k := by omega
   subst hjk
   refine Cb () (hv := ?_)
   rw [Nat.testBit_eq_decide_div_mod_eq]; exact congrArg Value.bool (decide_eq_decide.2 (by omega))
theorem J0 {L : List Chunk} {R : List Fact} {w : World} {k : Nat} (hs : St (L) R w) (hk : k ≤ 60) : Calls Try.prog 71 [vi (k : Int)].toArray w (Ch (fun _ : Unit => vi ((2 ^ k : Nat) : Int)) (fun _ => L) (fun _ => R)) := by
  refine Aj Try.func71 rfl Try.ntmps71 rfl hs ?_
  clear hs
  refine Gm ?_
  refine Gb1 ?_
  refine Gb1 ?_
  refine Ga2 ?_
  refine Cu (γ := Nat) (fun j => j ≤ k) (fun _ => L) (fun _ => R) (fun j => [(3, vi ((2 ^ j : Nat) : Int)), (4, vi (k : Int)), (5, vi (j : Int))]) (fun j => k - j) 0 (Nat.zero_le _) alT (fun w hs => hs) ?_
  intro j hj
  have hp := Nat.pow_le_pow_right (show 0 < 2 by decide) (show j ≤ 60 by omega)
  have hp1 : (0 : Int) ≤ ((2 ^ j : Nat) : Int) := Int.natCast_nonneg _
  have hp2 : ((2 ^ j : Nat) : Int) ≤ 1152921504606846976 := Int.ofNat_le.2 hp
  refine Gm ?_
  refine Ga1 ?_
  refine cdx (p := ?p1) (hd := ?d1) ?e1 ?_ ?_; case e1 => exact rfl
  ·
   intro ht6
   refine Gm ?_
   refine rn1 ?_
   refine ob (Af (a := 2) rfl rfl (Ns (by omega) (by omega))) ?_
   refine Gb1 ?_
   refine Ga2 ?_
   refine Be (j + 1) (by omega) (by omega) ⟨congrArg (fun q => some (vi q)) (show 2 * ((2 ^ j : Nat) : Int) = ((2 ^ (j + 1) : Nat) : Int) by rw [Nat.pow_succ, Int.natCast_mul]; exact Int.mul_comm _ _), alT⟩ (fun w hs => hs)
  ·
   intro ht6
   refine Gm ?_
   refine Ga2 ?_
   have hjk : j = k := by omega
   subst hjk
   exact Cb ()
def Ci (e : Entry) : Nat → Nat
 | 0 => 0
 | j + 1 => if e.alone = true ∧ (j : Int) ≠ e.who ∧ e.sharers.toNat.testBit j = true then Ci e j + 2 ^ j else Ci e j
def phT (e : Entry) (j : Nat) : Int := if Ci e j = 0 then 3 else 2
def nxt (e : Entry) (j : Nat) : Entry := { e with need := (Ci e j : Int), phase := if Ci e j = 0 then 3 else 2 }
def EB (e : Entry) : Prop := e.wf ∧ (0 ≤ e.sharers ∧ e.sharers < 16) ∧ (0 ≤ e.need ∧ e.need < 16) ∧ (0 ≤ e.who ∧ e.who < 4) ∧ (-1 ≤ e.owner ∧ e.owner < 4) ∧ 0 ≤ e.turn
theorem Mz (e : Entry) : ∀ j, Ci e j < 2 ^ j
 | 0 => Nat.one_pos
 | j + 1 => by
  have := Mz e j
  rw [Nat.pow_succ]
  unfold Ci
  split <;> omega
theorem Tj {e : Entry} (hb : EB e) (ho : ¬ 0 ≤ e.owner) : nxt e 4 = A7 e := by
  obtain ⟨_, ⟨h1, h2⟩, _, ⟨h3, h4⟩, _, _⟩ := hb
  cases e with | mk value owner sharers phase who serial alone turn need last =>
  simp only at h1 h2 h3 h4 ho
  obtain ⟨s, rfl⟩ := Int.eq_ofNat_of_zero_le h1
  obtain ⟨k, rfl⟩ := Int.eq_ofNat_of_zero_le h3
  cases alone with
  | false => simp [nxt, A7, Ci, ho]
  | true =>
    have key : ∀ (s : _root_.Fin 16) (k : _root_.Fin 4), (Ci ⟨0, -1, (s.val : Int), 0, (k.val : Int), 0, true, 0, 0, []⟩ 4 : Int) = Hk (s.val : Int) (k.val : Int) := by decide
    have e1 : Ci ⟨value, owner, (s : Int), phase, (k : Int), serial, true, turn, need, last⟩ 4 = Ci ⟨0, -1, (s : Int), 0, (k : Int), 0, true, 0, 0, []⟩ 4 := rfl
    have e2 := key ⟨s, by omega⟩ ⟨k, by omega⟩
    simp only at e2
    unfold nxt A7
    simp only [e1, if_neg ho]
    by_cases hc : Hk (s : Int) (k : Int) = 0
    · rw [hc] at e2
      have e3 : Ci ⟨0, -1, (s : Int), 0, (k : Int), 0, true, 0, 0, []⟩ 4 = 0 := by omega
      simp [e3, hc]
    · have e3 : Ci ⟨0, -1, (s : Int), 0, (k : Int), 0, true, 0, 0, []⟩ 4 ≠ 0 := by omega
      simp [e3, hc, e2]
def zEC : List Value := [vi 0, vi 0, vi 0, vi 0, vi 0, vi 0, .bool false, vi 0, vi 0, .slice none 0 0]
theorem Hn {L : List Chunk} {R : List Fact} {w : World} {u : Value} {e : Entry} (hs : St (L) R w) (hb : EB e) (hu : u.oneCell' = true) : Calls Try.prog 68 [.agg (e.cells u).toArray].toArray w (Ch (fun _ : Unit => .agg ((A7 e).cells u).toArray) (fun _ => L) (fun _ => R)) := by
  have hb0 := hb
  unfold EB Entry.wf Am at hb0
  refine Aj Try.func68 rfl Try.ntmps68 rfl hs ?_
  clear hs
  refine Gm ?_
  refine bx ?_; intro b1
  refine al_ (cs := zEC) Try.zeroValue58 ?_; intro b2
  refine Gm ?_
  refine rn1 ?_
  refine sc ?_
  refine Gm ?_
  refine rn1 ?_
  refine sc ?_
  refine Gm ?_
  refine Ga3 ?_
  refine cdx (p := ?p1) (hd := ?d1) ?e1 ?_ ?_; case e1 => exact rfl
  ·
   intro ht8
   refine Gm ?_
   refine rn1 ?_
   refine sc ?_
   refine Gm ?_
   refine rn1 ?_
   refine s_B Try.sizeOf58 ?_
   refine Gl ?_
   have er : A7 e = { e with need := 0, phase := 1 } := by unfold A7; rw [if_pos ht8]
   refine Ml () Try.isAgg58 Try.sizeOf58 (hv := ?_)
   rw [er]; rfl
  ·
   intro ht8
   refine Gm ?_
   refine Ga1 ?_
   refine Cu (γ := Nat) (fun k => k ≤ 4) (fun k => blk b1 58 [vi e.value, vi e.owner, vi e.sharers, vi (phT e k), vi e.who, vi e.serial, .bool e.alone, vi e.turn, vi (Ci e k : Int), u] :: blk b2 58 zEC :: L) (fun _ => R) (fun k => [(1, bp b1 0), (2, bp b2 0), (11, vi (k : Int))]) (fun k => 4 - k) 0 (Nat.zero_le _) alT (fun w hs => Al hs) ?_
   intro k hk
   have hn := Mz e k
   have hn4 : Ci e k < 16 := Nat.lt_of_lt_of_le hn (Nat.pow_le_pow_right (n := 2) (by decide) (show k ≤ 4 by omega))
   refine Gm ?_
   refine Ga1 ?_
   refine cdx (p := ?p2) (hd := ?d2) ?e2 ?_ ?_; case e2 => exact rfl
   ·
    intro ht12
    refine Gm ?_
    refine Gb2 ?_
    refine rn3 ?_
    refine Ls (t := 16) (b := ?b3) ?e3 ?_ ?_; case e3 => exact rfl
    ·
     intro ht16
     refine rn6 ?_
     refine jgx (t := 22) (p := ?p4) (hd := ?d4) ?e4 ?_ ?_; case e4 => exact rfl
     ·
      intro ht22
      refine rn3 ?_
      refine gy ?_
      refine Aq Try.call70 rfl (fun w hs => by have h := Kz (z := e.sharers.toNat) (k := k) hs (by omega) (by omega); rw [Int.toNat_of_nonneg hb.2.1.1] at h; exact h) ?_; intro _
      refine Ga1 ?_
      first | (refine cdx (p := ?p5) (hd := ?d5) ?e5 ?_ ?_; case e5 => exact rfl) | (refine Bp (b := ?b5) ?e5 ?_ ?_; case e5 => exact rfl)
      ·
       intro ht27
       refine Gl ?_
       have hyes : e.alone = true ∧ (k : Int) ≠ e.who ∧ e.sharers.toNat.testBit k = true := ⟨ht16, ht22, ht27⟩
       have h16 : ((2 ^ k : Nat) : Int) ≤ 8 := Int.ofNat_le.2 (Nat.pow_le_pow_right (n := 2) (by decide) (show k ≤ 3 by omega))
       have h17 : (0 : Int) ≤ ((2 ^ k : Nat) : Int) := Int.natCast_nonneg _
       refine cq_ (blk b1 58 [vi e.value, vi e.owner, vi e.sharers, vi (phT e k), vi e.who, vi e.serial, .bool e.alone, vi e.turn, vi (Ci e k : Int), u] :: blk b2 58 zEC :: L) ?_
       refine jd_ (fun ρ S => blk b1 58 [vi e.value, vi e.owner, vi e.sharers, vi (phT e k), vi e.who, vi e.serial, .bool e.alone, vi e.turn, vi (Ci e k : Int), u] :: blk b2 58 zEC :: L) ?_
       refine dn3 ?_
       refine Bn (γ := Unit) (val := fun _ => vi ((2 ^ k : Nat) : Int)) (F := fun _ => []) Try.call71 (fun _ => rfl) (fun ρ L R w hd hs => J0 hs (by omega)) (fun _ _ _ _ _ => rfl) ?_
       first | refine epc (fun _ _ => D6) ?_ | refine epc (fun _ _ => Fc) ?_ | refine epp (fun _ _ => D6) ?_ | refine epp (fun _ _ => Fc) ?_
       refine dn1 ?_
       refine dtl ?_; intro ρ
       refine J.conseq (L' := blk b1 58 [vi e.value, vi e.owner, vi e.sharers, vi (phT e k), vi e.who, vi e.serial, .bool e.alone, vi e.turn, vi (Ci e k : Int), u] :: blk b2 58 zEC :: L) (fun w hs => hs) ?_
       refine s_b Try.sizeOf3 ?_
       intro cs_ hcs_; subst hcs_
       refine Gl ?_
       refine kp [1, 2, 3, 11, 12, 13, 14, 15, 16, 17, 18, 19, 20, 21, 22, 23, 24, 25, 26, 27, 28, 29, 30, 31, 32, 33, 34] ?_
       refine Aa ?_
       refine rn1 ?_
       refine sc ?_
       refine Gm ?_
       refine Ga2 ?_
       have e1 : phT e (k + 1) = 2 := by
        have h9 : Ci e (k + 1) = Ci e k + 2 ^ k := by rw [Ci, if_pos hyes]
        have h8 : 0 < 2 ^ k := Nat.two_pow_pos k
        unfold phT; rw [h9, if_neg (by omega)]
       have e2 : (Ci e (k + 1) : Int) = (Ci e k : Int) + ((2 ^ k : Nat) : Int) := by
        have h9 : Ci e (k + 1) = Ci e k + 2 ^ k := by rw [Ci, if_pos hyes]
        rw [h9]; exact Int.natCast_add _ _
       refine Be (k + 1) (by omega) (by omega) alT (fun w hs => ?_)
       try simp only
       rw [e1, e2]; exact Al hs
      ·
       intro ht27
       refine Gm ?_
       refine Ga2 ?_
       have hno : ¬ (e.alone = true ∧ (k : Int) ≠ e.who ∧ e.sharers.toNat.testBit k = true) := by first | exact (fun h => absurd (ht16.symm.trans h.1) (by decide)) | exact (fun h => ht22 h.2.1) | exact (fun h => absurd (ht27.symm.trans h.2.2) (by decide))
       have e1 : Ci e (k + 1) = Ci e k := by rw [Ci, if_neg hno]
       have e2 : phT e (k + 1) = phT e k := by unfold phT; rw [e1]
       refine Be (k + 1) (by omega) (by omega) alT (fun w hs => ?_)
       try simp only
       rw [e1, e2]; exact Al hs
     ·
      intro ht22
      refine Gd5 ?_
      refine Ga2 ?_
      have hno : ¬ (e.alone = true ∧ (k : Int) ≠ e.who ∧ e.sharers.toNat.testBit k = true) := by first | exact (fun h => absurd (ht16.symm.trans h.1) (by decide)) | exact (fun h => ht22 h.2.1) | exact (fun h => absurd (ht27.symm.trans h.2.2) (by decide))
      have e1 : Ci e (k + 1) = Ci e k := by rw [Ci, if_neg hno]
      have e2 : phT e (k + 1) = phT e k := by unfold phT; rw [e1]
      refine Be (k + 1) (by omega) (by omega) alT (fun w hs => ?_)
      try simp only
      rw [e1, e2]; exact Al hs
    ·
     intro ht16
     refine Gd11 ?_
     refine Ga2 ?_
     have hno : ¬ (e.alone = true ∧ (k : Int) ≠ e.who ∧ e.sharers.toNat.testBit k = true) := by first | exact (fun h => absurd (ht16.symm.trans h.1) (by decide)) | exact (fun h => ht22 h.2.1) | exact (fun h => absurd (ht27.symm.trans h.2.2) (by decide))
     have e1 : Ci e (k + 1) = Ci e k := by rw [Ci, if_neg hno]
     have e2 : phT e (k + 1) = phT e k := by unfold phT; rw [e1]
     refine Be (k + 1) (by omega) (by omega) alT (fun w hs => ?_)
     try simp only
     rw [e1, e2]; exact Al hs
   ·
    intro ht12
    refine Gm ?_
    refine rn1 ?_
    refine s_B Try.sizeOf58 ?_
    refine Gl ?_
    have hk4 : k = 4 := by omega
    subst hk4
    refine Ml () Try.isAgg58 Try.sizeOf58 (hv := ?_)
    rw [← Tj hb ht8]; rfl
end Go.Proofs.Ytofgpimoekhfaaa

/- This file proves what functions of the document's answer compute that put one part in the place of another. No conditions. -/
set_option linter.unusedVariables false
set_option linter.unusedSimpArgs false
set_option maxHeartbeats 1000000
set_option maxRecDepth 8000
namespace Go.Proofs.Ytofgpimoekhfaaa
open Go
theorem Bm {L : List Chunk} {R : List Fact} {w : World} {v0 u : Value} {l : List Entry} {i : Int} {e : Entry} (hs : St (L) R w) (h0 : sl v0 l ∈ R) (hu : sl u e.last ∈ R) (hw : e.wf) (hi : 0 ≤ i ∧ i < (l.length : Int)) : Calls Try.prog 69 [v0, vi i, .agg (e.cells u).toArray].toArray w (Ch (fun v : Value => v) (fun v => L) (fun v => sl v (l.set i.toNat e) :: R)) := by
 have hlen := Bk h0 hs
 refine Aj Try.func69 rfl Try.ntmps69 rfl hs ?_
 clear hs
 refine Gm ?_
 refine bx ?_; intro b5
 refine Gb1 ?_
 refine liO ([] : List Entry) T5 rfl (fun j h => Fw) ?_; intro v8
 refine rn1 ?_
 refine ap T5 (hb := fun w hs => by have := Bk h0 hs; have : maxN = 16777216 := rfl; simp; omega) (k := ?_); intro v10
 refine Gb1 ?_
 refine rn3 ?_
 refine ob (J1 so_44) ?_
 refine s_W (xs := l) (i := i.toNat) e Try.sizeOf58 rfl rfl rfl .hd (by omega) (Vc mm hw) ?_
 refine Gm ?_
 refine Ga2 ?_
 exact Cb v10 (hs := fun w hs => Al (St.shut hs))
theorem Bb {L : List Chunk} {R : List Fact} {w : World} {u : Value} {c : Core} {i : Int} {l : Line} (hs : St (L) R w) (hu : sl u c.lines ∈ R) (hw : l.wf) (hi : 0 ≤ i ∧ i < (c.lines.length : Int)) : Calls Try.prog 77 [.agg (c.cells u).toArray, vi i, .agg l.cells.toArray].toArray w (Ch (fun v : Value => .agg (Core.cells v (Ap c i l c.wait)).toArray) (fun v => L) (fun v => sl v (c.lines.set i.toNat l) :: R)) := by
 have hlen := Bk hu hs
 have hone0 : u.oneCell' = true := isSlice.one (hs.fact hu)
 refine Aj Try.func77 rfl Try.ntmps77 rfl hs ?_
 clear hs
 refine Gm ?_
 refine bx ?_; intro b3
 refine bx ?_; intro b5
 refine al_ (cs := [.slice none 0 0, vi 0, vi 0, vi 0]) Try.zeroValue69 ?_; intro b6
 refine Gm ?_
 refine liO ([] : List Line) P6 rfl (fun j h => Fw) ?_; intro v8
 refine rn2 ?_
 refine ap P6 (hb := fun w hs => by have := Bk hu hs; have : maxN = 16777216 := rfl; simp; omega) (k := ?_); intro v11
 refine Gb1 ?_
 refine rn3 ?_
 refine ob (J1 Ja) ?_
 refine s_W (xs := c.lines) (i := i.toNat) l Try.sizeOf82 rfl rfl rfl pkk (by omega) (rdLine hw) ?_
 refine Gl ?_
 refine JC.shut (v := v11) pkk ?_
 refine JC.know (p := v11.oneCell' = true) (fun w hs => isSlice.one (hs.fact (List.Mem.head _))) (fun hone => ?_)
 refine Aa ?_
 refine rn4 ?_
 refine s_B (cs := Core.cells v11 (Ap c i l c.wait)) Try.sizeOf69 ?_
 refine Gl ?_
 exact Ml v11 Try.isAgg69 Try.sizeOf69
theorem Jx {L : List Chunk} {R : List Fact} {w : World} {cv hv fv u : Value} {x : Chip} {i : Int} {k : Core} (hs : St (L) R w) (hc : sl cv x.cores ∈ R) (hh : hv.oneCell' = true) (hf : fv.oneCell' = true) (hu : sl u k.lines ∈ R) (hw : k.wait.wf) (hi : 0 ≤ i ∧ i < (x.cores.length : Int)) : Calls Try.prog 96 [.agg #[cv, hv, fv], vi i, .agg (k.cells u).toArray].toArray w (Ch (fun v : Value => .agg #[v, hv, fv]) (fun v => L) (fun v => sl v (x.cores.set i.toNat k) :: R)) := by
 have hlen := Bk hc hs
 have hone0 : u.oneCell' = true := isSlice.one (hs.fact hu)
 refine Aj Try.func96 rfl Try.ntmps96 rfl hs ?_
 clear hs
 refine Gm ?_
 refine bx ?_; intro b3
 refine bx ?_; intro b5
 refine al_ (cs := [.slice none 0 0, .slice none 0 0, .slice none 0 0]) Try.zeroValue46 ?_; intro b6
 refine Gm ?_
 refine liO ([] : List Core) T6 rfl (fun j h => Fw) ?_; intro v8
 refine rn2 ?_
 refine ap T6 (hb := fun w hs => by have := Bk hc hs; have : maxN = 16777216 := rfl; simp; omega) (k := ?_); intro v11
 refine Gb1 ?_
 refine rn3 ?_
 refine ob (J1 Pp) ?_
 refine s_W (xs := x.cores) (i := i.toNat) k Try.sizeOf69 rfl rfl rfl pkk (by omega) (rdCore mm hw) ?_
 refine Gl ?_
 refine JC.shut (v := v11) pkk ?_
 refine JC.know (p := v11.oneCell' = true) (fun w hs => isSlice.one (hs.fact (List.Mem.head _))) (fun hone => ?_)
 refine Aa ?_
 refine rn6 ?_
 refine s_B (cs := [v11, hv, fv]) Try.sizeOf46 ?_
 refine Gl ?_
 exact Ml v11 Try.isAgg46 Try.sizeOf46
theorem Li {L : List Chunk} {R : List Fact} {w : World} {l : Line} {id home i : Int} (hs : St (L) R w) : Calls Try.prog 78 [.agg l.cells.toArray, vi id, vi home, vi i].toArray w (Ch (fun _ : Unit => .agg (Bl l id home i).cells.toArray) (fun _ => L) (fun _ => R)) := by
  refine Aj Try.func78 rfl Try.ntmps78 rfl hs ?_
  clear hs
  refine Gm ?_
  refine bx ?_; intro b4
  refine al_ (cs := zMsg.cells) Try.zeroValue42 ?_; intro b8
  refine Gm ?_
  refine rn8 ?_
  refine al_ (cs := zMsg.cells) Try.zeroValue42 ?_; intro b9
  refine s_B Try.sizeOf42 ?_
  refine Gm ?_
  refine Ga3 ?_
  refine cdx (p := ?p1) (hd := ?d1) ?e1 ?_ ?_; case e1 => exact rfl
  ·
   intro ht20
   refine Aa ?_
   refine rn3 ?_
   refine sc ?_
   refine Gm ?_
   refine rn1 ?_
   refine s_B Try.sizeOf42 ?_
   refine Gl ?_
   have er : Bl l id home i = ⟨l.want, id, home, i, l.serial, 0, l.value, false⟩ := by unfold Bl; rw [if_pos ht20]
   refine Ml () Try.isAgg42 Try.sizeOf42 (hv := ?_)
   rw [er]; rfl
  ·
   intro ht20
   refine Gm ?_
   refine rn1 ?_
   refine s_B Try.sizeOf42 ?_
   refine Gl ?_
   have er : Bl l id home i = ⟨l.want, id, home, i, l.serial, 0, 0, false⟩ := by unfold Bl; rw [if_neg ht20]
   refine Ml () Try.isAgg42 Try.sizeOf42 (hv := ?_)
   rw [er]; rfl
theorem Fs (id home : Int) : ∀ (l : List Line) (i : Int) (x : Line), Bw id home i (l ++ [x]) = Bw id home i l ++ if x.want ≠ 0 then [Bl x id home (i + (l.length : Int))] else []
 | [], i, x => by simp only [List.nil_append, Bw, List.length_nil]; split <;> simp
 | a :: l, i, x => by
  have ih := Fs id home l (i + 1) x
  have e : i + 1 + (l.length : Int) = i + ((a :: l).length : Int) := by simp only [List.length_cons]; omega
  rw [e] at ih
  simp only [List.cons_append, Bw]
  split <;> simp [ih]
theorem Jq (id home : Int) : ∀ (l : List Line) (i : Int), (Bw id home i l).length ≤ l.length
 | [], i => Nat.le_refl _
 | a :: l, i => by
  have := Jq id home l (i + 1)
  simp only [Bw]; split <;> simp only [List.length_cons] <;> omega
theorem Pi {l : Line} (h : l.wf) {id home i : Int} (h1 : Am id) (h2 : Am home) (h3 : Am i) : (Bl l id home i).wf := by
 unfold Bl Msg.wf; unfold Line.wf at h; unfold Am at *; simp only
 split <;> omega
theorem I0 {L : List Chunk} {R : List Fact} {w : World} {u : Value} {c : Core} {id home : Int} (hs : St (L) R w) (hu : sl u c.lines ∈ R) (hid : Am id) (hhome : Am home) : Calls Try.prog 45 [.agg (c.cells u).toArray, vi id, vi home].toArray w (Ch (fun v : Value => v) (fun v => L) (fun v => sl v (C7 c id home) :: R)) := by
  have hlen := Bk hu hs
  have hone0 : u.oneCell' = true := isSlice.one (hs.fact hu)
  refine Aj Try.func45 rfl Try.ntmps45 rfl hs ?_
  clear hs
  refine Gm ?_
  refine bx ?_; intro b3
  refine Gb1 ?_
  refine Gb1 ?_
  refine Ga4 ?_
  refine JC.rowNil 42 Msg ?_
  refine Cu (γ := Nat × Value) (fun g => g.1 ≤ c.lines.length) (fun g => row 42 g.2 (Bw id home 0 (c.lines.take g.1)) :: L) (fun _ => R) (fun g => [(1, vi id), (2, vi home), (7, g.2), (11, u), (12, vi (c.lines.length : Int)), (13, vi (g.1 : Int))]) (fun g => c.lines.length - g.1) (0, .slice none 0 0) (Nat.zero_le _) alT (fun w hs => Al hs) ?_
  rintro ⟨k, vs⟩ hk
  try simp only at hk ⊢
  refine Gm ?_
  refine Ga1 ?_
  refine cdx (p := ?p1) (hd := ?d1) ?e1 ?_ ?_; case e1 => exact rfl
  ·
   intro ht14
   refine Gl ?_
   refine JC.open0 (xs := c.lines) (v := u) k mm (by omega) (fun hlw => ?_)
   refine Aa ?_
   refine rn3 ?_
   refine al_ (cs := zLine.cells) Try.zeroValue82 ?_; intro b9
   refine rn1 ?_
   refine s_B (cs := (c.lines.getD k zLine).cells) Try.sizeOf82 ?_
   refine Gm ?_
   refine Ga3 ?_
   refine cdx (p := ?p2) (hd := ?d2) ?e2 ?_ ?_; case e2 => exact rfl
   ·
    intro ht20
    refine Aa ?_
    refine rn5 ?_
    refine Aq Try.call78 rfl (fun w hs => Li (l := c.lines.getD k zLine) (id := id) (home := home) (i := (k : Int)) hs) ?_; intro _
    refine li ([Bl (c.lines.getD k zLine) id home (k : Int)] : List Msg) Ga rfl (Io (Pi hlw hid hhome (by unfold Am; omega))) ?_; intro v27
    refine ap Ga (hb := fun w hs => by have : maxN = 16777216 := rfl; have h9 := Jq id home (c.lines.take k) 0; rw [List.length_take] at h9; simp only [List.length_cons, List.length_nil]; omega) (k := ?_); intro v28
    refine Gb1 ?_
    refine Ga2 ?_
    refine Be (k + 1, v28) (by show k + 1 ≤ c.lines.length; omega) (by show c.lines.length - (k + 1) < c.lines.length - k; omega) alT (fun w hs => ?_)
    try simp only
    rw [Ft zLine (by omega), Fs, if_pos ht20, List.length_take, Nat.min_eq_left (by omega), Int.zero_add]
    exact Al hs
   ·
    intro ht20
    refine Gm ?_
    refine Ga2 ?_
    refine Be (k + 1, vs) (by show k + 1 ≤ c.lines.length; omega) (by show c.lines.length - (k + 1) < c.lines.length - k; omega) alT (fun w hs => ?_)
    try simp only
    rw [Ft zLine (by omega), Fs, if_neg ht20, List.append_nil]
    exact Al hs
  ·
   intro ht14
   refine Gm ?_
   refine Ga2 ?_
   exact Cb vs (hs := fun w hs => by rw [show k = c.lines.length by omega, List.take_length] at hs; exact Al (St.shut hs))
end Go.Proofs.Ytofgpimoekhfaaa

/- This file proves what the home says, by the document's answer. No conditions. -/
set_option linter.unusedVariables false
set_option linter.unusedSimpArgs false
set_option maxHeartbeats 1000000
set_option maxRecDepth 8000
namespace Go.Proofs.Ytofgpimoekhfaaa
open Go
def Gf (e : Entry) (line id : Int) (k : Nat) : List Msg := ((List.range k).filter (fun p => e.need.toNat.testBit p)).map fun (p : Nat) => (⟨4, id, (p : Int), line, 0, e.turn, 0, false⟩ : Msg)
theorem Pq {e : Entry} {line id : Int} {k : Nat} (h : e.need.toNat.testBit k = true) : Gf e line id (k + 1) = Gf e line id k ++ [⟨4, id, (k : Int), line, 0, e.turn, 0, false⟩] := by
 unfold Gf; rw [List.range_succ, List.filter_append, List.map_append]; simp [h]
theorem Qx {e : Entry} {line id : Int} {k : Nat} (h : e.need.toNat.testBit k = false) : Gf e line id (k + 1) = Gf e line id k := by
 unfold Gf; rw [List.range_succ, List.filter_append, List.map_append]; simp [h]
theorem Pr (e : Entry) (line id : Int) (k : Nat) : (Gf e line id k).length ≤ k := by
 unfold Gf; rw [List.length_map]
 exact Nat.le_trans (List.length_filter_le ..) (by simp)
theorem Ps {e : Entry} {line id : Int} (h : e.phase = 2) : Gf e line id 4 = says e line id := by
 unfold Gf says
 rw [if_neg (by omega), if_pos h]
 show _ = List.map _ (List.filter _ ([0, 1, 2, 3].map (fun p : Nat => (p : Int))))
 rw [List.filter_map, List.map_map]
 rfl
theorem Gq {L : List Chunk} {R : List Fact} {w : World} {u : Value} {e : Entry} {line id : Int} (hs : St (L) R w) (hb : EB e) (hu : u.oneCell' = true) (hl : Am line) (hid : Am id) : Calls Try.prog 34 [.agg (e.cells u).toArray, vi line, vi id].toArray w (Ch (fun v : Value => v) (fun v => L) (fun v => sl v (says e line id) :: R)) := by
  have hb0 := hb
  unfold EB Entry.wf Am at hb0
  unfold Am at hl hid
  refine Aj Try.func34 rfl Try.ntmps34 rfl hs ?_
  clear hs
  refine Gm ?_
  refine bx ?_; intro b3
  refine Gb1 ?_
  refine Gb1 ?_
  refine rn5 ?_
  refine al_ (cs := zMsg.cells) Try.zeroValue42 ?_; intro b8
  refine s_B (cs := [vi 0, vi id, vi 0, vi line, vi 0, vi e.turn, vi 0, .bool false]) Try.sizeOf42 ?_
  refine Gm ?_
  refine Gb2 ?_
  refine Ga2 ?_
  refine cdx (p := ?p1) (hd := ?d1) ?e1 ?_ ?_; case e1 => exact rfl
  ·
   intro ht17
   refine Gl ?_
   refine cq_ (blk b8 42 [vi 0, vi id, vi 0, vi line, vi 0, vi e.turn, vi 0, .bool false] :: blk b3 58 (e.cells u) :: L) ?_
   refine jd_ (fun ρ S => blk b8 42 (bif S 5 then [vi 5, vi id, vi e.owner, vi line, vi 0, vi e.turn, vi 0, .bool false] else (bif S 3 then [vi 5, vi id, vi 0, vi line, vi 0, vi e.turn, vi 0, .bool false] else [vi 0, vi id, vi 0, vi line, vi 0, vi e.turn, vi 0, .bool false])) :: blk b3 58 (e.cells u) :: L) ?_
   refine dn3 ?_
   refine es_ 42 0 [] [5] (fun ρ => b8) (fun ρ => [vi 0, vi id, vi 0, vi line, vi 0, vi e.turn, vi 0, .bool false]) (fun ρ => [vi 5]) Try.sizeOf3 ?_
   refine dn1 ?_
   refine es_ 42 2 [3] [] (fun ρ => b8) (fun ρ => [vi 5, vi id, vi 0, vi line, vi 0, vi e.turn, vi 0, .bool false]) (fun ρ => [vi e.owner]) Try.sizeOf3 ?_
   refine dnl ?_; intro ρ
   refine xq_ (blk b8 42 [vi 5, vi id, vi e.owner, vi line, vi 0, vi e.turn, vi 0, .bool false] :: blk b3 58 (e.cells u) :: L) ?_
   refine Gm ?_
   refine Ga2 ?_
   refine Bp (b := ?b2) ?e2 ?_ ?_; case e2 => exact rfl
   ·
    intro ht24
    refine Aa ?_
    refine rn1 ?_
    refine sc ?_
    refine Gl ?_
    refine JC.rowNil 42 Msg ?_
    refine Aa ?_
    refine rn2 ?_
    refine li ([⟨6, id, e.owner, line, 0, e.turn, 0, false⟩] : List Msg) Ga rfl (Io (by unfold Msg.wf Am; simp only; omega)) ?_; intro v28
    refine ap Ga (hb := fun w hs => by have : maxN = 16777216 := rfl; simp only [List.length_cons, List.length_nil, List.length_take, List.length_append]; omega) (k := ?_); intro v29
    refine Gb1 ?_
    refine Ga2 ?_
    have er : says e line id = [⟨6, id, e.owner, line, 0, e.turn, 0, false⟩] := by unfold says; rw [if_pos ht17, ht24]; rfl
    rw [er]
    exact Cb v29 (hs := fun w hs => Al (St.shut (hs.pick pkk)))
   ·
    intro ht24
    refine Gl ?_
    refine JC.rowNil 42 Msg ?_
    refine Aa ?_
    refine rn2 ?_
    refine li ([⟨5, id, e.owner, line, 0, e.turn, 0, false⟩] : List Msg) Ga rfl (Io (by unfold Msg.wf Am; simp only; omega)) ?_; intro v28
    refine ap Ga (hb := fun w hs => by have : maxN = 16777216 := rfl; simp only [List.length_cons, List.length_nil, List.length_take, List.length_append]; omega) (k := ?_); intro v29
    refine Gb1 ?_
    refine Ga2 ?_
    have er : says e line id = [⟨5, id, e.owner, line, 0, e.turn, 0, false⟩] := by unfold says; rw [if_pos ht17, ht24]; rfl
    rw [er]
    exact Cb v29 (hs := fun w hs => Al (St.shut (hs.pick pkk)))
  ·
   intro ht17
   refine Gm ?_
   refine Ga2 ?_
   refine cdx (p := ?p3) (hd := ?d3) ?e3 ?_ ?_; case e3 => exact rfl
   ·
    intro ht30
    refine Gl ?_
    refine JC.rowNil 42 Msg ?_
    refine Aa ?_
    refine Ga1 ?_
    refine Cu (γ := Nat × Value × Int × Int) (fun g => g.1 ≤ 4) (fun g => row 42 g.2.1 (Gf e line id g.1) :: blk b8 42 [vi g.2.2.1, vi id, vi g.2.2.2, vi line, vi 0, vi e.turn, vi 0, .bool false] :: blk b3 58 (e.cells u) :: L) (fun _ => R) (fun g => [(3, bp b3 0), (7, g.2.1), (8, bp b8 0), (32, vi (g.1 : Int))]) (fun g => 4 - g.1) (0, .slice none 0 0, 0, 0) (Nat.zero_le _) alT (fun w hs => Al hs) ?_
    rintro ⟨k, vs, x0, x2⟩ hk
    try simp only at hk ⊢
    have hsl := Pr e line id k
    refine Gm ?_
    refine Ga1 ?_
    refine cdx (p := ?p4) (hd := ?d4) ?e4 ?_ ?_; case e4 => exact rfl
    ·
     intro ht33
     refine Gm ?_
     refine Gb2 ?_
     refine rn3 ?_
     refine Aq Try.call70 rfl (fun w hs => by have h := Kz (z := e.need.toNat) (k := k) hs (by omega) (by omega); rw [Int.toNat_of_nonneg hb.2.2.1.1] at h; exact h) ?_; intro _
     refine Gl ?_
     first | (refine cdx (p := ?p5) (hd := ?d5) ?e5 ?_ ?_; case e5 => exact rfl) | (refine Bp (b := ?b5) ?e5 ?_ ?_; case e5 => exact rfl)
     ·
      intro ht38
      refine Gm ?_
      refine rn2 ?_
      refine sc ?_
      refine rn1 ?_
      refine sc ?_
      refine Gm ?_
      refine rn2 ?_
      refine li ([⟨4, id, (k : Int), line, 0, e.turn, 0, false⟩] : List Msg) Ga rfl (Io (by unfold Msg.wf Am; simp only; omega)) ?_; intro v44
      refine ap Ga (hb := fun w hs => by have : maxN = 16777216 := rfl; simp only [List.length_cons, List.length_nil, List.length_take, List.length_append]; omega) (k := ?_); intro v45
      refine Ga1 ?_
      refine kp [3, 6, 7, 8, 9, 16, 32, 33, 34, 35, 36, 37, 38, 39, 40, 41, 42, 43, 44, 45, 46] ?_
      refine Aa ?_
      refine Ga2 ?_
      refine Be (k + 1, v45, 4, (k : Int)) (by show k + 1 ≤ 4; omega) (by show 4 - (k + 1) < 4 - k; omega) alT (fun w hs => ?_)
      try simp only
      rw [Pq ht38]; exact Al hs
     ·
      intro ht38
      refine Gm ?_
      refine Ga2 ?_
      refine Be (k + 1, vs, x0, x2) (by show k + 1 ≤ 4; omega) (by show 4 - (k + 1) < 4 - k; omega) alT (fun w hs => ?_)
      try simp only
      rw [Qx ht38]; exact Al hs
    ·
     intro ht33
     refine Gm ?_
     refine Ga2 ?_
     have hk4 : k = 4 := by omega
     subst hk4
     have er : says e line id = Gf e line id 4 := (Ps ht30).symm
     rw [er]
     exact Cb vs (hs := fun w hs => Al (St.shut (hs.pick pkk)))
   ·
    intro ht30
    refine Gm ?_
    refine Ga2 ?_
    refine cdx (p := ?p6) (hd := ?d6) ?e6 ?_ ?_; case e6 => exact rfl
    ·
     intro ht47
     refine Gl ?_
     refine cq_ (blk b8 42 [vi 0, vi id, vi 0, vi line, vi 0, vi e.turn, vi 0, .bool false] :: blk b3 58 (e.cells u) :: L) ?_
     refine jd_ (fun ρ S => blk b8 42 (bif S 17 then [vi 7, vi id, vi e.who, vi line, vi e.serial, vi e.turn, vi e.value, .bool e.alone] else (bif S 15 then [vi 7, vi id, vi e.who, vi line, vi e.serial, vi e.turn, vi e.value, .bool false] else (bif S 13 then [vi 7, vi id, vi e.who, vi line, vi e.serial, vi e.turn, vi 0, .bool false] else (bif S 11 then [vi 7, vi id, vi e.who, vi line, vi 0, vi e.turn, vi 0, .bool false] else (bif S 9 then [vi 7, vi id, vi 0, vi line, vi 0, vi e.turn, vi 0, .bool false] else [vi 0, vi id, vi 0, vi line, vi 0, vi e.turn, vi 0, .bool false]))))) :: blk b3 58 (e.cells u) :: L) ?_
     refine dn9 ?_
     refine es_ 42 0 [] [11, 13, 15, 17] (fun ρ => b8) (fun ρ => [vi 0, vi id, vi 0, vi line, vi 0, vi e.turn, vi 0, .bool false]) (fun ρ => [vi 7]) Try.sizeOf3 ?_
     refine dn1 ?_
     refine es_ 42 2 [9] [13, 15, 17] (fun ρ => b8) (fun ρ => [vi 7, vi id, vi 0, vi line, vi 0, vi e.turn, vi 0, .bool false]) (fun ρ => [vi e.who]) Try.sizeOf3 ?_
     refine dn1 ?_
     refine es_ 42 4 [9, 11] [15, 17] (fun ρ => b8) (fun ρ => [vi 7, vi id, vi e.who, vi line, vi 0, vi e.turn, vi 0, .bool false]) (fun ρ => [vi e.serial]) Try.sizeOf3 ?_
     refine dn1 ?_
     refine es_ 42 6 [9, 11, 13] [17] (fun ρ => b8) (fun ρ => [vi 7, vi id, vi e.who, vi line, vi e.serial, vi e.turn, vi 0, .bool false]) (fun ρ => [vi e.value]) Try.sizeOf3 ?_
     refine dn1 ?_
     refine es_ 42 7 [9, 11, 13, 15] [] (fun ρ => b8) (fun ρ => [vi 7, vi id, vi e.who, vi line, vi e.serial, vi e.turn, vi e.value, .bool false]) (fun ρ => [.bool e.alone]) Try.sizeOf4 ?_
     refine dnl ?_; intro ρ
     refine xq_ (blk b8 42 [vi 7, vi id, vi e.who, vi line, vi e.serial, vi e.turn, vi e.value, .bool e.alone] :: blk b3 58 (e.cells u) :: L) ?_
     refine Gl ?_
     refine JC.rowNil 42 Msg ?_
     refine kp [6, 7, 8, 62, 63, 64, 65] ?_
     refine Aa ?_
     refine rn2 ?_
     refine li ([⟨7, id, e.who, line, e.serial, e.turn, e.value, e.alone⟩] : List Msg) Ga rfl (Io (by unfold Msg.wf Am; simp only; omega)) ?_; intro v64
     refine ap Ga (hb := fun w hs => by have : maxN = 16777216 := rfl; simp only [List.length_cons, List.length_nil, List.length_take, List.length_append]; omega) (k := ?_); intro v65
     refine Gb1 ?_
     refine Ga2 ?_
     have er : says e line id = [⟨7, id, e.who, line, e.serial, e.turn, e.value, e.alone⟩] := by unfold says; rw [if_neg ht17, if_neg ht30, if_pos ht47]
     rw [er]
     exact Cb v65 (hs := fun w hs => Al (St.shut (hs.pick pkk)))
    ·
     intro ht47
     refine Gm ?_
     refine Ga2 ?_
     have er : says e line id = [] := by unfold says; rw [if_neg ht17, if_neg ht30, if_neg ht47]
     rw [er]
     exact Cb (.slice none 0 0) (hs := fun w hs => Al (St.shut (hs.rowNil 42 Msg)))
end Go.Proofs.Ytofgpimoekhfaaa

/- This file proves what an operation on memory that is one does, and how a core begins, by the document's answer. No conditions. -/
set_option linter.unusedVariables false
set_option linter.unusedSimpArgs false
set_option maxHeartbeats 1000000
set_option maxRecDepth 8000
namespace Go.Proofs.Ytofgpimoekhfaaa
open Go
def dX (m : List Int) (o : Op) : List Int := m.set o.line.toNat (Au (m.getD o.line.toNat 0) o).1
def Rv (m : List Int) (o : Op) (k : Nat) : List Int := (dX m o).take k
def Kp (m : List Int) (o : Op) (k : Nat) : Int := if o.line.toNat < k then (Au (m.getD o.line.toNat 0) o).2 else 0
theorem Ia (m : List Int) (o : Op) (k : Nat) : (Rv m o k).length ≤ k := by unfold Rv; rw [List.length_take]; omega
theorem Xb {m : List Int} {o : Op} {k : Nat} (h : k < m.length) (h0 : 0 ≤ o.line) (hn : ¬ (k : Int) = o.line) : Rv m o (k + 1) = Rv m o k ++ [m.getD k 0] ∧ Kp m o (k + 1) = Kp m o k := by
  have hk : o.line.toNat ≠ k := by omega
  constructor
  · unfold Rv dX
    rw [Ft 0 (by rw [List.length_set]; exact h)]
    simp [List.getD_eq_getElem?_getD, List.getElem?_set_ne hk]
  · unfold Kp
    by_cases h1 : o.line.toNat < k
    · rw [if_pos h1, if_pos (by omega)]
    · rw [if_neg h1, if_neg (by omega)]
theorem Lz {m : List Int} {o : Op} {k : Nat} (h : k < m.length) (h0 : 0 ≤ o.line) (hn : (k : Int) = o.line) : Rv m o (k + 1) = Rv m o k ++ [(Au (m.getD k 0) o).1] ∧ Kp m o (k + 1) = (Au (m.getD k 0) o).2 ∧ Kp m o k = 0 := by
  have hk : o.line.toNat = k := by omega
  refine ⟨?_, ?_, ?_⟩
  · unfold Rv dX
    rw [Ft 0 (by rw [List.length_set]; exact h)]
    subst hk
    simp [List.getD_eq_getElem?_getD, h]
  · unfold Kp; rw [hk, if_pos (by omega)]
  · unfold Kp; rw [hk, if_neg (by omega)]
theorem opv1 {v : Int} {o : Op} (h : o.kind = 1) : Au v o = (v, v) := by unfold Au; rw [if_pos h]
theorem opv2 {v : Int} {o : Op} (h : o.kind = 2) : Au v o = (o.value, 0) := by unfold Au; rw [if_neg (by omega), if_pos h]
theorem opv3 {v : Int} {o : Op} (h : o.kind = 3) : Au v o = ((v + o.value) % 256, v) := by unfold Au; rw [if_neg (by omega), if_neg (by omega), if_pos h]
theorem opv4 {v : Int} {o : Op} (h : o.kind = 4) : Au v o = (v, 0) := by unfold Au; rw [if_neg (by omega), if_neg (by omega), if_neg (by omega)]
theorem Q2 {R : List Fact} {c : Int} (h : Am c) : ∀ j, (∀ q ∈ R, q.p j) → RdV [c] [vi c] j := rd_0 (cs := [vi c]) (fun _ => ⟨rfl, h⟩)
theorem refDo {L : List Chunk} {R : List Fact} {w : World} {v0 : Value} {m : List Int} {o : Op} (hs : St (L) R w) (h0 : sl v0 m ∈ R) : Calls Try.prog 90 [v0, .agg o.cells.toArray].toArray w (Ch (fun v : Value => .tuple #[v, vi (Cl m o).2.1, vi (Cl m o).2.2]) (fun v => L) (fun v => sl v (Cl m o).1 :: R)) := by
  have hlen := Bk h0 hs
  refine Aj Try.func90 rfl Try.ntmps90 rfl hs ?_
  clear hs
  refine Gm ?_
  refine bx ?_; intro b3
  refine Ga3 ?_
  rcases (show (o.kind < 1) ∨ (¬ o.kind < 1 ∧ 4 < o.kind) ∨ (1 ≤ o.kind ∧ o.kind ≤ 4) from by omega) with hc | hc | hc
  ·
   refine Aa ?_
   refine rn2 ?_
   refine ob (Af rfl rfl (Bt (by omega))) ?_
   refine Gd5 ?_
   refine Ga3 ?_
   have er : Cl m o = ([], 0, 1) := F9 (by omega)
   rw [er]
   exact Fv (.slice none 0 0) (hs := fun w hs => Al (St.shut (hs.rowNil 3 Int)))
  ·
   refine Aa ?_
   refine rn2 ?_
   refine ob (Af rfl rfl (An (by omega))) ?_
   refine rn3 ?_
   refine gy ?_
   refine ob (Af rfl rfl (C0 (by omega))) ?_
   refine Gd1 ?_
   refine Ga3 ?_
   have er : Cl m o = ([], 0, 1) := F9 (by omega)
   rw [er]
   exact Fv (.slice none 0 0) (hs := fun w hs => Al (St.shut (hs.rowNil 3 Int)))
  ·
   refine Aa ?_
   refine rn2 ?_
   refine ob (Af rfl rfl (An (by omega))) ?_
   refine rn3 ?_
   refine gy ?_
   refine ob (Af rfl rfl (Cp (by omega))) ?_
   refine Gc1 ?_
   rcases (show (o.line < 0) ∨ (0 ≤ o.line ∧ (m.length : Int) ≤ o.line) ∨ (0 ≤ o.line ∧ o.line < (m.length : Int) ∧ o.value < 0) ∨ (0 ≤ o.line ∧ o.line < (m.length : Int) ∧ 255 < o.value) ∨ (0 ≤ o.line ∧ o.line < (m.length : Int) ∧ 0 ≤ o.value ∧ o.value ≤ 255) from by omega) with hc | hc | hc | hc | hc
   ·
    refine Aa ?_
    refine rn2 ?_
    refine ob (Af rfl rfl (Bt (by omega))) ?_
    refine Gc17 ?_
    refine kp [0, 3, 4, 5, 6] ?_
    refine Aa ?_
    refine Ga3 ?_
    have er : Cl m o = ([], 0, 3) := C8 (by omega) (by omega)
    rw [er]
    exact Fv (.slice none 0 0) (hs := fun w hs => Al (St.shut (hs.rowNil 3 Int)))
   ·
    refine Aa ?_
    refine rn2 ?_
    refine ob (Af rfl rfl (An (by omega))) ?_
    refine rn5 ?_
    refine gy ?_
    refine ob (Af rfl rfl (Cv (by omega))) ?_
    refine Gc11 ?_
    refine kp [0, 3, 4, 5, 6] ?_
    refine Aa ?_
    refine Ga3 ?_
    have er : Cl m o = ([], 0, 3) := C8 (by omega) (by omega)
    rw [er]
    exact Fv (.slice none 0 0) (hs := fun w hs => Al (St.shut (hs.rowNil 3 Int)))
   ·
    refine Aa ?_
    refine rn2 ?_
    refine ob (Af rfl rfl (An (by omega))) ?_
    refine rn5 ?_
    refine gy ?_
    refine ob (Af rfl rfl (A4 (by omega))) ?_
    refine rn4 ?_
    refine gy ?_
    refine ob (Af rfl rfl (Bt (by omega))) ?_
    refine Gc6 ?_
    refine kp [0, 3, 4, 5, 6] ?_
    refine Aa ?_
    refine Ga3 ?_
    have er : Cl m o = ([], 0, 3) := C8 (by omega) (by omega)
    rw [er]
    exact Fv (.slice none 0 0) (hs := fun w hs => Al (St.shut (hs.rowNil 3 Int)))
   ·
    refine Aa ?_
    refine rn2 ?_
    refine ob (Af rfl rfl (An (by omega))) ?_
    refine rn5 ?_
    refine gy ?_
    refine ob (Af rfl rfl (A4 (by omega))) ?_
    refine rn4 ?_
    refine gy ?_
    refine ob (Af rfl rfl (An (by omega))) ?_
    refine rn4 ?_
    refine gy ?_
    refine ob (Af rfl rfl (C0 (by omega))) ?_
    refine Gc1 ?_
    refine kp [0, 3, 4, 5, 6] ?_
    refine Aa ?_
    refine Ga3 ?_
    have er : Cl m o = ([], 0, 3) := C8 (by omega) (by omega)
    rw [er]
    exact Fv (.slice none 0 0) (hs := fun w hs => Al (St.shut (hs.rowNil 3 Int)))
   ·
    refine Aa ?_
    refine rn2 ?_
    refine ob (Af rfl rfl (An (by omega))) ?_
    refine rn5 ?_
    refine gy ?_
    refine ob (Af rfl rfl (A4 (by omega))) ?_
    refine rn4 ?_
    refine gy ?_
    refine ob (Af rfl rfl (An (by omega))) ?_
    refine rn4 ?_
    refine gy ?_
    refine ob (Af rfl rfl (Cp (by omega))) ?_
    refine Gc1 ?_
    refine kp [0, 3, 4, 5, 6, 7] ?_
    refine Aa ?_
    refine Gb1 ?_
    refine Gb1 ?_
    refine Ga3 ?_
    refine JC.rowNil 3 Int ?_
    refine Cu (γ := Nat × Value × Int) (fun g => g.1 ≤ m.length ∧ g.2.2 = Kp m o g.1) (fun g => row 3 g.2.1 (Rv m o g.1) :: blk b3 66 o.cells :: L) (fun _ => R) (fun g => [(3, bp b3 0), (7, g.2.1), (8, vi g.2.2), (39, v0), (40, vi (m.length : Int)), (41, vi (g.1 : Int))]) (fun g => m.length - g.1) (0, .slice none 0 0, 0) ⟨Nat.zero_le _, by unfold Kp; rw [if_neg (by omega)]⟩ alT (fun w hs => Al hs) ?_
    rintro ⟨k, vs, told⟩ ⟨hk, ht⟩
    try simp only at hk ht ⊢
    refine Gm ?_
    refine Ga1 ?_
    refine cdx (p := ?p1) (hd := ?d1) ?e1 ?_ ?_; case e1 => exact rfl
    ·
     intro ht42
     refine Gl ?_
     refine JC.open0 (xs := m) (v := v0) k mm (by omega) (fun hw => ?_)
     have hw9 : Am (m.getD k 0) := hw
     refine Aa ?_
     refine Gb5 ?_
     refine Ga4 ?_
     refine cdx (p := ?p2) (hd := ?d2) ?e2 ?_ ?_; case e2 => exact rfl
     ·
      intro ht49
      refine Gl ?_
      rcases (show (o.kind = 1) ∨ (o.kind = 2) ∨ (o.kind = 3) ∨ (o.kind = 4) from by omega) with hc | hc | hc | hc
      ·
       refine Aa ?_
       first | refine ob (Sg F8) ?_ | refine ob (Sf F8) ?_
       refine rn1 ?_
       refine ob (Af rfl rfl (As (by omega))) ?_
       refine Gd5 ?_
       refine Gb2 ?_
       refine rn2 ?_
       refine ob (Af rfl rfl (Ak (by omega))) ?_
       refine Gmc ?_
       refine rn2 ?_
       refine ob (Af rfl rfl (Ak (by omega))) ?_
       refine Glc ?_
       refine kp [3, 4, 5, 6, 7, 8, 9, 10, 39, 40, 41, 42, 43, 44, 45, 46, 47, 48, 49, 50, 51, 52, 53, 54, 55, 56, 57, 58, 59, 60, 61, 62, 63, 64, 65, 66, 67, 68, 69, 70, 71, 72, 73, 74, 75, 76, 77] ?_
       refine Aa ?_
       refine rn2 ?_
       refine li ([m.getD k 0] : List Int) D9 rfl (Q2 (by unfold Am at hw9 ⊢; omega)) ?_; intro v76
       refine ap D9 (hb := fun w hs => by have : maxN = 16777216 := rfl; have h9 := Ia m o k; simp only [List.length_cons, List.length_nil]; omega) (k := ?_); intro v77
       refine Gb1 ?_
       refine Ga2 ?_
       obtain ⟨e1, e2, e3⟩ := Lz (m := m) (o := o) (k := k) (by omega) (by omega) ht49
       rw [opv1 hc] at e1 e2
       refine Be (k + 1, v77, m.getD k 0) ⟨by show k + 1 ≤ m.length; omega, by show _ = _; rw [e2]⟩ (by show m.length - (k + 1) < m.length - k; omega) alT (fun w hs => ?_)
       try simp only
       rw [e1]
       exact Al hs
      ·
       refine Aa ?_
       first | refine ob (Sg F8) ?_ | refine ob (Sf F8) ?_
       refine rn1 ?_
       refine ob (Af rfl rfl (Ak (by omega))) ?_
       refine rn3 ?_
       refine gy ?_
       refine ob (Af rfl rfl (Ak (by omega))) ?_
       refine Gd1 ?_
       refine rn2 ?_
       refine ob (Af rfl rfl (As (by omega))) ?_
       refine Gmc ?_
       refine Gb3 ?_
       refine rn2 ?_
       refine ob (Af rfl rfl (Ak (by omega))) ?_
       refine Glc ?_
       refine kp [3, 4, 5, 6, 7, 8, 9, 10, 39, 40, 41, 42, 43, 44, 45, 46, 47, 48, 49, 50, 51, 52, 53, 54, 55, 56, 57, 58, 59, 60, 61, 62, 63, 64, 65, 66, 67, 68, 69, 70, 71, 72, 73, 74, 75, 76, 77] ?_
       refine Aa ?_
       refine rn2 ?_
       refine li ([o.value] : List Int) D9 rfl (Q2 (by unfold Am at hw9 ⊢; omega)) ?_; intro v76
       refine ap D9 (hb := fun w hs => by have : maxN = 16777216 := rfl; have h9 := Ia m o k; simp only [List.length_cons, List.length_nil]; omega) (k := ?_); intro v77
       refine Gb1 ?_
       refine Ga2 ?_
       obtain ⟨e1, e2, e3⟩ := Lz (m := m) (o := o) (k := k) (by omega) (by omega) ht49
       rw [opv2 hc] at e1 e2
       refine Be (k + 1, v77, told) ⟨by show k + 1 ≤ m.length; omega, by show told = _; rw [e2, ht, e3]⟩ (by show m.length - (k + 1) < m.length - k; omega) alT (fun w hs => ?_)
       try simp only
       rw [e1]
       exact Al hs
      ·
       refine Aa ?_
       first | refine ob (Sg F8) ?_ | refine ob (Sf F8) ?_
       refine rn1 ?_
       refine ob (Af rfl rfl (Ak (by omega))) ?_
       refine rn3 ?_
       refine gy ?_
       refine ob (Af rfl rfl (As (by omega))) ?_
       refine Gd1 ?_
       refine Gb2 ?_
       refine rn2 ?_
       refine ob (Af rfl rfl (Ak (by omega))) ?_
       refine Gmc ?_
       refine rn2 ?_
       refine ob (Af rfl rfl (As (by omega))) ?_
       refine Glc ?_
       refine kp [3, 4, 5, 6, 7, 8, 9, 10, 39, 40, 41, 42, 43, 44, 45, 46, 47, 48, 49, 50, 51, 52, 53, 54, 55, 56, 57, 58, 59, 60, 61, 62, 63, 64, 65, 66, 67, 68, 69, 70, 71, 72, 73] ?_
       refine Aa ?_
       refine rn3 ?_
       refine ob (Gs (a := m.getD k 0) (b := o.value) U2) ?_
       refine ob (Gs (b := 256) (Un (by decide) (Ld _ (by decide) (by decide)).1 (Ld _ (by decide) (by decide)).2)) ?_
       refine ob (Gs (a := (IntKind.i64.wrap (m.getD k 0 + o.value)).tmod 256) (b := 256) (Mb (by have := Jc (IntKind.i64.wrap (m.getD k 0 + o.value)) (show (0 : Int) < 256 by decide); omega) (by have := Jc (IntKind.i64.wrap (m.getD k 0 + o.value)) (show (0 : Int) < 256 by decide); omega))) ?_
       refine ob (Gs (b := 256) (Un (by decide) (Ld _ (by decide) (by decide)).1 (Ld _ (by decide) (by decide)).2)) ?_
       rw [Sp, Kw]
       refine Gb1 ?_
       refine rn2 ?_
       refine li ([(m.getD k 0 + o.value) % 256] : List Int) D9 rfl (Q2 (by unfold Am at hw9 ⊢; omega)) ?_; intro v76
       refine ap D9 (hb := fun w hs => by have : maxN = 16777216 := rfl; have h9 := Ia m o k; simp only [List.length_cons, List.length_nil]; omega) (k := ?_); intro v77
       refine Gb1 ?_
       refine Ga2 ?_
       obtain ⟨e1, e2, e3⟩ := Lz (m := m) (o := o) (k := k) (by omega) (by omega) ht49
       rw [opv3 hc] at e1 e2
       refine Be (k + 1, v77, m.getD k 0) ⟨by show k + 1 ≤ m.length; omega, by show _ = _; rw [e2]⟩ (by show m.length - (k + 1) < m.length - k; omega) alT (fun w hs => ?_)
       try simp only
       rw [e1]
       exact Al hs
      ·
       refine Aa ?_
       first | refine ob (Sg F8) ?_ | refine ob (Sf F8) ?_
       refine rn1 ?_
       refine ob (Af rfl rfl (Ak (by omega))) ?_
       refine rn3 ?_
       refine gy ?_
       refine ob (Af rfl rfl (Ak (by omega))) ?_
       refine Gd1 ?_
       refine rn2 ?_
       refine ob (Af rfl rfl (Ak (by omega))) ?_
       refine Gmc ?_
       refine rn2 ?_
       refine ob (Af rfl rfl (Ak (by omega))) ?_
       refine Gmc ?_
       refine rn2 ?_
       refine li ([m.getD k 0] : List Int) D9 rfl (Q2 (by unfold Am at hw9 ⊢; omega)) ?_; intro v76
       refine ap D9 (hb := fun w hs => by have : maxN = 16777216 := rfl; have h9 := Ia m o k; simp only [List.length_cons, List.length_nil]; omega) (k := ?_); intro v77
       refine Ga1 ?_
       refine kp [3, 4, 5, 6, 7, 8, 9, 10, 39, 40, 41, 42, 43, 44, 45, 46, 47, 48, 49, 50, 51, 52, 53, 54, 55, 56, 57, 58, 59, 60, 61, 62, 63, 64, 65, 66, 67, 68, 69, 70, 71, 72, 73, 74, 75, 76, 77, 78] ?_
       refine Aa ?_
       refine Ga2 ?_
       obtain ⟨e1, e2, e3⟩ := Lz (m := m) (o := o) (k := k) (by omega) (by omega) ht49
       rw [opv4 hc] at e1 e2
       refine Be (k + 1, v77, told) ⟨by show k + 1 ≤ m.length; omega, by show told = _; rw [e2, ht, e3]⟩ (by show m.length - (k + 1) < m.length - k; omega) alT (fun w hs => ?_)
       try simp only
       rw [e1]
       exact Al hs
     ·
      intro ht49
      refine Gm ?_
      refine rn2 ?_
      refine li ([m.getD k 0] : List Int) D9 rfl (Q2 (by unfold Am at hw9 ⊢; omega)) ?_; intro v76
      refine ap D9 (hb := fun w hs => by have : maxN = 16777216 := rfl; have h9 := Ia m o k; simp only [List.length_cons, List.length_nil]; omega) (k := ?_); intro v77
      refine Gb1 ?_
      refine Ga2 ?_
      obtain ⟨e1, e2⟩ := Xb (m := m) (o := o) (k := k) (by omega) (by omega) ht49
      refine Be (k + 1, v77, told) ⟨by show k + 1 ≤ m.length; omega, by show told = _; rw [e2]; exact ht⟩ (by show m.length - (k + 1) < m.length - k; omega) alT (fun w hs => ?_)
      try simp only
      rw [e1]; exact Al hs
    ·
     intro ht42
     refine Gm ?_
     refine Ga5 ?_
     have hkl : k = m.length := by omega
     have er : Cl m o = (dX m o, (Au (m.getD o.line.toNat 0) o).2, 0) := by unfold Cl; rw [if_neg (by omega), if_neg (by omega)]; rfl
     rw [er]
     have e1 : Rv m o k = dX m o := by unfold Rv; rw [List.take_of_length_le (by unfold dX; rw [List.length_set]; omega)]
     have e2 : told = (Au (m.getD o.line.toNat 0) o).2 := by rw [ht]; unfold Kp; rw [if_pos (by omega)]
     rw [e1]
     rw [e2]
     exact Fv vs (hs := fun w hs => Al (St.shut (hs.pick pkk)))
def Hm (v : Int) (o : Op) : List Int := (List.replicate (o.line + 1).toNat 0).set o.line.toNat v
theorem Jr {v : Int} {o : Op} (h : 0 ≤ o.line) : (Hm v o).length = o.line.toNat + 1 := by unfold Hm; rw [List.length_set, List.length_replicate]; omega
theorem Jd {v : Int} {o : Op} (h : 0 ≤ o.line) : (Hm v o).getD o.line.toNat 0 = v := by
 unfold Hm
 rw [List.getD_eq_getElem?_getD, List.getElem?_set_self (by rw [List.length_replicate]; omega)]; rfl
theorem Us {v : Int} {o : Op} (hk : 1 ≤ o.kind ∧ o.kind ≤ 4) (h : 0 ≤ o.line) (h2 : 0 ≤ o.value ∧ o.value ≤ 255) : Cl (Hm v o) o = (dX (Hm v o) o, (Au v o).2, 0) := by
 have hl := Jr (v := v) h
 unfold Cl; rw [if_neg (by omega), if_neg (by omega), Jd h]; unfold dX; rw [Jd h]
theorem dX_at {m : List Int} {o : Op} (h : o.line.toNat < m.length) : (dX m o).getD o.line.toNat 0 = (Au (m.getD o.line.toNat 0) o).1 := by
 unfold dX; rw [List.getD_eq_getElem?_getD, List.getElem?_set_self h]; rfl
theorem E3 {v : Int} {o : Op} (h0 : 0 ≤ v ∧ v ≤ 255) (h2 : 0 ≤ o.value ∧ o.value ≤ 255) : (0 ≤ (Au v o).1 ∧ (Au v o).1 ≤ 255) ∧ (0 ≤ (Au v o).2 ∧ (Au v o).2 ≤ 255) := by
  unfold Au; split
  · exact ⟨h0, h0⟩
  split
  · exact ⟨h2, by simp only; omega⟩
  split
  · simp only; omega
  · exact ⟨h0, by simp only; omega⟩
theorem Jz {L : List Chunk} {R : List Fact} {w : World} {v : Int} {o : Op} (hs : St (L) R w) (hv : Am v) (hk : 1 ≤ o.kind ∧ o.kind ≤ 4) (hl : 0 ≤ o.line ∧ o.line < 1000) (hval : 0 ≤ o.value ∧ o.value ≤ 255) : Calls Try.prog 79 [vi v, .agg o.cells.toArray].toArray w (Ch (fun _ : Unit => .tuple #[vi (Au v o).1, vi (Au v o).2]) (fun _ => L) (fun _ => R)) := by
 refine Aj Try.func79 rfl Try.ntmps79 rfl hs ?_
 clear hs
 refine Gm ?_
 refine bx ?_; intro b3
 refine Gb2 ?_
 refine rn3 ?_
 refine Q3 (α := Int) (x0 := 0) (zc := [vi 0]) D9 rfl (by decide) rfl rfl rfl (fun j => ⟨rfl, by unfold Am; omega⟩) (by omega) (by omega) ?_; intro v13
 refine Gb1 ?_
 refine rn4 ?_
 refine ob (J1 Qt (h1 := by rw [List.length_replicate]; omega)) ?_
 refine El (xs := List.replicate (o.line + 1).toNat 0) Try.sizeOf3 rfl rfl pkk (getD_some 0 (by rw [List.length_replicate]; omega)) hv ?_
 refine Gl ?_
 refine JC.shut (xs := Hm v o) (v := v13) pkk ?_
 have hml := Jr (v := v) hl.1
 refine Aa ?_
 refine rn2 ?_
 refine Aq Try.call90 rfl (fun w hs => by have h := refDo (o := o) hs (List.Mem.head _); rw [Us hk hl.1 hval] at h; exact h) ?_; intro v22
 refine Ga7 ?_
 refine JC.open0 (xs := dX (Hm v o) o) (v := v22) o.line.toNat mm (by unfold dX; rw [List.length_set, hml]; omega) (fun hw => ?_)
 refine Aa ?_
 refine rn3 ?_
 refine ob (J1 Qt (len := (dX (Hm v o) o).length) (hl := Fd (.tail _ (.head _))) (h1 := by unfold dX; rw [List.length_set, hml]; omega)) ?_
 refine Ga4 ?_
 have e9 : (dX (Hm v o) o).getD o.line.toNat 0 = (Au v o).1 := by rw [dX_at (by rw [hml]; omega), Jd hl.1]
 refine Df () (hv := ?_)
 exact congrArg (fun z => Value.tuple #[vi z, vi (Au v o).2]) e9
end Go.Proofs.Ytofgpimoekhfaaa

/- This file proves plain facts of the home for what it hears. No conditions. -/
set_option linter.unusedVariables false
set_option linter.unusedSimpArgs false
set_option maxHeartbeats 1000000
set_option maxRecDepth 8000
namespace Go.Proofs.Ytofgpimoekhfaaa
open Go
theorem Ui : ∀ (s : _root_.Fin 16) (k : _root_.Fin 4), (s.val.testBit k.val = true → Ht (s.val : Int) (k.val : Int) = (s.val : Int) ∧ Hk (s.val : Int) (k.val : Int) = (s.val : Int) - ((2 ^ k.val : Nat) : Int)) ∧ (s.val.testBit k.val = false → Ht (s.val : Int) (k.val : Int) = (s.val : Int) + ((2 ^ k.val : Nat) : Int) ∧ Hk (s.val : Int) (k.val : Int) = (s.val : Int)) ∧ (0 ≤ Ht (s.val : Int) (k.val : Int) ∧ Ht (s.val : Int) (k.val : Int) < 16) ∧ (0 ≤ Hk (s.val : Int) (k.val : Int) ∧ Hk (s.val : Int) (k.val : Int) < 16) := by decide
theorem Cr {s k : Int} (h0 : 0 ≤ s) (h1 : s < 16) (h2 : 0 ≤ k) (h3 : k < 4) : (s.toNat.testBit k.toNat = true → Ht s k = s ∧ Hk s k = s - ((2 ^ k.toNat : Nat) : Int)) ∧ (s.toNat.testBit k.toNat = false → Ht s k = s + ((2 ^ k.toNat : Nat) : Int) ∧ Hk s k = s) ∧ (0 ≤ Ht s k ∧ Ht s k < 16) ∧ (0 ≤ Hk s k ∧ Hk s k < 16) := by
 obtain ⟨a, rfl⟩ := Int.eq_ofNat_of_zero_le h0
 obtain ⟨b, rfl⟩ := Int.eq_ofNat_of_zero_le h2
 exact Ui ⟨a, by omega⟩ ⟨b, by omega⟩
theorem En (e : Entry) : (A7 e).last = e.last := by
  unfold A7; split
  · rfl
  · split <;> rfl
theorem Dm {e : Entry} (h : EB e) : EB (A7 e) := by
  obtain ⟨h1, h2, h3, h4, h5, h6⟩ := h
  obtain ⟨_, _, _, r⟩ := Cr h2.1 h2.2 h4.1 h4.2
  unfold Entry.wf Am at h1
  unfold A7 EB Entry.wf Am
  split
  · simp only; omega
  split
  · simp only; omega
  · simp only; omega
theorem Qw {l : List Entry} {i : Int} (h : i.toNat < l.length) : l.set i.toNat (Ae l i) = l := by
 have : Ae l i = l[i.toNat] := by unfold Ae; simp [List.getD_eq_getElem?_getD, h]
 rw [this, List.set_getElem_self]
theorem Ep {L L' : List Chunk} {R : List Fact} {T : TypeId} {v : Value} {xs : List Int} {i : Nat} (hp : Pick L (row T v xs) L') (hi : i < xs.length) : Cw L R (ep v 1 i 0) [vi (xs.getD i 0)] := Sd hp (getD_some 0 hi)
theorem Dz {l : List Entry} {id : Int} {m : Msg} {X : Entry} {ms : List Msg} (h0 : ¬ (m.line < 0 ∨ (l.length : Int) ≤ m.line ∨ m.src < 0 ∨ ((Ae l m.line).last.length : Int) ≤ m.src)) (h : Bf (Ae l m.line) id m = (X, ms)) : Ao l id m = (l.set m.line.toNat X, ms) := by
 unfold Ao; rw [if_neg h0, h]
theorem Cj {l : List Entry} {id : Int} {m : Msg} (h0 : ¬ (m.line < 0 ∨ (l.length : Int) ≤ m.line ∨ m.src < 0 ∨ ((Ae l m.line).last.length : Int) ≤ m.src)) (h : Bf (Ae l m.line) id m = (Ae l m.line, [])) : Ao l id m = (l, []) := by
 rw [Dz h0 h, Qw (by omega)]
theorem Gt {P : Program} {n : Nat} {Q : Exit → Act → World → Prop} {L : List Chunk} {R : List Fact} {al : List (Nat × Value)} {c : Code} {v : Value} {l : List Entry} (i : Int) (hm : sl v l ∈ R) (h0 : 0 ≤ i) (hi : i < l.length) (k : (Ae l i).wf → ∀ u, JC P n c Q L (cF v 10 i.toNat (Entry.cells u (Ae l i)) :: sl u (Ae l i).last :: R) al) : JC P n c Q L R al := JC.open1 i.toNat hm (by omega) k
theorem Uj {s k : Int} (h0 : 0 ≤ s) (h1 : s < 16) (h2 : 0 ≤ k) (h3 : k < 4) (ht : s.toNat.testBit k.toNat = false) : 0 ≤ s + ((2 ^ k.toNat : Nat) : Int) ∧ s + ((2 ^ k.toNat : Nat) : Int) < 16 := by
 obtain ⟨_, b, c, _⟩ := Cr h0 h1 h2 h3
 rw [← (b ht).1]; exact c
theorem L7 {s k : Int} (h0 : 0 ≤ s) (h1 : s < 16) (h2 : 0 ≤ k) (h3 : k < 4) (ht : s.toNat.testBit k.toNat = true) : 0 ≤ s - ((2 ^ k.toNat : Nat) : Int) ∧ s - ((2 ^ k.toNat : Nat) : Int) < 16 := by
 obtain ⟨b, _, _, c⟩ := Cr h0 h1 h2 h3
 rw [← (b ht).2]; exact c
theorem Gx {L : List Chunk} {R : List Fact} {w : World} {v : Value} {xs : List Int} (hm : sl v xs ∈ R) (hs : St L R w) : ∀ x ∈ xs, Am x := by
 intro x hx
 obtain ⟨i, hi, rfl⟩ := List.getElem_of_mem hx
 obtain ⟨cs, m, hr⟩ := sl_rd hm (List.getElem?_eq_getElem hi) hs
 exact hr.2
end Go.Proofs.Ytofgpimoekhfaaa

/- This file proves that one line's protocol keeps what must hold, whatever message comes, or is lost. No conditions. -/
set_option linter.unusedVariables false
set_option linter.unusedSimpArgs false
namespace Go.Proofs.Ytofgpimoekhfaaa
namespace Abs
structure Ab where
 value : Int
 owner : Int
 phase : Int
 who : Int
 serial : Int
 alone : Int
 turn : Int
 last : Nat → Int
 sh : Nat → Int
 nd : Nat → Int
structure GI (n : Nat) (e : Ab) : Prop where
 own : -1 ≤ e.owner ∧ e.owner < n
 ph : 0 ≤ e.phase ∧ e.phase ≤ 3
 idle : e.phase = 0 → e.who = 0 ∧ e.serial = 0 ∧ e.alone = 0
 whor : e.phase ≠ 0 → 0 ≤ e.who ∧ e.who < n
 f1 : e.phase = 1 → 0 ≤ e.owner ∧ e.owner ≠ e.who
 f23 : 2 ≤ e.phase → e.owner = -1
 c2 : e.phase = 2 → e.alone = 1 ∧ ∃ p : Nat, p < n ∧ e.nd p = 1
 al : 0 ≤ e.alone ∧ e.alone ≤ 1
 tu : 0 ≤ e.turn ∧ e.turn ≤ 65535
 va : 0 ≤ e.value ∧ e.value ≤ 255
 se : 0 ≤ e.serial ∧ e.serial ≤ 65535
structure CI (e : Ab) (p : Nat) (l : Line) (V : Int) : Prop where
  st : 0 ≤ l.state ∧ l.state ≤ 3
  va : 0 ≤ l.value ∧ l.value ≤ 255
  wa : 0 ≤ l.want ∧ l.want ≤ 3
  se : 0 ≤ l.serial ∧ l.serial ≤ 65535
  ga : 0 ≤ l.gave ∧ l.gave ≤ l.seen ∧ l.seen ≤ e.turn
  gi : 0 ≤ l.given ∧ l.given ≤ 255
  la : 0 ≤ e.last p ∧ e.last p ≤ l.serial
  bits : 0 ≤ e.sh p ∧ e.sh p ≤ 1 ∧ 0 ≤ e.nd p ∧ e.nd p ≤ 1
  leav : l.state = 3 ↔ l.want = 3
  w1 : l.want = 1 → l.state = 0
  w2 : l.want = 2 → l.state ≤ 1
  taken : l.want = 1 ∨ l.want = 2 → e.last p = l.serial → e.phase ≠ 0 ∧ e.who = p
  back : l.want = 3 → e.last p = l.serial → e.owner ≠ p
  cur : e.phase ≠ 0 → e.who = p → e.serial = e.last p ∧
    ((l.serial = e.serial ∧ l.want = 1 + e.alone ∧ l.seen < e.turn) ∨
     ((l.serial ≠ e.serial ∨ l.want = 0) ∧ e.phase = 3 ∧ l.seen = e.turn ∧ (e.alone = 1 → 2 ≤ l.state) ∧ (e.alone = 0 → l.state ≤ 1)))
  own : e.owner = p → (2 ≤ l.state ∧ (e.phase = 1 → l.seen < e.turn)) ∨ (l.state < 2 ∧ e.phase = 1 ∧ l.gave = e.turn ∧ l.given = V ∧ (e.alone = 1 → l.state = 0))
  alo : l.state = 2 ∨ (l.state = 3 ∧ e.last p < l.serial) → (e.owner = p ∨ (e.phase = 3 ∧ e.who = p ∧ e.alone = 1)) ∧ l.value = V
  cop : l.state = 1 → (e.sh p = 1 ∨ e.owner = p ∨ (e.phase = 3 ∧ e.who = p ∧ l.seen = e.turn)) ∧ l.value = V
  shs : e.sh p = 1 → (l.state ≤ 1 ∨ (e.phase = 3 ∧ e.who = p ∧ e.alone = 1)) ∧ e.owner = -1
  ned : e.nd p = 1 → e.phase = 2 ∧ e.who ≠ p ∧ (l.seen = e.turn → l.state = 0)
  cle : e.phase = 2 → e.who ≠ p → e.nd p = e.sh p
  gra : e.phase = 3 → e.alone = 1 → e.who ≠ p → e.sh p = 0
  val : e.owner = -1 → (e.phase = 3 → e.alone = 1 → e.who = p ∧ l.seen < e.turn) → e.value = V
structure MI (e : Ab) (p : Nat) (l : Line) (m : Msg) : Prop where
 get : m.kind = 1 ∨ m.kind = 2 → m.serial ≤ l.serial ∧ (e.last p < m.serial → m.serial = l.serial ∧ l.want = m.kind)
 put : m.kind = 3 → m.serial ≤ l.serial ∧ (e.last p < m.serial → (m.serial = l.serial ∧ l.want = 3 ∧ m.value = l.value) ∨
  ((m.serial < l.serial ∨ l.want = 0) ∧ (e.owner ≠ p ∨ (e.phase = 1 ∧ l.gave = e.turn)) ∧ (e.phase = 0 ∨ e.who ≠ p)))
 inv : m.kind = 4 → m.turn ≤ e.turn ∧ (l.seen < m.turn → m.turn = e.turn ∧ e.phase = 2 ∧ e.nd p = 1)
 fet : m.kind = 5 ∨ m.kind = 6 → m.turn ≤ e.turn ∧ (l.seen < m.turn → m.turn = e.turn ∧ e.phase = 1 ∧ e.owner = p ∧ m.kind = 5 + e.alone)
 gra : m.kind = 7 → m.serial ≤ e.last p ∧ (m.serial = l.serial → l.want ≠ 0 → e.phase = 3 ∧ e.who = p ∧ m.turn = e.turn ∧ (m.alone = true ↔ e.alone = 1) ∧ m.value = e.value) ∧
  ((m.serial ≠ l.serial ∨ l.want = 0) → m.turn ≤ l.seen)
 gon : m.kind = 8 → m.turn ≤ l.seen
 dat : m.kind = 9 → m.turn ≤ l.seen ∧ (m.turn = e.turn → e.phase = 1 → e.owner = p → l.gave = e.turn ∧ m.value = l.given)
 tha : m.kind = 10 → m.turn ≤ l.seen
 tak : m.kind = 11 → m.serial ≤ e.last p
def upd {α : Type} (f : Nat → α) (p : Nat) (x : α) : Nat → α := fun q => if q = p then x else f q
end Abs
end Go.Proofs.Ytofgpimoekhfaaa

/- This file proves that each thing that may happen to one line keeps what must hold. No conditions. -/
set_option linter.unusedVariables false
set_option linter.unusedSimpArgs false
namespace Go.Proofs.Ytofgpimoekhfaaa
namespace Abs
set_option maxHeartbeats 2000000
section core
variable {n : Nat} {e : Ab} {p : Nat} {l : Line} {V : Int}
theorem Ue (hG : GI n e) (h : CI e p l V) (hw : l.want = 0) (hs : l.state ≠ 2) : CI e p { l with state := 0, value := 0 } V ∧ ∀ m, MI e p l m → MI e p { l with state := 0, value := 0 } m := by
  refine ⟨?_, fun m hm => ?_⟩
  · have al := hG.al; have f23 := hG.f23; have f1 := hG.f1; cases h; constructor <;> (try simp only) <;> grind
  · have al := hG.al; have f23 := hG.f23; have f1 := hG.f1; cases h; cases hm; constructor <;> (try simp only) <;> first | assumption | grind
theorem c_put (hG : GI n e) (h : CI e p l V) (hw : l.want = 0) (hs : l.state = 2) (hn : l.serial < 65535) : CI e p { l with state := 3, want := 3, serial := l.serial + 1 } V ∧ ∀ m, MI e p l m → MI e p { l with state := 3, want := 3, serial := l.serial + 1 } m := by
  refine ⟨?_, fun m hm => ?_⟩
  · have al := hG.al; have f23 := hG.f23; have f1 := hG.f1; cases h; constructor <;> (try simp only) <;> grind
  · have al := hG.al; have f23 := hG.f23; have f1 := hG.f1; cases h; cases hm; constructor <;> (try simp only) <;> first | assumption | grind
theorem c_ask {k : Int} (hG : GI n e) (h : CI e p l V) (hw : l.want = 0) (hk : k = 1 ∧ l.state = 0 ∨ k = 2 ∧ l.state ≤ 1) (hn : l.serial < 65535) : CI e p { l with want := k, serial := l.serial + 1 } V ∧ ∀ m, MI e p l m → MI e p { l with want := k, serial := l.serial + 1 } m := by
  rcases hk with ⟨rfl, hk⟩ | ⟨rfl, hk⟩ <;> refine ⟨?_, fun m hm => ?_⟩
  · have al := hG.al; have f23 := hG.f23; have f1 := hG.f1; cases h; constructor <;> (try simp only) <;> grind
  · have al := hG.al; have f23 := hG.f23; have f1 := hG.f1; cases h; cases hm; constructor <;> (try simp only) <;> first | assumption | grind
  · have al := hG.al; have f23 := hG.f23; have f1 := hG.f1; cases h; constructor <;> (try simp only) <;> grind
  · have al := hG.al; have f23 := hG.f23; have f1 := hG.f1; cases h; cases hm; constructor <;> (try simp only) <;> first | assumption | grind
theorem Xg {v : Int} (hG : GI n e) (h : CI e p l V) (hs : l.state = 2) (hv : 0 ≤ v ∧ v ≤ 255) : CI e p { l with value := v } v ∧ ∀ m, MI e p l m → MI e p { l with value := v } m := by
  refine ⟨?_, fun m hm => ?_⟩
  · have al := hG.al; have f23 := hG.f23; have f1 := hG.f1; cases h; constructor <;> (try simp only) <;> grind
  · have al := hG.al; have f23 := hG.f23; have f1 := hG.f1; cases h; cases hm; constructor <;> (try simp only) <;> first | assumption | grind
theorem Ud {q : Nat} {k : Line} {v : Int} (hG : GI n e) (h : CI e p l V) (hs : 2 ≤ l.state) (hl : l.state = 3 → e.last p < l.serial) (hq : q ≠ p) (hk : CI e q k V) : CI e q k v := by
  have ho : (e.owner = p ∨ (e.phase = 3 ∧ e.who = p ∧ e.alone = 1)) ∧ l.value = V := h.alo (by have := h.st; omega)
  have h1 := hk.own; have h2 := hk.alo; have h3 := hk.cop; have h4 := hk.val
  have h5 := h.own; have h6 := h.cur; have g1 := hG.f23; have g2 := hk.shs; have g3 := hk.gra; have g4 := hk.bits
  have g5 := hk.ga
  refine ⟨hk.st, hk.va, hk.wa, hk.se, hk.ga, hk.gi, hk.la, hk.bits, hk.leav, hk.w1, hk.w2, hk.taken, hk.back, hk.cur, ?_, ?_, ?_, hk.shs, hk.ned, hk.cle, hk.gra, ?_⟩
  · clear h2 h3 h4; grind
  · clear h1 h3 h4; grind
  · clear h1 h2 h4; grind
  · clear h1 h2 h3; grind
theorem c_inv {m : Msg} (hG : GI n e) (h : CI e p l V) (hm : MI e p l m) (hk : m.kind = 4) : CI e p (Bh l m.turn) V ∧ ∀ m', MI e p l m' → MI e p (Bh l m.turn) m' := by
  unfold Bh
  have := hm.inv hk
  split
  · split
    · refine ⟨?_, fun m' hm' => ?_⟩
      · have al := hG.al; have f23 := hG.f23; have f1 := hG.f1; cases h; constructor <;> (try simp only) <;> grind
      · have al := hG.al; have f23 := hG.f23; have f1 := hG.f1; cases h; cases hm'; constructor <;> (try simp only) <;> first | assumption | grind
    · refine ⟨?_, fun m' hm' => ?_⟩
      · have al := hG.al; have f23 := hG.f23; have f1 := hG.f1; cases h; constructor <;> (try simp only) <;> grind
      · have al := hG.al; have f23 := hG.f23; have f1 := hG.f1; cases h; cases hm'; constructor <;> (try simp only) <;> first | assumption | grind
  · exact ⟨h, fun _ h => h⟩
theorem Xj {m : Msg} (hG : GI n e) (h : CI e p l V) (hm : MI e p l m) (hk : m.kind = 5 ∨ m.kind = 6) (hf : Cq l m.turn) :
    CI e p (Bq l m.kind m.turn) V ∧ (∀ m', MI e p l m' → MI e p (Bq l m.kind m.turn) m') ∧ l.value = V ∧ ∀ m' : Msg, m'.kind = 9 → m'.turn = m.turn → m'.value = l.value → MI e p (Bq l m.kind m.turn) m' := by
  obtain ⟨hf1, hf2, hf3⟩ := hf
  obtain ⟨g0, g1, g2, g3⟩ := (hm.fet hk).2 hf2
  have hown := hG.f1 g1
  have how : e.who ≠ p := by rw [← g2]; exact fun h => hown.2 h.symm
  have hse := h.ga
  have hl0 : l.want = 3 → e.last p < l.serial := by intro hw; have := h.back hw; have := h.la; grind
  have hv : l.value = V := (h.alo (by have := h.leav; have := h.st; grind)).2
  have h2 := h.own g2
  have hwant : l.want = 0 ∨ l.want = 3 := by have := h.wa; have := h.w1; have := h.w2; grind
  have hsh : e.sh p = 0 := by have := h.shs; have := h.bits; grind
  have hnd : e.nd p = 0 := by have := h.ned; have := h.bits; grind
  have hal := hG.al
  have hmt : m.turn = e.turn := g0
  rw [hmt]
  unfold Bq
  have key : ∀ (st va wa : Int), (st = 0 ∨ st = 1 ∧ e.alone = 0) → wa = 0 → 0 ≤ va ∧ va ≤ 255 → (st = 1 → va = l.value) →
      CI e p ⟨st, va, wa, l.serial, e.turn, e.turn, l.value⟩ V ∧ (∀ m', MI e p l m' → MI e p ⟨st, va, wa, l.serial, e.turn, e.turn, l.value⟩ m') ∧ ∀ m' : Msg, m'.kind = 9 → m'.turn = e.turn → m'.value = l.value → MI e p ⟨st, va, wa, l.serial, e.turn, e.turn, l.value⟩ m' := by
    intro st va wa h1 h2 h3 h4
    refine ⟨?_, fun m' hm' => ?_, fun m' k1 k2 k3 => ?_⟩
    · have k1 := h.se; have k2 := h.la; have k3 := h.va; have k4 := hG.tu; have k5 := h.bits
      constructor <;> (try simp only) <;> grind
    · have k1 := hm'.get; have k2 := hm'.put; have k3 := hm'.inv; have k4 := hm'.fet; have k5 := hm'.gra; have k6 := hm'.gon; have k7 := hm'.dat; have k8 := hm'.tha; have k9 := hm'.tak
      constructor <;> (try simp only)
      · clear k2 k3 k4 k5 k6 k7 k8 k9; grind
      · clear k1 k3 k4 k5 k6 k7 k8 k9; grind
      · clear k1 k2 k4 k5 k6 k7 k8 k9; grind
      · clear k1 k2 k3 k5 k6 k7 k8 k9; grind
      · clear k1 k2 k3 k4 k6 k7 k8 k9; grind
      · clear k1 k2 k3 k4 k5 k7 k8 k9; grind
      · clear k1 k2 k3 k4 k5 k6 k8 k9; grind
      · clear k1 k2 k3 k4 k5 k6 k7 k9; grind
      · clear k1 k2 k3 k4 k5 k6 k7 k8; grind
    · constructor <;> (try simp only) <;> grind
  split
  · obtain ⟨c1, c2, c3⟩ := key 0 0 0 (.inl rfl) rfl (by omega) (by omega)
    exact ⟨c1, c2, hv, c3⟩
  · rename_i hw
    have hw0 : l.want = 0 := by omega
    split
    · obtain ⟨c1, c2, c3⟩ := key 0 0 l.want (.inl rfl) hw0 (by omega) (by omega)
      exact ⟨c1, c2, hv, c3⟩
    · obtain ⟨c1, c2, c3⟩ := key 1 l.value l.want (.inr ⟨rfl, by omega⟩) hw0 h.va (fun _ => rfl)
      exact ⟨c1, c2, hv, c3⟩
theorem Xh {m : Msg} (hG : GI n e) (h : CI e p l V) (hm : MI e p l m) (hk : m.kind = 11) (hw : l.want = 3) (hs : m.serial = l.serial) :
    CI e p { l with state := 0, value := 0, want := 0 } V ∧ ∀ m', MI e p l m' → MI e p { l with state := 0, value := 0, want := 0 } m' := by
  have h1 := hm.tak hk
  refine ⟨?_, fun m' hm' => ?_⟩
  · have al := hG.al; have f23 := hG.f23; have f1 := hG.f1; cases h; constructor <;> (try simp only) <;> grind
  · have al := hG.al; have f23 := hG.f23; have f1 := hG.f1; cases h; cases hm'; constructor <;> (try simp only) <;> first | assumption | grind
theorem Xi {m : Msg} {v : Int} (hG : GI n e) (h : CI e p l V) (hm : MI e p l m) (hk : m.kind = 7) (ha : Er l m) (hv : 0 ≤ v ∧ v ≤ 255) (hsame : m.alone = false → v = m.value) :
    CI e p { l with state := if m.alone then 2 else 1, value := v, want := 0, seen := m.turn } v ∧ (∀ m', MI e p l m' → MI e p { l with state := if m.alone then 2 else 1, value := v, want := 0, seen := m.turn } m') ∧
    m.value = V ∧ (∀ (q : Nat) (k : Line), q ≠ p → CI e q k V → CI e q k v) ∧ ∀ m' : Msg, m'.kind = 10 → m'.turn = m.turn → MI e p { l with state := if m.alone then 2 else 1, value := v, want := 0, seen := m.turn } m' := by
  obtain ⟨ha1, ha2⟩ := ha
  have hne : l.want ≠ 0 := by omega
  obtain ⟨g1, g2, g3, g4, g5⟩ := (hm.gra hk).2.1 ha1 hne
  have hcur := h.cur (by omega) g2
  have hown := hG.f23 (by omega)
  have hst : l.state ≤ 1 := by have := h.w1; have := h.w2; grind
  have hse : e.last p = l.serial := by have := h.la; have := (hm.gra hk).1; omega
  have hse' : l.serial = e.serial := by have := hcur.1; omega
  have hseen : l.seen < e.turn := by have := hcur.2; grind
  have hal := hG.al
  have hV : e.value = V := h.val hown (fun _ _ => ⟨g2, hseen⟩)
  have hwa : l.want = 1 + e.alone := by have := hcur.2; grind
  have halone : m.alone = true ∧ e.alone = 1 ∨ m.alone = false ∧ e.alone = 0 := by
    cases h' : m.alone with
    | true => exact .inl ⟨rfl, g4.1 h'⟩
    | false => right; refine ⟨rfl, ?_⟩; have : ¬ e.alone = 1 := fun h1 => by have := g4.2 h1; rw [h'] at this; cases this
               omega
  have hvV : e.alone = 0 → v = V := by intro h0; rw [hsame (halone.elim (fun h' => by omega) (fun h' => h'.1)), g5, hV]
  have hnd : e.nd p = 0 := by have := h.ned; have := h.bits; grind
  have key : ∀ st : Int, st = 1 + e.alone → CI e p ⟨st, v, 0, l.serial, m.turn, l.gave, l.given⟩ v ∧ (∀ m', MI e p l m' → MI e p ⟨st, v, 0, l.serial, m.turn, l.gave, l.given⟩ m') ∧ ∀ m' : Msg, m'.kind = 10 → m'.turn = m.turn → MI e p ⟨st, v, 0, l.serial, m.turn, l.gave, l.given⟩ m' := by
    intro st h1
    refine ⟨?_, fun m' hm' => ?_, fun m' k1 k2 => ?_⟩
    · have k1 := h.se; have k2 := h.la; have k3 := h.va; have k4 := hG.tu; have k5 := h.bits; have k6 := h.gi; have k7 := h.ga; have k8 := h.gra; have k9 := h.shs
      have k10 := hcur.1; have k11 := h.cop; have k12 := h.alo
      constructor <;> (try simp only) <;> grind
    · have k1 := hm'.get; have k2 := hm'.put; have k3 := hm'.inv; have k4 := hm'.fet; have k5 := hm'.gra; have k6 := hm'.gon; have k7 := hm'.dat; have k8 := hm'.tha; have k9 := hm'.tak
      constructor <;> (try simp only)
      · clear k2 k3 k4 k5 k6 k7 k8 k9; grind
      · clear k1 k3 k4 k5 k6 k7 k8 k9; grind
      · clear k1 k2 k4 k5 k6 k7 k8 k9; grind
      · clear k1 k2 k3 k5 k6 k7 k8 k9; grind
      · clear k1 k2 k3 k4 k6 k7 k8 k9; grind
      · clear k1 k2 k3 k4 k5 k7 k8 k9; grind
      · clear k1 k2 k3 k4 k5 k6 k8 k9; grind
      · clear k1 k2 k3 k4 k5 k6 k7 k9; grind
      · clear k1 k2 k3 k4 k5 k6 k7 k8; grind
    · constructor <;> (try simp only) <;> grind
  have hst2 : (if m.alone = true then (2 : Int) else 1) = 1 + e.alone := by rcases halone with h | h <;> rw [h.1, h.2] <;> rfl
  obtain ⟨c1, c2, c3⟩ := key _ hst2
  refine ⟨c1, c2, by rw [g5, hV], fun q k hq hk' => ?_, c3⟩
  have h1 := hk'.own; have h2 := hk'.alo; have h3 := hk'.cop; have h4 := hk'.val; have h5 := hk'.gra; have h6 := hk'.bits
  refine ⟨hk'.st, hk'.va, hk'.wa, hk'.se, hk'.ga, hk'.gi, hk'.la, hk'.bits, hk'.leav, hk'.w1, hk'.w2, hk'.taken, hk'.back, hk'.cur, ?_, ?_, ?_, hk'.shs, hk'.ned, hk'.cle, hk'.gra, ?_⟩
  · clear h2 h3 h4; grind
  · clear h1 h3 h4; grind
  · clear h1 h2 h4; grind
  · clear h1 h2 h3; grind
end core
end Abs
end Go.Proofs.Ytofgpimoekhfaaa

/- This file proves that each thing that may happen to the home's line keeps what must hold. No conditions. -/
set_option linter.unusedVariables false
set_option linter.unusedSimpArgs false
namespace Go.Proofs.Ytofgpimoekhfaaa
namespace Abs
set_option maxHeartbeats 2000000
section home
variable {n : Nat} {e e' : Ab} {L : Nat → Line} {V : Int}
theorem Vw {m : Msg} {p : Nat} (hG : GI n e) (hC : ∀ q, q < n → CI e q (L q) V) (hp : p < n) (hM : MI e p (L p) m) (hk : m.kind = 1 ∨ m.kind = 2) (hms : 0 ≤ m.serial ∧ m.serial ≤ 65535) (h0 : e.phase = 0) (hs : e.last p < m.serial) (ht : e.turn < 65535)
    (f1 : e'.value = e.value) (f2 : e'.owner = e.owner) (f3 : e'.sh = e.sh) (f4 : e'.who = p) (f5 : e'.serial = m.serial) (f6 : e'.alone = m.kind - 1) (f7 : e'.turn = e.turn + 1) (f8 : e'.last = upd e.last p m.serial)
    (f9 : (0 ≤ e.owner ∧ e'.phase = 1 ∧ ∀ q, e'.nd q = 0) ∨ (e.owner < 0 ∧ m.kind = 2 ∧ e'.phase = 2 ∧ (∃ q : Nat, q < n ∧ e'.nd q = 1) ∧ (∀ q : Nat, e'.nd q = if q = p then 0 else e.sh q)) ∨
      (e.owner < 0 ∧ e'.phase = 3 ∧ (∀ q, e'.nd q = 0) ∧ (m.kind = 2 → ∀ q : Nat, q < n → q ≠ p → e.sh q = 0))) :
    GI n e' ∧ (∀ q, q < n → CI e' q (L q) V) ∧ ∀ q, q < n → ∀ m', MI e q (L q) m' → MI e' q (L q) m' := by
  have h1 := (hM.get hk).2 hs
  have hCp := hC p hp
  have hst : (L p).state ≤ 1 := by have := hCp.w1; have := hCp.w2; grind
  have hnow : e.owner ≠ p := by have := hCp.own; grind
  have how := hG.own
  have hval : e.owner < 0 → e.value = V := by intro h; exact hCp.val (by omega) (by omega)
  have hph : (0 ≤ e.owner ∧ e'.phase = 1) ∨ (e.owner < 0 ∧ m.kind = 2 ∧ e'.phase = 2) ∨ (e.owner < 0 ∧ e'.phase = 3) := by
    rcases f9 with ⟨g1, g2, _⟩ | ⟨g1, g2, g3, _⟩ | ⟨g1, g2, _⟩
    · exact .inl ⟨g1, g2⟩
    · exact .inr (.inl ⟨g1, g2, g3⟩)
    · exact .inr (.inr ⟨g1, g2⟩)
  have hc2 : e'.phase = 2 → ∃ q : Nat, q < n ∧ e'.nd q = 1 := by
    intro h2
    rcases f9 with ⟨g1, g2, _⟩ | ⟨g1, g2, g3, g4, _⟩ | ⟨g1, g2, _⟩
    · omega
    · exact g4
    · omega
  have hnp : e'.nd p = 0 := by
    rcases f9 with ⟨_, _, g⟩ | ⟨_, _, _, _, g⟩ | ⟨_, _, g, _⟩
    · exact g p
    · rw [g p, if_pos rfl]
    · exact g p
  have hnq : ∀ q : Nat, q < n → q ≠ p → (e'.phase = 2 → e'.nd q = e.sh q) ∧ (e'.phase ≠ 2 → e'.nd q = 0) ∧ (e'.phase = 3 → m.kind = 2 → e.sh q = 0) := by
    intro q hq hqp
    rcases f9 with ⟨_, g1, g⟩ | ⟨_, _, g1, _, g⟩ | ⟨_, g1, g, g'⟩
    · exact ⟨by omega, fun _ => g q, by omega⟩
    · exact ⟨fun _ => by rw [g q, if_neg hqp], by omega, by omega⟩
    · exact ⟨by omega, fun _ => g q, fun _ hk => g' hk q hq hqp⟩
  have hlp : e'.last p = m.serial := by rw [f8]; simp [upd]
  have hlq : ∀ q, q ≠ p → e'.last q = e.last q := fun q hqp => by rw [f8]; simp [upd, hqp]
  clear f8 f9
  refine ⟨?_, fun q hq => ?_, fun q hq m' hm' => ?_⟩
  · constructor
    · have g0 := hG.own; have g1 := hG.own; grind
    · have g0 := hG.own; have g1 := hG.ph; grind
    · have g0 := hG.own; have g1 := hG.idle; grind
    · intro _; rw [f4]; clear hc2; omega
    · have g0 := hG.own; have g1 := hG.f1; grind
    · have g0 := hG.own; have g1 := hG.f23; grind
    · intro h2; exact ⟨by clear hc2; grind, hc2 h2⟩
    · have g0 := hG.own; have g1 := hG.al; grind
    · have g0 := hG.own; have g1 := hG.tu; grind
    · have g0 := hG.own; have g1 := hG.va; grind
    · have g0 := hG.own; have g1 := hG.se; grind
  · have hCq := hC q hq
    have hsh : e'.sh q = e.sh q := by rw [f3]
    clear f3 hc2
    by_cases hqp : q = p
    · subst hqp
      clear hnq hlq
      have w0 := hCp.wa
      constructor
      · exact hCp.st
      · exact hCp.va
      · exact hCp.wa
      · exact hCp.se
      · have c0 := hCp.ga; grind
      · exact hCp.gi
      · have c0 := hCp.la; grind
      · have c0 := hCp.bits; grind
      · exact hCp.leav
      · exact hCp.w1
      · exact hCp.w2
      · have c0 := hCp.taken; grind
      · have c0 := hCp.back; have c1 := hCp.wa; grind
      · have c0 := hCp.cur; have c1 := hCp.ga; grind
      · have c0 := hCp.own; have c1 := hCp.st; grind
      · have c0 := hCp.alo; have c1 := hCp.leav; grind
      · have c0 := hCp.cop; grind
      · have c0 := hCp.shs; grind
      · have c0 := hCp.ned; have c1 := hCp.ga; grind
      · have c0 := hCp.cle; grind
      · have c0 := hCp.gra; grind
      · have c0 := hCp.val; have c1 := hCp.ga; grind
    · have hn2 := hnq q hq hqp
      have hl2 := hlq q hqp
      clear hnq hlq hlp hnp hCp
      constructor
      · exact hCq.st
      · exact hCq.va
      · exact hCq.wa
      · exact hCq.se
      · have c0 := hCq.ga; grind
      · exact hCq.gi
      · have c0 := hCq.la; grind
      · have c0 := hCq.bits; have c1 := hCq.bits; grind
      · exact hCq.leav
      · exact hCq.w1
      · exact hCq.w2
      · have c0 := hCq.taken; grind
      · have c0 := hCq.back; grind
      · have c0 := hCq.cur; grind
      · have c0 := hCq.own; have c1 := hCq.ga; grind
      · have c0 := hCq.alo; grind
      · have c0 := hCq.cop; grind
      · have c0 := hCq.shs; grind
      · have c0 := hCq.ned; have c1 := hCq.ga; have c2 := hCq.bits; grind
      · have c0 := hCq.cle; grind
      · have c0 := hCq.gra; grind
      · have c0 := hCq.val; grind
  · have hCq := hC q hq
    clear hc2 f3
    by_cases hqp : q = p
    · subst hqp
      clear hnq hlq
      constructor
      · have k0 := hm'.get; grind
      · have k0 := hm'.put; have c0 := hCq.own; grind
      · have k0 := hm'.inv; have c0 := hCq.ga; grind
      · have k0 := hm'.fet; have c0 := hCq.ga; grind
      · have k0 := hm'.gra; have c0 := hCq.taken; have c1 := hCq.la; have c2 := hCq.wa; grind
      · have k0 := hm'.gon; grind
      · have k0 := hm'.dat; have c0 := hCq.ga; grind
      · have k0 := hm'.tha; grind
      · have k0 := hm'.tak; grind
    · have hn2 := hnq q hq hqp
      have hl2 := hlq q hqp
      clear hnq hlq hlp hnp hCp
      constructor
      · have k0 := hm'.get; grind
      · have k0 := hm'.put; have c0 := hCq.own; grind
      · have k0 := hm'.inv; have c0 := hCq.ga; grind
      · have k0 := hm'.fet; have c0 := hCq.ga; grind
      · have k0 := hm'.gra; have c0 := hCq.taken; have c1 := hCq.la; have c2 := hCq.wa; grind
      · have k0 := hm'.gon; grind
      · have k0 := hm'.dat; have c0 := hCq.ga; grind
      · have k0 := hm'.tha; grind
      · have k0 := hm'.tak; grind
theorem h_put {m : Msg} {p : Nat} (hG : GI n e) (hC : ∀ q, q < n → CI e q (L q) V) (hp : p < n) (hM : MI e p (L p) m) (hk : m.kind = 3) (hmv : 0 ≤ m.value ∧ m.value ≤ 255) (h0 : e.phase = 0) (hs : e.last p < m.serial)
    (f3 : e'.sh = e.sh) (f4 : e'.who = e.who) (f5 : e'.serial = e.serial) (f6 : e'.alone = e.alone) (f7 : e'.turn = e.turn) (f8 : e'.last = upd e.last p m.serial) (f9 : e'.phase = e.phase) (f10 : e'.nd = e.nd)
    (f1 : (e.owner = p ∧ e'.owner = -1 ∧ e'.value = m.value) ∨ (e.owner ≠ p ∧ e'.owner = e.owner ∧ e'.value = e.value)) :
    GI n e' ∧ (∀ q, q < n → CI e' q (L q) V) ∧ ∀ q, q < n → ∀ m', MI e q (L q) m' → MI e' q (L q) m' := by
  have h1 := (hM.put hk).2 hs
  have h2 := (hM.put hk).1
  have hCp := hC p hp
  have how := hG.own
  have hA : e.owner = p → (L p).state = 3 ∧ (L p).want = 3 ∧ m.serial = (L p).serial ∧ m.value = V := by
    intro ho
    have hc : m.serial = (L p).serial ∧ (L p).want = 3 ∧ m.value = (L p).value := by grind
    have h3 := hCp.leav.2 hc.2.1
    exact ⟨h3, hc.2.1, hc.1, by rw [hc.2.2]; exact (hCp.alo (.inr ⟨h3, by omega⟩)).2⟩
  have hB : e.owner ≠ p → m.serial < (L p).serial ∨ (L p).want = 0 := by
    intro ho
    rcases h1 with h1 | h1
    · exfalso
      have h3 := hCp.leav.2 h1.2.1
      have := (hCp.alo (.inr ⟨h3, by omega⟩)).1
      grind
    · exact h1.1
  have hlp : e'.last p = m.serial := by rw [f8]; simp [upd]
  have hlq : ∀ q, q ≠ p → e'.last q = e.last q := fun q hqp => by rw [f8]; simp [upd, hqp]
  clear f8
  refine ⟨?_, fun q hq => ?_, fun q hq m' hm' => ?_⟩
  · constructor
    · have g0 := hG.own; have g1 := hG.own; grind
    · have g0 := hG.own; have g1 := hG.ph; grind
    · have g0 := hG.own; have g1 := hG.idle; grind
    · have g0 := hG.own; have g1 := hG.whor; grind
    · have g0 := hG.own; have g1 := hG.f1; grind
    · have g0 := hG.own; have g1 := hG.f23; grind
    · intro h2; omega
    · have g0 := hG.own; have g1 := hG.al; grind
    · have g0 := hG.own; have g1 := hG.tu; grind
    · have g0 := hG.own; have g1 := hG.va; grind
    · have g0 := hG.own; have g1 := hG.se; grind
  · have hCq := hC q hq
    have hsh : e'.sh q = e.sh q := by rw [f3]
    have hnd : e'.nd q = e.nd q := by rw [f10]
    clear f3 f10
    by_cases hqp : q = p
    · subst hqp
      clear hlq
      have l0 := hCp.leav
      have a0 := hCp.la
      constructor
      · exact hCp.st
      · exact hCp.va
      · exact hCp.wa
      · exact hCp.se
      · have c0 := hCp.ga; grind
      · exact hCp.gi
      · have c0 := hCp.la; grind
      · have c0 := hCp.bits; grind
      · exact hCp.leav
      · exact hCp.w1
      · exact hCp.w2
      · have c0 := hCp.taken; have c1 := hCp.wa; grind
      · have c0 := hCp.back; grind
      · have c0 := hCp.cur; grind
      · have c0 := hCp.own; have c1 := hCp.st; grind
      · have c0 := hCp.alo; grind
      · have c0 := hCp.cop; have c1 := hCp.cop; grind
      · have c0 := hCp.shs; have c1 := hCp.st; grind
      · have c0 := hCp.ned; grind
      · have c0 := hCp.cle; grind
      · have c0 := hCp.gra; grind
      · have c0 := hCp.val; have c1 := hCp.val; grind
    · have hl2 := hlq q hqp
      clear hlq hlp hCp
      constructor
      · exact hCq.st
      · exact hCq.va
      · exact hCq.wa
      · exact hCq.se
      · have c0 := hCq.ga; grind
      · exact hCq.gi
      · have c0 := hCq.la; grind
      · have c0 := hCq.bits; grind
      · exact hCq.leav
      · exact hCq.w1
      · exact hCq.w2
      · have c0 := hCq.taken; grind
      · have c0 := hCq.back; grind
      · have c0 := hCq.cur; grind
      · have c0 := hCq.own; grind
      · have c0 := hCq.alo; grind
      · have c0 := hCq.cop; grind
      · have c0 := hCq.shs; grind
      · have c0 := hCq.ned; grind
      · have c0 := hCq.cle; grind
      · have c0 := hCq.gra; grind
      · have c0 := hCq.val; grind
  · have hCq := hC q hq
    have hnd : e'.nd q = e.nd q := by rw [f10]
    clear f3 f10
    by_cases hqp : q = p
    · subst hqp
      clear hlq
      constructor
      · have k0 := hm'.get; grind
      · have k0 := hm'.put; grind
      · have k0 := hm'.inv; grind
      · have k0 := hm'.fet; grind
      · have k0 := hm'.gra; have c0 := hCq.taken; have c1 := hCq.la; have c2 := hCq.wa; grind
      · have k0 := hm'.gon; grind
      · have k0 := hm'.dat; grind
      · have k0 := hm'.tha; grind
      · have k0 := hm'.tak; grind
    · have hl2 := hlq q hqp
      clear hlq hlp hCp
      constructor
      · have k0 := hm'.get; grind
      · have k0 := hm'.put; grind
      · have k0 := hm'.inv; grind
      · have k0 := hm'.fet; grind
      · have k0 := hm'.gra; have c0 := hCq.taken; have c1 := hCq.la; have c2 := hCq.wa; grind
      · have k0 := hm'.gon; grind
      · have k0 := hm'.dat; grind
      · have k0 := hm'.tha; grind
      · have k0 := hm'.tak; grind
theorem h_data {m : Msg} {p : Nat} (hG : GI n e) (hC : ∀ q, q < n → CI e q (L q) V) (hp : p < n) (hM : MI e p (L p) m) (hk : m.kind = 9) (hmv : 0 ≤ m.value ∧ m.value ≤ 255) (h0 : e.phase = 1) (ht : m.turn = e.turn) (ho : e.owner = p)
    (f1 : e'.value = m.value) (f2 : e'.owner = -1) (f3 : ∀ q : Nat, e'.sh q = if q = p ∧ e.alone = 0 then 1 else e.sh q) (f4 : e'.who = e.who) (f5 : e'.serial = e.serial) (f6 : e'.alone = e.alone) (f7 : e'.turn = e.turn) (f8 : e'.last = e.last) (f9 : e'.phase = 3) (f10 : ∀ q, e'.nd q = 0) :
    GI n e' ∧ (∀ q, q < n → CI e' q (L q) V) ∧ ∀ q, q < n → ∀ m', MI e q (L q) m' → MI e' q (L q) m' := by
  have h1 := (hM.dat hk).2 ht h0 ho
  have hCp := hC p hp
  have hga := hCp.ga
  have hown := hCp.own ho
  have hmV : m.value = V ∧ (L p).state < 2 ∧ (L p).seen = e.turn ∧ (e.alone = 1 → (L p).state = 0) := by grind
  have hf := hG.f1 h0
  have hwp : e.who ≠ p := by rw [← ho]; exact fun h => hf.2 h.symm
  have hw0 : (L p).want ≠ 3 := by have := hCp.leav; have := hCp.st; grind
  have hal := hG.al
  have hsp : (e.alone = 0 → e'.sh p = 1) ∧ (e.alone ≠ 0 → e'.sh p = e.sh p) := by have := f3 p; grind
  have hsq : ∀ q, q ≠ p → e'.sh q = e.sh q := by intro q hq; have := f3 q; grind
  clear f3
  refine ⟨?_, fun q hq => ?_, fun q hq m' hm' => ?_⟩
  · constructor
    · have g0 := hG.own; have g1 := hG.own; grind
    · have g0 := hG.own; have g1 := hG.ph; grind
    · have g0 := hG.own; have g1 := hG.idle; grind
    · have g0 := hG.own; have g1 := hG.whor; grind
    · have g0 := hG.own; have g1 := hG.f1; grind
    · have g0 := hG.own; have g1 := hG.f23; grind
    · intro h2; omega
    · have g0 := hG.own; have g1 := hG.al; grind
    · have g0 := hG.own; have g1 := hG.tu; grind
    · have g0 := hG.own; have g1 := hG.va; grind
    · have g0 := hG.own; have g1 := hG.se; grind
  · have hCq := hC q hq
    have hl : e'.last q = e.last q := by rw [f8]
    have hnd := f10 q
    have b0 := hCq.bits
    have s0 := hCq.shs
    clear f10 f8
    by_cases hqp : q = p
    · subst hqp
      clear hsq
      constructor
      · exact hCp.st
      · exact hCp.va
      · exact hCp.wa
      · exact hCp.se
      · have c0 := hCp.ga; grind
      · exact hCp.gi
      · have c0 := hCp.la; grind
      · have c0 := hCp.bits; grind
      · exact hCp.leav
      · exact hCp.w1
      · exact hCp.w2
      · have c0 := hCp.taken; grind
      · have c0 := hCp.back; grind
      · have c0 := hCp.cur; have c1 := hCp.cur; grind
      · have c0 := hCp.own; grind
      · have c0 := hCp.alo; have c1 := hCp.st; have c2 := hCp.leav; grind
      · have c0 := hCp.cop; grind
      · have c0 := hCp.shs; grind
      · have c0 := hCp.ned; grind
      · have c0 := hCp.cle; grind
      · have c0 := hCp.gra; grind
      · have c0 := hCp.val; grind
    · have hs2 := hsq q hqp
      clear hsq hsp hCp
      constructor
      · exact hCq.st
      · exact hCq.va
      · exact hCq.wa
      · exact hCq.se
      · have c0 := hCq.ga; grind
      · exact hCq.gi
      · have c0 := hCq.la; grind
      · have c0 := hCq.bits; grind
      · exact hCq.leav
      · exact hCq.w1
      · exact hCq.w2
      · have c0 := hCq.taken; have c1 := hCq.taken; grind
      · have c0 := hCq.back; grind
      · have c0 := hCq.cur; have c1 := hCq.cur; grind
      · have c0 := hCq.own; grind
      · have c0 := hCq.alo; have c1 := hCq.alo; grind
      · have c0 := hCq.cop; grind
      · have c0 := hCq.shs; grind
      · have c0 := hCq.ned; grind
      · have c0 := hCq.cle; grind
      · have c0 := hCq.gra; have c1 := hCq.gra; grind
      · have c0 := hCq.val; grind
  · have hCq := hC q hq
    have hl : e'.last q = e.last q := by rw [f8]
    have hnd := f10 q
    clear f10 f8
    by_cases hqp : q = p
    · subst hqp
      constructor
      · have k0 := hm'.get; grind
      · have k0 := hm'.put; have c0 := hCq.st; grind
      · have k0 := hm'.inv; grind
      · have k0 := hm'.fet; grind
      · have k0 := hm'.gra; have c0 := hCq.taken; have c1 := hCq.cur; grind
      · have k0 := hm'.gon; grind
      · have k0 := hm'.dat; grind
      · have k0 := hm'.tha; grind
      · have k0 := hm'.tak; grind
    · clear hCp
      constructor
      · have k0 := hm'.get; grind
      · have k0 := hm'.put; have c0 := hCq.st; grind
      · have k0 := hm'.inv; grind
      · have k0 := hm'.fet; grind
      · have k0 := hm'.gra; have c0 := hCq.taken; have c1 := hCq.cur; have c2 := hCq.wa; grind
      · have k0 := hm'.gon; grind
      · have k0 := hm'.dat; grind
      · have k0 := hm'.tha; grind
      · have k0 := hm'.tak; grind
theorem Uw {m : Msg} {p : Nat} (hG : GI n e) (hC : ∀ q, q < n → CI e q (L q) V) (hp : p < n) (hM : MI e p (L p) m) (hk : m.kind = 8) (h0 : e.phase = 2) (ht : m.turn = e.turn) (ho : e.nd p = 1)
    (f1 : e'.value = e.value) (f2 : e'.owner = e.owner) (f3 : e'.sh = upd e.sh p 0) (f4 : e'.who = e.who) (f5 : e'.serial = e.serial) (f6 : e'.alone = e.alone) (f7 : e'.turn = e.turn) (f8 : e'.last = e.last)
    (f9 : (e'.phase = 2 ∧ (e'.nd = upd e.nd p 0) ∧ ∃ q : Nat, q < n ∧ e'.nd q = 1) ∨ (e'.phase = 3 ∧ (∀ q, e'.nd q = 0) ∧ ∀ q : Nat, q ≠ p → q < n → e.nd q = 0)) :
    GI n e' ∧ (∀ q, q < n → CI e' q (L q) V) ∧ ∀ q, q < n → ∀ m', MI e q (L q) m' → MI e' q (L q) m' := by
  have h1 := hM.gon hk
  have hCp := hC p hp
  have hga := hCp.ga
  have hned := hCp.ned ho
  have hst : (L p).state = 0 ∧ (L p).seen = e.turn ∧ e.who ≠ p := by grind
  have how := hG.f23 (by omega)
  have hal := (hG.c2 h0).1
  have hph : e'.phase = 2 ∨ e'.phase = 3 := by rcases f9 with ⟨g, _⟩ | ⟨g, _⟩ <;> omega
  have hc2 : e'.phase = 2 → ∃ q : Nat, q < n ∧ e'.nd q = 1 := by
    intro h2
    rcases f9 with ⟨_, _, g⟩ | ⟨g, _⟩
    · exact g
    · omega
  have hnp : e'.nd p = 0 := by
    rcases f9 with ⟨_, g, _⟩ | ⟨_, g, _⟩
    · rw [g]; simp [upd]
    · exact g p
  have hnq : ∀ q : Nat, q < n → q ≠ p → e'.nd q = e.nd q ∧ (e'.phase = 3 → e.nd q = 0) := by
    intro q hq hqp
    rcases f9 with ⟨g1, g, _⟩ | ⟨g1, g, g'⟩
    · exact ⟨by rw [g]; simp [upd, hqp], by omega⟩
    · exact ⟨by rw [g q, g' q hqp hq], fun _ => g' q hqp hq⟩
  have hsp : e'.sh p = 0 := by rw [f3]; simp [upd]
  have hsq : ∀ q, q ≠ p → e'.sh q = e.sh q := fun q hqp => by rw [f3]; simp [upd, hqp]
  clear f9 f3
  refine ⟨?_, fun q hq => ?_, fun q hq m' hm' => ?_⟩
  · constructor
    · have g0 := hG.own; have g1 := hG.own; grind
    · have g0 := hG.own; have g1 := hG.ph; grind
    · have g0 := hG.own; have g1 := hG.idle; grind
    · have g0 := hG.own; have g1 := hG.whor; grind
    · have g0 := hG.own; have g1 := hG.f1; grind
    · have g0 := hG.own; have g1 := hG.f23; grind
    · intro h2; exact ⟨by clear hc2; grind, hc2 h2⟩
    · have g0 := hG.own; have g1 := hG.al; grind
    · have g0 := hG.own; have g1 := hG.tu; grind
    · have g0 := hG.own; have g1 := hG.va; grind
    · have g0 := hG.own; have g1 := hG.se; grind
  · have hCq := hC q hq
    have hl : e'.last q = e.last q := by rw [f8]
    clear f8 hc2
    by_cases hqp : q = p
    · subst hqp
      clear hnq hsq
      constructor
      · exact hCp.st
      · exact hCp.va
      · exact hCp.wa
      · exact hCp.se
      · have c0 := hCp.ga; grind
      · exact hCp.gi
      · have c0 := hCp.la; grind
      · have c0 := hCp.bits; grind
      · exact hCp.leav
      · exact hCp.w1
      · exact hCp.w2
      · have c0 := hCp.taken; grind
      · have c0 := hCp.back; grind
      · have c0 := hCp.cur; grind
      · have c0 := hCp.own; grind
      · have c0 := hCp.alo; have c1 := hCp.st; grind
      · have c0 := hCp.cop; grind
      · have c0 := hCp.shs; grind
      · have c0 := hCp.ned; grind
      · have c0 := hCp.cle; grind
      · have c0 := hCp.gra; grind
      · have c0 := hCp.val; grind
    · have hn2 := hnq q hq hqp
      have hs2 := hsq q hqp
      have b0 := hCq.bits
      clear hnq hsq hCp
      constructor
      · exact hCq.st
      · exact hCq.va
      · exact hCq.wa
      · exact hCq.se
      · have c0 := hCq.ga; grind
      · exact hCq.gi
      · have c0 := hCq.la; grind
      · have c0 := hCq.bits; grind
      · exact hCq.leav
      · exact hCq.w1
      · exact hCq.w2
      · have c0 := hCq.taken; grind
      · have c0 := hCq.back; grind
      · have c0 := hCq.cur; have c1 := hCq.cur; grind
      · have c0 := hCq.own; grind
      · have c0 := hCq.alo; have c1 := hCq.alo; grind
      · have c0 := hCq.cop; have c1 := hCq.cop; grind
      · have c0 := hCq.shs; grind
      · have c0 := hCq.ned; have c1 := hCq.ned; grind
      · have c0 := hCq.cle; grind
      · have c0 := hCq.gra; have c1 := hCq.cle; grind
      · have c0 := hCq.val; grind
  · have hCq := hC q hq
    have hl : e'.last q = e.last q := by rw [f8]
    clear f8 hc2
    by_cases hqp : q = p
    · subst hqp
      clear hnq hsq
      constructor
      · have k0 := hm'.get; grind
      · have k0 := hm'.put; grind
      · have k0 := hm'.inv; have c0 := hCq.ga; grind
      · have k0 := hm'.fet; grind
      · have k0 := hm'.gra; have c0 := hCq.taken; have c1 := hCq.cur; have c2 := hCq.wa; grind
      · have k0 := hm'.gon; grind
      · have k0 := hm'.dat; grind
      · have k0 := hm'.tha; grind
      · have k0 := hm'.tak; grind
    · have hn2 := hnq q hq hqp
      clear hnq hsq hCp
      constructor
      · have k0 := hm'.get; grind
      · have k0 := hm'.put; grind
      · have k0 := hm'.inv; have c0 := hCq.ga; grind
      · have k0 := hm'.fet; grind
      · have k0 := hm'.gra; have c0 := hCq.taken; have c1 := hCq.cur; have c2 := hCq.wa; grind
      · have k0 := hm'.gon; grind
      · have k0 := hm'.dat; grind
      · have k0 := hm'.tha; grind
      · have k0 := hm'.tak; grind
theorem O6 {m : Msg} {p : Nat} (hG : GI n e) (hC : ∀ q, q < n → CI e q (L q) V) (hp : p < n) (hM : MI e p (L p) m) (hk : m.kind = 10) (h0 : e.phase = 3) (ht : m.turn = e.turn) (hw : e.who = p)
    (f1 : e'.value = e.value) (f4 : e'.who = 0) (f5 : e'.serial = 0) (f6 : e'.alone = 0) (f7 : e'.turn = e.turn) (f8 : e'.last = e.last) (f9 : e'.phase = 0) (f10 : ∀ q, e'.nd q = e.nd q)
    (f2 : (e.alone = 1 ∧ e'.owner = p ∧ ∀ q, e'.sh q = 0) ∨ (e.alone = 0 ∧ e'.owner = e.owner ∧ ∀ q : Nat, e'.sh q = if q = p then 1 else e.sh q)) :
    GI n e' ∧ (∀ q, q < n → CI e' q (L q) V) ∧ ∀ q, q < n → ∀ m', MI e q (L q) m' → MI e' q (L q) m' := by
  have h1 := hM.tha hk
  have hCp := hC p hp
  have hga := hCp.ga
  have hcur := hCp.cur (by omega) hw
  have hst : (L p).seen = e.turn ∧ (e.alone = 1 → 2 ≤ (L p).state) ∧ (e.alone = 0 → (L p).state ≤ 1) ∧ ((L p).serial ≠ e.serial ∨ (L p).want = 0) := by grind
  have how := hG.f23 (by omega)
  have hal := hG.al
  have ha2 : (e.alone = 1 ∧ e'.owner = p) ∨ (e.alone = 0 ∧ e'.owner = -1) := by
    rcases f2 with ⟨g1, g2, _⟩ | ⟨g1, g2, _⟩
    · exact .inl ⟨g1, g2⟩
    · exact .inr ⟨g1, by rw [g2]; exact how⟩
  have hsp : (e.alone = 1 → e'.sh p = 0) ∧ (e.alone = 0 → e'.sh p = 1) := by
    rcases f2 with ⟨g1, _, g⟩ | ⟨g1, _, g⟩
    · exact ⟨fun _ => g p, by omega⟩
    · exact ⟨by omega, fun _ => by rw [g p, if_pos rfl]⟩
  have hsq : ∀ q : Nat, q ≠ p → (e.alone = 1 → e'.sh q = 0) ∧ (e.alone = 0 → e'.sh q = e.sh q) := by
    intro q hqp
    rcases f2 with ⟨g1, _, g⟩ | ⟨g1, _, g⟩
    · exact ⟨fun _ => g q, by omega⟩
    · exact ⟨by omega, fun _ => by rw [g q, if_neg hqp]⟩
  clear f2
  refine ⟨?_, fun q hq => ?_, fun q hq m' hm' => ?_⟩
  · constructor
    · have g0 := hG.own; have g1 := hG.own; grind
    · have g0 := hG.own; have g1 := hG.ph; grind
    · have g0 := hG.own; have g1 := hG.idle; grind
    · have g0 := hG.own; have g1 := hG.whor; grind
    · have g0 := hG.own; have g1 := hG.f1; grind
    · have g0 := hG.own; have g1 := hG.f23; grind
    · intro h2; omega
    · have g0 := hG.own; have g1 := hG.al; grind
    · have g0 := hG.own; have g1 := hG.tu; grind
    · have g0 := hG.own; have g1 := hG.va; grind
    · have g0 := hG.own; have g1 := hG.se; grind
  · have hCq := hC q hq
    have hl : e'.last q = e.last q := by rw [f8]
    have hnd := f10 q
    have n0 := hCq.ned
    have b0 := hCq.bits
    clear f10 f8
    by_cases hqp : q = p
    · subst hqp
      clear hsq
      have l0 := hCp.leav
      have s0 := hCp.st
      constructor
      · exact hCp.st
      · exact hCp.va
      · exact hCp.wa
      · exact hCp.se
      · have c0 := hCp.ga; grind
      · exact hCp.gi
      · have c0 := hCp.la; grind
      · have c0 := hCp.bits; grind
      · exact hCp.leav
      · exact hCp.w1
      · exact hCp.w2
      · have c0 := hCp.taken; have c1 := hCp.wa; grind
      · have c0 := hCp.back; have c1 := hCp.la; grind
      · have c0 := hCp.cur; grind
      · have c0 := hCp.own; have c1 := hCp.own; grind
      · have c0 := hCp.alo; have c1 := hCp.alo; grind
      · have c0 := hCp.cop; grind
      · have c0 := hCp.shs; grind
      · have c0 := hCp.ned; grind
      · have c0 := hCp.cle; grind
      · have c0 := hCp.gra; grind
      · have c0 := hCp.val; grind
    · have hs2 := hsq q hqp
      clear hsq hsp hCp
      constructor
      · exact hCq.st
      · exact hCq.va
      · exact hCq.wa
      · exact hCq.se
      · have c0 := hCq.ga; grind
      · exact hCq.gi
      · have c0 := hCq.la; grind
      · have c0 := hCq.bits; grind
      · exact hCq.leav
      · exact hCq.w1
      · exact hCq.w2
      · have c0 := hCq.taken; grind
      · have c0 := hCq.back; grind
      · have c0 := hCq.cur; grind
      · have c0 := hCq.own; grind
      · have c0 := hCq.alo; grind
      · have c0 := hCq.cop; have c1 := hCq.gra; grind
      · have c0 := hCq.shs; have c1 := hCq.gra; grind
      · have c0 := hCq.ned; grind
      · have c0 := hCq.cle; grind
      · have c0 := hCq.gra; grind
      · have c0 := hCq.val; have c1 := hCq.val; grind
  · have hCq := hC q hq
    have hl : e'.last q = e.last q := by rw [f8]
    have hnd := f10 q
    have n0 := hCq.ned
    clear f10 f8
    by_cases hqp : q = p
    · subst hqp
      have l0 := hCp.leav
      have s0 := hCp.st
      constructor
      · have k0 := hm'.get; grind
      · have k0 := hm'.put; have c0 := hCq.la; grind
      · have k0 := hm'.inv; grind
      · have k0 := hm'.fet; grind
      · have k0 := hm'.gra; have c0 := hCq.la; have c1 := hCq.wa; have c2 := hCq.ga; grind
      · have k0 := hm'.gon; grind
      · have k0 := hm'.dat; grind
      · have k0 := hm'.tha; grind
      · have k0 := hm'.tak; grind
    · clear hCp
      constructor
      · have k0 := hm'.get; grind
      · have k0 := hm'.put; grind
      · have k0 := hm'.inv; grind
      · have k0 := hm'.fet; grind
      · have k0 := hm'.gra; have c0 := hCq.la; have c1 := hCq.wa; have c2 := hCq.taken; grind
      · have k0 := hm'.gon; grind
      · have k0 := hm'.dat; grind
      · have k0 := hm'.tha; grind
      · have k0 := hm'.tak; grind
end home
end Abs
end Go.Proofs.Ytofgpimoekhfaaa

/- This file proves that chips that steps make are as they must be: what holds of each line holds behind each step. No program in sight. No conditions. -/
set_option linter.unusedVariables false
set_option linter.unusedSimpArgs false
namespace Go.Proofs.Ytofgpimoekhfaaa
open Abs
def D1 (s : Int) (p : Nat) : Int := if s.toNat.testBit p then 1 else 0
def ab (e : Entry) : Ab :=
  { value := e.value, owner := e.owner, phase := e.phase, who := e.who, serial := e.serial, alone := if e.alone then 1 else 0, turn := e.turn,
    last := fun p => e.last.getD p 0, sh := D1 e.sharers, nd := D1 e.need }
def ent (x : Chip) (i : Nat) : Entry := x.home.getD i Bc
def cor (x : Chip) (p : Nat) : Core := x.cores.getD p E0
def lin (x : Chip) (i p : Nat) : Line := (cor x p).lines.getD i zLine
def Px (n : Nat) (m : Msg) : Nat := if m.dst = (n : Int) then m.src.toNat else m.dst.toNat
def Fb (k : Int) : Int := if k = 1 then 1 else if k = 4 then 3 else 2
structure CW (k : Core) (nl : Nat) : Prop where
 free : k.wait.kind = 0 → k.wait = zOp ∧ ∀ i, i < nl → (k.lines.getD i zLine).want = 0
 busy : k.wait.kind ≠ 0 → (1 ≤ k.wait.kind ∧ k.wait.kind ≤ 4) ∧ (0 ≤ k.wait.line ∧ k.wait.line < nl) ∧ (0 ≤ k.wait.value ∧ k.wait.value ≤ 255) ∧
  ∀ i, i < nl → (k.lines.getD i zLine).want = if (i : Int) = k.wait.line then Fb k.wait.kind else 0
def MX (n : Nat) (x : Chip) (m : Msg) : Prop := MI (ab (ent x m.line.toNat)) (Px n m) (lin x m.line.toNat (Px n m)) m
def Fz (n nl : Nat) : Config := ⟨(n : Int), (nl : Int)⟩
structure Inv (n nl : Nat) (x : Chip) (M : List Int) : Prop where
 n1 : 1 ≤ n ∧ n ≤ 4
 l1 : 1 ≤ nl ∧ nl ≤ 4
 nc : x.cores.length = n
 nh : x.home.length = nl
 ncl : ∀ p, p < n → (cor x p).lines.length = nl
 nla : ∀ i, i < nl → (ent x i).last.length = n
 ml : M.length = nl
 mv : ∀ i, i < nl → 0 ≤ M.getD i 0 ∧ M.getD i 0 ≤ 255
 bit : ∀ i, i < nl → (0 ≤ (ent x i).sharers ∧ (ent x i).sharers < (2 ^ n : Nat)) ∧ (0 ≤ (ent x i).need ∧ (ent x i).need < (2 ^ n : Nat))
 gi : ∀ i, i < nl → GI n (ab (ent x i))
 ci : ∀ i, i < nl → ∀ p, p < n → CI (ab (ent x i)) p (lin x i p) (M.getD i 0)
 cw : ∀ p, p < n → CW (cor x p) nl
 fr : x.frames.length ≤ 40
 mi : ∀ b ∈ x.frames, b.length = 12 ∧ ∀ m, Ai (Fz n nl) b = (m, 0) → MX n x m
section
variable {n nl : Nat} {x : Chip} {M : List Int}
theorem Inv.core {p i : Nat} {l' : Line} {w' : Op} {V' : Int} (h : Inv n nl x M) (hp : p < n) (hi : i < nl) (hl : CI (ab (ent x i)) p l' V') (ho : ∀ q, q < n → q ≠ p → CI (ab (ent x i)) q (lin x i q) (M.getD i 0) → CI (ab (ent x i)) q (lin x i q) V')
    (hm : ∀ m, MI (ab (ent x i)) p (lin x i p) m → MI (ab (ent x i)) p l' m) (hw : CW (Ap (cor x p) i l' w') nl) (hv : 0 ≤ V' ∧ V' ≤ 255) :
    Inv n nl ⟨x.cores.set p (Ap (cor x p) i l' w'), x.home, x.frames⟩ (M.set i V') := by
  have hpc : p < x.cores.length := by rw [h.nc]; exact hp
  have hcl := h.ncl p hp
  have hcor : ∀ q, cor ⟨x.cores.set p (Ap (cor x p) i l' w'), x.home, x.frames⟩ q = if q = p then Ap (cor x p) i l' w' else cor x q := fun q => Cy _ _ _ _ _ hpc
  have hlin : ∀ j q, lin ⟨x.cores.set p (Ap (cor x p) i l' w'), x.home, x.frames⟩ j q = if q = p ∧ j = i then l' else lin x j q := by
    intro j q
    unfold lin
    rw [hcor]
    by_cases hq : q = p
    · subst hq
      rw [if_pos rfl]
      show ((cor x q).lines.set _ l').getD j zLine = _
      rw [Int.toNat_natCast, Cy _ _ _ _ _ (by rw [hcl]; exact hi)]
      by_cases hj : j = i
      · rw [if_pos hj, if_pos ⟨rfl, hj⟩]
      · rw [if_neg hj, if_neg (by simp [hj])]
    · rw [if_neg hq, if_neg (by simp [hq])]
  have hM : ∀ j, (M.set i V').getD j 0 = if j = i then V' else M.getD j 0 := fun j => Cy _ _ _ _ _ (by rw [h.ml]; exact hi)
  refine ⟨h.n1, h.l1, by simp [h.nc], h.nh, ?_, h.nla, by simp [h.ml], ?_, h.bit, h.gi, ?_, ?_, h.fr, ?_⟩
  · intro q hq
    rw [hcor]
    split
    · show ((cor x p).lines.set _ l').length = nl
      rw [List.length_set]; exact hcl
    · exact h.ncl q hq
  · intro j hj
    rw [hM]; split
    · exact hv
    · exact h.mv j hj
  · intro j hj q hq
    rw [hlin, hM]
    by_cases hji : j = i
    · subst hji
      rw [if_pos rfl]
      by_cases hqp : q = p
      · subst hqp; rw [if_pos ⟨rfl, rfl⟩]; exact hl
      · rw [if_neg (by simp [hqp])]; exact ho q hq hqp (h.ci j hj q hq)
    · rw [if_neg (by simp [hji]), if_neg hji]; exact h.ci j hj q hq
  · intro q hq
    rw [hcor]; split
    · exact hw
    · exact h.cw q hq
  · intro b hb
    obtain ⟨h1, h2⟩ := h.mi b hb
    refine ⟨h1, fun m hmp => ?_⟩
    have h3 := h2 m hmp
    unfold MX at h3 ⊢
    rw [hlin]
    show MI (ab (ent x m.line.toNat)) _ _ m
    split
    · rename_i hc
      rw [hc.1, hc.2] at h3 ⊢
      exact hm m h3
    · exact h3
theorem Inv.home {i : Nat} {e' : Entry} (h : Inv n nl x M) (hi : i < nl) (hla : e'.last.length = n) (hb : (0 ≤ e'.sharers ∧ e'.sharers < (2 ^ n : Nat)) ∧ (0 ≤ e'.need ∧ e'.need < (2 ^ n : Nat)))
    (hg : GI n (ab e') ∧ (∀ q, q < n → CI (ab e') q (lin x i q) (M.getD i 0)) ∧ ∀ q, q < n → ∀ m, MI (ab (ent x i)) q (lin x i q) m → MI (ab e') q (lin x i q) m) :
    Inv n nl ⟨x.cores, x.home.set i e', x.frames⟩ M := by
  have hic : i < x.home.length := by rw [h.nh]; exact hi
  have hent : ∀ j, ent ⟨x.cores, x.home.set i e', x.frames⟩ j = if j = i then e' else ent x j := fun q => Cy _ _ _ _ _ hic
  obtain ⟨hg1, hg2, hg3⟩ := hg
  refine ⟨h.n1, h.l1, h.nc, by simp [h.nh], h.ncl, ?_, h.ml, h.mv, ?_, ?_, ?_, h.cw, h.fr, ?_⟩
  · intro j hj; rw [hent]; split
    · exact hla
    · exact h.nla j hj
  · intro j hj; rw [hent]; split
    · exact hb
    · exact h.bit j hj
  · intro j hj; rw [hent]; split
    · exact hg1
    · exact h.gi j hj
  · intro j hj q hq
    rw [hent]
    show CI _ q (lin x j q) _
    by_cases hji : j = i
    · subst hji; rw [if_pos rfl]; exact hg2 q hq
    · rw [if_neg hji]; exact h.ci j hj q hq
  · intro b hb
    obtain ⟨h1, h2⟩ := h.mi b hb
    refine ⟨h1, fun m hmp => ?_⟩
    have h3 := h2 m hmp
    have hw := Hq (Jj hmp).2.2.2.2.1
    have hpe : Px n m < n := by
      unfold Px
      have h4 : m.src = (n : Int) ↔ ¬ m.dst = (n : Int) := by
        have := hw.2.2.2.2.2.2
        simp only [Fz] at this
        by_cases h : m.src = (n : Int) <;> by_cases h' : m.dst = (n : Int) <;> simp_all
      have h5 := hw.2.1
      simp only [Fz] at h5
      split
      · have : ¬ m.src = (n : Int) := by rename_i hd; intro hs; exact h4.1 hs hd
        omega
      · omega
    unfold MX at h3 ⊢
    rw [hent]
    show MI _ _ (lin x m.line.toNat _) m
    split
    · rename_i hc
      rw [hc] at h3 ⊢
      exact hg3 _ hpe m h3
    · exact h3
theorem Inv.frames {f : Frames} (h : Inv n nl x M) (hl : f.length ≤ 40) (hf : ∀ b ∈ f, b.length = 12 ∧ ∀ m, Ai (Fz n nl) b = (m, 0) → MX n x m) : Inv n nl ⟨x.cores, x.home, f⟩ M :=
 ⟨h.n1, h.l1, h.nc, h.nh, h.ncl, h.nla, h.ml, h.mv, h.bit, h.gi, h.ci, h.cw, hl, hf⟩
theorem Inv.send {b : List UInt8} (h : Inv n nl x M) (hb : b.length = 12 ∧ ∀ m, Ai (Fz n nl) b = (m, 0) → MX n x m) : Inv n nl ⟨x.cores, x.home, Fn x.frames b⟩ M := by
  unfold Fn
  have := h.fr
  split
  · refine h.frames (by simp; omega) fun b' hb' => ?_
    rcases List.mem_append.1 hb' with e | e
    · exact h.mi b' e
    · rw [List.mem_singleton.1 e]; exact hb
  · exact h
theorem Inv.msg {m : Msg} (h : Inv n nl x M) (hw : Bg (Fz n nl) m = 0) (hm : MX n x m) : (By m).length = 12 ∧ ∀ m', Ai (Fz n nl) (By m) = (m', 0) → MX n x m' := by
 refine ⟨M3 m, fun m' h' => ?_⟩
 have h1 := h.n1; have h2 := h.l1
 rw [N9 hw (by simp only [Fz]; omega) (by simp only [Fz]; omega)] at h'
 cases h'; exact hm
theorem Inv.way {ms : List Msg} : ∀ {x : Chip}, Inv n nl x M → (∀ m ∈ ms, Bg (Fz n nl) m = 0 ∧ MX n x m) → Inv n nl ⟨x.cores, x.home, way x.frames ms⟩ M := by
 induction ms with
 | nil => intro x h _; exact h
 | cons m ms ih =>
  intro x h hm
  have h1 := hm m (List.mem_cons_self ..)
  have h2 := h.send (h.msg h1.1 h1.2)
  exact ih h2 fun m' hm' => hm m' (List.mem_cons_of_mem _ hm')
theorem Inv.erase (h : Inv n nl x M) (k : Nat) : Inv n nl ⟨x.cores, x.home, x.frames.eraseIdx k⟩ M := by
 have := h.fr
 refine h.frames (Nat.le_trans (List.length_eraseIdx_le _ _) h.fr) fun b hb => h.mi b (List.mem_of_mem_eraseIdx hb)
theorem Hz {l : Frames} {k : Int} (h : ¬ (k < 0 ∨ (l.length : Int) ≤ k)) : Ay l k ∈ l := by
 unfold Ay
 rw [List.getD_eq_getElem?_getD, List.getElem?_eq_getElem (by omega)]
 exact List.getElem_mem _
theorem Inv.spoil {k bit : Int} (h : Inv n nl x M) (h1 : ¬ (k < 0 ∨ (x.frames.length : Int) ≤ k)) (h2 : (Ai (Fz n nl) (Ay x.frames k)).2 = 0) (h3 : 0 ≤ bit) (h4 : bit < 8 * ((Ay x.frames k).length : Int)) :
    Inv n nl ⟨x.cores, x.home, x.frames.set k.toNat (Bj (Ay x.frames k) bit)⟩ M := by
  refine h.frames (by rw [List.length_set]; exact h.fr) fun b hb => ?_
  rcases List.mem_or_eq_of_mem_set hb with e | e
  · exact h.mi b e
  · subst e
    have hl := (h.mi _ (Hz h1)).1
    refine ⟨by rw [G2]; exact hl, fun m hm => ?_⟩
    have hp : Ai (Fz n nl) (Ay x.frames k) = ((Ai (Fz n nl) (Ay x.frames k)).1, 0) := by rw [← h2]
    rw [Pk hp h3 (by rw [hl] at h4; exact h4)] at hm
    cases hm
end
end Go.Proofs.Ytofgpimoekhfaaa
