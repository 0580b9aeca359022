/- This file proves how one element of an array lies open: its cells, and slices that lie in them. No conditions. -/
import Derived.Test.YthnokijkdobdfaaPure
set_option linter.unusedVariables false
set_option linter.unusedSimpArgs false
namespace Go.Proofs.Ythnokijkdobdfaa
open Go

/-! ### Cells that are known for good -/
/-- The cells of an element, for good. -/
def cF (v : Value) (sz i : Nat) (cs : List Value) : Fact :=
  ⟨fun m => ∃ a cells T fz, ep v sz i 0 = .pointer (some a) ∧ (∀ f, ep v sz i f = .pointer (some (a.add f))) ∧ a.spot = none ∧ m (a.block + 1) = some (.ob (.cells cells T fz)) ∧ ∀ (k : Nat) c, cs[k]? = some c → cells[a.off + k]? = some c,
   fun m m' h ⟨a, cells, T, fz, h1, h2, h3, h4, h5⟩ => ⟨a, cells, T, fz, h1, h2, h3, h _ _ h4, h5⟩⟩
section
variable {P : Program} {n : Nat} {ops : Array Oper} {Q : Exit → Act → World → Prop} {rest : List Oper} {L L' : List Chunk} {R : List Fact} {al : List (Nat × Value)} {d : Nat} {x y : Operand} {T ty : TypeId} {pos : String} {aft : Array Edge}
theorem cF_at {v : Value} {sz i f : Nat} {cs ds : List Value} (hm : cF v sz i cs ∈ R) (hd : ∀ (k : Nat) c, ds[k]? = some c → cs[f + k]? = some c) : CellsAt L R (ep v sz i f) ds := by
  intro w hs
  obtain ⟨m, hle, hr⟩ := hs.ex
  obtain ⟨a, cells, T, fz, h1, h2, h3, h4, h5⟩ := hr _ hm
  refine ⟨a.add f, h2 f, fun k c hk => ?_⟩
  rw [add_add, add_none h3, cell_of (mem_ob (hle _ _ h4))]
  exact h5 _ _ (hd k c hk)
theorem at_c1 {v : Value} {sz i f : Nat} {cs : List Value} {c : Value} (hm : cF v sz i cs ∈ R) (hc : cs[f]? = some c) : CellsAt L R (ep v sz i f) [c] :=
  cF_at hm fun k c' hk => by
    match k, hk with
    | 0, hk => simp at hk; subst hk; exact hc
    | k + 1, hk => simp at hk
theorem at_cN {v : Value} {sz i f k : Nat} {cs : List Value} (hm : cF v sz i cs ∈ R) : CellsAt L R (ep v sz i f) ((cs.drop f).take k) :=
  cF_at hm fun j c hk => by
    rw [List.getElem?_take] at hk
    split at hk
    · rw [List.getElem?_drop] at hk; exact hk
    · cases hk
theorem at_cAll {v : Value} {sz i : Nat} {cs : List Value} (hm : cF v sz i cs ∈ R) : CellsAt L R (ep v sz i 0) cs := cF_at hm fun k c hk => by rw [Nat.zero_add]; exact hk

variable {α : Type} [Enc α] {v : Value} {xs : List α} {i : Nat} {e : α}
theorem sl_open {m : Mem} (h : isSlice v xs m) (hi : xs[i]? = some e) : ∃ cs, Enc.rd e cs m ∧ (cF v (Enc.sz α) i cs).p m := by
  obtain ⟨base, cap, hv, hn, hc⟩ := h
  have hne : xs ≠ [] := by intro h0; rw [h0] at hi; simp at hi
  obtain ⟨a, cells, T, fz, cs, h1, h2, h3, h4, h5⟩ := hc hne
  obtain ⟨p, c, q, e1, e2, e3, _⟩ := h5.get hi
  subst h1
  refine ⟨c, e3, a.add (i * Enc.sz α), cells, T, fz, by rw [hv, ep_eq, Nat.add_zero], fun f => by rw [hv, ep_eq, add_add], by rw [add_none h2], by rw [add_none h2]; exact h3, fun k u hk => ?_⟩
  rw [add_none h2]
  have hcs : cs[i * Enc.sz α + k]? = some u := by
    rw [e1, List.append_assoc, List.getElem?_append_right (by omega), show i * Enc.sz α + k - p.length = k by omega, List.getElem?_append_left]
    · exact hk
    · exact (List.getElem?_eq_some_iff.1 hk).1
  rw [← h4, List.getElem?_take] at hcs
  split at hcs
  · rw [List.getElem?_drop] at hcs
    rw [← Array.getElem?_toList, ← hcs, Nat.add_assoc]
  · cases hcs
end

/-- Kinds whose cells are plain. -/
class El0 (α : Type) [Enc α] where
  cs : α → List Value
  wf : α → Prop
  df : α
  ok : ∀ (x : α) ds m, Enc.rd x ds m → ds = cs x ∧ wf x
/-- Kinds in whose cells one slice lies. -/
class El1 (α : Type) (β : outParam Type) [Enc α] [Enc β] where
  cs : Value → α → List Value
  wf : α → Prop
  df : α
  sub : α → List β
  ok : ∀ (x : α) ds m, Enc.rd x ds m → ∃ u, ds = cs u x ∧ isSlice u (sub x) m ∧ wf x
instance e0Int : El0 Int := ⟨fun x => [vi x], In64, 0, fun _ _ _ h => h⟩
instance e0Byte : El0 UInt8 := ⟨fun x => [vb x], fun _ => True, 0, fun _ _ _ h => ⟨h, trivial⟩⟩
instance e0Config : El0 Config := ⟨Config.cells, Config.wf, zConfig, fun _ _ _ h => h⟩
instance e0Msg : El0 Msg := ⟨Msg.cells, Msg.wf, zMsg, fun _ _ _ h => h⟩
instance e0Line : El0 Line := ⟨Line.cells, Line.wf, zLine, fun _ _ _ h => h⟩
instance e0Op : El0 Op := ⟨Op.cells, Op.wf, zOp, fun _ _ _ h => h⟩
instance e0Done : El0 Done := ⟨Done.cells, Done.wf, zDone, fun _ _ _ h => h⟩
instance e0Step : El0 Step := ⟨Step.cells, Step.wf, zStep, fun _ _ _ h => h⟩
instance e0Answer : El0 Answer := ⟨Answer.cells, Answer.wf, zAnswer, fun _ _ _ h => h⟩
instance e0Seen : El0 Seen := ⟨Seen.cells, Seen.wf, zSeen, fun _ _ _ h => h⟩
instance e0Pair : El0 (Int × Int) := ⟨fun x => [vi x.1, vi x.2], fun x => In64 x.1 ∧ In64 x.2, (0, 0), fun _ _ _ h => h⟩
instance e1List {β : Type} [Enc β] : El1 (List β) β := ⟨fun u _ => [u], fun _ => True, [], fun x => x, fun _ _ _ h => by obtain ⟨u, h1, h2⟩ := h; exact ⟨u, h1, h2, trivial⟩⟩
instance e1Core : El1 Core Line := ⟨fun u x => x.cells u, fun x => x.wait.wf, zCore, fun x => x.lines, fun _ _ _ h => h⟩
instance e1Entry : El1 Entry Int := ⟨fun u x => x.cells u, fun x => x.wf, zEntry, fun x => x.last, fun _ _ _ h => h⟩

section
variable {P : Program} {n : Nat} {ops : Array Oper} {Q : Exit → Act → World → Prop} {L L' : List Chunk} {R : List Fact} {al : List (Nat × Value)}
variable {α β : Type} [Enc α] [Enc β] {v : Value} {xs : List α}
theorem St.open0 [El0 α] {w : World} (i : Nat) (hm : sl v xs ∈ R) (hi : i < xs.length) (hs : St L R w) : El0.wf (xs.getD i El0.df) ∧ St L (cF v (Enc.sz α) i (El0.cs (xs.getD i El0.df)) :: R) w := by
  obtain ⟨m, j, hd, hmw, hjw, hst, hr⟩ := hs
  obtain ⟨cs, h1, h2⟩ := sl_open (hr _ hm) (getD_some El0.df hi)
  obtain ⟨rfl, h4⟩ := El0.ok _ _ _ h1
  refine ⟨h4, m, j, hd, hmw, hjw, hst, fun g hg => ?_⟩
  cases List.mem_cons.1 hg with
  | inl e => rw [e]; exact h2
  | inr e => exact hr g e
theorem St.open1 [El1 α β] {w : World} (i : Nat) (hm : sl v xs ∈ R) (hi : i < xs.length) (hs : St L R w) : El1.wf (xs.getD i El1.df) ∧ ∃ u, St L (cF v (Enc.sz α) i (El1.cs u (xs.getD i El1.df)) :: sl u (El1.sub (xs.getD i El1.df)) :: R) w := by
  obtain ⟨m, j, hd, hmw, hjw, hst, hr⟩ := hs
  obtain ⟨cs, h1, h2⟩ := sl_open (hr _ hm) (getD_some El1.df hi)
  obtain ⟨u, rfl, h3, h4⟩ := El1.ok _ _ _ h1
  refine ⟨h4, u, m, j, hd, hmw, hjw, hst, fun g hg => ?_⟩
  cases List.mem_cons.1 hg with
  | inl e => rw [e]; exact h2
  | inr e => cases List.mem_cons.1 e with
    | inl e => rw [e]; exact h3
    | inr e => exact hr g e
theorem JC.open0 [El0 α] {c : Code} (i : Nat) (hm : sl v xs ∈ R) (hi : i < xs.length) (k : El0.wf (xs.getD i El0.df) → JC P n c Q L (cF v (Enc.sz α) i (El0.cs (xs.getD i El0.df)) :: R) al) : JC P n c Q L R al :=
  fun B w hs => let h := hs.open0 i hm hi; k h.1 B w h.2
theorem J.open0 [El0 α] {l : List Oper} (i : Nat) (hm : sl v xs ∈ R) (hi : i < xs.length) (k : El0.wf (xs.getD i El0.df) → J P n ops Q l L (cF v (Enc.sz α) i (El0.cs (xs.getD i El0.df)) :: R) al) : J P n ops Q l L R al :=
  fun B w hs => let h := hs.open0 i hm hi; k h.1 B w h.2
theorem JC.open1 [El1 α β] {c : Code} (i : Nat) (hm : sl v xs ∈ R) (hi : i < xs.length) (k : El1.wf (xs.getD i El1.df) → ∀ u, JC P n c Q L (cF v (Enc.sz α) i (El1.cs u (xs.getD i El1.df)) :: sl u (El1.sub (xs.getD i El1.df)) :: R) al) : JC P n c Q L R al :=
  fun B w hs => let ⟨h, u, h'⟩ := hs.open1 i hm hi; k h u B w h'
theorem J.open1 [El1 α β] {l : List Oper} (i : Nat) (hm : sl v xs ∈ R) (hi : i < xs.length) (k : El1.wf (xs.getD i El1.df) → ∀ u, J P n ops Q l L (cF v (Enc.sz α) i (El1.cs u (xs.getD i El1.df)) :: sl u (El1.sub (xs.getD i El1.df)) :: R) al) : J P n ops Q l L R al :=
  fun B w hs => let ⟨h, u, h'⟩ := hs.open1 i hm hi; k h u B w h'
end

/-! ### Cells as they are -/
/-- So many cells, whatever they are. -/
def Raw (k : Nat) : Type := { l : List Value // l.length = k ∧ ∀ u ∈ l, u.oneCell' = true }
instance instEncRaw {k : Nat} : Enc (Raw k) where
  sz := k
  rd x cs _ := cs = x.1
  mono _ _ _ _ _ h := h
  len x cs _ h := by rw [h]; exact x.2.1
  one x cs _ h := by rw [h]; exact x.2.2
/-- One element's cells, and those of all others as they are. -/
def foc {α : Type} [Enc α] (T : TypeId) (v : Value) (xs : List α) (i : Nat) (cs : List Value) : Chunk :=
  ⟨fun m j => ∃ rs : List (Raw (Enc.sz α)), (row T v rs).p m j ∧ rs.length = xs.length ∧ (∃ r, rs[i]? = some r ∧ r.1 = cs) ∧ ∀ (k : Nat) e r, k ≠ i → xs[k]? = some e → rs[k]? = some r → Enc.rd e r.1 j,
   fun m j j' h ⟨rs, h1, h2, h3, h4⟩ => ⟨rs, (row T v rs).mono _ _ _ h h1, h2, h3, fun k e r hk he hr => Enc.mono _ _ _ _ h (h4 k e r hk he hr)⟩⟩
section
variable {α : Type} [Enc α]
theorem RdL.raw {m : Mem} : ∀ {xs : List α} {cs : List Value}, RdL xs cs m → ∃ rs : List (Raw (Enc.sz α)), RdL rs cs m ∧ rs.length = xs.length ∧ ∀ (k : Nat) e r, xs[k]? = some e → rs[k]? = some r → Enc.rd e r.1 m
  | [], cs, h => ⟨[], h, rfl, fun k e r h' => by simp at h'⟩
  | x :: xs, cs, ⟨c1, c2, h1, h2, h3⟩ => by
    obtain ⟨rs, e1, e2, e3⟩ := RdL.raw h3
    obtain ⟨r0, hr0⟩ : ∃ r0 : Raw (Enc.sz α), r0.1 = c1 := ⟨⟨c1, Enc.len _ _ _ h2, Enc.one _ _ _ h2⟩, rfl⟩
    refine ⟨r0 :: rs, ⟨c1, c2, h1, hr0.symm, e1⟩, by simp [e2], fun k e r hx hr => ?_⟩
    cases k with
    | zero =>
      have ex : x = e := by simpa using hx
      have er : r0 = r := by simpa using hr
      rw [← ex, ← er, hr0]; exact h2
    | succ k => exact e3 k e r (by simpa using hx) (by simpa using hr)
theorem RdL.typed {m : Mem} : ∀ {xs : List α} {rs : List (Raw (Enc.sz α))} {cs : List Value}, RdL rs cs m → rs.length = xs.length → (∀ (k : Nat) e r, xs[k]? = some e → rs[k]? = some r → Enc.rd e r.1 m) → RdL xs cs m
  | [], [], cs, h, _, _ => h
  | [], _ :: _, _, _, hl, _ => by simp at hl
  | _ :: _, [], _, _, hl, _ => by simp at hl
  | x :: xs, r :: rs, cs, ⟨c1, c2, h1, h2, h3⟩, hl, hr => by
    refine ⟨c1, c2, h1, ?_, RdL.typed h3 (by simpa using hl) (fun k e r' hx hr' => hr (k + 1) e r' (by simpa using hx) (by simpa using hr'))⟩
    have := hr 0 x r rfl rfl
    rw [show c1 = r.1 from h2]; exact this
theorem row_raw {T : TypeId} {v : Value} {xs : List α} {m j : Mem} (h : (row T v xs).p m j) : ∃ rs : List (Raw (Enc.sz α)), (row T v rs).p m j ∧ rs.length = xs.length ∧ ∀ (k : Nat) e r, xs[k]? = some e → rs[k]? = some r → Enc.rd e r.1 j := by
  obtain ⟨h0, hv | ⟨g, cap, cur, cs, hv, hg, hcap, hml, hsz, htk, hrd⟩⟩ := h
  · exact ⟨[], ⟨Nat.zero_le _, .inl ⟨hv.1, rfl⟩⟩, by rw [hv.2]; rfl, fun k e r hx => by rw [hv.2] at hx; simp at hx⟩
  · obtain ⟨rs, e1, e2, e3⟩ := hrd.raw
    exact ⟨rs, ⟨by rw [e2]; exact h0, .inr ⟨g, cap, cur, cs, by rw [e2]; exact hv, hg, by rw [e2]; exact hcap, hml, hsz, by rw [e2]; exact htk, e1⟩⟩, e2, e3⟩
theorem raw_row {T : TypeId} {v : Value} {xs : List α} {rs : List (Raw (Enc.sz α))} {m j : Mem} (h : (row T v rs).p m j) (hl : rs.length = xs.length) (hr : ∀ (k : Nat) e r, xs[k]? = some e → rs[k]? = some r → Enc.rd e r.1 j) : (row T v xs).p m j := by
  obtain ⟨h0, hv | ⟨g, cap, cur, cs, hv, hg, hcap, hml, hsz, htk, hrd⟩⟩ := h
  · have : xs = [] := by rw [hv.2] at hl; exact List.length_eq_zero_iff.1 hl.symm
    exact ⟨by rw [← hl]; exact h0, .inl ⟨hv.1, this⟩⟩
  · exact ⟨by rw [← hl]; exact h0, .inr ⟨g, cap, cur, cs, by rw [← hl]; exact hv, hg, by rw [← hl]; exact hcap, hml, hsz, by rw [← hl]; exact htk, hrd.typed hl hr⟩⟩
end
section
variable {P : Program} {n : Nat} {ops : Array Oper} {Q : Exit → Act → World → Prop} {rest : List Oper} {L L' : List Chunk} {R : List Fact} {al : List (Nat × Value)} {d : Nat} {x y : Operand} {T ty : TypeId} {pos : String} {aft : Array Edge}
variable {α β : Type} [Enc α] [Enc β] {v : Value} {xs : List α} {i : Nat}
/-- An element is opened. -/
theorem St.focus {w : World} (hi : i < xs.length) (hs : St (row T v xs :: L) R w) : ∃ cs, St (foc T v xs i cs :: L) R w ∧ cs.length = Enc.sz α ∧ ∃ j e, xs[i]? = some e ∧ Enc.rd e cs j ∧ Mem.le j (memOf w) ∧ ∀ f ∈ R, f.p j := by
  obtain ⟨m, j, hd, hm, hj, ⟨m1, m2, hd', h1, h2, hc, hst⟩, hr⟩ := hs
  obtain ⟨rs, e1, e2, e3⟩ := row_raw hc
  have hi' : i < rs.length := by omega
  refine ⟨(rs[i]'hi').1, ⟨m, j, hd, hm, hj, ⟨m1, m2, hd', h1, h2, ⟨rs, e1, e2, ⟨_, List.getElem?_eq_getElem hi', rfl⟩, fun k e r _ => e3 k e r⟩, hst⟩, hr⟩, (rs[i]'hi').2.1, j, xs[i], List.getElem?_eq_getElem hi, e3 i _ _ (List.getElem?_eq_getElem hi) (List.getElem?_eq_getElem hi'), hj, hr⟩
theorem St.focus0 [El0 α] {w : World} (hi : i < xs.length) (hs : St (row T v xs :: L) R w) : El0.wf (xs.getD i El0.df) ∧ St (foc T v xs i (El0.cs (xs.getD i El0.df)) :: L) R w := by
  obtain ⟨cs, h1, h2, j, e, h3, h4, h5, h6⟩ := hs.focus hi
  have : xs.getD i El0.df = e := by simp [List.getD_eq_getElem?_getD, h3]
  rw [this]
  obtain ⟨rfl, hw⟩ := El0.ok _ _ _ h4
  exact ⟨hw, h1⟩
theorem St.focus1 [El1 α β] {w : World} (hi : i < xs.length) (hs : St (row T v xs :: L) R w) : El1.wf (xs.getD i El1.df) ∧ ∃ u, St (foc T v xs i (El1.cs u (xs.getD i El1.df)) :: L) (sl u (El1.sub (xs.getD i El1.df)) :: R) w := by
  obtain ⟨m, j, hd, hm, hj, ⟨m1, m2, hd', h1, h2, hc, hst⟩, hr⟩ := hs
  obtain ⟨rs, e1, e2, e3⟩ := row_raw hc
  have hi' : i < rs.length := by omega
  have hx : xs.getD i El1.df = xs[i] := by simp [List.getD_eq_getElem?_getD, hi]
  rw [hx]
  obtain ⟨u, g1, g2, g3⟩ := El1.ok _ _ _ (e3 i _ _ (List.getElem?_eq_getElem hi) (List.getElem?_eq_getElem hi'))
  refine ⟨g3, u, m, j, hd, hm, hj, ⟨m1, m2, hd', h1, h2, ⟨rs, e1, e2, ⟨_, List.getElem?_eq_getElem hi', g1⟩, fun k e r _ => e3 k e r⟩, hst⟩, fun f hf => ?_⟩
  cases List.mem_cons.1 hf with
  | inl e => rw [e]; exact g2
  | inr e => exact hr f e
/-- It is shut. -/
theorem St.unfocus {w : World} {cs : List Value} {e : α} (he : ∀ j, (∀ f ∈ R, f.p j) → Enc.rd e cs j) (hs : St (foc T v xs i cs :: L) R w) : St (row T v (xs.set i e) :: L) R w := by
  obtain ⟨m, j, hd, hm, hj, ⟨m1, m2, hd', h1, h2, ⟨rs, e1, e2, ⟨r0, e3, e4⟩, e5⟩, hst⟩, hr⟩ := hs
  refine ⟨m, j, hd, hm, hj, ⟨m1, m2, hd', h1, h2, raw_row e1 (by simpa using e2) (fun k e' r hx hk => ?_), hst⟩, hr⟩
  by_cases h : k = i
  · subst h
    have hlt : k < xs.length := by
      have := (List.getElem?_eq_some_iff.1 e3).1; omega
    rw [List.getElem?_set_self hlt] at hx
    cases hx
    rw [e3] at hk; cases hk
    rw [e4]; exact he j hr
  · rw [List.getElem?_set_ne (Ne.symm h)] at hx
    exact e5 k e' r h hx hk
theorem foc_raw {w : World} {cs : List Value} (hs : St (foc T v xs i cs :: L) R w) : ∃ rs : List (Raw (Enc.sz α)), St (row T v rs :: L) R w ∧ ∃ r, rs[i]? = some r ∧ r.1 = cs := by
  obtain ⟨m, j, hd, hm, hj, ⟨m1, m2, hd', h1, h2, ⟨rs, e1, e2, e3, e5⟩, hst⟩, hr⟩ := hs
  exact ⟨rs, ⟨m, j, hd, hm, hj, ⟨m1, m2, hd', h1, h2, e1, hst⟩, hr⟩, e3⟩
theorem foc_at {f sz : Nat} {cs ds : List Value} (hp : Pick L (foc T v xs i cs) L') (hsz : Enc.sz α = sz) (hd : ∀ (k : Nat) c, ds[k]? = some c → cs[f + k]? = some c) : CellsAt L R (ep v sz i f) ds := by
  subst hsz
  intro w hs
  obtain ⟨rs, h1, r, h2, h3⟩ := foc_raw (hs.pick hp)
  exact at_rowN (α := Raw (Enc.sz α)) (L := row T v rs :: L') (f := f) .hd h2 (fun cs' m hr k c hk => by rw [show cs' = r.1 from hr, h3]; exact hd k c hk) w h1
theorem at_f1 {f sz : Nat} {cs : List Value} {c : Value} (hp : Pick L (foc T v xs i cs) L') (hsz : Enc.sz α = sz) (hc : cs[f]? = some c) : CellsAt L R (ep v sz i f) [c] :=
  foc_at hp hsz fun k c' hk => by
    match k, hk with
    | 0, hk => simp at hk; subst hk; exact hc
    | k + 1, hk => simp at hk
theorem at_fN {f sz k : Nat} {cs : List Value} (hp : Pick L (foc T v xs i cs) L') (hsz : Enc.sz α = sz) : CellsAt L R (ep v sz i f) ((cs.drop f).take k) :=
  foc_at hp hsz fun j c hk => by
    rw [List.getElem?_take] at hk
    split at hk
    · rw [List.getElem?_drop] at hk; exact hk
    · cases hk
theorem at_fAll {sz : Nat} {cs : List Value} (hp : Pick L (foc T v xs i cs) L') (hsz : Enc.sz α = sz) : CellsAt L R (ep v sz i 0) cs := foc_at hp hsz fun k c hk => by rw [Nat.zero_add]; exact hk
theorem foc_write {w : World} {f : Nat} {cs us : List Value} (hs : St (foc T v xs i cs :: L) R w) (h1 : ∀ u ∈ us, u.oneCell' = true) (hf : f + us.length ≤ cs.length) :
    ∃ g cap cur, v = .slice (some ⟨g, 0, none⟩) xs.length cap ∧ w.heap[g]? = some (.cells cur T (0, 0)) ∧ i * Enc.sz α + f + us.length ≤ cur.size ∧
      St (foc T v xs i (cs.take f ++ us ++ cs.drop (f + us.length)) :: L) R (w.setRow g (cur.toList.take (i * Enc.sz α + f) ++ us ++ cur.toList.drop (i * Enc.sz α + f + us.length)).toArray) := by
  obtain ⟨m, j, hd, hm, hj, ⟨m1, m2, hd', g1, g2, ⟨rs, e1, e2, ⟨r0, e3, e4⟩, e5⟩, hst⟩, hr⟩ := hs
  have hlen : (cs.take f ++ us ++ cs.drop (f + us.length)).length = cs.length := by simp; omega
  have hcs : cs.length = Enc.sz α := by rw [← e4]; exact r0.2.1
  let r1 : Raw (Enc.sz α) := ⟨cs.take f ++ us ++ cs.drop (f + us.length), by rw [hlen]; exact hcs, fun u hu => by
    rcases List.mem_append.1 hu with h | h
    · rcases List.mem_append.1 h with h | h
      · exact r0.2.2 u (by rw [e4]; exact List.mem_of_mem_take h)
      · exact h1 u h
    · exact r0.2.2 u (by rw [e4]; exact List.mem_of_mem_drop h)⟩
  -- one piece for all others, with what is known of them
  have hK : St (row T v rs :: L) (⟨fun m => ∀ (k : Nat) e r, k ≠ i → xs[k]? = some e → rs[k]? = some r → Enc.rd e r.1 m, fun m m' h hp k e r hk he hr' => Enc.mono _ _ _ _ h (hp k e r hk he hr')⟩ :: R) w :=
    ⟨m, j, hd, hm, hj, ⟨m1, m2, hd', g1, g2, e1, hst⟩, fun q hq => by
      cases List.mem_cons.1 hq with
      | inl e => rw [e]; exact e5
      | inr e => exact hr q e⟩
  obtain ⟨g, cap, cur, hv, hg, hfit, hst'⟩ := row_write (w' := w) (e := r0) (e' := r1) (f := f) (cs := us) hK e3 (fun ds m hr => by rw [show ds = r0.1 from hr, e4]; exact hf) (fun j _ ds hr => by
    rw [show ds = r0.1 from hr, e4]; rfl)
  refine ⟨g, cap, cur, by rw [hv, e2], hg, hfit, ?_⟩
  obtain ⟨m', j', hd2, hm', hj', ⟨n1, n2, hd3, k1, k2, hc', hst2⟩, hr'⟩ := hst'
  have hilt : i < rs.length := (List.getElem?_eq_some_iff.1 e3).1
  refine ⟨m', j', hd2, hm', hj', ⟨n1, n2, hd3, k1, k2, ⟨rs.set i r1, hc', by simpa using e2, ⟨r1, List.getElem?_set_self hilt, rfl⟩, fun k e r hk he hrk => ?_⟩, hst2⟩, fun q hq => hr' q (List.mem_cons_of_mem _ hq)⟩
  rw [List.getElem?_set_ne (Ne.symm hk)] at hrk
  exact hr' _ (List.mem_cons_self ..) k e r hk he hrk
/-- A store into an element that lies open. -/
theorem r_storeF {f sz k : Nat} {c : Value} {cs us : List Value} {T' : TypeId} (hsz : ∀ w, (sizeOf T).run P w = .ok k w) (hx : ev n al x = some (ep v sz i f)) (hy : ev n al y = some c) (hc : c.cells = us.toArray) (hl : us.length = k) (h1 : ∀ u ∈ us, u.oneCell' = true)
    (hp : Pick L (foc T' v xs i cs) L') (hes : Enc.sz α = sz) (hf : Nat.ble (f + us.length) cs.length = true) {cs' : List Value} (hcs : cs.take f ++ us ++ cs.drop (f + us.length) = cs')
    (kk : J P n ops Q rest (foc T' v xs i cs' :: L') R al) : J P n ops Q (⟨none, .store T x y, ty, pos, aft, none⟩ :: rest) L R al :=
  J.skip rfl rfl (fun B w hs => by
    subst hes
    obtain ⟨g, cap, cur, hv, hg, hfit, hst⟩ := foc_write (hs.pick hp) h1 (Nat.le_of_ble_eq_true hf)
    refine ⟨_, exec_store ?_, by rw [← hcs]; exact hst⟩
    rw [ev_eval hx, ev_eval hy, hv, ep_eq, add_mk]
    have := run_storeCells_at P g (i * Enc.sz α + f) T' us 0 cur w hg (by simpa using hfit) h1
    simp only [Nat.add_zero, Nat.zero_add] at this ⊢
    subst hl
    simp [Instr.storeAt, Instr.sureAddr, storeVar, hsz, hc, this]) kk
theorem J.focus0 [El0 α] {l : List Oper} (i : Nat) (hp : Pick L (row T v xs) L') (hi : i < xs.length) (k : El0.wf (xs.getD i El0.df) → J P n ops Q l (foc T v xs i (El0.cs (xs.getD i El0.df)) :: L') R al) : J P n ops Q l L R al :=
  fun B w hs => let h := (hs.pick hp).focus0 hi; k h.1 B w h.2
theorem JC.focus0 [El0 α] {c : Code} (i : Nat) (hp : Pick L (row T v xs) L') (hi : i < xs.length) (k : El0.wf (xs.getD i El0.df) → JC P n c Q (foc T v xs i (El0.cs (xs.getD i El0.df)) :: L') R al) : JC P n c Q L R al :=
  fun B w hs => let h := (hs.pick hp).focus0 hi; k h.1 B w h.2
theorem JC.focus1 [El1 α β] {c : Code} (i : Nat) (hp : Pick L (row T v xs) L') (hi : i < xs.length) (k : El1.wf (xs.getD i El1.df) → ∀ u, JC P n c Q (foc T v xs i (El1.cs u (xs.getD i El1.df)) :: L') (sl u (El1.sub (xs.getD i El1.df)) :: R) al) : JC P n c Q L R al :=
  fun B w hs => let ⟨h, u, h'⟩ := (hs.pick hp).focus1 hi; k h u B w h'
theorem J.unfocus {l : List Oper} {cs : List Value} (e : α) (hp : Pick L (foc T v xs i cs) L') (he : ∀ j, (∀ f ∈ R, f.p j) → Enc.rd e cs j) (k : J P n ops Q l (row T v (xs.set i e) :: L') R al) : J P n ops Q l L R al :=
  fun B w hs => k B w ((hs.pick hp).unfocus he)
theorem JC.unfocus {c : Code} {cs : List Value} (e : α) (hp : Pick L (foc T v xs i cs) L') (he : ∀ j, (∀ f ∈ R, f.p j) → Enc.rd e cs j) (k : JC P n c Q (row T v (xs.set i e) :: L') R al) : JC P n c Q L R al :=
  fun B w hs => k B w ((hs.pick hp).unfocus he)
end
end Go.Proofs.Ythnokijkdobdfaa
