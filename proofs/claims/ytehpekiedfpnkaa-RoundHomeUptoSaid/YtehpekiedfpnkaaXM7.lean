/- This file proves parts of what its law needs: each part is told ahead of it. No conditions. -/
import Derived.Test.YtehpekiedfpnkaaXM6
import Derived.KernelRfl
import Derived.WalkKit
set_option linter.unusedVariables false
set_option linter.unusedSimpArgs false
namespace Go.Proofs.Ytehpekiedfpnkaa
open Go
theorem fo_66_2 : A5 Try.prog 66 2 4 := ⟨_, _, Try.underlying66, rfl, rfl, 0, Try.sizeOf3⟩
end Go.Proofs.Ytehpekiedfpnkaa
namespace Go.Proofs.Ytehpekiedfpnkaa
open Go
def playFrom (m : List Int) (i : Int) : List Done → List Int × Int
 | [] => (m, -1)
 | d :: r => if (Db m d.op).2.2 ≠ 0 ∨ (Db m d.op).2.1 ≠ d.value then (m, i) else playFrom (Db m d.op).1 (i + 1) r
def zeros (lines : Int) : List Int := List.replicate lines.toNat 0
def flatPlay (lines : Int) (l : List Done) : List Int × Int := playFrom (zeros lines) 0 l
theorem flatDo_len {m : List Int} {o : Op} : (Db m o).1.length ≤ m.length := by
 unfold Db; split
 ·simp
 ·split <;> simp
theorem drop_at {α : Type} {l : List α} {k : Nat} {d : α} (h : l[k]? = some d) : l.drop k = d :: l.drop (k + 1) := by
 obtain ⟨hk, he⟩ := List.getElem?_eq_some_iff.1 h
 rw [List.drop_eq_getElem_cons hk, he]
theorem playFrom_stop {m : List Int} {i : Int} {d : Done} {r : List Done} (h : (Db m d.op).2.2 ≠ 0 ∨ (Db m d.op).2.1 ≠ d.value) : playFrom m i (d :: r) = (m, i) := by simp only [playFrom]; rw [if_pos h]
theorem playFrom_go {m : List Int} {i : Int} {d : Done} {r : List Done} (h : ¬ ((Db m d.op).2.2 ≠ 0 ∨ (Db m d.op).2.1 ≠ d.value)) : playFrom m i (d :: r) = playFrom (Db m d.op).1 (i + 1) r := by simp only [playFrom]; rw [if_neg h]
end Go.Proofs.Ytehpekiedfpnkaa
set_option maxHeartbeats 1000000
set_option maxRecDepth 8000
namespace Go.Proofs.Ytehpekiedfpnkaa
open Go
instance : CFo 66 2 4 := ⟨fo_66_2⟩
end Go.Proofs.Ytehpekiedfpnkaa
set_option maxHeartbeats 1000000
set_option maxRecDepth 8000
namespace Go.Proofs.Ytehpekiedfpnkaa
open Go
theorem openLinN {P : Program} {n : Nat} {Q : Exit → Act → World → Prop} {L : List Chunk} {R : List Fact} {al : List (Nat × Value)} {cd : Code} {u : Value} {x : Chip} {p : Nat} (i : Nat) (hm : sl u (cor x p).lines ∈ R) (hi : i < (cor x p).lines.length) (k : (lin x i p).wf → JC P n cd Q L (cF u 7 i (lin x i p).cells :: R) al) : JC P n cd Q L R al := JC.open0 i hm hi k
end Go.Proofs.Ytehpekiedfpnkaa
set_option maxHeartbeats 1000000
set_option maxRecDepth 8000
namespace Go.Proofs.Ytehpekiedfpnkaa
open Go
theorem play_done : ∀ {d : List Done} {M M' : List Int} {i : Int}, Dg M d M' → playFrom M i d = (M', -1)
 | [], M, M', i, h => by rw [show M' = M from h]; rfl
 | d :: r, M, M', i, ⟨h1, h2, h3, h4, h5⟩ => by
  have e : Db M d.op = (M.set d.op.line.toNat (Ay (M.getD d.op.line.toNat 0) d.op).1, (Ay (M.getD d.op.line.toNat 0) d.op).2, 0) := by
   unfold Db; rw [if_neg (by omega), if_neg (by omega)]
  have e2 : (Ay (M.getD d.op.line.toNat 0) d.op).2 = d.value := by
   rw [h4]; split
   ·rename_i k; unfold Ay; rw [if_neg (by omega), if_neg (by omega), if_neg (by omega)]
   ·rfl
  rw [playFrom_go (by rw [e]; simp only; rw [e2]; simp), e]
  exact play_done h5
end Go.Proofs.Ytehpekiedfpnkaa
set_option maxHeartbeats 1000000
set_option maxRecDepth 8000
namespace Go.Proofs.Ytehpekiedfpnkaa
open Go
theorem refPlay {L : List Chunk} {R : List Fact} {w : World} {v1 : Value} {l : List Done} {lines : Int} (hs : St (L) R w) (h1 : sl v1 l ∈ R) (hl0 : 0 ≤ lines) (hl4 : lines ≤ 100) : Calls Try.prog 30 [vi lines, v1].toArray w (Bw (fun v : Value => .tuple #[v, vi (flatPlay lines l).2]) (fun v => L) (fun v => sl v (flatPlay lines l).1 :: R)) := by
 have hlen := Bg h1 hs
 refine Aj Try.func30 rfl Try.ntmps30 rfl hs ?_
 clear hs
 refine Gm ?_
 refine Gb2 ?_
 refine Gb1 ?_
 refine rn1 ?_
 refine ob (q_mx (a := lines) rfl hl0) ?_
 refine Ga1 ?_
 refine JC.rowNil 3 Int ?_
 refine Bx (γ := Nat × Value) (fun g => (g.1 : Int) ≤ lines) (fun g => row 3 g.2 (List.replicate g.1 (0 : Int)) :: L) (fun _ => R) (fun g => [(1, v1), (6, g.2), (13, vi lines), (14, vi (g.1 : Int))]) (fun g => lines.toNat - g.1) (0, .slice none 0 0) (by show (0 : Int) ≤ lines; omega) alT (fun w hs => Ai hs) ?_
 rintro ⟨k, v6⟩ hk
 try simp only at hk ⊢
 refine Gm ?_
 refine Ga1 ?_
 refine cdy ?_ ?_
 ·intro ht15
  refine Gm ?_
  refine rn1 ?_
  refine li (α := Int) ([0] : List Int) Ff rfl (fun j hj => ⟨⟨_, rfl, rfl, by unfold An; decide⟩, trivial⟩) ?_; intro v17
  refine ap Ff (hb := fun w hs => by have : maxN = 16777216 := rfl; simp only [List.length_cons, List.length_nil, List.length_replicate]; omega) (k := ?_); intro v18
  refine Gb1 ?_
  refine Ga2 ?_
  refine Bb (k + 1, v18) (by show ((k + 1 : Nat) : Int) ≤ lines; omega) (by show lines.toNat - (k + 1) < lines.toNat - k; omega) alT (fun w hs => ?_)
  try simp only
  rw [List.replicate_succ']; exact Ai hs
 ·intro ht15
  refine Gl ?_
  have hkl : lines.toNat = k := by omega
  refine JC.shut (v := v6) pkk ?_
  rw [show List.replicate k (0 : Int) = zeros lines by unfold zeros; rw [hkl]]
  refine Aa ?_
  refine Ga3 ?_
  refine Bx (γ := Nat × Value × List Int) (fun g => g.1 ≤ l.length ∧ g.2.2.length ≤ 16777216 ∧ flatPlay lines l = playFrom g.2.2 (g.1 : Int) (l.drop g.1)) (fun _ => L) (fun g => sl g.2.1 g.2.2 :: R) (fun g => [(6, g.2.1), (20, v1), (21, vi (l.length : Int)), (22, vi (g.1 : Int))]) (fun g => l.length - g.1) (0, v6, zeros lines) ⟨by simp, by unfold zeros; rw [List.length_replicate]; omega, rfl⟩ alT (fun w hs => Ai hs) ?_
  rintro ⟨j, v, mk⟩ ⟨hj, hmk, hpl⟩
  try simp only at hj hmk hpl ⊢
  refine Gm ?_
  refine Ga1 ?_
  refine cdy ?_ ?_
  ·intro ht23
   refine Gl ?_
   refine JC.open0 (xs := l) (v := v1) j mm (by omega) (fun hdw => ?_)
   have hd : l[j]? = some (l.getD j zDone) := by rw [List.getD_eq_getElem?_getD, List.getElem?_eq_getElem (by omega)]; rfl
   refine Aa ?_
   refine rn3 ?_
   refine al_ (cs := zDone.cells) Try.zeroValue66 ?_; intro b8
   refine rn1 ?_
   refine s_B (cs := (l.getD j zDone).cells) Try.sizeOf66 ?_
   refine Gm ?_
   refine rn2 ?_
   refine ob (F3 3 Try.isAgg26 Try.sizeOf26) ?_
   refine Ao Try.call66 rfl (fun w hs => refDo (m := mk) (o := (l.getD j zDone).op) hs mm) ?_; intro v31
   refine Ga7 ?_
   refine kp [4, 5, 6, 7, 8, 9, 10, 11, 20, 21, 22, 23, 24, 25, 26, 27, 28, 29, 30, 31, 32, 33, 34, 35, 36, 37, 38, 39, 40, 41, 42] ?_
   refine Ee 42 (.bool (decide (((Db mk (l.getD j zDone).op).2.2 ≠ 0) ∨ ((Db mk (l.getD j zDone).op).2.1 ≠ (l.getD j zDone).value)))) ?_ ?_
   ·
    rcases (show (((Db mk (l.getD j zDone).op).2.2 ≠ 0)) ∨ (¬ ((Db mk (l.getD j zDone).op).2.2 ≠ 0) ∧ ((Db mk (l.getD j zDone).op).2.1 ≠ (l.getD j zDone).value)) ∨ (¬ ((Db mk (l.getD j zDone).op).2.2 ≠ 0) ∧ ¬ ((Db mk (l.getD j zDone).op).2.1 ≠ (l.getD j zDone).value)) from by omega) with hm | hm | hm
    ·
     refine Aa ?_
     refine rn1 ?_
     refine Kk ?_
     refine Ga6 ?_
     refine Az ?_ (fun w hs => hs)
     exact meT
    ·
     refine Aa ?_
     refine rn1 ?_
     refine K5 ?_
     refine rn4 ?_
     refine gy ?_
     refine Kk ?_
     refine Ga1 ?_
     refine Az ?_ (fun w hs => hs)
     exact meT
    ·
     refine Aa ?_
     refine rn1 ?_
     refine K5 ?_
     refine rn4 ?_
     refine gy ?_
     refine K5 ?_
     refine Ga1 ?_
     refine Az ?_ (fun w hs => hs)
     exact meF
   ·
    refine Aw ?_
    refine Gl ?_
    first | (refine cdx (p := ?p3) (hd := ?d3) ?e3 ?_ ?_; case e3 => exact rfl) | (refine Bk (b := ?b3) ?e3 ?_ ?_; case e3 => exact rfl)
    ·intro ht42
     refine Gm ?_
     refine Ga4 ?_
     have er : flatPlay lines l = (mk, (j : Int)) := by rw [hpl, drop_at hd, playFrom_stop (by omega)]
     rw [er]
     exact Ci v
    ·intro ht42
     refine Gm ?_
     refine Gb2 ?_
     refine Ga2 ?_
     refine Bb (j + 1, v31, (Db mk (l.getD j zDone).op).1) ⟨by show j + 1 ≤ l.length; omega, Nat.le_trans flatDo_len hmk, ?_⟩ (by show l.length - (j + 1) < l.length - j; omega) alT (fun w hs => Ai hs)
     show flatPlay lines l = playFrom (Db mk (l.getD j zDone).op).1 ((j + 1 : Nat) : Int) (l.drop (j + 1))
     rw [hpl, drop_at hd, playFrom_go (by rintro (h | h) <;> omega)]; rfl
  ·intro ht23
   refine Gm ?_
   refine Ga3 ?_
   have er : flatPlay lines l = (mk, -1) := by rw [hpl, List.drop_of_length_le (by omega)]; rfl
   rw [er]
   exact Ci v
end Go.Proofs.Ytehpekiedfpnkaa
namespace Go.Proofs.Ytehpekiedfpnkaa
open Abs
section
variable {n nl : Nat} {x y : Chip} {M M' : List Int} {B B' : Int}
def GvQ9 (l : Line) : Prop := l.want = 3 ∨ l.state = 0
def GvS (n nl : Nat) (S : Nat → Nat → Prop) (x : Chip) : Prop := (∀ j q, j < nl → q < n → (lin x j q).want ≠ 1 ∧ (lin x j q).want ≠ 2) ∧ ∀ j q, j < nl → q < n → S j q → GvQ9 (lin x j q)
theorem hear_gv (c : Core) (id home : Int) (m : Msg) (j : Nat) (hw : (c.lines.getD j zLine).want ≠ 1 ∧ (c.lines.getD j zLine).want ≠ 2) : (((Ae c id home m).1.lines.getD j zLine).want ≠ 1 ∧ ((Ae c id home m).1.lines.getD j zLine).want ≠ 2) ∧ (GvQ9 (c.lines.getD j zLine) → GvQ9 ((Ae c id home m).1.lines.getD j zLine)) := by
 have set : ∀ (l : Line) (w : Op), ¬ (m.line < 0 ∨ (c.lines.length : Int) ≤ m.line) → (j = m.line.toNat → (l.want ≠ 1 ∧ l.want ≠ 2) ∧ (GvQ9 (c.lines.getD j zLine) → GvQ9 l)) → (((A2 c m.line l w).lines.getD j zLine).want ≠ 1 ∧ ((A2 c m.line l w).lines.getD j zLine).want ≠ 2) ∧ (GvQ9 (c.lines.getD j zLine) → GvQ9 ((A2 c m.line l w).lines.getD j zLine)) := by
  intro l w hg hl
  unfold A2; simp only
  rw [Ch _ _ _ _ _ (by omega)]
  split
  ·rename_i e; exact hl e
  ·exact ⟨hw, fun h => h⟩
 have hat : j = m.line.toNat → Ac c m.line = c.lines.getD j zLine := fun e => by rw [e]; rfl
 unfold Ae
 split
 ·exact ⟨hw, fun h => h⟩
 rename_i hg
 split
 ·refine set _ _ hg fun e => ?_
  rw [hat e]
  unfold C5
  split
  ·split
   ·exact ⟨hw, fun _ => .inr rfl⟩
   ·exact ⟨hw, fun h => h⟩
  ·exact ⟨hw, fun h => h⟩
 split
 ·split
  ·rename_i hf
   refine set _ _ hg fun e => ?_
   rw [hat e] at hf ⊢
   unfold Cv
   split
   ·exact ⟨by simp, fun _ => .inr rfl⟩
   ·rename_i h3
    have hst := hf.2.2
    split
    ·exact ⟨hw, fun _ => .inr rfl⟩
    ·refine ⟨hw, fun hgv => ?_⟩
     rcases hgv with hgv | hgv
     ·exact absurd hgv h3
     ·omega
  ·split <;> exact ⟨hw, fun h => h⟩
 split
 ·split
  ·exact ⟨hw, fun h => h⟩
  ·split
   ·rename_i ha
    refine set _ _ hg fun e => ?_
    rw [hat e] at ha
    have := ha.2; omega
   ·exact ⟨hw, fun h => h⟩
 split
 ·exact set _ _ hg fun e => ⟨by simp, fun _ => .inr rfl⟩
 ·exact ⟨hw, fun h => h⟩
theorem gv_do {S : Nat → Nat → Prop} (h : Inv n nl x M) {s : Step} (hk : s.kind ≠ 1) (hok : (Ak x s).2.2 = 0) (hg : GvS n nl S x) : GvS n nl S (Ak x s).1 := by
 by_cases h2 : s.kind = 2
 ·revert hok
  unfold Ak
  rw [if_neg hk, if_pos h2]
  split
  ·intro hc; exact absurd hc (by simp)
  intro _
  simp only
  unfold Be
  split
  ·exact hg
  split
  ·exact hg
  rename_i hp hd
  generalize hm : (Af (Ap ⟨x.cores, x.home, x.frames.eraseIdx s.n.toNat⟩) (Av x.frames s.n)).1 = m at *
  have hca : Aq ⟨x.cores, x.home, x.frames.eraseIdx s.n.toNat⟩ m.dst = cor x m.dst.toNat := rfl
  rw [hca]
  generalize hc : Ae (cor x m.dst.toNat) m.dst (A7 ⟨x.cores, x.home, x.frames.eraseIdx s.n.toNat⟩) m = z
  have hz : ∀ j, (z.1.lines.getD j zLine) = ((Ae (cor x m.dst.toNat) m.dst (A7 ⟨x.cores, x.home, x.frames.eraseIdx s.n.toNat⟩) m).1.lines.getD j zLine) := fun j => by rw [hc]
  by_cases hdn : m.dst.toNat < n
  ·have hl : ∀ j q, lin (C1 ⟨x.cores, x.home, x.frames.eraseIdx s.n.toNat⟩ m.dst z.1 z.2.1) j q = if q = m.dst.toNat then z.1.lines.getD j zLine else lin x j q := fun j q => by
    show ((x.cores.set m.dst.toNat z.1).getD q E4).lines.getD j zLine = _
    rw [Ch _ _ _ _ _ (by rw [h.nc]; exact hdn)]
    split
    ·rfl
    ·rfl
   refine ⟨fun j q hj hq => ?_, fun j q hj hq hS => ?_⟩
   ·rw [hl]; split
    ·rename_i e; rw [hz]; exact (hear_gv _ _ _ _ j (by have := hg.1 j q hj hq; rw [e] at this; exact this)).1
    ·exact hg.1 j q hj hq
   ·rw [hl]; split
    ·rename_i e; rw [hz]
     exact (hear_gv _ _ _ _ j (by have := hg.1 j q hj hq; rw [e] at this; exact this)).2 (by have := hg.2 j q hj hq hS; rw [e] at this; exact this)
    ·exact hg.2 j q hj hq hS
  ·have hl : ∀ j q, lin (C1 ⟨x.cores, x.home, x.frames.eraseIdx s.n.toNat⟩ m.dst z.1 z.2.1) j q = lin x j q := fun j q => by
    show ((x.cores.set m.dst.toNat z.1).getD q E4).lines.getD j zLine = _
    rw [List.set_eq_of_length_le (by rw [h.nc]; omega)]; rfl
   exact ⟨fun j q hj hq => by rw [hl]; exact hg.1 j q hj hq, fun j q hj hq hS => by rw [hl]; exact hg.2 j q hj hq hS⟩
 ·obtain ⟨e1, e2⟩ := Adq hk h2 hok
  exact ⟨fun j q hj hq => by rw [Afg e1]; exact hg.1 j q hj hq, fun j q hj hq hS => by rw [Afg e1]; exact hg.2 j q hj hq hS⟩
theorem gv_all {S : Nat → Nat → Prop} : ∀ (l : List Step) {x : Chip} {M : List Int}, (∀ s ∈ l, s.kind ≠ 1) → Inv n nl x M → GvS n nl S x → GvS n nl S (Cq x l).1
 | [], x, M, _, h, hg => by simpa [Cq] using hg
 | s :: l, x, M, hs, h, hg => by
  have hk := hs s (List.mem_cons_self ..)
  have hr := fun t ht => hs t (List.mem_cons_of_mem _ ht)
  by_cases hok : (Ak x s).2.2 = 0
  ·obtain ⟨M', h', _⟩ := Ix h hok
   rw [E2 hok]; exact gv_all l hr h' (gv_do h hk hok hg)
  ·rw [Ft hok]; exact gv_all l hr h hg
def Back (n nl : Nat) (S : Nat → Nat → Prop) (x : Chip) : Prop := E9 x = true ∧ x.frames.length = 0 ∧ ∀ j q, j < nl → q < n → S j q → (lin x j q).state = 0
theorem calm_want (h : Inv n nl x M) (hc : E9 x = true) {j q : Nat} (hj : j < nl) (hq : q < n) : (lin x j q).want = 0 :=
 ((h.cw q hq).free ((calmR_iff.1 hc).2 q (by rw [h.nc]; exact hq))).2 j hj
theorem ev_ok (h : Inv n nl x M) (hB : B < 65535) (ht : TI n nl B x) (hc : E9 x = true) {p i : Nat} (hp : p < n) (hi : i < nl) : (Ak x (evS p i)).2.2 = 0 := by
 have hnc : A7 x = (n : Int) := by unfold A7; rw [h.nc]
 have hca : Aq x (evS p i).node = cor x p := by unfold Aq evS cor; simp
 have hwk := (calmR_iff.1 hc).2 p (by rw [h.nc]; exact hp)
 have hcl := h.ncl p hp
 have hla : Ac (cor x p) (evS p i).op.line = lin x i p := by unfold Ac evS lin; simp
 have hse : (lin x i p).serial < 65535 := by
  have h1 := (ht i hi).2
  have h2 : (lin x i p).serial ≤ Sq (fun q => (lin x i q).serial) n := by
   have h0 : ∀ q, q < n → (0 : Int) ≤ (lin x i q).serial := fun q hq => (h.ci i hi q hq).se.1
   have := Kv (f := fun q => if q = p then (lin x i p).serial else 0) (g := fun q => (lin x i q).serial) (k := n) (fun q hq => by
    split
    ·rename_i e; rw [e]; exact Int.le_refl _
    ·exact h0 q hq)
   have h3 : (lin x i p).serial ≤ Sq (fun q => if q = p then (lin x i p).serial else 0) n := by
    have hz : (0 : Int) ≤ (lin x i p).serial := h0 p hp
    have : ∀ k, p < k → (lin x i p).serial ≤ Sq (fun q => if q = p then (lin x i p).serial else 0) k := by
     intro k
     induction k with
     | zero => intro hk; omega
     | succ k ih =>
      intro hk
      simp only [Sq]
      by_cases e : k = p
      ·subst e
       have h9 : (0 : Int) ≤ Sq (fun q => if q = k then (lin x i k).serial else 0) k := by
        have := Kv (f := fun _ => (0 : Int)) (g := fun q => if q = k then (lin x i k).serial else 0) (k := k) (fun q _ => by split <;> omega)
        rw [Mj (f := fun _ => (0 : Int)) (fun _ _ => rfl)] at this; exact this
       rw [if_pos rfl]; omega
      ·rw [if_neg e]; have := ih (by omega); omega
    exact this n hp
   omega
  omega
 unfold Ak
 rw [if_pos (show (evS p i).kind = 1 from rfl), if_neg (by rw [hnc]; unfold evS; simp only; omega), hca]
 have hb : (Ah (cor x p) (evS p i).node (A7 x) (evS p i).op).2.2.2 = 0 := by
  unfold Ah
  rw [if_neg (by unfold evS; simp), if_neg (by rw [hcl]; unfold evS; simp only; omega), if_neg (by rw [hla]; omega)]
  split <;> rfl
 rw [if_neg (by rw [hb]; simp)]
theorem homeStep_back {S : Nat → Nat → Prop} (h : Inv n nl x M) (hB : B + 1 < 65535) (ht : TI n nl B x) (hb : Back n nl S x) {p i : Nat} (hp : p < n) (hi : i < nl) : Back n nl (fun j q => S j q ∨ (q = p ∧ j = i)) (E1 x p i).1 := by
 obtain ⟨hc, _, hS⟩ := hb
 have hok := ev_ok h (by omega) ht hc hp hi
 unfold E1
 rw [if_pos hok]
 obtain ⟨M1, h1, _⟩ := Ix h hok
 have t1 := Agb h (by omega) ht hok
 rw [if_pos (show (evS p i).kind = 1 from rfl)] at t1
 obtain ⟨p', i', hp', hi', e1, e2, _, _, hl⟩ := Zy h (s := evS p i) rfl hok
 have ep : p' = p := by have : ((p : Nat) : Int) = p' := e1; omega
 have ei : i' = i := by have : ((i : Nat) : Int) = i' := e2; omega
 subst ep ei
 have hg : GvS n nl (fun j q => S j q ∨ (q = p' ∧ j = i')) (Ak x (evS p' i')).1 := by
  have hbl : ((Ax (lin x i' p') (evS p' i').op).want ≠ 1 ∧ (Ax (lin x i' p') (evS p' i').op).want ≠ 2) ∧ GvQ9 (Ax (lin x i' p') (evS p' i').op) := by
   have hw := calm_want h hc hi hp
   unfold Ax GvQ9
   rw [if_pos (show (evS p' i').op.kind = 4 from rfl)]
   split
   ·exact ⟨by simp, .inl rfl⟩
   ·exact ⟨by simp only; omega, .inr rfl⟩
  refine ⟨fun j q hj hq => ?_, fun j q hj hq hs => ?_⟩
  ·rw [hl]; split
   ·exact hbl.1
   ·have := calm_want h hc hj hq; omega
  ·rw [hl]; split
   ·exact hbl.2
   ·rename_i hn
    rcases hs with hs | hs
    ·exact .inr (hS j q hj hq hs)
    ·exact absurd hs hn
 obtain ⟨⟨ls, l1, l2⟩, c1, c2, _⟩ := Il h1 hB t1
 obtain ⟨M2, h2, _⟩ := Jb h1 hB t1
 have hg2 := gv_all ls l1 h1 hg
 rw [l2] at hg2
 refine ⟨c1, c2, fun j q hj hq hs => ?_⟩
 rcases hg2.2 j q hj hq hs with g | g
 ·have := calm_want h2 c1 hj hq
  simp only at g; omega
 ·exact g
theorem hRow_back {S : Nat → Nat → Prop} (p : Nat) (hp : p < n) : ∀ (i : Nat) {x : Chip} {M : List Int} {B : Int}, i ≤ nl → Inv n nl x M → B + i < 65535 → TI n nl B x → Back n nl S x → Back n nl (fun j q => S j q ∨ (q = p ∧ j < i)) (Ie x p i).1
 | 0, x, M, B, hi, h, hB, ht, hb => ⟨hb.1, hb.2.1, fun j q hj hq hs => hb.2.2 j q hj hq (hs.resolve_right (fun c => absurd c.2 (by omega)))⟩
 | i + 1, x, M, B, hi, h, hB, ht, hb => by
  obtain ⟨M1, h1, t1, _⟩ := Pt p i h (by omega) ht
  have hb1 := hRow_back p hp i (by omega) h (by omega) ht hb
  obtain ⟨a, b, c⟩ := homeStep_back h1 (by omega) t1 hb1 hp (show i < nl by omega)
  refine ⟨a, b, fun j q hj hq hs => c j q hj hq ?_⟩
  rcases hs with hs | ⟨h8, h9⟩
  ·exact .inl (.inl hs)
  ·by_cases e : j = i
   ·exact .inr ⟨h8, e⟩
   ·exact .inl (.inr ⟨h8, by omega⟩)
theorem hAll_back : ∀ (p : Nat) {x : Chip} {M : List Int} {B : Int}, p ≤ n → Inv n nl x M → B + (p * nl : Nat) < 65535 → TI n nl B x → Back n nl (fun _ _ => False) x → Back n nl (fun _ q => q < p) (Gj x nl p).1
 | 0, x, M, B, hp, h, hB, ht, hb => ⟨hb.1, hb.2.1, fun j q hj hq hs => absurd hs (by omega)⟩
 | p + 1, x, M, B, hp, h, hB, ht, hb => by
  rw [Nat.succ_mul] at hB
  obtain ⟨M1, h1, t1, _⟩ := Ut p h (by omega) ht
  have hb1 := hAll_back p (by omega) h (by omega) ht hb
  obtain ⟨a, b, c⟩ := hRow_back p (by omega) nl (Nat.le_refl _) h1 (by omega) t1 hb1
  refine ⟨a, b, fun j q hj hq hs => c j q hj hq ?_⟩
  by_cases e : q = p
  ·exact .inr ⟨e, hj⟩
  ·exact .inl (by omega)
theorem home_facts (h : Inv n nl x M) (hB : B + 20 < 65535) (ht : TI n nl B x) : ∃ Mz, Inv n nl (Fb x).1 Mz ∧ Dg M (Fb x).2 Mz ∧ (Fb x).1.frames.length = 0 ∧ (∀ j q, j < nl → q < n → (lin (Fb x).1 j q).state = 0) ∧ ∀ i, i < nl → (ent (Fb x).1 i).value = Mz.getD i 0 ∧ (ent (Fb x).1 i).owner < 0 ∧ (ent (Fb x).1 i).phase = 0 := by
 obtain ⟨M1, h1, d1, t1⟩ := Jb h (by omega) ht
 obtain ⟨_, c1, f1, _⟩ := Il h (by omega) ht
 have hn := h.n1; have hl := h.l1
 have hnl : n * nl ≤ 16 := by
  have : n * nl ≤ 4 * 4 := Nat.mul_le_mul hn.2 hl.2
  omega
 have e1 := h1.nc; have e2 := h1.nh
 obtain ⟨Mz, hz, tz, dz, _⟩ := Ut n h1 (by omega) t1
 obtain ⟨b1, b2, b3⟩ := hAll_back n (Nat.le_refl _) h1 (by omega) t1 ⟨c1, f1, fun _ _ _ _ hf => absurd hf id⟩
 have er : Fb x = ((Gj (Au x).1 nl n).1, (Au x).2.1 ++ (Gj (Au x).1 nl n).2) := by unfold Fb; rw [e1, e2]
 rw [er]; simp only
 have hst : ∀ j q, j < nl → q < n → (lin (Gj (Au x).1 nl n).1 j q).state = 0 := fun j q hj hq => b3 j q hj hq hq
 refine ⟨Mz, hz, Nt d1 dz, b2, hst, fun i hi => ?_⟩
 have hph : (ent (Gj (Au x).1 nl n).1 i).phase = 0 := (calmR_iff.1 b1).1 i (by rw [hz.nh]; exact hi)
 have hgi := (hz.gi i hi).own
 simp only [ab] at hgi
 have ho : (ent (Gj (Au x).1 nl n).1 i).owner = -1 := by
  refine Classical.byContradiction fun hc => ?_
  obtain ⟨w, hw⟩ : ∃ w : Nat, (ent (Gj (Au x).1 nl n).1 i).owner = w := ⟨(ent (Gj (Au x).1 nl n).1 i).owner.toNat, by omega⟩
  have hwn : w < n := by omega
  have h5 := (hz.ci i hi w hwn).own hw
  have h6 := hst i w hi hwn
  simp only [ab] at h5
  omega
 refine ⟨?_, by omega, hph⟩
 have hv := (hz.ci i hi 0 (by omega)).val
 simp only [ab] at hv
 exact hv ho (fun h8 => by omega)
end
end Go.Proofs.Ytehpekiedfpnkaa
set_option maxHeartbeats 1000000
set_option maxRecDepth 8000
namespace Go.Proofs.Ytehpekiedfpnkaa
open Go
section
variable {P : Program} {n : Nat} {Q : Exit → Act → World → Prop} {Sh : Rho → (Nat → Bool) → List Chunk} {R0 : List Fact} {al0 : List (Nat × Value)}
variable {ops : Array Oper} {i : Nat} {rest : List Oper} {its : List Item} {d : Nat} {x y : Operand} {T ty : TypeId} {pos : String} {aft : Array Edge}
theorem e_appendG {α : Type} [Enc α] {t e : TypeId} {d sz bytes : Nat} {z : Value} {xs ys : List α} {v u : Rho → Value} (C : Value → List Chunk) (F : Value → List Fact) (hC : ∀ g L R w, St (row e g (xs ++ ys) :: L) R w → St (C g ++ L) (F g ++ R) w) (he : ElemOf P t e sz z bytes) (hx : ∀ ρ, ev n (El its al0 ρ) x = some (v ρ)) (hy : ∀ ρ, ev n (El its al0 ρ) y = some (u ρ)) (hsz : Enc.sz α = sz) (hpos : 0 < sz)
  (hm : ∀ ρ R', Deps ops R0 its i ρ R' → sl (u ρ) ys ∈ R') (hb : xs.length + ys.length ≤ maxN)
  (hSh : ∀ ρ (g : Value) S, S i = false → (∀ j, Bef ops j i → S j = true) → (∀ j, Bef ops i j → S j = false) → ∃ L1, (Sh ρ S).Perm (row e (v ρ) xs :: L1) ∧ (Sh (Rho.set ρ i (Gh.enc g)) (upS S i)).Perm (C g ++ L1))
  (k : DJ P n ops Q Sh R0 al0 (i + 1) rest (⟨i, some d, fun ρ => (Gh.dec (ρ i) : Value), fun ρ => F (Gh.dec (ρ i)), fun _ => []⟩ :: its)) :
  DJ P n ops Q Sh R0 al0 i (⟨some d, .call { callee := .builtin .append, args := #[x, y], argTypes := #[t, t] }, ty, pos, aft, none⟩ :: rest) its := by
 refine dj ⟨⟨i, some d, fun ρ => (Gh.dec (ρ i) : Value), fun ρ => F (Gh.dec (ρ i)), fun _ => []⟩, rfl, rfl, Ind.self (h := fun g => (Gh.dec g : Value)), Ind.self (h := fun g => F (Gh.dec g)), Ind.const _, ?_, k⟩
 intro ρ S a L' R' w K hS hbef haft hag hdep hbase hst hK
 rw [if_pos (by simp [Region.wanted])]
 left
 unfold Oper.wp
 obtain ⟨L1, p1, _⟩ := hSh ρ undef S hS hbef haft
 have hs' : St (row e (v ρ) xs :: (L1 ++ L')) R' w := hst.perm (p1.append_right L')
 obtain ⟨v', w', h1, h2⟩ := Lj (ty := ty) he hsz hpos hs' (hm ρ R' ⟨hbase, hdep⟩) hb
 have hx' := Cx hag (by simp [Op.operands, Call.operands]) (hx ρ)
 have hy' := Cx hag (by simp [Op.operands, Call.operands]) (hy ρ)
 rw [Gx (w' := w') (v := v') (by rw [hx', hy']; exact h1), Oper.upon_value]
 obtain ⟨L2, q1, q2⟩ := hSh ρ v' S hS hbef haft
 have e2 : (Rho.set ρ i (Gh.enc v')) i = Gh.enc v' := by simp [Rho.set]
 have hL : L1.Perm L2 := (List.perm_cons _).1 (p1.symm.trans q1)
 have := hK (Gh.enc v') w'
 simp only [e2, Gh.ok] at this
 exact this ((hC v' _ R' w' h2).perm (by rw [← List.append_assoc]; exact ((hL.append_left _).trans q2.symm).append_right L'))
theorem e_litO {α : Type} [Enc α] {t el : TypeId} {sz bytes len : Nat} {z : Value} {parts : List (Nat × Operand)} {vs : Rho → List Value} (xs : List α) (he : ElemOf P t el sz z bytes) (hsz : Enc.sz α = sz)
  (ha : ∀ ρ, evL n (El its al0 ρ) (parts.map (·.2)) = some (vs ρ)) (hidx : parts.map (·.1) = List.range' 0 len) (hlv : ∀ ρ, (vs ρ).length = len) (hsmall : Nat.ble (len * sz) 1000 = true) (hsm2 : Nat.ble len 1000 = true)
  (hrd : ∀ ρ R', Deps ops R0 its i ρ R' → ∀ j, (∀ q ∈ R', q.p j) → RdV xs (vs ρ) j)
  (hSh : ∀ ρ (g : Value) S, S i = false → (∀ j, Bef ops i j → S j = false) → (Sh (Rho.set ρ i (Gh.enc g)) (upS S i)).Perm (row el g xs :: Sh ρ S))
  (k : DJ P n ops Q Sh R0 al0 (i + 1) rest (⟨i, some d, fun ρ => (Gh.dec (ρ i) : Value), fun _ => [], fun _ => []⟩ :: its)) :
  DJ P n ops Q Sh R0 al0 i (⟨some d, .buildSlice t len parts.toArray, ty, pos, aft, none⟩ :: rest) its := by
 refine dj ⟨⟨i, some d, fun ρ => (Gh.dec (ρ i) : Value), fun _ => [], fun _ => []⟩, rfl, rfl, Ind.self (h := fun g => (Gh.dec g : Value)), Ind.const _, Ind.const _, ?_, k⟩
 intro ρ S ac L' R' w K hS hbef haft hag hdep hbase hst hK
 rw [if_pos (by simp [Region.wanted])]
 left
 obtain ⟨j, hj, hrj⟩ := hst.ex
 have hrd' := hrd ρ R' ⟨hbase, hdep⟩
 obtain ⟨h1, h2, h3⟩ := (hrd' j hrj).list
 have hlen := hlv ρ
 have hb := Nat.le_of_ble_eq_true hsmall
 have hb2 := Nat.le_of_ble_eq_true hsm2
 have hrun := G8 (vs := vs ρ) he (fun v hv => by rw [h2 v hv, hsz]) (by rw [hlen]; exact hb) w
 have e : (execOp ac.eval ⟨some d, .buildSlice t len parts.toArray, ty, pos, aft, none⟩).run P w = .ok (.value (.slice (some ⟨w.heap.size, 0, none⟩) len len)) (w.alloc (.cells ((vs ρ).flatMap fun v => v.cells.toList).toArray el)) := by
  show (Instr.buildSlice t len (parts.toArray.map fun (i, x) => (i, ac.eval x)) >>= fun v => Pure.pure (Next.value v)).run P w = _
  have hp : (parts.toArray.map fun (i, x) => (i, ac.eval x)) = ((parts.map (·.1)).zip (vs ρ)).toArray := by
   rw [← G1 hag (fun x hx => by simpa [Op.operands] using hx) (ha ρ)]
   simp only [List.map_toArray, List.map_map, List.zip_map', Function.comp_def]
  rw [hp, hidx, Sem.run_bind, ← hlen, hrun]; rfl
 unfold Oper.wp
 rw [e, Oper.upon_value]
 obtain ⟨m, j', hd, hmw, hjw, hst', hr⟩ := hst
 have hnew : St (row el (.slice (some ⟨w.heap.size, 0, none⟩) len len) xs :: (Sh ρ S ++ L')) R' (w.alloc (.cells ((vs ρ).flatMap fun v => v.cells.toList).toArray el)) := by
  obtain ⟨g1, g2, g3⟩ := (hrd' j' hr).list
  have hcl : ((vs ρ).flatMap fun v => v.cells.toList).length = len * sz := by rw [g3.len, g1, hlen, hsz]
  exact St.newC hd hmw hjw hst' hr rfl rfl rfl ⟨by rw [g1, hlen]; have : maxN = 16777216 := rfl; omega, .inr ⟨w.heap.size, len, _, _, by rw [g1, hlen], E0 _ _, by rw [g1, hlen]; exact Nat.le_refl _, by unfold maxLen; omega, by rw [hsz]; simpa using hcl, rfl, by
   rw [g1, hlen, hsz, ← hcl, List.toList_toArray, List.take_length]; exact g3⟩⟩
 have e2 : (Rho.set ρ i (Gh.enc (Value.slice (some ⟨w.heap.size, 0, none⟩) len len))) i = Gh.enc (Value.slice (some ⟨w.heap.size, 0, none⟩) len len) := by simp [Rho.set]
 have := hK (Gh.enc (Value.slice (some ⟨w.heap.size, 0, none⟩) len len)) (w.alloc (.cells ((vs ρ).flatMap fun v => v.cells.toList).toArray el))
 simp only [e2, Gh.ok] at this
 exact this (hnew.perm ((hSh ρ _ S hS haft).symm.append_right L'))
end
theorem Ins.ex {l' l : List Chunk} {x : Chunk} (h : Ins l' l x) : ∃ L1, l'.Perm (x :: L1) ∧ l.Perm L1 := ⟨l, h.perm, .refl _⟩
theorem doAll_len6 : ∀ (l : List Step) (x : Chip), (Cq x l).2.length ≤ l.length
 | [], x => by simp [Cq]
 | s :: l, x => by
  by_cases h : (Ak x s).2.2 = 0
  ·have := doAll_len6 l (Ak x s).1; have := Nu x s
   unfold Cq; rw [if_pos h]; simp only [List.length_append, List.length_cons]; omega
  ·have := doAll_len6 l x
   unfold Cq; rw [if_neg h]; simp only [List.length_cons]; omega
theorem build_len (c : Config) (l : List Step) : (build c l).2.length ≤ 300 := by
 unfold build
 split
 ·simp
 ·have := doAll_len6 (l.take 300) (Cw c).1
  rw [List.length_take] at this
  exact Nat.le_trans this (by omega)
theorem rhome_len {n nl : Nat} {x : Chip} {M : List Int} {B : Int} (h : Inv n nl x M) (hB : B + 20 < 65535) (ht : TI n nl B x) : (Fb x).2.length ≤ 50000 := by
 obtain ⟨M1, h1, d1, t1⟩ := Jb h (by omega) ht
 have hl := Ja h
 have hn := h.n1; have hl2 := h.l1
 have hnl : n * nl ≤ 16 := by
  have : n * nl ≤ 4 * 4 := Nat.mul_le_mul hn.2 hl2.2
  omega
 obtain ⟨_, _, _, _, h5⟩ := Ut n h1 (by omega) t1
 have er : (Fb x).2 = (Au x).2.1 ++ (Gj (Au x).1 nl n).2 := by unfold Fb; rw [h1.nc, h1.nh]
 rw [er, List.length_append]; omega
theorem roundHome_walk {L : List Chunk} {R : List Fact} {w : World} {vl : Value} {c : Config} {l : List Step} (hs : St (L) R w) (hl : sl vl l ∈ R) (hcw : c.wf) : Calls Try.prog 13 [.agg c.cells.toArray, vl].toArray w (Bw (fun _ : Unit => .bool true) (fun _ => L) (fun _ => R)) := by
 refine Aj Try.func13 rfl Try.ntmps13 rfl hs ?_
 clear hs
 refine Gm ?_
 refine bx ?_; intro b2
 refine Gb1 ?_
 refine Ao Try.call36 rfl (fun w hs => W7 hs) ?_; intro _
 refine Gd1 ?_
 refine rn2 ?_
 refine Ao Try.call14 rfl (fun w hs => Ua (c := c) (l := l) hs mm hcw) ?_; intro v22
 refine J.know (p := v22.1.oneCell' = true ∧ v22.2.1.oneCell' = true ∧ v22.2.2.1.oneCell' = true) (fun w hs => ⟨isSlice.one (hs.fact (.head _)), isSlice.one (hs.fact (.tail _ (.head _))), isSlice.one (hs.fact (.tail _ (.tail _ (.head _))))⟩) (fun h12 => ?_)
 obtain ⟨hone1, hone2, hone3⟩ := h12
 refine rn3 ?_
 refine al_ (cs := [.slice none 0 0, .slice none 0 0, .slice none 0 0]) Try.zeroValue33 ?_; intro b5
 refine s_B (cs := [v22.1, v22.2.1, v22.2.2.1]) Try.sizeOf33 ?_
 refine Ga1 ?_
 rcases (show (((build c l).1.cores.length : Int) = 0) ∨ (((build c l).1.cores.length : Int) ≠ 0) from by omega) with hc | hc
 ·
  refine Aa ?_
  refine rn3 ?_
  refine Cs ?_
  refine Gmc ?_
  refine Ga1 ?_
  exact Co ()
 ·
  obtain ⟨n, nl, hcc, M, hI, hD, hTI⟩ := (Sc c l).resolve_left (fun h => by rw [h, List.length_nil] at hc; omega)
  have hc4 : c.lines = (nl : Int) := by rw [hcc]; rfl
  have hbl := build_len c l
  generalize (build c l).2 = D at hD hbl ⊢
  generalize (build c l).1 = X at hI hc hTI ⊢
  have hl4 := hI.l1
  have hn4 := hI.n1
  obtain ⟨Mz, hIz, hDz, hfz, hlz, hez⟩ := home_facts hI (by decide) hTI
  have hrl := rhome_len hI (by decide) hTI
  have hpl : flatPlay c.lines (D ++ (Fb X).2) = (Mz, -1) := by
   rw [hc4]; unfold flatPlay zeros; rw [Int.toNat_natCast]; exact play_done (H5 hD hDz)
  have hzn := hIz.nc
  have hzh := hIz.nh
  have hzm := hIz.ml
  refine Aa ?_
  refine rn3 ?_
  refine As ?_
  refine Gmc ?_
  refine rn1 ?_
  refine Ao Try.call38 rfl (fun w hs => Agi (x := X) hs mm mm mm hI hTI (by decide)) ?_; intro v31
  refine J.know (p := v31.1.oneCell' = true ∧ v31.2.1.oneCell' = true ∧ v31.2.2.1.oneCell' = true) (fun w hs => ⟨isSlice.one (hs.fact (.head _)), isSlice.one (hs.fact (.tail _ (.head _))), isSlice.one (hs.fact (.tail _ (.tail _ (.head _))))⟩) (fun h12 => ?_)
  obtain ⟨honev311, honev312, honev313⟩ := h12
  refine rn3 ?_
  refine al_ (cs := [.slice none 0 0, .slice none 0 0, .slice none 0 0]) Try.zeroValue33 ?_; intro b7
  refine s_B (cs := [v31.1, v31.2.1, v31.2.2.1]) Try.sizeOf33 ?_
  refine Ga1 ?_
  refine cq_ (blk b7 33 [v31.1, v31.2.1, v31.2.2.1] :: blk b2 23 c.cells :: L) ?_
  refine jd_ (fun ρ S => blk b7 33 [v31.1, v31.2.1, v31.2.2.1] :: blk b2 23 c.cells :: ((bif S 6 then [] else (bif S 4 then [row 66 (Gh.dec (γ := Value) (ρ 4)) D] else (bif S 2 then [row 66 (Gh.dec (γ := Value) (ρ 2)) ([] : List Done)] else []))) ++ (L))) ?_
  refine dn2 ?_
  refine e_litO ([] : List Done) F4 rfl (fun _ => rfl) rfl (fun _ => rfl) rfl rfl (fun _ _ _ _ _ => trivial) (fun ρ g S hS hA => ?_) ?_
  ·
   have ui : upS S 2 2 = true := rfl; have u4 : upS S 2 4 = S 4 := rfl; have u6 : upS S 2 6 = S 6 := rfl; have r4 : Rho.set ρ 2 (Gh.enc g) 4 = ρ 4 := rfl; have r6 : Rho.set ρ 2 (Gh.enc g) 6 = ρ 6 := rfl; have h4 : S 4 = false := hA 4 ⟨0, rfl⟩; have h6 : S 6 = false := hA 6 ⟨1, rfl⟩; have rs : (Gh.dec (γ := Value) (Rho.set ρ 2 (Gh.enc g) 2)) = g := rfl
   simp only [ui, hS, u4, u6, r4, r6, h4, h6, rs, cond_true, cond_false, List.nil_append]
   exact Ins.perm (by repeat (first | exact .hd | exact .hc | refine .tl ?_ | refine .ap ?_))
  refine dn1 ?_
  refine e_appendG (e := 66) (xs := ([] : List Done)) (ys := D) (v := fun ρ => (Gh.dec (γ := Value) (ρ 2))) (fun g => [row 66 g D]) (fun _ => []) (fun _ _ _ _ h => h) F4 (fun _ => rfl) (fun _ => rfl) rfl (by decide) (fun ρ R hd => hd.base mm) (by have : maxN = 16777216 := rfl; simp only [List.length_nil]; omega) (fun ρ g S hS hB hA => ?_) ?_
  ·
   have ui : upS S 4 4 = true := rfl; have u2 : upS S 4 2 = S 2 := rfl; have u6 : upS S 4 6 = S 6 := rfl; have r2 : Rho.set ρ 4 (Gh.enc g) 2 = ρ 2 := rfl; have r6 : Rho.set ρ 4 (Gh.enc g) 6 = ρ 6 := rfl; have h2 : S 2 = true := hB 2 ⟨0, rfl⟩; have h6 : S 6 = false := hA 6 ⟨0, rfl⟩; have rs : (Gh.dec (γ := Value) (Rho.set ρ 4 (Gh.enc g) 4)) = g := rfl
   simp only [ui, hS, u2, u6, r2, r6, h2, h6, rs, cond_true, cond_false]
   exact pex
  refine dn1 ?_
  refine e_appendG (e := 66) (xs := D) (ys := (Fb X).2) (v := fun ρ => (Gh.dec (γ := Value) (ρ 4))) (fun _ => []) (fun g => [sl g (D ++ (Fb X).2)]) (fun _ _ _ _ h => h.shut) F4 (fun _ => rfl) (fun _ => rfl) rfl (by decide) (fun ρ R hd => hd.base mm) (by have : maxN = 16777216 := rfl; omega) (fun ρ g S hS hB hA => ?_) ?_
  ·
   have ui : upS S 6 6 = true := rfl; have u2 : upS S 6 2 = S 2 := rfl; have u4 : upS S 6 4 = S 4 := rfl; have r2 : Rho.set ρ 6 (Gh.enc g) 2 = ρ 2 := rfl; have r4 : Rho.set ρ 6 (Gh.enc g) 4 = ρ 4 := rfl; have h2 : S 2 = true := hB 2 ⟨1, rfl⟩; have h4 : S 4 = true := hB 4 ⟨0, rfl⟩; have rs : (Gh.dec (γ := Value) (Rho.set ρ 6 (Gh.enc g) 6)) = g := rfl
   simp only [ui, hS, u2, u4, r2, r4, h2, h4, rs, cond_true, cond_false]
   exact Ins.ex (by repeat (first | exact .hd | exact .hc | refine .tl ?_ | refine .ap ?_))
  refine Bt (γ := Value) (val := fun v => .tuple #[v, vi (-1)]) (F := fun v => [sl v Mz]) Try.call30 (fun _ => rfl) (fun ρ L R w hd hs => by have h8 := refPlay (l := D ++ (Fb X).2) (lines := c.lines) hs (hd.dep (it := ⟨6, _, _, _, _⟩) (by repeat (first | exact List.Mem.head _ | refine List.Mem.tail _ ?_)) ⟨9, rfl⟩ (List.Mem.head _)) (by omega) (by omega); rw [hpl] at h8; exact h8) (fun _ _ _ _ _ => rfl) ?_
  refine e_p (v := fun ρ => .tuple #[(Gh.dec (γ := Value) (ρ 7)), vi (-1)]) (fun _ _ => S2) (Ind.gh (h := fun g => (.tuple #[(Gh.dec (γ := Value) g), vi (-1)] : Value)) 7 0 rfl) (fun _ _ _ _ _ => rfl) ?_
  refine e_p (v := fun ρ => (Gh.dec (γ := Value) (ρ 7))) (fun _ _ => q_x) (Ind.gh (h := fun g => ((Gh.dec (γ := Value) g) : Value)) 7 1 rfl) (fun _ _ _ _ _ => rfl) ?_
  refine J9 (v := vi (-1)) (fun _ _ => q_x) (fun _ _ _ _ _ => rfl) ?_
  refine epg 7 0 ?_
  refine J9 (v := vi (-1)) (fun _ _ => Dv) (fun _ _ _ _ _ => rfl) ?_
  refine dnl ?_; intro ρ
  refine xq_ (blk b7 33 [v31.1, v31.2.1, v31.2.2.1] :: blk b2 23 c.cells :: L) ?_
  generalize (Gh.dec (γ := Value) (ρ 2)) = v37
  generalize (Gh.dec (γ := Value) (ρ 4)) = v39
  generalize (Gh.dec (γ := Value) (ρ 6)) = v41
  generalize (Gh.dec (γ := Value) (ρ 7)) = v42
  refine Gl ?_
  refine kp [2, 4, 7, 9, 10, 45, 46, 47, 48, 49, 50, 51, 52, 53, 54, 55, 56, 57, 58, 59, 60] ?_
  refine Aa ?_
  refine rn1 ?_
  refine ob (Am rfl rfl (Cd (by decide))) ?_
  refine rn6 ?_
  refine gy ?_
  refine K5 ?_
  refine rn5 ?_
  refine gy ?_
  refine Fd ?_
  refine Gd1 ?_
  refine Ga4 ?_
  refine Bx (γ := Nat) (fun i => i ≤ nl) (fun _ => blk b7 33 [v31.1, v31.2.1, v31.2.2.1] :: L) (fun _ => sl v42 Mz :: sl v31.2.1 (Fb X).1.home :: sl v31.1 (Fb X).1.cores :: R) (fun i => [(7, bp b7 0), (9, v42), (62, v31.2.1), (63, vi ((Fb X).1.home.length : Int)), (64, vi (i : Int))]) (fun i => nl - i) 0 (Nat.zero_le _) alT (fun w hs => Ai hs) ?_
  intro i hi
  refine Gm ?_
  refine Ga1 ?_
  refine cdy ?_ ?_
  ·intro ht65
   refine Gl ?_
   refine Ue i (x := (Fb X).1) (v := v31.2.1) mm (by omega) (fun hew ue honeue => ?_)
   have hei := hez i (by omega)
   refine Aa ?_
   refine rn3 ?_
   refine al_ (cs := [vi 0, vi 0, vi 0, vi 0, vi 0, vi 0, .bool false, vi 0, vi 0, .slice none 0 0]) Try.zeroValue80 ?_; intro b12
   refine rn1 ?_
   refine s_B (cs := Entry.cells ue (ent (Fb X).1 i)) Try.sizeOf80 ?_
   refine Gl ?_
   refine JC.open0 (xs := Mz) (v := v42) i mm (by omega) (fun hmw => ?_)
   have hmd : Mz.getD i El0.df = Mz.getD i 0 := rfl
   refine Bv ?_
   refine dn6 ?_
   refine djc (fun _ _ => Am rfl rfl (De (by omega))) ?_
   refine djm ?_
   refine dn2 ?_
   refine dj (dgy ?_)
   refine dc (fun _ _ => Am rfl rfl (Cd (by omega))) ?_
   refine djf ?_
   refine djm ?_
   refine dn2 ?_
   refine dj (dgy ?_)
   refine dc (fun _ _ => Am rfl rfl (De (by omega))) ?_
   refine djf ?_
   refine dnl ?_; intro ρ
   refine Glc ?_
   refine kp [4, 7, 9, 11, 12, 62, 63, 64, 65, 66, 67, 68, 69, 70, 71, 72, 73, 74, 75, 76, 77, 78, 79, 80, 81, 82, 83, 84, 85, 86] ?_
   refine Aa ?_
   refine Ga2 ?_
   refine Bb (i + 1) (by omega) (by omega) alT (fun w hs => Ai hs)
  ·intro ht65
   refine Gm ?_
   refine Ga4 ?_
   refine Bx (γ := Nat) (fun p => p ≤ n) (fun _ => L) (fun _ => sl v31.1 (Fb X).1.cores :: R) (fun p => [(88, v31.1), (89, vi ((Fb X).1.cores.length : Int)), (90, vi (p : Int))]) (fun p => n - p) 0 (Nat.zero_le _) alT (fun w hs => Ai hs) ?_
   intro p hp
   refine Gm ?_
   refine Ga1 ?_
   refine cdy ?_ ?_
   ·intro ht91
    refine Gl ?_
    refine L6 p (x := (Fb X).1) (v := v31.1) mm (by omega) (fun hwt ue honeue => ?_)
    have hcl := hIz.ncl p (by omega)
    refine Aa ?_
    refine rn2 ?_
    refine al_ (cs := [.slice none 0 0, vi 0, vi 0, vi 0]) Try.zeroValue57 ?_; intro b14
    refine s_B (cs := Core.cells ue (cor (Fb X).1 p)) Try.sizeOf57 ?_
    refine Gm ?_
    refine Ga4 ?_
    refine Bx (γ := Nat) (fun j => j ≤ nl) (fun _ => L) (fun _ => sl ue (cor (Fb X).1 p).lines :: sl v31.1 (Fb X).1.cores :: R) (fun j => [(88, v31.1), (89, vi ((Fb X).1.cores.length : Int)), (90, vi (p : Int)), (95, ue), (96, vi ((cor (Fb X).1 p).lines.length : Int)), (97, vi (j : Int))]) (fun j => nl - j) 0 (Nat.zero_le _) alT (fun w hs => Ai hs) ?_
    intro j hj
    refine Gl ?_
    refine kp [4, 14, 88, 89, 90, 91, 92, 93, 94, 95, 96, 97, 98] ?_
    refine Aa ?_
    refine Ga1 ?_
    refine cdy ?_ ?_
    ·intro ht98
     refine Gl ?_
     refine openLinN j (x := (Fb X).1) (p := p) (u := ue) mm (by omega) (fun hlw => ?_)
     have hlj := hlz j p (by omega) (by omega)
     refine Aa ?_
     refine rn2 ?_
     refine al_ (cs := zLine.cells) Try.zeroValue82 ?_; intro b16
     refine s_B (cs := (lin (Fb X).1 j p).cells) Try.sizeOf82 ?_
     refine Gm ?_
     refine rn2 ?_
     refine K5 ?_
     refine Gmc ?_
     refine Ga2 ?_
     refine Bb (j + 1) (by omega) (by omega) alT (fun w hs => Ai hs)
    ·intro ht98
     refine Gm ?_
     refine Ga2 ?_
     refine Bb (p + 1) (by omega) (by omega) alT (fun w hs => Ai hs)
   ·intro ht91
    refine Gm ?_
    refine Ga1 ?_
    exact Co ()
end Go.Proofs.Ytehpekiedfpnkaa
