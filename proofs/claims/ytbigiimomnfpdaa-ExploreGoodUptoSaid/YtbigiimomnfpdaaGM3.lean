/- This file proves parts of what its law needs: each part is told ahead of it. No conditions. -/
import Derived.Test.YtbigiimomnfpdaaGM2
import Derived.Test.YtbigiimomnfpdaaGM1
import Derived.MapKept
set_option linter.unusedVariables false
set_option linter.unusedSimpArgs false
namespace Go.Proofs.Ytbigiimomnfpdaa
open Abs
def E8 (M : List Int) : List Done → List Int → Prop
 | [], M' => M' = M
 | d :: r, M' => (1 ≤ d.op.kind ∧ d.op.kind ≤ 4) ∧ (0 ≤ d.op.line ∧ d.op.line < M.length) ∧ (0 ≤ d.op.value ∧ d.op.value ≤ 255) ∧
  d.value = (if d.op.kind = 4 then 0 else (A7 (M.getD d.op.line.toNat 0) d.op).2) ∧ E8 (M.set d.op.line.toNat (A7 (M.getD d.op.line.toNat 0) d.op).1) r M'
theorem J8 {v : Int} {o : Op} (hv : 0 ≤ v ∧ v ≤ 255) (ho : 0 ≤ o.value ∧ o.value ≤ 255) : 0 ≤ (A7 v o).1 ∧ (A7 v o).1 ≤ 255 := by
 unfold A7
 split
 ·exact hv
 ·split
  ·exact ho
  ·split
   ·simp only; omega
   ·exact hv
theorem Fr {v : Int} {o : Op} (h : o.kind = 1 ∨ o.kind = 4) : (A7 v o).1 = v := by
 unfold A7
 rcases h with h | h <;> simp [h]
section
variable {n nl : Nat} {x : Chip} {M : List Int}
theorem D7 {α : Type} (l : List α) (i : Nat) (d : α) (h : i < l.length) : l.set i (l.getD i d) = l := by
 apply List.ext_getElem?
 intro j
 by_cases hj : j = i
 ·subst hj; rw [List.getElem?_set_self h, List.getD_eq_getElem?_getD, List.getElem?_eq_getElem h]; rfl
 ·rw [List.getElem?_set_ne (Ne.symm hj)]
theorem Inv.same (h : Inv n nl x M) (i : Nat) (hi : i < nl) : M.set i (M.getD i 0) = M := D7 _ _ _ (by rw [h.ml]; exact hi)
theorem Gk (h : Inv n nl x M) {p i : Nat} (hp : p < n) (hi : i < nl) {kind serial turn value : Int} {al : Bool} (hk : 1 ≤ kind ∧ kind ≤ 11) (hs : 0 ≤ serial ∧ serial ≤ 65535) (ht : 0 ≤ turn ∧ turn ≤ 65535) (hv : 0 ≤ value ∧ value ≤ 255) :
  Bc (F8 n nl) ⟨kind, p, n, i, serial, turn, value, al⟩ = 0 :=
 Pd hk (by simp only [F8]; omega) (by simp only [F8]; omega) hs ht hv (by simp only [F8]; intro h; have h' := h.2 trivial; omega)
theorem Lk (h : Inv n nl x M) {p i : Nat} (hp : p < n) (hi : i < nl) {kind serial turn value : Int} {al : Bool} (hk : 1 ≤ kind ∧ kind ≤ 11) (hs : 0 ≤ serial ∧ serial ≤ 65535) (ht : 0 ≤ turn ∧ turn ≤ 65535) (hv : 0 ≤ value ∧ value ≤ 255) :
  Bc (F8 n nl) ⟨kind, n, p, i, serial, turn, value, al⟩ = 0 :=
 Pd hk (by simp only [F8]; omega) (by simp only [F8]; omega) hs ht hv (by simp only [F8]; intro h; have h' := h.1 trivial; omega)
theorem J6 {p i : Nat} {kind serial turn value : Int} {al : Bool} : Qy n ⟨kind, p, n, i, serial, turn, value, al⟩ = p := by simp [Qy]
theorem M1 {p i : Nat} (hp : p < n) {kind serial turn value : Int} {al : Bool} : Qy n ⟨kind, n, p, i, serial, turn, value, al⟩ = p := by
 unfold Qy
 rw [if_neg (by simp only; omega)]; simp
theorem Ps {p i : Nat} {l' : Line} {w' : Op} (h : Inv n nl x M) (hp : p < n) (hi : i < nl) {fr : Frames} : lin ⟨x.cores.set p (Bw (cor x p) i l' w'), x.home, fr⟩ i p = l' := by
 unfold lin cor
 rw [Cy _ _ _ _ _ (by rw [h.nc]; exact hp), if_pos rfl]
 show ((cor x p).lines.set _ l').getD i zLine = l'
 rw [Int.toNat_natCast, Cy _ _ _ _ _ (by rw [h.ncl p hp]; exact hi), if_pos rfl]
theorem Abq {k : Core} {i : Nat} {l' : Line} {o : Op} (hl : k.lines.length = nl) (h : CW k nl) (h0 : k.wait.kind = 0) (hi : i < nl) (ho : (1 ≤ o.kind ∧ o.kind ≤ 4) ∧ o.line = i ∧ (0 ≤ o.value ∧ o.value ≤ 255)) (hw : l'.want = E3 o.kind) : CW (Bw k i l' o) nl := by
 constructor
 ·intro h'; exact absurd h' (by show o.kind ≠ 0; omega)
 ·intro _
  refine ⟨ho.1, ?_, ho.2.2, fun j hj => ?_⟩
  ·show 0 ≤ o.line ∧ o.line < nl; omega
  ·show ((k.lines.set _ l').getD j zLine).want = if (j : Int) = o.line then _ else _
   rw [Int.toNat_natCast, Cy _ _ _ _ _ (by rw [hl]; exact hi), ho.2.1]
   by_cases hj' : j = i
   ·rw [if_pos hj', if_pos (by rw [hj'])]; exact hw
   ·rw [if_neg hj', if_neg (by omega)]; exact (h.free h0).2 j hj
theorem F4 {k : Core} {i : Nat} {l' : Line} (hl : k.lines.length = nl) (h : CW k nl) (hi : i < nl) (h0 : k.wait.kind = 0 ∨ k.wait.line = i) (hw : l'.want = 0) : CW (Bw k i l' zOp) nl := by
 constructor
 ·intro _
  refine ⟨rfl, fun j hj => ?_⟩
  show ((k.lines.set _ l').getD j zLine).want = 0
  rw [Int.toNat_natCast, Cy _ _ _ _ _ (by rw [hl]; exact hi)]
  by_cases hj' : j = i
  ·rw [if_pos hj']; exact hw
  ·rw [if_neg hj']
   by_cases h00 : k.wait.kind = 0
   ·exact (h.free h00).2 j hj
   ·have := (h.busy h00).2.2.2 j hj
    rw [this, if_neg (by omega)]
 ·intro h'; exact absurd rfl h'
theorem L3 {k : Core} {i : Nat} {l' : Line} (hl : k.lines.length = nl) (h : CW k nl) (hi : i < nl) (hw : l'.want = (k.lines.getD i zLine).want) : CW (Bw k i l' k.wait) nl := by
 have hg : ∀ j, ((Bw k i l' k.wait).lines.getD j zLine).want = (k.lines.getD j zLine).want := by
  intro j
  show ((k.lines.set _ l').getD j zLine).want = _
  rw [Int.toNat_natCast, Cy _ _ _ _ _ (by rw [hl]; exact hi)]
  by_cases hj' : j = i
  ·rw [if_pos hj', hj']; exact hw
  ·rw [if_neg hj']
 constructor
 ·intro h0
  exact ⟨(h.free h0).1, fun j hj => by rw [hg]; exact (h.free h0).2 j hj⟩
 ·intro h0
  obtain ⟨h1, h2, h3, h4⟩ := h.busy h0
  exact ⟨h1, h2, h3, fun j hj => by rw [hg]; exact h4 j hj⟩
theorem Oz {k : Core} {i : Nat} (h : CW k nl) (hi : i < nl) (hw : (k.lines.getD i zLine).want ≠ 0) : k.wait.kind ≠ 0 ∧ k.wait.line = i ∧ (k.lines.getD i zLine).want = E3 k.wait.kind := by
 have h0 : k.wait.kind ≠ 0 := fun h0 => hw ((h.free h0).2 i hi)
 have h1 := (h.busy h0).2.2.2 i hi
 by_cases he : (i : Int) = k.wait.line
 ·rw [if_pos he] at h1; exact ⟨h0, he.symm, h1⟩
 ·rw [if_neg he] at h1; exact absurd h1 hw
theorem Tn {p : Nat} {o : Op} (h : Inv n nl x M) (hp : p < n) (hok : (Aj (cor x p) p n o).2.2.2 = 0) :
  ∃ M', Inv n nl (Cf x p (Aj (cor x p) p n o).1 (Aj (cor x p) p n o).2.1) M' ∧ E8 M (Aj (cor x p) p n o).2.2.1 M' := by
 have hcl := h.ncl p hp
 have hcw := h.cw p hp
 unfold Aj at hok ⊢
 split at hok
 ·cases hok
 split at hok
 ·cases hok
 split at hok
 ·cases hok
 rename_i k1 k2 k3
 rw [if_neg k1, if_neg k2, if_neg k3]
 obtain ⟨i, hi⟩ : ∃ i : Nat, o.line = i := ⟨o.line.toNat, by omega⟩
 have hin : i < nl := by omega
 have hlat : Bn (cor x p) o.line = lin x i p := by unfold Bn lin; rw [hi, Int.toNat_natCast]
 rw [hlat] at k3 ⊢
 have hci := h.ci i hin p hp
 have hgi := h.gi i hin
 have hw0 : (lin x i p).want = 0 := (hcw.free (by omega)).2 i hin
 have hval := h.mv i hin
 have hov : 0 ≤ o.value ∧ o.value ≤ 255 := by omega
 by_cases hd : Bt (lin x i p) o = true
 ·rw [if_pos hd]
  unfold Cf
  simp only [Int.toNat_natCast, way, hi]
  by_cases h4 : o.kind = 4
  ·have hs : (lin x i p).state ≠ 2 := by unfold Bt at hd; rw [if_pos h4] at hd; simpa using hd
   have hb : A4 (lin x i p) o = { lin x i p with state := 0, value := 0 } := by unfold A4; rw [if_pos h4, if_neg hs]
   have ht : Dr (lin x i p) o = 0 := by unfold Dr; rw [if_pos h4]
   rw [hb, ht]
   obtain ⟨c1, c2⟩ := Xp hgi hci hw0 hs
   have hI := h.core (w' := zOp) hp hin c1 (fun _ _ _ hh => hh) c2 (F4 hcl hcw hin (.inl (by omega)) hw0) hval
   refine ⟨_, hI, ?_, ?_, hov, ?_, ?_⟩
   ·show 1 ≤ o.kind ∧ o.kind ≤ 4; omega
   ·show 0 ≤ o.line ∧ o.line < M.length; rw [h.ml]; omega
   ·show (0 : Int) = _; rw [if_pos h4]
   ·show E8 _ [] _
    simp only [E8, hi, Int.toNat_natCast]
    rw [Fr (.inr h4)]
  ·have hs : (lin x i p).state = 2 ∨ (lin x i p).state = 1 ∧ o.kind = 1 := by unfold Bt at hd; rw [if_neg h4] at hd; simpa using hd
   have hb : A4 (lin x i p) o = { lin x i p with value := (A7 (lin x i p).value o).1 } := by unfold A4; rw [if_neg h4, if_pos hs]
   have ht : Dr (lin x i p) o = (A7 (lin x i p).value o).2 := by unfold Dr; rw [if_neg h4]
   have hV : (lin x i p).value = M.getD i 0 := by
    rcases hs with hs | hs
    ·exact (hci.alo (.inl hs)).2
    ·exact (hci.cop hs.1).2
   rw [hb, ht]
   have hr := J8 (o := o) hci.va hov
   have hI : Inv n nl ⟨x.cores.set p (Bw (cor x p) i { lin x i p with value := (A7 (lin x i p).value o).1 } zOp), x.home, x.frames⟩ (M.set i (A7 (lin x i p).value o).1) := by
    rcases hs with hs | hs
    ·obtain ⟨c1, c2⟩ := Aby hgi hci hs hr
     exact h.core (w' := zOp) hp hin c1 (fun q hq hqp hh => Xo hgi hci (by omega) (by omega) hqp hh) c2 (F4 hcl hcw hin (.inl (by omega)) hw0) hr
    ·have e : (A7 (lin x i p).value o).1 = (lin x i p).value := Fr (.inl hs.2)
     rw [e]
     exact h.core (w' := zOp) hp hin (by show CI _ p (lin x i p) (lin x i p).value; rw [hV]; exact hci) (fun _ _ _ hh => by rw [hV]; exact hh) (fun _ hm => hm) (F4 hcl hcw hin (.inl (by omega)) hw0) hci.va
   refine ⟨_, hI, ?_, ?_, hov, ?_, ?_⟩
   ·show 1 ≤ o.kind ∧ o.kind ≤ 4; omega
   ·show 0 ≤ o.line ∧ o.line < M.length; rw [h.ml]; omega
   ·show (A7 (lin x i p).value o).2 = _; rw [if_neg h4]; simp only [hi, Int.toNat_natCast]; rw [hV]
   ·show E8 _ [] _
    simp only [E8, hi, Int.toNat_natCast]
    rw [hV]
 ·rw [if_neg hd]
  unfold Cf
  simp only [Int.toNat_natCast, hi]
  -- it asks
  have key : ∃ l', A4 (lin x i p) o = l' ∧ CI (ab (ent x i)) p l' (M.getD i 0) ∧ (∀ m, MI (ab (ent x i)) p (lin x i p) m → MI (ab (ent x i)) p l' m) ∧ l'.want = E3 o.kind ∧ l'.serial = (lin x i p).serial + 1 := by
   by_cases h4 : o.kind = 4
   ·have hs : (lin x i p).state = 2 := by unfold Bt at hd; rw [if_pos h4] at hd; simpa using hd
    obtain ⟨c1, c2⟩ := c_put hgi hci hw0 hs (by omega)
    refine ⟨_, rfl, ?_⟩
    have hb : A4 (lin x i p) o = { lin x i p with state := 3, want := 3, serial := (lin x i p).serial + 1 } := by unfold A4; rw [if_pos h4, if_pos hs]
    rw [hb]
    exact ⟨c1, c2, by simp [E3, h4], rfl⟩
   ·have hs : ¬ ((lin x i p).state = 2 ∨ (lin x i p).state = 1 ∧ o.kind = 1) := by unfold Bt at hd; rw [if_neg h4] at hd; simpa using hd
    have hst := hci.st
    have hlv := hci.leav
    have hkk : (if o.kind = 1 then (1 : Int) else 2) = E3 o.kind := by unfold E3; split <;> first | rfl | rw [if_neg h4]
    obtain ⟨c1, c2⟩ := c_ask (k := if o.kind = 1 then 1 else 2) hgi hci hw0 (by split <;> omega) (by omega)
    refine ⟨_, rfl, ?_⟩
    have hb : A4 (lin x i p) o = { lin x i p with want := if o.kind = 1 then 1 else 2, serial := (lin x i p).serial + 1 } := by unfold A4; rw [if_neg h4, if_neg hs]
    rw [hb]
    exact ⟨c1, c2, hkk, rfl⟩
  obtain ⟨l', hb, c1, c2, c3, c4⟩ := key
  rw [hb]
  have hI := h.core (w' := o) hp hin c1 (fun _ _ _ hh => hh) c2 (Abq hcl hcw (by omega) hin ⟨by omega, hi, hov⟩ c3) hval
  rw [h.same i hin] at hI
  refine ⟨M, ?_, rfl⟩
  refine hI.way fun m hm => ?_
  rw [List.mem_singleton.1 hm]
  have hwr : 1 ≤ l'.want ∧ l'.want ≤ 3 := by rw [c3]; unfold E3; split <;> (try split) <;> omega
  refine ⟨Gk h hp hin (by omega) c1.se ⟨by omega, by omega⟩ (by have := c1.va; split <;> omega), ?_⟩
  unfold MX
  have hpe : Qy n (Bz l' p n i) = p := J6
  rw [hpe]
  show MI (ab (ent x _)) p (lin _ _ p) _
  rw [show ((Bz l' p n i).line).toNat = i from Int.toNat_natCast i, Ps h hp hin]
  have hla := hci.la
  have e1 : (Bz l' p n i).kind = l'.want := rfl
  have e2 : (Bz l' p n i).serial = l'.serial := rfl
  have e3 : (Bz l' p n i).value = if l'.want = 3 then l'.value else 0 := rfl
  constructor <;> rw [e1] <;> (try rw [e2]) <;> (try rw [e3])
  ·intro hk; exact ⟨Int.le_refl _, fun _ => ⟨rfl, rfl⟩⟩
  ·intro hk; exact ⟨Int.le_refl _, fun _ => .inl ⟨rfl, hk, by rw [if_pos hk]⟩⟩
  all_goals intro hk; omega
theorem MX.said {p i : Nat} {l' : Line} {w' : Op} (h : Inv n nl x M) (hp : p < n) (hi : i < nl) {kind serial turn value : Int} {al : Bool} (hm : MI (ab (ent x i)) p l' ⟨kind, p, n, i, serial, turn, value, al⟩) {fr : Frames} :
  MX n ⟨x.cores.set p (Bw (cor x p) i l' w'), x.home, fr⟩ ⟨kind, p, n, i, serial, turn, value, al⟩ := by
 unfold MX
 rw [J6]
 show MI (ab (ent x ((i : Int).toNat))) p (lin _ ((i : Int).toNat) p) _
 rw [Int.toNat_natCast, Ps h hp hi]
 exact hm
theorem MX.saidSame {p i : Nat} (hp : p < n) {kind serial turn value : Int} {al : Bool} (hm : MI (ab (ent x i)) p (lin x i p) ⟨kind, p, n, i, serial, turn, value, al⟩) : MX n x ⟨kind, p, n, i, serial, turn, value, al⟩ := by
 unfold MX
 rw [J6]
 show MI (ab (ent x ((i : Int).toNat))) p (lin _ ((i : Int).toNat) p) _
 rw [Int.toNat_natCast]
 exact hm
theorem MX.told {p i : Nat} {e' : Entry} (h : Inv n nl x M) (hp : p < n) (hi : i < nl) {kind serial turn value : Int} {al : Bool} (hm : MI (ab e') p (lin x i p) ⟨kind, n, p, i, serial, turn, value, al⟩) {fr : Frames} :
  MX n ⟨x.cores, x.home.set i e', fr⟩ ⟨kind, n, p, i, serial, turn, value, al⟩ := by
 unfold MX
 rw [M1 hp]
 show MI (ab ((x.home.set i e').getD ((i : Int).toNat) Ay)) p (lin x ((i : Int).toNat) p) _
 rw [Int.toNat_natCast, Cy _ _ _ _ _ (by rw [h.nh]; exact hi), if_pos rfl]
 exact hm
theorem Wh {p : Nat} {m : Msg} (h : Inv n nl x M) (hp : p < n) (hd : m.dst = p) (hs : m.src = n) (hl : 0 ≤ m.line ∧ m.line < nl) (hr : (0 ≤ m.serial ∧ m.serial ≤ 65535) ∧ (0 ≤ m.turn ∧ m.turn ≤ 65535) ∧ (0 ≤ m.value ∧ m.value ≤ 255)) (hm : MX n x m) :
  ∃ M', Inv n nl (Cf x p (Ac (cor x p) p n m).1 (Ac (cor x p) p n m).2.1) M' ∧ E8 M (Ac (cor x p) p n m).2.2 M' := by
 have hcl := h.ncl p hp
 have hcw := h.cw p hp
 obtain ⟨i, hi⟩ : ∃ i : Nat, m.line = i := ⟨m.line.toNat, by omega⟩
 have hin : i < nl := by omega
 have hlat : Bn (cor x p) m.line = lin x i p := by unfold Bn lin; rw [hi, Int.toNat_natCast]
 have hci := h.ci i hin p hp
 have hgi := h.gi i hin
 have hval := h.mv i hin
 have hMI : MI (ab (ent x i)) p (lin x i p) m := by
  unfold MX at hm
  have : Qy n m = p := by unfold Qy; rw [if_neg (by omega), hd]; simp
  rw [this, hi, Int.toNat_natCast] at hm
  exact hm
 have hsame : Inv n nl (Cf x p (cor x p) []) M := by
  unfold Cf
  simp only [Int.toNat_natCast, way]
  have : x.cores.set p (cor x p) = x.cores := D7 _ _ _ (by rw [h.nc]; exact hp)
  rw [this]; exact h
 have hsaid : ∀ m', Bc (F8 n nl) m' = 0 → MX n x m' → Inv n nl (Cf x p (cor x p) [m']) M := by
  intro m' h1 h2
  unfold Cf
  simp only [Int.toNat_natCast]
  have : x.cores.set p (cor x p) = x.cores := D7 _ _ _ (by rw [h.nc]; exact hp)
  rw [this]
  exact h.way fun m'' hm'' => by rw [List.mem_singleton.1 hm'']; exact ⟨h1, h2⟩
 unfold Ac
 rw [if_neg (by rw [hcl]; omega)]
 rw [hlat]
 by_cases k4 : m.kind = 4
 ·rw [if_pos k4]
  obtain ⟨c1, c2⟩ := c_inv hgi hci hMI k4
  have hwant : (Dg (lin x i p) m.turn).want = (lin x i p).want := by unfold Dg; split <;> (try split) <;> rfl
  have hI := h.core (w' := (cor x p).wait) hp hin c1 (fun _ _ _ hh => hh) c2 (L3 hcl hcw hin hwant) hval
  rw [h.same i hin] at hI
  refine ⟨M, ?_, rfl⟩
  unfold Cf
  refine Zbj ?_
  refine ⟨Gk h hp hin (by omega) (by omega) hr.2.1 (by omega), MX.said h hp hin ?_⟩
  have hseen : m.turn ≤ (Dg (lin x i p) m.turn).seen := by unfold Dg; split <;> (try split) <;> first | exact Int.le_refl _ | omega
  constructor <;> simp only <;> intro hk <;> first | omega | exact hseen
 rw [if_neg k4]
 by_cases k5 : m.kind = 5 ∨ m.kind = 6
 ·rw [if_pos k5]
  by_cases hf : Ew (lin x i p) m.turn
  ·rw [if_pos hf]
   obtain ⟨c1, c2, c3, c4⟩ := Acb hgi hci hMI k5 hf
   by_cases hw : (lin x i p).want = 3
   ·rw [if_pos hw, if_pos hw]
    obtain ⟨w1, w2, w3⟩ := Oz hcw hin (by show (lin x i p).want ≠ 0; omega)
    have hwant : (Cm (lin x i p) m.kind m.turn).want = 0 := by unfold Cm; rw [if_pos hw]
    have hI := h.core (w' := zOp) hp hin c1 (fun _ _ _ hh => hh) c2 (F4 hcl hcw hin (.inr w2) hwant) hval
    rw [h.same i hin] at hI
    obtain ⟨b1, b2, b3, b4⟩ := hcw.busy w1
    have hk4 : (cor x p).wait.kind = 4 := by
     exact Zde
    refine ⟨M, ?_, b1, by rw [h.ml]; exact b2, b3, by show (0 : Int) = _; rw [if_pos hk4], ?_⟩
    ·unfold Cf
     refine Zbj ?_
     exact ⟨Gk h hp hin (by omega) (by omega) hr.2.1 hci.va, MX.said h hp hin (c4 _ rfl rfl rfl)⟩
    ·exact Zdu
   ·rw [if_neg hw, if_neg hw]
    have hwant : (Cm (lin x i p) m.kind m.turn).want = (lin x i p).want := by unfold Cm; rw [if_neg hw]; split <;> rfl
    have hI := h.core (w' := (cor x p).wait) hp hin c1 (fun _ _ _ hh => hh) c2 (L3 hcl hcw hin hwant) hval
    rw [h.same i hin] at hI
    refine ⟨M, ?_, rfl⟩
    unfold Cf
    refine Zbj ?_
    exact ⟨Gk h hp hin (by omega) (by omega) hr.2.1 hci.va, MX.said h hp hin (c4 _ rfl rfl rfl)⟩
  ·rw [if_neg hf]
   split
   ·rename_i hg
    refine ⟨M, hsaid _ ?_ ?_, rfl⟩
    ·rw [hi]; exact Gk h hp hin (by omega) (by omega) (by rw [← hg.1]; exact hr.2.1) hci.gi
    ·rw [hi]; refine MX.saidSame hp ?_
     have := hci.ga
     constructor <;> simp only <;> intro hk <;> first | omega | exact ⟨this.2.1, fun a b c => ⟨a, trivial⟩⟩
   ·exact ⟨M, hsame, rfl⟩
 rw [if_neg k5]
 by_cases k7 : m.kind = 7
 ·rw [if_pos k7]
  by_cases hse : (lin x i p).serial < m.serial
  ·rw [if_pos hse]; exact ⟨M, hsame, rfl⟩
  rw [if_neg hse]
  by_cases ha : Ku (lin x i p) m
  ·rw [if_pos ha]
   have hwne : (lin x i p).want ≠ 0 := by have := ha.2; omega
   obtain ⟨w1, w2, w3⟩ := Oz hcw hin hwne
   obtain ⟨b1, b2, b3, b4⟩ := hcw.busy w1
   have w3' : (lin x i p).want = E3 (cor x p).wait.kind := w3
   have hnk4 : (cor x p).wait.kind ≠ 4 := by
    intro e; rw [e] at w3'; simp [E3] at w3'; have := ha.2; omega
   have hload : m.alone = false → (A7 m.value (cor x p).wait).1 = m.value := by
    intro hal
    have h2 := ha.2
    rw [hal] at h2
    have : (lin x i p).want = 1 := by simpa using h2
    refine Fr (.inl ?_)
    rw [this] at w3'
    unfold E3 at w3'; split at w3' <;> (try split at w3') <;> first | assumption | omega
   have hv := J8 (o := (cor x p).wait) hr.2.2 b3
   obtain ⟨c1, c2, c3, c4, c5⟩ := Aca (v := (A7 m.value (cor x p).wait).1) hgi hci hMI k7 ha hv hload
   have hI := h.core (w' := zOp) hp hin c1 (fun q _ hq hh => c4 q _ hq hh) c2 (F4 hcl hcw hin (.inr w2) rfl) hv
   refine ⟨M.set i (A7 m.value (cor x p).wait).1, ?_, b1, by rw [h.ml]; exact b2, b3, ?_, ?_⟩
   ·unfold Cf
    refine Zbj ?_
    exact ⟨Gk h hp hin (by omega) (by omega) hr.2.1 (by omega), MX.said h hp hin (c5 _ rfl rfl)⟩
   ·show (A7 m.value (cor x p).wait).2 = _
    rw [if_neg hnk4, w2, Int.toNat_natCast, c3]
   ·show E8 _ [] _
    simp only [E8]
    rw [w2, Int.toNat_natCast, c3]
  ·rw [if_neg ha]
   refine ⟨M, hsaid _ ?_ ?_, rfl⟩
   ·rw [hi]; exact Gk h hp hin (by omega) (by omega) hr.2.1 (by omega)
   ·rw [hi]; refine MX.saidSame hp ?_
    have hg := hMI.gra k7
    have hseen : m.turn ≤ (lin x i p).seen := by
     by_cases hc : m.serial = (lin x i p).serial ∧ (lin x i p).want ≠ 0
     ·obtain ⟨g1, g2, g3, g4, g5⟩ := hg.2.1 hc.1 hc.2
      have hcur := hci.cur (by omega) g2
      exfalso
      apply ha
      refine ⟨hc.1, ?_⟩
      have hse' : (ab (ent x i)).serial = (lin x i p).serial := by have := hci.la; omega
      cases hal : m.alone with
      | true => right; have := g4.1 hal; exact ⟨by omega, rfl⟩
      | false =>
       left
       have hnot : ¬ (ab (ent x i)).alone = 1 := fun h1 => by have := g4.2 h1; rw [hal] at this; cases this
       have := hgi.al
       exact ⟨by omega, rfl⟩
     ·exact hg.2.2 (by omega)
    constructor <;> simp only <;> intro hk <;> first | omega | exact hseen
 rw [if_neg k7]
 split
 ·rename_i hk
  obtain ⟨k11, hw, hse⟩ := hk
  obtain ⟨c1, c2⟩ := Abz hgi hci hMI k11 hw hse
  obtain ⟨w1, w2, w3⟩ := Oz hcw hin (by show (lin x i p).want ≠ 0; omega)
  obtain ⟨b1, b2, b3, b4⟩ := hcw.busy w1
  have hk4 : (cor x p).wait.kind = 4 := by
   exact Zde
  have hI := h.core (w' := zOp) hp hin c1 (fun _ _ _ hh => hh) c2 (F4 hcl hcw hin (.inr w2) rfl) hval
  rw [h.same i hin] at hI
  refine ⟨M, ?_, b1, by rw [h.ml]; exact b2, b3, by show (0 : Int) = _; rw [if_pos hk4], ?_⟩
  ·unfold Cf
   simp only [Int.toNat_natCast, hi, way]
   exact hI
  ·exact Zdu
 ·exact ⟨M, hsame, rfl⟩
end
end Go.Proofs.Ytbigiimomnfpdaa
namespace Go.Proofs.Ytbigiimomnfpdaa
open Abs
theorem Abt : ∀ (s : Fin 16) (p q : Fin 4), (Gd (s.val : Int) (p.val : Int)).toNat.testBit q.val = (decide (q ≠ p) && s.val.testBit q.val) := by decide
theorem Ul : ∀ (s : Fin 16) (p : Fin 4), 0 ≤ Gd (s.val : Int) (p.val : Int) ∧ Gd (s.val : Int) (p.val : Int) ≤ s.val := by decide
theorem Yx : ∀ (s : Fin 16) (p q : Fin 4), (Gj (s.val : Int) (p.val : Int)).toNat.testBit q.val = (decide (q = p) || s.val.testBit q.val) := by decide
theorem Sv : ∀ (n : Fin 5) (s : Fin 16) (p : Fin 4), p.val < n.val → s.val < 2 ^ n.val → 0 ≤ Gj (s.val : Int) (p.val : Int) ∧ Gj (s.val : Int) (p.val : Int) < (2 ^ n.val : Nat) := by decide
theorem Vc : ∀ (s : Fin 16), (∀ q : Fin 4, s.val.testBit q.val = false) → s.val = 0 := by decide
theorem high (s : Int) (h : 0 ≤ s ∧ s < 16) (q : Nat) (hq : 4 ≤ q) : s.toNat.testBit q = false := by
 apply Nat.testBit_lt_two_pow
 have : 2 ^ 4 ≤ 2 ^ q := Nat.pow_le_pow_right (by omega) hq
 omega
theorem G7 (s : Int) (h : 0 ≤ s ∧ s < 16) (q : Nat) (hq : 4 ≤ q) : Dq s q = 0 := by unfold Dq; rw [high s h q hq]; rfl
theorem Dk (q : Nat) : Dq 0 q = 0 := by simp [Dq]
theorem Sk {s : Int} (h : 0 ≤ s ∧ s < 16) : ∃ f : Fin 16, (f.val : Int) = s := ⟨⟨s.toNat, by omega⟩, by simp only; omega⟩
theorem Ii {s : Int} {p : Nat} (h : 0 ≤ s ∧ s < 16) (hp : p < 4) : Dq (Gd s p) = upd (Dq s) p 0 := by
 obtain ⟨f, rfl⟩ := Sk h
 funext q
 have hr := Ul f ⟨p, hp⟩
 simp only at hr
 by_cases hq : q < 4
 ·have := Abt f ⟨p, hp⟩ ⟨q, hq⟩
  simp only at this
  unfold Dq upd
  rw [this]
  by_cases hqp : q = p
  ·subst hqp; simp
  ·simp [hqp]
 ·rw [G7 _ (by omega) _ (by omega)]
  unfold upd
  rw [if_neg (by omega), G7 _ (by omega) _ (by omega)]
theorem Nw {s : Int} {p : Nat} (h : 0 ≤ s ∧ s < 16) (hp : p < 4) (q : Nat) : Dq (Gj s p) q = if q = p then 1 else Dq s q := by
 obtain ⟨f, rfl⟩ := Sk h
 have hr : 0 ≤ Gj (f.val : Int) (p : Int) ∧ Gj (f.val : Int) (p : Int) < 16 := Sv 4 f ⟨p, hp⟩ hp f.isLt
 by_cases hq : q < 4
 ·have := Yx f ⟨p, hp⟩ ⟨q, hq⟩
  simp only at this
  unfold Dq
  rw [this]
  by_cases hqp : q = p
  ·subst hqp; simp
  ·simp [hqp]
 ·rw [G7 _ (by omega) _ (by omega), if_neg (by omega), G7 _ (by omega) _ (by omega)]
theorem P8 {s : Int} {p n : Nat} (hn : n ≤ 4) (h : 0 ≤ s ∧ s < (2 ^ n : Nat)) (hp : p < 4) : 0 ≤ Gd s p ∧ Gd s p < (2 ^ n : Nat) := by
 have : (2 ^ n : Nat) ≤ 2 ^ 4 := Nat.pow_le_pow_right (by omega) hn
 obtain ⟨f, rfl⟩ := Sk (s := s) (by omega)
 have hr := Ul f ⟨p, hp⟩
 simp only at hr
 omega
theorem X6 {s : Int} {p n : Nat} (hn : n ≤ 4) (h : 0 ≤ s ∧ s < (2 ^ n : Nat)) (hp : p < n) : 0 ≤ Gj s p ∧ Gj s p < (2 ^ n : Nat) := by
 have : (2 ^ n : Nat) ≤ 2 ^ 4 := Nat.pow_le_pow_right (by omega) hn
 obtain ⟨f, rfl⟩ := Sk (s := s) (by omega)
 exact Sv ⟨n, by omega⟩ f ⟨p, by omega⟩ hp (by simp only; omega)
theorem Jl {s : Int} {n : Nat} (hn : n ≤ 4) (h : 0 ≤ s ∧ s < (2 ^ n : Nat)) : 0 ≤ s ∧ s < 16 := by
 have : (2 ^ n : Nat) ≤ 2 ^ 4 := Nat.pow_le_pow_right (by omega) hn
 omega
theorem Kq {s : Int} (h : 0 ≤ s ∧ s < 16) (hb : ∀ q, q < 4 → Dq s q = 0) : s = 0 := by
 obtain ⟨f, rfl⟩ := Sk h
 have := Vc f fun q => by
  have := hb q.val q.isLt
  unfold Dq at this
  simp only [Int.toNat_natCast] at this
  cases ht : f.val.testBit q.val with
  | false => rfl
  | true => simp [ht] at this
 omega
theorem Nv {s : Int} {n : Nat} (hn : n ≤ 4) (h : 0 ≤ s ∧ s < (2 ^ n : Nat)) (h0 : s ≠ 0) : ∃ q : Nat, q < n ∧ Dq s q = 1 := by
 apply Classical.byContradiction
 intro hno
 apply h0
 refine Kq (Jl hn h) fun q _ => ?_
 by_cases hq : q < n
 ·have : ¬ Dq s q = 1 := fun he => hno ⟨q, hq, he⟩
  unfold Dq at this ⊢
  split <;> rename_i hb
  ·rw [if_pos hb] at this; exact absurd rfl this
  ·rfl
 ·unfold Dq
  rw [Nat.testBit_lt_two_pow (show s.toNat < 2 ^ q by have : 2 ^ n ≤ 2 ^ q := Nat.pow_le_pow_right (by omega) (by omega); omega)]
  rfl
theorem Ov (s : Int) (p : Nat) : H8 s p = true ↔ Dq s p = 1 := by
 unfold H8 Dq
 rw [Int.toNat_natCast]
 cases s.toNat.testBit p <;> simp
section
variable {n nl : Nat} {x : Chip} {M : List Int}
theorem N8 (h : Inv n nl x M) {i : Nat} (hi : i < nl) : ∀ m ∈ Hl (ent x i) i n, Bc (F8 n nl) m = 0 ∧ MX n x m := by
 intro m hm
 have hg := h.gi i hi
 have hn := h.n1
 have hto : ∀ {p : Nat} {kind serial turn value : Int} {al : Bool}, p < n → MI (ab (ent x i)) p (lin x i p) ⟨kind, n, p, i, serial, turn, value, al⟩ → MX n x ⟨kind, n, p, i, serial, turn, value, al⟩ := by
  intro p kind serial turn value al hp hmi
  unfold MX
  rw [M1 hp]
  show MI (ab (ent x ((i : Int).toNat))) p (lin x ((i : Int).toNat) p) _
  rw [Int.toNat_natCast]; exact hmi
 unfold Hl at hm
 by_cases h1 : (ent x i).phase = 1
 ·rw [if_pos h1] at hm
  rw [List.mem_singleton.1 hm]
  have hf := hg.f1 h1
  have how := hg.own
  obtain ⟨p, hp⟩ : ∃ p : Nat, (ent x i).owner = p := ⟨(ent x i).owner.toNat, by show _ = _; have := hf.1; show (ent x i).owner = _; simp only [ab] at this; omega⟩
  have hpn : p < n := by have := how.2; simp only [ab] at this; omega
  rw [hp]
  refine ⟨Lk h hpn hi (by split <;> omega) (by omega) hg.tu (by omega), hto hpn ?_⟩
  have ha : (if (ent x i).alone = true then (6 : Int) else 5) = 5 + (ab (ent x i)).alone := by simp only [ab]; split <;> rfl
  rw [ha]
  have hal := hg.al
  constructor <;> simp only <;> intro hk <;> first | omega | exact ⟨Int.le_refl _, fun _ => ⟨rfl, h1, hp, trivial⟩⟩
 rw [if_neg h1] at hm
 by_cases h2 : (ent x i).phase = 2
 ·rw [if_pos h2] at hm
  obtain ⟨q, hq, rfl⟩ := List.mem_map.1 hm
  obtain ⟨hq1, hq2⟩ := List.mem_filter.1 hq
  obtain ⟨p, rfl⟩ : ∃ p : Nat, q = p := ⟨q.toNat, by simp at hq1; omega⟩
  have hb := (Ov _ _).1 hq2
  have hpn : p < n := by
   apply Classical.byContradiction
   intro hge
   have hbit := (h.bit i hi).2
   unfold Dq at hb
   rw [Nat.testBit_lt_two_pow (show (ent x i).need.toNat < 2 ^ p by have : 2 ^ n ≤ 2 ^ p := Nat.pow_le_pow_right (by omega) (by omega); omega)] at hb
   simp at hb
  refine ⟨Lk h hpn hi (by omega) (by omega) hg.tu (by omega), hto hpn ?_⟩
  constructor <;> simp only <;> intro hk <;> first | omega | exact ⟨Int.le_refl _, fun _ => ⟨rfl, h2, hb⟩⟩
 rw [if_neg h2] at hm
 by_cases h3 : (ent x i).phase = 3
 ·rw [if_pos h3] at hm
  rw [List.mem_singleton.1 hm]
  have hw := hg.whor (by show (ent x i).phase ≠ 0; omega)
  simp only [ab] at hw
  obtain ⟨p, hp⟩ : ∃ p : Nat, (ent x i).who = p := ⟨(ent x i).who.toNat, by omega⟩
  have hpn : p < n := by omega
  have hci := h.ci i hi p hpn
  have hcur := hci.cur (by show (ent x i).phase ≠ 0; omega) hp
  rw [hp]
  refine ⟨Lk h hpn hi (by omega) hg.se hg.tu hg.va, hto hpn ?_⟩
  constructor <;> simp only <;> intro hk <;> first | omega | skip
  refine ⟨by have := hcur.1; simp only [ab] at this ⊢; omega, fun e1 e2 => ⟨h3, hp, rfl, ?_, rfl⟩, fun hn' => ?_⟩
  ·simp only [ab]; cases (ent x i).alone <;> simp
  ·rcases hcur.2 with ⟨d1, d2, d3⟩ | ⟨d1, d2, d3, d4⟩
   ·have hal := hg.al
    simp only [ab] at d1 d2 hal
    omega
   ·simp only [ab] at d3 ⊢; omega
 ·rw [if_neg h3] at hm; cases hm
theorem Oa (h : Inv n nl x M) : ∀ (k : Nat) (l : List Entry), x.home.drop k = l → ∀ m ∈ Cr n k l, Bc (F8 n nl) m = 0 ∧ MX n x m := by
 intro k l
 induction l generalizing k with
 | nil => intro _ m hm; cases hm
 | cons e l ih =>
  intro hd m hm
  have hk : k < x.home.length := by
   apply Classical.byContradiction
   intro hge
   rw [List.drop_of_length_le (by omega)] at hd; cases hd
  rw [List.drop_eq_getElem_cons hk] at hd
  injection hd with he hd
  simp only [Cr] at hm
  rcases List.mem_append.1 hm with hm | hm
  ·have : ent x k = e := by unfold ent; rw [List.getD_eq_getElem?_getD, List.getElem?_eq_getElem hk, he]; rfl
   rw [← this] at hm
   exact N8 h (by rw [← h.nh]; exact hk) m hm
  ·exact ih (k + 1) hd m (by push_cast; exact hm)
theorem Lt (h : Inv n nl x M) : Inv n nl ⟨x.cores, x.home, way x.frames (E5 x.home n)⟩ M :=
 h.way fun m hm => Oa h 0 x.home rfl m hm
theorem ask_ok (h : Inv n nl x M) {p i : Nat} (hp : p < n) (hi : i < nl) (hw : (lin x i p).want ≠ 0) : Bc (F8 n nl) (Bz (lin x i p) p n i) = 0 ∧ MX n x (Bz (lin x i p) p n i) := by
 have hci := h.ci i hi p hp
 have hwa := hci.wa
 refine ⟨Gk h hp hi (by omega) hci.se ⟨by omega, by omega⟩ (by have := hci.va; split <;> omega), MX.saidSame hp ?_⟩
 constructor <;> simp only <;> intro hk <;> first | exact ⟨Int.le_refl _, fun _ => ⟨trivial, trivial⟩⟩ | exact ⟨Int.le_refl _, fun _ => .inl ⟨trivial, hk, by rw [if_pos hk]⟩⟩ | omega
theorem Mm (h : Inv n nl x M) {p : Nat} (hp : p < n) : ∀ (k : Nat) (l : List Line), (cor x p).lines.drop k = l → ∀ m ∈ Br p n k l, Bc (F8 n nl) m = 0 ∧ MX n x m := by
 intro k l
 induction l generalizing k with
 | nil => intro _ m hm; cases hm
 | cons e l ih =>
  intro hd m hm
  have hk : k < (cor x p).lines.length := by
   apply Classical.byContradiction
   intro hge
   rw [List.drop_of_length_le (by omega)] at hd; cases hd
  rw [List.drop_eq_getElem_cons hk] at hd
  injection hd with he hd
  have hlin : lin x k p = e := by unfold lin; rw [List.getD_eq_getElem?_getD, List.getElem?_eq_getElem hk, he]; rfl
  simp only [Br] at hm
  split at hm
  ·rename_i hw
   rcases List.mem_cons.1 hm with hm | hm
   ·rw [hm, ← hlin]
    exact ask_ok h hp (by rw [← h.ncl p hp]; exact hk) (by rw [hlin]; exact hw)
   ·exact ih (k + 1) hd m (by push_cast; exact hm)
  ·exact ih (k + 1) hd m (by push_cast; exact hm)
theorem Lu (h : Inv n nl x M) {p : Nat} (hp : p < n) : Inv n nl ⟨x.cores, x.home, way x.frames (Eu (cor x p) p n)⟩ M :=
 h.way fun m hm => Mm h hp 0 _ rfl m hm
theorem Abi (h : Inv n nl x M) {i : Nat} (hi : i < nl) (e' : Entry) (fr : Frames) : ent ⟨x.cores, x.home.set i e', fr⟩ i = e' := by
 unfold ent
 rw [Cy _ _ _ _ _ (by rw [h.nh]; exact hi), if_pos rfl]
theorem Inv.homeSays {i : Nat} {e' : Entry} (h : Inv n nl x M) (hi : i < nl) (hI : Inv n nl ⟨x.cores, x.home.set i e', x.frames⟩ M) : Inv n nl ⟨x.cores, x.home.set i e', Go.Proofs.Ytbigiimomnfpdaa.way x.frames (Hl e' i n)⟩ M := by
 have := N8 hI hi
 rw [Abi h hi] at this
 exact hI.way this
end
end Go.Proofs.Ytbigiimomnfpdaa
namespace Go.Proofs.Ytbigiimomnfpdaa
open Abs
section
variable {n nl : Nat} {x : Chip} {M : List Int}
theorem Qc (e : Entry) : (ab e).alone = 1 ↔ e.alone = true := by simp only [ab]; cases e.alone <;> simp
theorem N1 (e : Entry) : (ab e).alone = 0 ↔ e.alone = false := by simp only [ab]; cases e.alone <;> simp
theorem Zo {p i : Nat} {m : Msg} (h : Inv n nl x M) (hp : p < n) (hi : i < nl) (hs : m.src = p) (hms : 0 ≤ m.serial ∧ m.serial ≤ 65535) (hM : MI (ab (ent x i)) p (lin x i p) m) (hk : m.kind = 1 ∨ m.kind = 2) (h0 : (ent x i).phase = 0)
  (hl : Fe (ent x i) m.src < m.serial) (ht : (ent x i).turn < 65535) : Inv n nl ⟨x.cores, x.home.set i (Nk (ent x i) m), x.frames⟩ M := by
 have hn := h.n1
 have hb := h.bit i hi
 have hgi := h.gi i hi
 have hlast : (ent x i).last.getD p 0 < m.serial := by unfold Fe at hl; rw [hs, Int.toNat_natCast] at hl; exact hl
 have hla := h.nla i hi
 have hlu : (fun q => ((ent x i).last.set p m.serial).getD q 0) = upd (ab (ent x i)).last p m.serial := by
  funext q; rw [Cy _ _ _ _ _ (by rw [hla]; exact hp)]; rfl
 have hclr := P8 (by omega) hb.1 (show p < 4 by omega)
 have hbc := Ii (Jl (by omega) hb.1) (show p < 4 by omega)
 have hal : (if (m.kind == 2) = true then (1 : Int) else 0) = m.kind - 1 := by rcases hk with hk | hk <;> simp [hk]
 unfold Nk Cs
 simp only [hs, Int.toNat_natCast]
 by_cases ho : 0 ≤ (ent x i).owner
 ·rw [if_pos ho]
  refine Zcr ?_
  exact Zt hgi (h.ci i hi) hp hM hk hms h0 hlast ht rfl rfl rfl rfl rfl hal rfl hlu (.inl ⟨ho, rfl, fun q => Dk q⟩)
 ·rw [if_neg ho]
  by_cases hc : (m.kind == 2) = true ∧ Gd (ent x i).sharers p ≠ 0
  ·rw [if_pos hc]
   refine h.home hi (by simpa using hla) ⟨hb.1, hclr⟩ ?_
   refine Zt hgi (h.ci i hi) hp hM hk hms h0 hlast ht rfl rfl rfl rfl rfl hal rfl hlu (.inr (.inl ⟨by simp only [ab]; omega, by simpa using hc.1, rfl, Nv (by omega) hclr hc.2, fun q => ?_⟩))
   show Dq (Gd (ent x i).sharers p) q = _
   rw [hbc]; rfl
  ·rw [if_neg hc]
   refine Zcr ?_
   refine Zt hgi (h.ci i hi) hp hM hk hms h0 hlast ht rfl rfl rfl rfl rfl hal rfl hlu (.inr (.inr ⟨by simp only [ab]; omega, rfl, fun q => Dk q, fun hk2 q hq hqp => ?_⟩))
   have hz : Gd (ent x i).sharers p = 0 := Classical.byContradiction fun hz => hc ⟨by simp [hk2], hz⟩
   have := congrFun hbc q
   exact Zdy
theorem Zn {p i : Nat} {m : Msg} (h : Inv n nl x M) (hp : p < n) (hi : i < nl) (hs : m.src = p) (hms : 0 ≤ m.serial ∧ m.serial ≤ 65535) (hmv : 0 ≤ m.value ∧ m.value ≤ 255) (hM : MI (ab (ent x i)) p (lin x i p) m) (hk : m.kind = 3) (h0 : (ent x i).phase = 0) :
  Inv n nl ⟨x.cores, x.home.set i (Ic (ent x i) m), x.frames⟩ M ∧ m.serial ≤ (Ic (ent x i) m).last.getD p 0 := by
 have hb := h.bit i hi
 have hgi := h.gi i hi
 have hla := h.nla i hi
 have hlu : (fun q => ((ent x i).last.set p m.serial).getD q 0) = upd (ab (ent x i)).last p m.serial := by
  funext q; rw [Cy _ _ _ _ _ (by rw [hla]; exact hp)]; rfl
 have hlast : Fe (ent x i) m.src = (ent x i).last.getD p 0 := by unfold Fe; rw [hs, Int.toNat_natCast]
 unfold Ic
 simp only [hs, Int.toNat_natCast] at hlast ⊢
 rw [hlast]
 by_cases hl : (ent x i).last.getD p 0 < m.serial
 ·rw [if_pos hl]
  by_cases ho : (ent x i).owner = p
  ·rw [if_pos ho]
   refine ⟨h.home hi (by simpa using hla) hb ?_, ?_⟩
   ·exact h_put hgi (h.ci i hi) hp hM hk hmv h0 hl rfl rfl rfl rfl rfl hlu rfl rfl (.inl ⟨ho, rfl, rfl⟩)
   ·exact Zdx
  ·rw [if_neg ho]
   refine ⟨h.home hi (by simpa using hla) hb ?_, ?_⟩
   ·exact h_put hgi (h.ci i hi) hp hM hk hmv h0 hl rfl rfl rfl rfl rfl hlu rfl rfl (.inr ⟨ho, rfl, rfl⟩)
   ·exact Zdx
 ·rw [if_neg hl]
  have : x.home.set i (ent x i) = x.home := D7 _ _ _ (by rw [h.nh]; exact hi)
  rw [this]
  exact ⟨h, by omega⟩
theorem Wj {p i : Nat} {m : Msg} (h : Inv n nl x M) (hp : p < n) (hi : i < nl) (hs : m.src = p) (hmv : 0 ≤ m.value ∧ m.value ≤ 255) (hM : MI (ab (ent x i)) p (lin x i p) m) (hk : m.kind = 9) (h0 : (ent x i).phase = 1) (ht : m.turn = (ent x i).turn) (ho : m.src = (ent x i).owner) :
  Inv n nl ⟨x.cores, x.home.set i (Hq (ent x i) m), x.frames⟩ M := by
 have hn := h.n1
 have hb := h.bit i hi
 have hgi := h.gi i hi
 have hla := h.nla i hi
 have hop : (ent x i).owner = p := by rw [← ho]; exact hs
 have hf := hgi.f1 h0
 have hsh0 : ∀ q, q < n → Dq (ent x i).sharers q = 0 := by
  intro q hq
  have h1 := (h.ci i hi q hq).shs
  have h2 := (h.ci i hi q hq).bits
  simp only [ab] at h1 h2 hf
  omega
 have hz : (ent x i).sharers = 0 := by
  refine Kq (Jl (by omega) hb.1) fun q _ => ?_
  by_cases hq : q < n
  ·exact hsh0 q hq
  ·unfold Dq
   refine Zcp ?_
   rfl
 have hpos : 0 < 2 ^ n := Nat.two_pow_pos n
 unfold Hq Cs
 simp only
 rw [if_neg (by omega)]
 have hclr0 : ∀ w : Int, Gd 0 w = 0 := by intro w; unfold Gd H8; simp
 have hc : ¬ ((ent x i).alone = true ∧ Gd (if (ent x i).alone = true then (ent x i).sharers else Gj (ent x i).sharers (ent x i).owner) (ent x i).who ≠ 0) := by
  rintro ⟨h1, h2⟩
  rw [if_pos h1, hz, hclr0] at h2
  exact h2 rfl
 rw [if_neg hc]
 refine h.home hi hla ⟨?_, ⟨by simp only; omega, by simp only; omega⟩⟩ ?_
 ·simp only
  split
  ·exact hb.1
  ·rw [hop]; exact X6 (by omega) hb.1 hp
 ·refine h_data hgi (h.ci i hi) hp hM hk hmv h0 ht hop rfl rfl (fun q => ?_) rfl rfl rfl rfl rfl rfl (fun q => Dk q)
  show Dq (if (ent x i).alone = true then (ent x i).sharers else Gj (ent x i).sharers (ent x i).owner) q = if q = p ∧ (ab (ent x i)).alone = 0 then 1 else Dq (ent x i).sharers q
  have ha0 := N1 (ent x i)
  have hbs := Nw (Jl (by omega) hb.1) (show p < 4 by omega) q
  rw [hop]
  cases hal : (ent x i).alone with
  | true => rw [hal] at ha0; simp only [Bool.true_eq_false, iff_false] at ha0; simp [ha0]
  | false => rw [hal] at ha0; simp only [iff_true] at ha0; simp [ha0, hbs]
theorem Wi {p i : Nat} {m : Msg} (h : Inv n nl x M) (hp : p < n) (hi : i < nl) (hs : m.src = p) (hM : MI (ab (ent x i)) p (lin x i p) m) (hk : m.kind = 8) (h0 : (ent x i).phase = 2) (ht : m.turn = (ent x i).turn) (ho : H8 (ent x i).need m.src = true) :
  Inv n nl ⟨x.cores, x.home.set i (if (Ce (ent x i) m).need = 0 then Cs (Ce (ent x i) m) else Ce (ent x i) m), x.frames⟩ M := by
 have hn := h.n1
 have hb := h.bit i hi
 have hgi := h.gi i hi
 have hla := h.nla i hi
 have hnd : Dq (ent x i).need p = 1 := by rw [hs] at ho; exact (Ov _ _).1 ho
 have hc1 := P8 (by omega) hb.1 (show p < 4 by omega)
 have hc2 := P8 (by omega) hb.2 (show p < 4 by omega)
 have hb1 := Ii (Jl (by omega) hb.1) (show p < 4 by omega)
 have hb2 := Ii (Jl (by omega) hb.2) (show p < 4 by omega)
 have hown := hgi.f23 (by show 2 ≤ (ent x i).phase; omega)
 simp only [ab] at hown
 have hal := (hgi.c2 h0).1
 rw [Qc] at hal
 unfold Ce
 simp only [hs]
 by_cases hz : Gd (ent x i).need p = 0
 ·rw [if_pos hz]
  have hrest : ∀ q : Nat, q ≠ p → q < n → Dq (ent x i).need q = 0 := by
   intro q hqp hq
   have := congrFun hb2 q
   exact Zdy
  have hpw : (ent x i).who ≠ p := ((h.ci i hi p hp).ned hnd).2.1
  have hsh : ∀ q, q < n → (ent x i).who ≠ q → q ≠ p → Dq (ent x i).sharers q = 0 := by
   intro q hq hqw hqp
   have := (h.ci i hi q hq).cle h0 hqw
   simp only [ab] at this
   rw [← this]; exact hrest q hqp hq
  have hw := hgi.whor (by show (ent x i).phase ≠ 0; omega)
  simp only [ab] at hw
  obtain ⟨w, hw'⟩ : ∃ w : Nat, (ent x i).who = w := ⟨(ent x i).who.toNat, by omega⟩
  have hcc : Gd (Gd (ent x i).sharers p) (ent x i).who = 0 := by
   rw [hw']
   have hc3 := P8 (by omega) hc1 (show w < 4 by omega)
   refine Kq (Jl (by omega) hc3) fun q hq4 => ?_
   rw [Ii (Jl (by omega) hc1) (by omega), hb1]
   unfold upd
   split
   ·rfl
   ·split
    ·rfl
    ·by_cases hq : q < n
     ·exact hsh q hq (by omega) (by assumption)
     ·unfold Dq
      refine Zcp ?_
      rfl
  have hne : Cs { ent x i with need := Gd (ent x i).need p, sharers := Gd (ent x i).sharers p } = { ent x i with need := 0, sharers := Gd (ent x i).sharers p, phase := 3 } := by
   unfold Cs
   simp only
   rw [if_neg (by omega), if_neg (by rintro ⟨_, h2⟩; exact h2 hcc)]
  rw [hne]
  refine h.home hi hla ⟨hc1, ⟨by simp only; omega, by have : 0 < 2 ^ n := Nat.two_pow_pos n; simp only; omega⟩⟩ ?_
  exact Ye hgi (h.ci i hi) hp hM hk h0 ht hnd rfl rfl hb1 rfl rfl rfl rfl rfl (.inr ⟨rfl, fun q => Dk q, fun q h1 h2 => hrest q h1 h2⟩)
 ·rw [if_neg hz]
  refine h.home hi hla ⟨hc1, hc2⟩ ?_
  exact Ye hgi (h.ci i hi) hp hM hk h0 ht hnd rfl rfl hb1 rfl rfl rfl rfl rfl (.inl ⟨h0, hb2, Nv (by omega) hc2 hz⟩)
theorem Q4 {p i : Nat} {m : Msg} (h : Inv n nl x M) (hp : p < n) (hi : i < nl) (hs : m.src = p) (hM : MI (ab (ent x i)) p (lin x i p) m) (hk : m.kind = 10) (h0 : (ent x i).phase = 3) (ht : m.turn = (ent x i).turn) (ho : m.src = (ent x i).who) :
  Inv n nl ⟨x.cores, x.home.set i (E7 (ent x i)), x.frames⟩ M := by
 have hn := h.n1
 have hb := h.bit i hi
 have hgi := h.gi i hi
 have hla := h.nla i hi
 have hwp : (ent x i).who = p := by rw [← ho]; exact hs
 have hpos : 0 < 2 ^ n := Nat.two_pow_pos n
 unfold E7
 split
 ·rename_i hal
  refine h.home hi hla ⟨⟨by simp only; omega, by simp only; omega⟩, hb.2⟩ ?_
  exact P0 hgi (h.ci i hi) hp hM hk h0 ht hwp rfl rfl rfl rfl rfl rfl rfl (fun q => rfl) (.inl ⟨(Qc _).2 hal, hwp, fun q => Dk q⟩)
 ·rename_i hal
  refine h.home hi hla ⟨by simp only; rw [hwp]; exact X6 (by omega) hb.1 hp, hb.2⟩ ?_
  refine P0 hgi (h.ci i hi) hp hM hk h0 ht hwp rfl rfl rfl rfl rfl rfl rfl (fun q => rfl) (.inr ⟨(N1 _).2 (by simpa using hal), rfl, fun q => ?_⟩)
  show Dq (Gj (ent x i).sharers (ent x i).who) q = _
  rw [hwp, Nw (Jl (by omega) hb.1) (by omega)]; rfl
theorem M9 {p : Nat} {m : Msg} (h : Inv n nl x M) (hp : p < n) (hs : m.src = p) (hd : m.dst = n) (hl : 0 ≤ m.line ∧ m.line < nl) (hr : (0 ≤ m.serial ∧ m.serial ≤ 65535) ∧ (0 ≤ m.turn ∧ m.turn ≤ 65535) ∧ (0 ≤ m.value ∧ m.value ≤ 255)) (hm : MX n x m) :
  Inv n nl ⟨x.cores, (Al x.home n m).1, way x.frames (Al x.home n m).2⟩ M := by
 obtain ⟨i, hi⟩ : ∃ i : Nat, m.line = i := ⟨m.line.toNat, by omega⟩
 have hin : i < nl := by omega
 have hen : Ag x.home m.line = ent x i := by unfold Ag ent; rw [hi, Int.toNat_natCast]
 have hla := h.nla i hin
 have hMI : MI (ab (ent x i)) p (lin x i p) m := by
  unfold MX at hm
  have : Qy n m = p := by unfold Qy; rw [if_pos hd, hs]; simp
  rw [this, hi, Int.toNat_natCast] at hm
  exact hm
 have hsame : x.home.set i (ent x i) = x.home := D7 _ _ _ (by rw [h.nh]; exact hin)
 unfold Al
 rw [hen, if_neg (by rw [h.nh, hla]; omega)]
 simp only [hi, Int.toNat_natCast]
 unfold Ad
 by_cases k1 : m.kind = 1 ∨ m.kind = 2
 ·rw [if_pos k1]
  by_cases hc : (ent x i).phase ≠ 0 ∨ m.serial ≤ Fe (ent x i) m.src ∨ 65535 ≤ (ent x i).turn
  ·rw [if_pos hc]; simp only [way]; rw [hsame]; exact h
  ·rw [if_neg hc, hi]
   exact h.homeSays hin (Zo h hp hin hs hr.1 hMI k1 (by omega) (by omega) (by omega))
 rw [if_neg k1]
 by_cases k3 : m.kind = 3
 ·rw [if_pos k3]
  by_cases hc : (ent x i).phase ≠ 0
  ·rw [if_pos hc]; simp only [way]; rw [hsame]; exact h
  ·rw [if_neg hc]
   obtain ⟨hI, hle⟩ := Zn h hp hin hs hr.1 hr.2.2 hMI k3 (by omega)
   refine hI.way fun m' hm' => ?_
   rw [List.mem_singleton.1 hm', hs, hi]
   refine ⟨Lk h hp hin (by omega) hr.1 (by omega) (by omega), MX.told h hp hin ?_⟩
   constructor <;> simp only <;> intro hk <;> first | omega | exact hle
 rw [if_neg k3]
 by_cases k9 : m.kind = 9 ∧ m.turn = (ent x i).turn ∧ (ent x i).phase = 1 ∧ m.src = (ent x i).owner
 ·rw [if_pos k9, hi]
  exact h.homeSays hin (Wj h hp hin hs hr.2.2 hMI k9.1 k9.2.2.1 k9.2.1 k9.2.2.2)
 rw [if_neg k9]
 by_cases k8 : m.kind = 8 ∧ m.turn = (ent x i).turn ∧ (ent x i).phase = 2 ∧ H8 (ent x i).need m.src = true
 ·rw [if_pos k8]
  have hI := Wi h hp hin hs hMI k8.1 k8.2.2.1 k8.2.1 k8.2.2.2
  by_cases hz : (Ce (ent x i) m).need = 0
  ·rw [if_pos hz] at hI ⊢; rw [hi]; exact h.homeSays hin hI
  ·rw [if_neg hz] at hI ⊢; exact hI
 rw [if_neg k8]
 by_cases k10 : m.kind = 10 ∧ m.turn = (ent x i).turn ∧ (ent x i).phase = 3 ∧ m.src = (ent x i).who
 ·rw [if_pos k10]
  exact Q4 h hp hin hs hMI k10.1 k10.2.2.1 k10.2.1 k10.2.2.2
 ·rw [if_neg k10]; simp only [way]; rw [hsame]; exact h
theorem Yk (h : Inv n nl x M) : Ar x = F8 n nl := by unfold Ar F8 Ba; rw [h.nc, h.nh]
theorem L6 {p : Nat} : Au x p = cor x p := by unfold Au cor; rw [Int.toNat_natCast]
theorem Na {b : List UInt8} (h : Inv n nl x M) (hb : b.length = 12 ∧ ∀ m, Ae (F8 n nl) b = (m, 0) → MX n x m) :
  ∃ M', Inv n nl (Bp x b).1 M' ∧ E8 M (Bp x b).2 M' := by
 unfold Bp
 rw [Yk h]
 have hnc : Ba x = n := by unfold Ba; rw [h.nc]
 rw [hnc]
 by_cases he : (Ae (F8 n nl) b).2 ≠ 0
 ·rw [if_pos he]; exact ⟨M, h, rfl⟩
 rw [if_neg he]
 have hpar : Ae (F8 n nl) b = ((Ae (F8 n nl) b).1, 0) := by
  have : (Ae (F8 n nl) b).2 = 0 := Classical.byContradiction he
  rw [← this]
 have hm := hb.2 _ hpar
 obtain ⟨w1, w2, w3, w4, w5, w6, w7⟩ := Hw (Js hpar).2.2.2.2.1
 generalize (Ae (F8 n nl) b).1 = m at hm w1 w2 w3 w4 w5 w6 w7 ⊢
 simp only [F8] at w2 w3 w7
 by_cases hd : m.dst = (n : Int)
 ·rw [if_pos hd]
  have hs : ¬ m.src = (n : Int) := fun hs => w7 ⟨fun _ => hd, fun _ => hs⟩
  obtain ⟨p, hp⟩ : ∃ p : Nat, m.src = p := ⟨m.src.toNat, by omega⟩
  exact ⟨M, M9 h (by omega) hp hd w3 ⟨w4, w5, w6⟩ hm, rfl⟩
 ·rw [if_neg hd]
  have hs : m.src = (n : Int) := Classical.byContradiction fun hs => w7 ⟨fun h => absurd h hs, fun h => absurd h hd⟩
  obtain ⟨p, hp⟩ : ∃ p : Nat, m.dst = p := ⟨m.dst.toNat, by omega⟩
  rw [hp, L6]
  exact Wh h (by omega) hp hs w3 ⟨w4, w5, w6⟩ hm
theorem Tm {s : Step} (h : Inv n nl x M) (hok : (Am x s).2.2 = 0) : ∃ M', Inv n nl (Am x s).1 M' ∧ E8 M (Am x s).2.1 M' := by
 have hnc : Ba x = n := by unfold Ba; rw [h.nc]
 have hcf := Yk h
 unfold Am at hok ⊢
 rw [hnc] at hok ⊢
 rw [hcf] at hok ⊢
 by_cases k1 : s.kind = 1
 ·rw [if_pos k1] at hok ⊢
  split at hok
  ·cases hok
  rename_i hnode
  rw [if_neg hnode]
  obtain ⟨p, hp⟩ : ∃ p : Nat, s.node = p := ⟨s.node.toNat, by omega⟩
  have hpn : p < n := by omega
  rw [hp, L6] at hok ⊢
  split at hok
  ·rename_i hz; exact absurd hok hz
  rename_i hz
  rw [if_neg hz]
  exact Tn h hpn (Classical.byContradiction hz)
 rw [if_neg k1] at hok ⊢
 by_cases k2 : s.kind = 2
 ·rw [if_pos k2] at hok ⊢
  split at hok
  ·cases hok
  rename_i hf
  rw [if_neg hf]
  exact Na (h.erase _) (h.mi _ (J9 hf))
 rw [if_neg k2] at hok ⊢
 by_cases k3 : s.kind = 3
 ·rw [if_pos k3] at hok ⊢
  split at hok
  ·cases hok
  rename_i hf
  rw [if_neg hf]
  exact ⟨M, h.erase _, rfl⟩
 rw [if_neg k3] at hok ⊢
 by_cases k4 : s.kind = 4
 ·rw [if_pos k4] at hok ⊢
  split at hok
  ·cases hok
  rename_i hf
  rw [if_neg hf]
  exact ⟨M, h.send (h.mi _ (J9 hf)), rfl⟩
 rw [if_neg k4] at hok ⊢
 by_cases k5 : s.kind = 5
 ·rw [if_pos k5] at hok ⊢
  split at hok
  ·cases hok
  rename_i hf
  rw [if_neg hf]
  split at hok
  ·cases hok
  rename_i hq
  rw [if_neg hq]
  split at hok
  ·rename_i hz; exact absurd hok hz
  rename_i hz
  rw [if_neg hz]
  have hf' : ¬ (s.n < 0 ∨ (x.frames.length : Int) ≤ s.n) := hf
  unfold Bo at hz ⊢
  rw [if_neg hf'] at hz ⊢
  split at hz
  ·exact absurd (show (3 : Int) ≠ 0 by decide) hz
  rename_i hbit
  rw [if_neg hbit]
  exact ⟨M, h.spoil hf' (Classical.byContradiction hq) (by omega) (by omega), rfl⟩
 rw [if_neg k5] at hok ⊢
 by_cases k6 : s.kind = 6
 ·rw [if_pos k6] at hok ⊢
  split at hok
  ·cases hok
  rename_i hnode
  rw [if_neg hnode]
  by_cases hh : s.node = (n : Int)
  ·rw [if_pos hh, hh]; exact ⟨M, Lt h, rfl⟩
  ·rw [if_neg hh]
   obtain ⟨p, hp⟩ : ∃ p : Nat, s.node = p := ⟨s.node.toNat, by omega⟩
   rw [hp, L6]
   exact ⟨M, Lu h (by omega), rfl⟩
 ·rw [if_neg k6] at hok; cases hok
end
end Go.Proofs.Ytbigiimomnfpdaa
namespace Go.Proofs.Ytbigiimomnfpdaa
open Abs
section
variable {n nl : Nat} {x : Chip} {M : List Int}
theorem Eo {α : Type} (k i : Nat) (a d : α) (h : i < k) : (List.replicate k a).getD i d = a := by
 rw [List.getD_eq_getElem?_getD, List.getElem?_replicate, if_pos h]; rfl
theorem Hd {α : Type} (k i : Nat) (a : α) : (List.replicate k a).getD i a = a := by
 rw [List.getD_eq_getElem?_getD, List.getElem?_replicate]; split <;> rfl
def Eb (n nl : Nat) : Chip := ⟨List.replicate n ⟨List.replicate nl zLine, zOp⟩, List.replicate nl { Ay with last := List.replicate n 0 }, []⟩
theorem Oq (hn : 1 ≤ n ∧ n ≤ 4) (hl : 1 ≤ nl ∧ nl ≤ 4) : Inv n nl (Eb n nl) (List.replicate nl 0) := by
 have hcor : ∀ p, p < n → cor (Eb n nl) p = ⟨List.replicate nl zLine, zOp⟩ := fun p hp => Eo _ _ _ _ hp
 have hlin : ∀ i p, i < nl → p < n → lin (Eb n nl) i p = zLine := by
  intro i p hi hp; unfold lin; rw [hcor p hp]; exact Eo _ _ _ _ hi
 have hent : ∀ i, i < nl → ent (Eb n nl) i = { Ay with last := List.replicate n 0 } := fun i hi => Eo _ _ _ _ hi
 have hpos : 0 < 2 ^ n := Nat.two_pow_pos n
 have hM : ∀ i, (List.replicate nl (0 : Int)).getD i 0 = 0 := fun i => Hd _ _ _
 refine ⟨hn, hl, by simp [Eb], by simp [Eb], ?_, ?_, by simp, ?_, ?_, ?_, ?_, ?_, by simp [Eb], ?_⟩
 ·intro p hp; rw [hcor p hp]; simp
 ·intro i hi; rw [hent i hi]; simp
 ·intro i hi; rw [hM]; omega
 ·intro i hi; rw [hent i hi]; simp only [Ay]; omega
 ·intro i hi; rw [hent i hi]
  have h1 : ∀ q, Dq 0 q = 0 := fun q => Dk q
  constructor <;> simp only [ab, Ay] <;> first | omega | (intro h; omega) | simp
 ·intro i hi p hp
  rw [hent i hi, hlin i p hi hp, hM]
  have h1 : Dq 0 p = 0 := Dk p
  have h2 : (List.replicate n (0 : Int)).getD p 0 = 0 := Hd _ _ _
  constructor <;> simp only [ab, Ay, zLine] <;> (try rw [h1]) <;> (try rw [h2]) <;> first | omega | simp
 ·intro p hp
  rw [hcor p hp]
  constructor
  ·intro _; exact ⟨rfl, fun i hi => by rw [Eo _ _ _ _ hi]; rfl⟩
  ·intro h; exact absurd rfl h
 ·intro b hb; cases hb
theorem Lg {c : Config} (h : (Aw c).2 = 0) : ∃ n nl : Nat, (1 ≤ n ∧ n ≤ 4) ∧ (1 ≤ nl ∧ nl ≤ 4) ∧ c = F8 n nl ∧ Aw c = (Eb n nl, 0) := by
 unfold Aw at h ⊢
 split at h
 ·cases h
 rename_i hc
 have hc0 : C0 c = 0 := Classical.byContradiction hc
 unfold C0 at hc0
 split at hc0
 ·cases hc0
 rename_i hr
 refine ⟨c.cores.toNat, c.lines.toNat, by omega, by omega, ?_, ?_⟩
 ·unfold F8; cases c; simp only [Config.mk.injEq]; simp only at hr; omega
 ·rw [if_neg hc]; rfl
end
set_option maxHeartbeats 1000000
set_option maxRecDepth 8000
variable {L : List Chunk} {R : List Fact} {w : World}
theorem Wo {α : Type} {l : List α} {d : α} {P : α → Prop} (h : ∀ i, i < l.length → P (l.getD i d)) : ∀ x ∈ l, P x := by
 intro x hx
 obtain ⟨i, hi, rfl⟩ := List.getElem_of_mem hx
 have := h i hi
 rwa [List.getD_eq_getElem?_getD, List.getElem?_eq_getElem hi] at this
section
variable {n nl : Nat} {x : Chip} {M : List Int}
open Abs
theorem Inv.kb (h : Inv n nl x M) {p : Nat} (hp : p < n) : KB (cor x p) := by
 have h1 := h.ncl p hp
 have h2 := h.l1
 refine ⟨by omega, fun i hi => (h.ci i (by omega) p hp).va, by rw [h1]; exact h.cw p hp⟩
theorem Inv.eb (h : Inv n nl x M) {i : Nat} (hi : i < nl) : EB (ent x i) := by
 have hg := h.gi i hi
 have hb := h.bit i hi
 have hn := h.n1
 have b1 := Jl hn.2 hb.1
 have b2 := Jl hn.2 hb.2
 have w : 0 ≤ (ent x i).who ∧ (ent x i).who < 4 := by
  by_cases h0 : (ent x i).phase = 0
  ·have := (hg.idle h0).1; simp only [ab] at this; omega
  ·have := hg.whor h0; simp only [ab] at this; omega
 have o := hg.own; have ph := hg.ph; have tu := hg.tu; have va := hg.va; have se := hg.se
 simp only [ab] at o ph tu va se
 unfold EB Entry.wf Ao
 omega
theorem Inv.ebd (h : Inv n nl x M) {i : Nat} (hi : i < nl) : ((ent x i).turn ≤ 65535) ∧ (0 ≤ (ent x i).serial ∧ (ent x i).serial ≤ 65535) ∧ (0 ≤ (ent x i).value ∧ (ent x i).value ≤ 255) := by
 have hg := h.gi i hi
 exact ⟨hg.tu.2, hg.se, hg.va⟩
def LB (l : Line) : Prop := (0 ≤ l.value ∧ l.value ≤ 255) ∧ (0 ≤ l.want ∧ l.want ≤ 3) ∧ (0 ≤ l.serial ∧ l.serial ≤ 65535) ∧ (0 ≤ l.gave ∧ l.gave ≤ 65535) ∧ (0 ≤ l.given ∧ l.given ≤ 255) ∧ (0 ≤ l.seen ∧ l.seen ≤ 65535) ∧ (0 ≤ l.state ∧ l.state ≤ 3)
theorem Inv.lb (h : Inv n nl x M) {i p : Nat} (hi : i < nl) (hp : p < n) : LB (lin x i p) := by
 have hc := h.ci i hi p hp
 have ht := (h.gi i hi).tu
 have h1 := hc.ga
 exact ⟨hc.va, hc.wa, hc.se, by omega, hc.gi, by omega, hc.st⟩
end
theorem Yq {l : Line} (h : LB l) {id home i : Int} (h1 : 0 ≤ id ∧ id ≤ 15) (h2 : 0 ≤ home ∧ home ≤ 15) (h3 : 0 ≤ i ∧ i ≤ 255) : MsgIn (Bz l id home i) := by
 unfold Bz MsgIn; unfold LB at h; simp only; split <;> omega
theorem Jx {kind id home i t v : Int} (h1 : 0 ≤ id ∧ id ≤ 15) (h2 : 0 ≤ home ∧ home ≤ 15) (h3 : 0 ≤ i ∧ i ≤ 255) (hk : 0 ≤ kind ∧ kind ≤ 255) (ht : 0 ≤ t ∧ t ≤ 65535) (hv : 0 ≤ v ∧ v ≤ 255) : MsgIn (Bk kind id home i t v) := by
 unfold Bk MsgIn; simp only; omega
theorem Xs {c : Core} {id home : Int} {o : Op} (h1 : 0 ≤ id ∧ id ≤ 15) (h2 : 0 ≤ home ∧ home ≤ 15) (hl : c.lines.length ≤ 4) (hb : ∀ i, i < c.lines.length → LB (c.lines.getD i zLine)) : ∀ m ∈ (Aj c id home o).2.1, MsgIn m := by
 unfold Aj
 split
 ·intro m hm; cases hm
 split
 ·intro m hm; cases hm
 split
 ·intro m hm; cases hm
 rename_i k1 k2 k3
 split
 ·intro m hm; cases hm
 ·intro m hm
  rw [List.mem_singleton.1 hm]
  have hL : LB (Bn c o.line) := hb o.line.toNat (by omega)
  refine Yq ?_ h1 h2 (by omega)
  unfold LB at hL ⊢
  unfold A4
  split
  ·split <;> simp only <;> omega
  split
  ·exfalso
   rename_i h3 h4 h5
   apply h3
   unfold Bt
   rw [if_neg h4]
   simp; omega
  ·split <;> simp only <;> omega
theorem Zs {c : Core} {id home : Int} {m : Msg} (h1 : 0 ≤ id ∧ id ≤ 15) (h2 : 0 ≤ home ∧ home ≤ 15) (hl : c.lines.length ≤ 4) (hb : ∀ i, i < c.lines.length → LB (c.lines.getD i zLine)) (ht : 0 ≤ m.turn ∧ m.turn ≤ 65535) : ∀ a ∈ (Ac c id home m).2.1, MsgIn a := by
 unfold Ac
 split
 ·exact Zdf
 rename_i k1
 have hL : LB (Bn c m.line) := hb m.line.toNat (by omega)
 have h3 : 0 ≤ m.line ∧ m.line ≤ 255 := by omega
 unfold LB at hL
 split
 ·exact ZcQ
 split
 ·split
  ·exact ZcQ
  split
  ·intro a ha; rw [List.mem_singleton.1 ha]; exact Jx h1 h2 h3 (by omega) (by omega) (by omega)
  ·exact Zdf
 split
 ·split
  ·exact Zdf
  split
  ·exact ZcQ
  ·exact ZcQ
 split
 ·exact Zdf
 ·exact Zdf
theorem says_in {e : Entry} {i id : Int} (he : EB e) (ht : e.turn ≤ 65535) (hs : 0 ≤ e.serial ∧ e.serial ≤ 65535) (hv : 0 ≤ e.value ∧ e.value ≤ 255) (hp : e.phase = 1 → 0 ≤ e.owner) (hi : 0 ≤ i ∧ i ≤ 255) (hd : 0 ≤ id ∧ id ≤ 15) : ∀ a ∈ Hl e i id, MsgIn a := by
 unfold Hl
 unfold EB at he
 split
 ·rename_i h1
  have := hp h1
  intro a ha; rw [List.mem_singleton.1 ha]; unfold MsgIn; simp only; split <;> omega
 split
 ·intro a ha
  obtain ⟨p, hp, rfl⟩ := List.mem_map.1 ha
  have h4 := (List.mem_filter.1 hp).1
  have : 0 ≤ p ∧ p ≤ 3 := by
   simp only [List.mem_cons, List.not_mem_nil, or_false] at h4; omega
  unfold MsgIn; simp only; omega
 split
 ·exact ZdD
 ·exact Zdf
theorem Ls {e : Entry} : (Cs e).phase = 1 → 0 ≤ (Cs e).owner := by
 unfold Cs; split
 ·intro _; assumption
 split
 ·intro h; simp at h
 ·intro h; simp at h
theorem Iw (e : Entry) : (Cs e).turn = e.turn ∧ (Cs e).serial = e.serial ∧ (Cs e).value = e.value ∧ (Cs e).owner = e.owner ∧ (Cs e).last = e.last := by
 unfold Cs; split
 ·simp
 split <;> simp
theorem Ot {l : List Entry} {id : Int} {m : Msg} (hd : 0 ≤ id ∧ id ≤ 15) (hl : l.length ≤ 4) (hb : ∀ i, i < l.length → EB (l.getD i Ay) ∧ (l.getD i Ay).turn ≤ 65535 ∧ (0 ≤ (l.getD i Ay).serial ∧ (l.getD i Ay).serial ≤ 65535) ∧ (0 ≤ (l.getD i Ay).value ∧ (l.getD i Ay).value ≤ 255) ∧ (l.getD i Ay).last.length ≤ 4)
  (hs : 0 ≤ m.serial ∧ m.serial ≤ 65535) (hv : 0 ≤ m.value ∧ m.value ≤ 255) : ∀ a ∈ (Al l id m).2, MsgIn a := by
 unfold Al
 split
 ·exact Zdf
 rename_i k
 obtain ⟨h1, h2, h3, h4, h5⟩ := hb m.line.toNat (by omega)
 change EB (Ag l m.line) at h1
 change (Ag l m.line).turn ≤ 65535 at h2
 change 0 ≤ (Ag l m.line).serial ∧ (Ag l m.line).serial ≤ 65535 at h3
 change 0 ≤ (Ag l m.line).value ∧ (Ag l m.line).value ≤ 255 at h4
 change (Ag l m.line).last.length ≤ 4 at h5
 have hi : 0 ≤ m.line ∧ m.line ≤ 255 := by omega
 have hE := h1
 unfold EB Entry.wf Ao at hE
 simp only
 generalize Ag l m.line = e at h1 h2 h3 h4 h5 hE k
 unfold Ad
 split
 ·split
  ·exact Zdf
  ·rename_i k2
   have hX : EB { e with last := e.last.set m.src.toNat m.serial, who := m.src, serial := m.serial, alone := m.kind == 2, turn := e.turn + 1 } := by unfold EB Entry.wf Ao; simp only; omega
   have hr := Iw { e with last := e.last.set m.src.toNat m.serial, who := m.src, serial := m.serial, alone := m.kind == 2, turn := e.turn + 1 }
   simp only at hr
   unfold Nk
   exact says_in (Fo hX) (by rw [hr.1]; omega) (by rw [hr.2.1]; exact hs) (by rw [hr.2.2.1]; exact h4) Ls hi hd
 split
 ·split
  ·exact Zdf
  ·exact ZdD
 split
 ·rename_i k3
  have hs4 : 0 ≤ (if e.alone = true then e.sharers else Gj e.sharers e.owner) ∧ (if e.alone = true then e.sharers else Gj e.sharers e.owner) < 16 := by
   split
   ·omega
   ·obtain ⟨_, _, r, _⟩ := Eg hE.2.1.1 hE.2.1.2 (show 0 ≤ e.owner by omega) hE.2.2.2.2.1.2; exact r
  have hX : EB { e with value := m.value, sharers := if e.alone then e.sharers else Gj e.sharers e.owner, owner := -1 } := by
   exact Zdn
  have hr := Iw { e with value := m.value, sharers := if e.alone then e.sharers else Gj e.sharers e.owner, owner := -1 }
  simp only at hr
  unfold Hq
  exact says_in (Fo hX) (by rw [hr.1]; exact h2) (by rw [hr.2.1]; exact h3) (by rw [hr.2.2.1]; exact hv) Ls hi hd
 split
 ·split
  ·have c1 := (Eg hE.2.1.1 hE.2.1.2 (show 0 ≤ m.src by omega) (show m.src < 4 by omega)).2.2.2
   have c2 := (Eg hE.2.2.1.1 hE.2.2.1.2 (show 0 ≤ m.src by omega) (show m.src < 4 by omega)).2.2.2
   have hX : EB (Ce e m) := by
    unfold Ce EB Entry.wf Ao; simp only; omega
   have hr := Iw (Ce e m)
   exact says_in (Fo hX) (by rw [hr.1]; exact h2) (by rw [hr.2.1]; exact h3) (by rw [hr.2.2.1]; exact h4) Ls hi hd
  ·exact Zdf
 split
 ·exact Zdf
 ·exact Zdf
theorem Pf {id home : Int} (h1 : 0 ≤ id ∧ id ≤ 15) (h2 : 0 ≤ home ∧ home ≤ 15) : ∀ (l : List Line) (i : Int), 0 ≤ i → i + l.length ≤ 256 → (∀ x ∈ l, LB x) → ∀ a ∈ Br id home i l, MsgIn a
 | [], _, _, _, _ => fun a ha => by cases ha
 | x :: l, i, h0, hn, hb => by
  intro a ha
  simp only [List.length_cons] at hn
  have ih := Pf h1 h2 l (i + 1) (by omega) (by omega) (fun y hy => hb y (.tail _ hy))
  simp only [Br] at ha
  split at ha
  ·rcases List.mem_cons.1 ha with e | e
   ·rw [e]; exact Yq (hb x (.head _)) h1 h2 (by omega)
   ·exact ih a e
  ·exact ih a ha
theorem K4 : ∀ (a b : List Msg) (f : Frames), way f (a ++ b) = way (way f a) b
 | [], _, _ => rfl
 | _ :: a, b, _ => K4 a b _
theorem H1 (id : Int) : ∀ (l : List Entry) (i : Int) (x : Entry), Cr id i (l ++ [x]) = Cr id i l ++ Hl x (i + l.length) id
 | [], i, x => by simp [Cr]
 | a :: l, i, x => by
  have ih := H1 id l (i + 1) x
  have e : i + 1 + (l.length : Int) = i + ((a :: l).length : Int) := by simp only [List.length_cons]; omega
  rw [e] at ih
  simp only [List.cons_append, Cr, ih, List.append_assoc]
def Jo (f : Nat → Bool) : Nat → Bool
 | 0 => true
 | k + 1 => Jo f k && f k
def Fi (f : Nat → Bool) : Nat → Nat
 | 0 => 0
 | k + 1 => Fi f k + if f k then 1 else 0
theorem allN_iff {f : Nat → Bool} : ∀ {k : Nat}, Jo f k = true ↔ ∀ i, i < k → f i = true
 | 0 => ⟨fun _ i hi => absurd hi (by omega), fun _ => rfl⟩
 | k + 1 => by
  simp only [Jo, Bool.and_eq_true, allN_iff (k := k)]
  refine ⟨fun h i hi => ?_, fun h => ⟨fun i hi => h i (by omega), h k (by omega)⟩⟩
  by_cases e : i = k
  ·rw [e]; exact h.2
  ·exact h.1 i (by omega)
theorem Gx {f : Nat → Bool} {k i : Nat} (hi : i < k) (h : f i = false) : Jo f k = false := by
 cases e : Jo f k with
 | false => rfl
 | true => rw [allN_iff.1 e i hi] at h; cases h
theorem Fy {f : Nat → Bool} {k : Nat} (h : Jo f k = true) (h2 : f k = true) : Jo f (k + 1) = true := by simp only [Jo, h, h2, Bool.and_self]
theorem O1 {f : Nat → Bool} : ∀ {k : Nat}, Fi f k ≤ k
 | 0 => Nat.le_refl _
 | k + 1 => by
  have := O1 (f := f) (k := k)
  simp only [Fi]; split <;> omega
theorem Uk {f : Nat → Bool} {k : Nat} (h : f k = true) : Fi f (k + 1) = Fi f k + 1 := by simp only [Fi, h, if_true]
theorem Lc {f : Nat → Bool} {k : Nat} (h : f k = false) : Fi f (k + 1) = Fi f k := by simp [Fi, h]
theorem Jv {f : Nat → Bool} : ∀ {k : Nat}, 0 < Fi f k → ∃ p, p < k ∧ f p = true
 | 0, h => absurd h (by simp [Fi])
 | k + 1, h => by
  cases e : f k with
  | true => exact ⟨k, by omega, e⟩
  | false =>
   rw [Lc e] at h
   obtain ⟨p, h1, h2⟩ := Jv h
   exact ⟨p, by omega, h2⟩
theorem P7 {f : Nat → Bool} : ∀ {k : Nat}, 1 < Fi f k → ∃ p q, p < q ∧ q < k ∧ f p = true ∧ f q = true
 | 0, h => absurd h (by simp [Fi])
 | k + 1, h => by
  cases e : f k with
  | true =>
   rw [Uk e] at h
   obtain ⟨p, h1, h2⟩ := Jv (f := f) (k := k) (by omega)
   exact ⟨p, k, h1, by omega, h2, e⟩
  | false =>
   rw [Lc e] at h
   obtain ⟨p, q, h1, h2, h3, h4⟩ := P7 h
   exact ⟨p, q, h1, by omega, h3, h4⟩
structure CX (x : Chip) : Prop where
 n4 : x.cores.length ≤ 4
 h4 : x.home.length ≤ 4
 ln : ∀ p, p < x.cores.length → (cor x p).lines.length = x.home.length
 la : ∀ i, i < x.home.length → (ent x i).last.length = x.cores.length
 ow : ∀ i, i < x.home.length → (ent x i).phase = 1 → 0 ≤ (ent x i).owner ∧ (ent x i).owner < (x.cores.length : Int)
 sh : ∀ i, i < x.home.length → 0 ≤ (ent x i).sharers ∧ (ent x i).sharers < 16
def stN (x : Chip) (i p : Nat) : Int := (lin x i p).state
def Fa (x : Chip) (i : Nat) : Bool := !(decide (1 < Fi (fun p => stN x i p == 2) x.cores.length) || (decide (Fi (fun p => stN x i p == 2) x.cores.length = 1) && decide (0 < Fi (fun p => stN x i p == 1) x.cores.length)))
def Ef (x : Chip) : Bool := Jo (Fa x) x.home.length
def M2 (x : Chip) (i p : Nat) : Bool := stN x i p == 2 || (stN x i p == 3 && decide ((ent x i).last.getD p 0 < (lin x i p).serial))
def Jp (x : Chip) (i : Nat) : Nat → Option Int
 | 0 => none
 | k + 1 => match Jp x i k with
  | some v => some v
  | none => if M2 x i k then some (lin x i k).value else none
def X5 (x : Chip) (i : Nat) : Int := if (ent x i).phase = 1 ∧ (lin x i (ent x i).owner.toNat).gave = (ent x i).turn then (lin x i (ent x i).owner.toNat).given else (ent x i).value
def Cz (x : Chip) (i : Nat) : Int := (Jp x i x.cores.length).getD (X5 x i)
def Ys (x : Chip) (i p : Nat) : Bool := stN x i p == 1 && (lin x i p).value != Cz x i
def sameAt (x : Chip) (i : Nat) : Bool := Jo (fun p => !Ys x i p) x.cores.length
def E9 (x : Chip) : Bool := Jo (sameAt x) x.home.length
def Gg (x : Chip) (i p : Nat) : Bool := (ent x i).phase == 3 && (ent x i).who == (p : Int) && (lin x i p).seen == (ent x i).turn
def F0 (x : Chip) (i p : Nat) : Bool := !((stN x i p == 2 && (ent x i).owner != (p : Int) && !Gg x i p) || (stN x i p == 1 && !H8 (ent x i).sharers p && (ent x i).owner != (p : Int) && !Gg x i p))
def Tj (x : Chip) (i : Nat) : Bool := Jo (F0 x i) x.cores.length
def Ee (x : Chip) : Bool := Jo (Tj x) x.home.length
def I1 (x : Chip) (k : Nat) : Bool := (x.frames.getD k []).length == 12
def Dj (x : Chip) : Int :=
 if 40 < x.frames.length then 4 else if Ef x = false then 6 else if E9 x = false ∨ Ee x = false then 2 else if Jo (I1 x) x.frames.length = false then 3 else 0
theorem Mh {x : Chip} {i : Nat} {v : Int} : ∀ {k : Nat}, Jp x i k = some v → ∃ p, p < k ∧ M2 x i p = true ∧ v = (lin x i p).value
 | 0, h => by cases h
 | k + 1, h => by
  simp only [Jp] at h
  cases e : Jp x i k with
  | some w =>
   rw [e] at h
   obtain ⟨p, h1, h2, h3⟩ := Mh e
   simp only [Option.some.injEq] at h
   exact ⟨p, by omega, h2, by rw [← h]; exact h3⟩
  | none =>
   rw [e] at h; simp only at h
   split at h
   ·rename_i o
    simp only [Option.some.injEq] at h
    exact ⟨k, by omega, o, h.symm⟩
   ·cases h
theorem Mi {x : Chip} {i : Nat} : ∀ {k : Nat}, Jp x i k = none → ∀ p, p < k → M2 x i p = false
 | 0, _, p, hp => absurd hp (by omega)
 | k + 1, h, p, hp => by
  simp only [Jp] at h
  cases e : Jp x i k with
  | some w => rw [e] at h; cases h
  | none =>
   rw [e] at h; simp only at h
   split at h
   ·cases h
   ·rename_i o
    by_cases q : p = k
    ·rw [q]; simpa using o
    ·exact Mi e p (by omega)
theorem Ve {x : Chip} {i k : Nat} (h : Jp x i k = none) (o : M2 x i k = true) : Jp x i (k + 1) = some (lin x i k).value := by simp only [Jp, h, o, if_true]
theorem Mj {x : Chip} {i k : Nat} (h : Jp x i k = none) (o : M2 x i k = false) : Jp x i (k + 1) = none := by simp [Jp, h, o]
theorem Mk {x : Chip} {i j : Nat} {v : Int} (h : Jp x i j = some v) : ∀ {k : Nat}, j ≤ k → Jp x i k = some v
 | 0, hk => by rw [Nat.le_zero.1 hk] at h; cases h
 | k + 1, hk => by
  by_cases e : j = k + 1
  ·rw [← e]; exact h
  ·simp only [Jp, Mk h (k := k) (by omega)]
theorem Mg {x : Chip} {i k : Nat} (h : Jp x i k = none) (o : M2 x i k = true) (hk : k < x.cores.length) : Cz x i = (lin x i k).value := by
 unfold Cz
 rw [Mk (Ve h o) (show k + 1 ≤ x.cores.length by omega)]; rfl
theorem Hx {x : Chip} {i : Nat} (h : Jp x i x.cores.length = none) : Cz x i = X5 x i := by unfold Cz; rw [h]; rfl
section
open Abs
variable {n nl : Nat} {x : Chip} {M : List Int}
theorem Inv.cx (h : Inv n nl x M) : CX x := by
 have h1 := h.nc
 have h2 := h.nh
 have h3 := h.n1
 have h4 := h.l1
 refine ⟨by omega, by omega, fun p hp => ?_, fun i hi => ?_, fun i hi h0 => ?_, fun i hi => ?_⟩
 ·rw [h.ncl p (by omega), h2]
 ·rw [h.nla i (by omega), h1]
 ·have hg := h.gi i (by omega)
  have := hg.f1 h0
  have := hg.own
  simp only [ab] at *
  omega
 ·have hb := h.bit i (by omega)
  have := Jl h3.2 hb.1
  exact this
theorem U8 (h : Inv n nl x M) {i p q : Nat} (hi : i < nl) (hp : p < n) (hq : q < n) (hpq : p ≠ q) (h1 : stN x i p = 2) (h2 : stN x i q = 2) : False := by
 have g := h.gi i hi
 have a := ((h.ci i hi p hp).alo (.inl h1)).1
 have b := ((h.ci i hi q hq).alo (.inl h2)).1
 have f := g.f23
 omega
theorem Sf (h : Inv n nl x M) {i p q : Nat} (hi : i < nl) (hp : p < n) (hq : q < n) (h1 : stN x i p = 2) (h2 : stN x i q = 1) : False := by
 have g := h.gi i hi
 have cp := h.ci i hi p hp
 have cq := h.ci i hi q hq
 have hpq : p ≠ q := fun e => by rw [e, h2] at h1; exact absurd h1 (by decide)
 have a := (cp.alo (.inl h1)).1
 have b := (cq.cop h2).1
 have f := g.f23
 have s := cq.shs
 have r := cq.gra
 rcases a with a | a
 ·rcases b with b | b | b
  ·have := (s b).2; omega
  ·omega
  ·have := f (by omega); omega
 ·rcases b with b | b | b
  ·have := r a.1 a.2.2 (by omega); omega
  ·have := f (by omega); omega
  ·omega
theorem Uq (h : Inv n nl x M) : Ef x = true := by
 refine allN_iff.2 fun i hi => ?_
 have h1 := h.nc
 have h2 := h.nh
 have c1 : ¬ 1 < Fi (fun p => stN x i p == 2) x.cores.length := fun c => by
  obtain ⟨p, q, a, b, c, d⟩ := P7 c
  exact U8 h (i := i) (p := p) (q := q) (by omega) (by omega) (by omega) (by omega) (by simpa using c) (by simpa using d)
 have c2 : ¬ (Fi (fun p => stN x i p == 2) x.cores.length = 1 ∧ 0 < Fi (fun p => stN x i p == 1) x.cores.length) := fun c => by
  obtain ⟨p, a, b⟩ := Jv (f := fun p => stN x i p == 2) (k := x.cores.length) (by omega)
  obtain ⟨q, c, d⟩ := Jv c.2
  exact Sf h (i := i) (p := p) (q := q) (by omega) (by omega) (by omega) (by simpa using b) (by simpa using d)
 unfold Fa
 rw [decide_eq_false c1, Bool.false_or, ← Bool.decide_and, decide_eq_false c2]; rfl
theorem S5 {i p : Nat} (h : Inv n nl x M) (hi : i < nl) (hp : p < n) (o : M2 x i p = false) : stN x i p ≠ 2 ∧ (stN x i p = 3 → (lin x i p).serial = (ent x i).last.getD p 0) := by
 have l := (h.ci i hi p hp).la
 simp only [ab] at l
 unfold M2 at o
 simp only [Bool.or_eq_false_iff, Bool.and_eq_false_iff, beq_eq_false_iff_ne, decide_eq_false_iff_not] at o
 refine ⟨o.1, fun h3 => ?_⟩
 rcases o.2 with a | a
 ·exact absurd h3 a
 ·omega
theorem Uo (h : Inv n nl x M) {i : Nat} (hi : i < nl) : Cz x i = M.getD i 0 := by
 have h1 := h.nc
 have g := h.gi i hi
 cases e : Jp x i x.cores.length with
 | some v =>
  obtain ⟨p, hp, o, hv⟩ := Mh e
  have c := h.ci i hi p (by omega)
  have : Cz x i = v := by unfold Cz; rw [e]; rfl
  rw [this, hv]
  refine (c.alo ?_).2
  unfold M2 at o
  simp only [Bool.or_eq_true, Bool.and_eq_true, beq_iff_eq, decide_eq_true_eq] at o
  exact o
 | none =>
  rw [Hx e]
  have no := Mi e
  have key : ∀ p, p < n → (ab (ent x i)).owner = (p : Int) → (lin x i p).state < 2 ∧ (ab (ent x i)).phase = 1 ∧ (lin x i p).gave = (ab (ent x i)).turn ∧ (lin x i p).given = M.getD i 0 := fun p hp ho => by
   have c := h.ci i hi p hp
   have q := S5 h hi hp (no p (by omega))
   have q1 := q.1
   have q2 := q.2
   unfold stN at q1 q2
   have b := c.back
   have lv := c.leav
   have st := c.st
   rcases c.own ho with d | d
   ·exfalso
    have h3 : (lin x i p).state = 3 := by omega
    exact b (lv.1 h3) (by rw [q2 h3]; rfl) ho
   ·exact ⟨d.1, d.2.1, d.2.2.1, d.2.2.2.1⟩
  by_cases ph : (ent x i).phase = 1
  ·have o := g.f1 ph
   have o2 := g.own
   obtain ⟨p, hp⟩ := Int.eq_ofNat_of_zero_le o.1
   obtain ⟨_, _, k1, k2⟩ := key p (by omega) hp
   have e1 : (ent x i).owner.toNat = p := by
    have : (ent x i).owner = (p : Int) := hp
    omega
   unfold X5
   rw [e1, if_pos ⟨ph, k1⟩]; exact k2
  ·have e1 : X5 x i = (ab (ent x i)).value := by unfold X5; rw [if_neg (fun z => ph z.1)]; rfl
   rw [e1]
   have ow : (ab (ent x i)).owner = -1 := by
    have o2 := g.own
    refine Classical.byContradiction fun hn => ?_
    obtain ⟨p, hp⟩ := Int.eq_ofNat_of_zero_le (show 0 ≤ (ab (ent x i)).owner by omega)
    exact ph (key p (by omega) hp).2.1
   by_cases w : (ab (ent x i)).phase = 3 ∧ (ab (ent x i)).alone = 1
   ·have o := g.whor (by omega)
    obtain ⟨p, hp⟩ := Int.eq_ofNat_of_zero_le o.1
    have hpn : p < n := by omega
    have c := h.ci i hi p hpn
    refine c.val ow (fun _ _ => ⟨hp, ?_⟩)
    have q := S5 h hi hpn (no p (by omega))
    have q1 := q.1
    have q2 := q.2
    unfold stN at q1 q2
    have st := c.st
    have lv := c.leav
    obtain ⟨a, b⟩ := c.cur (by omega) hp
    rcases b with b | b
    ·exact b.2.2
    ·exfalso
     have h2 := b.2.2.2.1 w.2
     have h3 : (lin x i p).state = 3 := by omega
     have h4 := lv.1 h3
     have h5 := q2 h3
     have h6 : (ab (ent x i)).last p = (ent x i).last.getD p 0 := rfl
     rcases b.1 with z | z <;> omega
   ·have n1 := h.n1
    exact (h.ci i hi 0 (by omega)).val ow (fun a b => absurd ⟨a, b⟩ w)
theorem Xc (h : Inv n nl x M) : E9 x = true := by
 have h1 := h.nc
 have h2 := h.nh
 refine allN_iff.2 fun i hi => allN_iff.2 fun p hp => ?_
 have hi' : i < nl := by omega
 unfold Ys
 by_cases s : stN x i p = 1
 ·have := ((h.ci i hi' p (by omega)).cop s).2
  rw [this, Uo h hi']; simp
 ·simp [s]
theorem Up (h : Inv n nl x M) : Ee x = true := by
 have h1 := h.nc
 have h2 := h.nh
 refine allN_iff.2 fun i hi => allN_iff.2 fun p hp => ?_
 have hi' : i < nl := by omega
 have hp' : p < n := by omega
 have c := h.ci i hi' p hp'
 have w2 := c.w2
 have a : stN x i p = 2 → (ent x i).owner = (p : Int) ∨ Gg x i p = true := fun s => by
  rcases (c.alo (.inl s)).1 with o | ⟨o1, o2, o3⟩
  ·exact .inl o
  ·refine .inr ?_
   obtain ⟨_, b⟩ := c.cur (by omega) o2
   unfold stN at s
   have e : (lin x i p).seen = (ent x i).turn := by
    rcases b with b | b
    ·have := w2 (by omega); omega
    ·exact b.2.2.1
   unfold Gg
   simp only [Bool.and_eq_true, beq_iff_eq]
   exact ⟨⟨o1, o2⟩, e⟩
 have b : stN x i p = 1 → H8 (ent x i).sharers p = true ∨ (ent x i).owner = (p : Int) ∨ Gg x i p = true := fun s => by
  rcases (c.cop s).1 with o | o | ⟨o1, o2, o3⟩
  ·exact .inl ((Ov _ _).2 o)
  ·exact .inr (.inl o)
  ·refine .inr (.inr ?_)
   unfold Gg
   simp only [Bool.and_eq_true, beq_iff_eq]
   exact ⟨⟨o1, o2⟩, o3⟩
 unfold F0
 by_cases s2 : stN x i p = 2
 ·rcases a s2 with o | o <;> simp [s2, o]
 by_cases s1 : stN x i p = 1
 ·rcases b s1 with o | o | o <;> simp [s1, o]
 ·simp [s1, s2]
theorem R3 (h : Inv n nl x M) : Jo (I1 x) x.frames.length = true := by
 refine allN_iff.2 fun k hk => ?_
 have e : x.frames.getD k [] ∈ x.frames := by
  rw [List.getD_eq_getElem?_getD, List.getElem?_eq_getElem hk]; exact List.getElem_mem _
 unfold I1
 rw [(h.mi _ e).1]; rfl
theorem Un (h : Inv n nl x M) : Dj x = 0 := by
 have := h.fr
 unfold Dj
 rw [if_neg (by omega), if_neg (by rw [Uq h]; decide), if_neg (by rw [Xc h, Up h]; decide), if_neg (by rw [R3 h]; decide)]
end
end Go.Proofs.Ytbigiimomnfpdaa
namespace Go.Proofs.Ytbigiimomnfpdaa
open Abs
def n3 (k : Int) : List UInt8 := [u8 (k / 65536), u8 (k / 256), u8 k]
def In3 (k : Int) : Prop := -1 ≤ k ∧ k ≤ 16777214
theorem n3_inj {a b : Int} (ha : In3 a) (hb : In3 b) (h : n3 a = n3 b) : a = b := by
 unfold n3 at h
 injection h with h1 h
 injection h with h2 h
 injection h with h3 _
 have e1 := Gi (a / 65536); have e2 := Gi (b / 65536); rw [h1] at e1
 have e3 := Gi (a / 256); have e4 := Gi (b / 256); rw [h2] at e3
 have e5 := Gi a; have e6 := Gi b; rw [h3] at e5
 unfold In3 at ha hb; omega
def Fb (l : List Int) : List UInt8 := l.flatMap n3
theorem H6 (a b : List Int) : Fb (a ++ b) = Fb a ++ Fb b := by unfold Fb; rw [List.flatMap_append]
theorem E0 (l : List Int) : (Fb l).length = 3 * l.length := by
 induction l with
 | nil => rfl
 | cons a l ih => unfold Fb at ih ⊢; rw [List.flatMap_cons, List.length_append, ih]; simp [n3]; omega
theorem G5 {α β : Type} {f : α → List β} {k : Nat} : ∀ {l m : List α}, (∀ a ∈ l, (f a).length = k) → (∀ a ∈ m, (f a).length = k) → (∀ a ∈ l, ∀ b ∈ m, f a = f b → a = b) → l.length = m.length → l.flatMap f = m.flatMap f → l = m
 | [], [], _, _, _, _, _ => rfl
 | [], _ :: _, _, _, _, hl, _ => by simp at hl
 | _ :: _, [], _, _, _, hl, _ => by simp at hl
 | a :: l, b :: m, h1, h2, h3, hl, h => by
  rw [List.flatMap_cons, List.flatMap_cons] at h
  have e := List.append_inj h (by rw [h1 a (List.mem_cons_self ..), h2 b (List.mem_cons_self ..)])
  rw [h3 a (List.mem_cons_self ..) b (List.mem_cons_self ..) e.1]
  rw [G5 (fun a ha => h1 a (List.mem_cons_of_mem _ ha)) (fun a ha => h2 a (List.mem_cons_of_mem _ ha)) (fun a ha b hb => h3 a (List.mem_cons_of_mem _ ha) b (List.mem_cons_of_mem _ hb)) (by simpa using hl) e.2]
theorem V4 {l m : List Int} (hl : ∀ a ∈ l, In3 a) (hm : ∀ a ∈ m, In3 a) (h : l.length = m.length) (e : Fb l = Fb m) : l = m :=
 G5 (k := 3) (fun _ _ => rfl) (fun _ _ => rfl) (fun a ha b hb e => n3_inj (hl a ha) (hm b hb) e) h e
def lineNums (l : Line) : List Int := [l.state, l.value, l.want, l.serial, l.seen, l.gave, l.given]
def A5 (c : Core) : List Int := [c.wait.kind, c.wait.line, c.wait.value, (c.lines.length : Int)] ++ c.lines.flatMap lineNums
def Fu (b : Bool) : Int := if b then 1 else 0
def entNums (e : Entry) : List Int := [e.value, e.owner, e.sharers, e.phase, e.who, e.serial, Fu e.alone, e.turn, e.need, (e.last.length : Int)] ++ e.last
def frKey (b : List UInt8) : List UInt8 := n3 (b.length : Int) ++ b
def A9 (x : Chip) : List Int := [(x.cores.length : Int), (x.home.length : Int), (x.frames.length : Int)]
def Ca (x : Chip) : List Int := A9 x ++ x.cores.flatMap A5 ++ x.home.flatMap entNums
def Gr (x : Chip) : List UInt8 := Fb (Ca x) ++ x.frames.flatMap frKey
theorem Fg {α β : Type} {f : α → List β} {k : Nat} : ∀ {l : List α}, (∀ a ∈ l, (f a).length = k) → (l.flatMap f).length = l.length * k
 | [], _ => by simp
 | a :: l, h => by
  rw [List.flatMap_cons, List.length_append, h a (List.mem_cons_self ..), Fg (fun b hb => h b (List.mem_cons_of_mem _ hb)), List.length_cons, Nat.succ_mul]; omega
theorem Kb {α : Type} {l : List α} {a : α} (d : α) (h : a ∈ l) : ∃ k, k < l.length ∧ l.getD k d = a := by
 obtain ⟨k, hk, e⟩ := List.mem_iff_getElem.1 h
 exact ⟨k, hk, by rw [List.getD_eq_getElem?_getD, List.getElem?_eq_getElem hk]; exact e⟩
section
variable {n nl : Nat} {x y : Chip} {M M' : List Int}
theorem Tg (h : Inv n nl x M) {p i : Nat} (hp : p < n) (hi : i < nl) : ∀ k ∈ lineNums (lin x i p), In3 k := by
 have hc := h.ci i hi p hp
 have ht := (h.gi i hi).tu
 have h1 := hc.st; have h2 := hc.va; have h3 := hc.wa; have h4 := hc.se; have h5 := hc.ga; have h6 := hc.gi
 intro k hk
 unfold lineNums at hk
 unfold In3
 simp only [List.mem_cons, List.not_mem_nil, or_false] at hk
 simp only [ab] at h5 ht
 rcases hk with e | e | e | e | e | e | e <;> rw [e] <;> omega
theorem L5 (h : Inv n nl x M) {c : Core} (hc : c ∈ x.cores) : ∃ p, p < n ∧ cor x p = c ∧ c.lines.length = nl := by
 obtain ⟨p, hp, e⟩ := Kb Ez hc
 have hpn : p < n := by rw [← h.nc]; exact hp
 exact ⟨p, hpn, e, by rw [← e]; exact h.ncl p hpn⟩
theorem Fw (h : Inv n nl x M) {c : Core} (hc : c ∈ x.cores) : (∀ k ∈ A5 c, In3 k) ∧ (A5 c).length = 4 + nl * 7 := by
 obtain ⟨p, hp, e, hl⟩ := L5 h hc
 have hw := h.cw p hp
 have hl4 := h.l1
 refine ⟨fun k hk => ?_, ?_⟩
 ·unfold A5 at hk
  rcases List.mem_append.1 hk with hk | hk
  ·have hwt : 0 ≤ c.wait.kind ∧ c.wait.kind ≤ 4 ∧ 0 ≤ c.wait.line ∧ c.wait.line ≤ 4 ∧ 0 ≤ c.wait.value ∧ c.wait.value ≤ 255 := by
    rw [e] at hw
    by_cases h0 : c.wait.kind = 0
    ·have := (hw.free h0).1; rw [this]; decide
    ·have := hw.busy h0; omega
   unfold In3
   simp only [List.mem_cons, List.not_mem_nil, or_false] at hk
   rcases hk with e | e | e | e <;> rw [e] <;> omega
  ·obtain ⟨l, hlm, hk⟩ := List.mem_flatMap.1 hk
   obtain ⟨i, hi, e2⟩ := Kb zLine hlm
   have h2 := Tg h hp (show i < nl by omega) k
   have e3 : lin x i p = l := by unfold lin; rw [e]; exact e2
   rw [e3] at h2; exact h2 hk
 ·unfold A5
  rw [List.length_append, Fg (k := 7) (fun _ _ => rfl), hl]; rfl
theorem Xa (h : Inv n nl x M) (g : Inv n nl y M') {c d : Core} (hc : c ∈ x.cores) (hd : d ∈ y.cores) (e : A5 c = A5 d) : c = d := by
 obtain ⟨_, _, _, h1⟩ := L5 h hc
 obtain ⟨_, _, _, h2⟩ := L5 g hd
 unfold A5 at e
 have e2 := List.append_inj e rfl
 have e3 := G5 (k := 7) (fun _ _ => rfl) (fun _ _ => rfl) (fun a _ b _ hab => by
  unfold lineNums at hab
  cases a; cases b; simp only [List.cons.injEq, and_true] at hab ⊢
  simp [hab]) (by omega) e2.2
 have e4 := e2.1
 simp only [List.cons.injEq, and_true] at e4
 obtain ⟨a1, a2, a3, _⟩ := e4
 obtain ⟨cl, ck, cn, cv⟩ := c
 obtain ⟨dl, dk, dn, dv⟩ := d
 simp only at a1 a2 a3 e3 ⊢
 subst a1 a2 a3 e3; rfl
theorem Abj (h : Inv n nl x M) {e : Entry} (he : e ∈ x.home) : ∃ i, i < nl ∧ ent x i = e ∧ e.last.length = n := by
 obtain ⟨i, hi, e2⟩ := Kb Ay he
 have hin : i < nl := by rw [← h.nh]; exact hi
 exact ⟨i, hin, e2, by rw [← e2]; exact h.nla i hin⟩
theorem Ju (h : Inv n nl x M) {e : Entry} (he : e ∈ x.home) : (∀ k ∈ entNums e, In3 k) ∧ (entNums e).length = 10 + n := by
 obtain ⟨i, hi, e2, hl⟩ := Abj h he
 have hg := h.gi i hi
 have hb := h.bit i hi
 have hn := h.n1
 have h16 : (2 ^ n : Nat) ≤ 16 := Nat.pow_le_pow_right (show 0 < 2 by decide) hn.2
 rw [e2] at hg hb
 have h1 := hg.own; have h2 := hg.ph; have h3 := hg.idle; have h4 := hg.whor; have h5 := hg.tu; have h6 := hg.va; have h7 := hg.se
 simp only [ab] at h1 h2 h3 h4 h5 h6 h7
 refine ⟨fun k hk => ?_, ?_⟩
 ·unfold entNums at hk
  rcases List.mem_append.1 hk with hk | hk
  ·have hf : 0 ≤ Fu e.alone ∧ Fu e.alone ≤ 1 := by unfold Fu; split <;> omega
   unfold In3
   simp only [List.mem_cons, List.not_mem_nil, or_false] at hk
   rcases hk with e | e | e | e | e | e | e | e | e | e <;> rw [e] <;> first | omega | (by_cases h0 : (0 : Int) = 0 <;> omega)
  ·obtain ⟨p, hp, e3⟩ := Kb 0 hk
   have hc := h.ci i hi p (by omega)
   have a1 := hc.la; have a2 := hc.se
   have e4 : (ab (ent x i)).last p = k := by rw [e2]; exact e3
   unfold In3; omega
 ·unfold entNums; rw [List.length_append, hl]; rfl
theorem Abl {d e : Entry} (h : entNums d = entNums e) : d = e := by
 unfold entNums at h
 have e2 := List.append_inj h rfl
 have e4 := e2.1
 simp only [List.cons.injEq, and_true] at e4
 obtain ⟨a1, a2, a3, a4, a5, a6, a7, a8, a9, _⟩ := e4
 have a10 := e2.2
 have a11 : d.alone = e.alone := by
  unfold Fu at a7
  cases h1 : d.alone <;> cases h2 : e.alone <;> rw [h1, h2] at a7 <;> simp at a7 <;> rfl
 cases d; cases e
 simp only at a1 a2 a3 a4 a5 a6 a8 a9 a10 a11 ⊢
 subst a1 a2 a3 a4 a5 a6 a8 a9 a10 a11; rfl
theorem Fx (h : Inv n nl x M) : (∀ k ∈ Ca x, In3 k) ∧ (Ca x).length = 3 + n * (4 + nl * 7) + nl * (10 + n) := by
 have hn := h.n1; have hl := h.l1; have hf := h.fr
 refine ⟨fun k hk => ?_, ?_⟩
 ·unfold Ca at hk
  rcases List.mem_append.1 hk with hk | hk
  ·rcases List.mem_append.1 hk with hk | hk
   ·unfold A9 at hk
    have := h.nc; have := h.nh
    unfold In3
    simp only [List.mem_cons, List.not_mem_nil, or_false] at hk
    rcases hk with e | e | e <;> rw [e] <;> omega
   ·obtain ⟨c, hc, hk⟩ := List.mem_flatMap.1 hk
    exact (Fw h hc).1 k hk
  ·obtain ⟨e, he, hk⟩ := List.mem_flatMap.1 hk
   exact (Ju h he).1 k hk
 ·unfold Ca
  rw [List.length_append, List.length_append, Fg (fun c hc => (Fw h hc).2), Fg (fun e he => (Ju h he).2), h.nc, h.nh]; rfl
theorem Zl (h : Inv n nl x M) (g : Inv n nl y M') (e : Gr x = Gr y) : x = y := by
 unfold Gr at e
 have e1 := List.append_inj e (by rw [E0, E0, (Fx h).2, (Fx g).2])
 have e2 := V4 (Fx h).1 (Fx g).1 (by rw [(Fx h).2, (Fx g).2]) e1.1
 unfold Ca at e2
 have e3 := List.append_inj e2 (by rw [List.length_append, List.length_append, Fg (fun c hc => (Fw h hc).2), Fg (fun c hc => (Fw g hc).2), h.nc, g.nc]; rfl)
 have e4 := List.append_inj e3.1 rfl
 have hc := G5 (fun c hc => (Fw h hc).2) (fun c hc => (Fw g hc).2) (fun a ha b hb hab => Xa h g ha hb hab) (by rw [h.nc, g.nc]) e4.2
 have hh := G5 (fun c hc => (Ju h hc).2) (fun c hc => (Ju g hc).2) (fun a ha b hb hab => Abl hab) (by rw [h.nh, g.nh]) e3.2
 have hf : x.frames.length = y.frames.length := by
  have := e4.1
  unfold A9 at this
  simp only [List.cons.injEq, and_true] at this
  have := this.2.2; omega
 have hlen : ∀ b, b.length = 12 → (frKey b).length = 15 := fun b hb => by unfold frKey; rw [List.length_append, hb]; rfl
 have hfr := G5 (fun b hb => hlen b (h.mi b hb).1) (fun b hb => hlen b (g.mi b hb).1) (fun a ha b hb hab => by
  unfold frKey at hab
  exact (List.append_inj hab rfl).2) hf e1.2
 cases x; cases y; simp only at hc hh hfr; rw [hc, hh, hfr]
end
end Go.Proofs.Ytbigiimomnfpdaa
namespace Go.Proofs.Ytbigiimomnfpdaa
open Abs
def Oh (x : Chip) (ops : List Op) (p : Nat) : List Step := if (cor x p).wait.kind = 0 then ops.map fun o => ⟨1, (p : Int), 0, 0, o⟩ else []
def Wr (losses : Bool) (k : Nat) : List Step := ⟨2, 0, (k : Int), 0, zOp⟩ :: (if losses then [⟨3, 0, (k : Int), 0, zOp⟩, ⟨4, 0, (k : Int), 0, zOp⟩] else [])
def Vg (losses : Bool) (k : Nat) : List Step := if losses then [⟨6, (k : Int), 0, 0, zOp⟩] else []
def Yr (x : Chip) (ops : List Op) (losses : Bool) (a b t : Nat) : List Step := (List.range a).flatMap (Oh x ops) ++ (List.range b).flatMap (Wr losses) ++ (List.range t).flatMap (Vg losses)
def Io (x : Chip) (ops : List Op) (losses : Bool) : List Step := Yr x ops losses x.cores.length x.frames.length (x.cores.length + 1)
theorem Is {β : Type} (f : Nat → List β) (k : Nat) : (List.range (k + 1)).flatMap f = (List.range k).flatMap f ++ f k := by
 rw [List.range_succ, List.flatMap_append]; simp
def Ib (had : List Chip) (x : Chip) (s : Step) : Option (List Chip) :=
 if (Am x s).2.2 ≠ 0 ∨ (Am x s).1 ∈ had then some had else if had.length = 120 then none else some (had ++ [(Am x s).1])
def Dz (had : List Chip) (x : Chip) : List Step → Option (List Chip)
 | [] => some had
 | s :: r => match Ib had x s with
  | none => none
  | some h => Dz h x r
def Fv (ops : List Op) (losses : Bool) (had : List Chip) : List Chip → Option (List Chip)
 | [] => some had
 | x :: r => match Dz had x (Io x ops losses) with
  | none => none
  | some h => Fv ops losses h r
def C4 (ops : List Op) (losses : Bool) : Nat → List Chip → Nat → Option (List Chip)
 | 0, had, _ => some had
 | k + 1, had, f => match Fv ops losses had (had.drop f) with
  | none => none
  | some h => C4 ops losses k h had.length
def Ct (c : Config) (ops : List Op) (losses : Bool) (most : Int) : Seen × Int :=
 if (Aw c).2 ≠ 0 then (⟨0, 0, false⟩, (Aw c).2)
 else if most < 0 ∨ 300 < most then (⟨0, 0, false⟩, 3)
 else if 12 < ops.length then (⟨0, 0, false⟩, 4)
 else match C4 ops losses most.toNat [(Aw c).1] 0 with
  | none => (⟨120, 0, true⟩, 0)
  | some h => (⟨(h.length : Int), 0, false⟩, 0)
theorem Vf {had h : List Chip} {x : Chip} {s : Step} (e : Ib had x s = some h) : ∃ t, h = had ++ t := by
 unfold Ib at e
 split at e
 ·injection e with e; exact ⟨[], by rw [← e, List.append_nil]⟩
 ·split at e
  ·cases e
  ·injection e with e; exact ⟨_, e.symm⟩
theorem K6 {x : Chip} : ∀ {l : List Step} {had h : List Chip}, Dz had x l = some h → ∃ t, h = had ++ t
 | [], had, h, e => by unfold Dz at e; injection e with e; exact ⟨[], by rw [← e, List.append_nil]⟩
 | s :: r, had, h, e => by
  unfold Dz at e
  split at e
  ·cases e
  ·rename_i h1 e1
   obtain ⟨t1, g1⟩ := Vf e1
   obtain ⟨t2, g2⟩ := K6 e
   exact ⟨t1 ++ t2, by rw [g2, g1, List.append_assoc]⟩
theorem Lr {ops : List Op} {losses : Bool} : ∀ {l : List Chip} {had h : List Chip}, Fv ops losses had l = some h → ∃ t, h = had ++ t
 | [], had, h, e => by unfold Fv at e; injection e with e; exact ⟨[], by rw [← e, List.append_nil]⟩
 | x :: r, had, h, e => by
  unfold Fv at e
  split at e
  ·cases e
  ·rename_i h1 e1
   obtain ⟨t1, g1⟩ := K6 e1
   obtain ⟨t2, g2⟩ := Lr e
   exact ⟨t1 ++ t2, by rw [g2, g1, List.append_assoc]⟩
theorem Pm {ops : List Op} {losses : Bool} : ∀ (k : Nat) (had : List Chip) (f : Nat), (C4 ops losses k had f = none → C4 ops losses (k + 1) had f = none) ∧ ∀ h, C4 ops losses k had f = some h → ∀ g, C4 ops losses (k + 1) had f = some g → h.length ≤ g.length
 | 0, had, f => by
  refine ⟨fun h => by simp [C4] at h, fun h e g eg => ?_⟩
  have e' : had = h := by simpa [C4] using e
  unfold C4 at eg
  split at eg
  ·cases eg
  ·rename_i h1 e1
   obtain ⟨t, ht⟩ := Lr e1
   have : h1 = g := by simpa [C4] using eg
   rw [← this, ht, ← e', List.length_append]; omega
 | k + 1, had, f => by
  cases hn : Fv ops losses had (had.drop f) with
  | none =>
   have e1 : ∀ j, C4 ops losses (j + 1) had f = none := fun j => by unfold C4; rw [hn]
   exact ⟨fun _ => e1 _, fun h e => by rw [e1 k] at e; cases e⟩
  | some h1 =>
   have e1 : ∀ j, C4 ops losses (j + 1) had f = C4 ops losses j h1 had.length := fun j => by
    show (match Fv ops losses had (had.drop f) with | none => none | some h => C4 ops losses j h had.length) = _
    rw [hn]
   rw [e1 k, e1 (k + 1)]
   exact Pm k h1 had.length
structure Had (n nl : Nat) (l : List Chip) : Prop where
 inv : ∀ x ∈ l, ∃ M, Inv n nl x M
 len : l.length ≤ 120
section
variable {n nl : Nat} {ops : List Op} {losses : Bool}
theorem Had.try {had h : List Chip} (H : Had n nl had) {x : Chip} (hx : ∃ M, Inv n nl x M) {s : Step} (e : Ib had x s = some h) : Had n nl h := by
 unfold Ib at e
 split at e
 ·injection e with e; rw [← e]; exact H
 ·rename_i hc
  split at e
  ·cases e
  ·rename_i hl
   injection e with e
   rw [← e]
   obtain ⟨M, hI⟩ := hx
   have hok : (Am x s).2.2 = 0 := Classical.byContradiction fun h => hc (.inl h)
   obtain ⟨M', hI', _⟩ := Tm hI hok
   refine ⟨fun y hy => ?_, by have := H.len; rw [List.length_append, List.length_singleton]; omega⟩
   rcases List.mem_append.1 hy with hy | hy
   ·exact H.inv y hy
   ·rw [List.mem_singleton.1 hy]; exact ⟨M', hI'⟩
theorem Had.steps {x : Chip} (hx : ∃ M, Inv n nl x M) : ∀ {l : List Step} {had h : List Chip}, Had n nl had → Dz had x l = some h → Had n nl h
 | [], had, h, H, e => by unfold Dz at e; injection e with e; rw [← e]; exact H
 | s :: r, had, h, H, e => by
  unfold Dz at e
  split at e
  ·cases e
  ·rename_i h1 e1
   exact Had.steps hx (H.try hx e1) e
theorem Had.now : ∀ {l : List Chip} {had h : List Chip}, (∀ x ∈ l, ∃ M, Inv n nl x M) → Had n nl had → Fv ops losses had l = some h → Had n nl h
 | [], had, h, _, H, e => by unfold Fv at e; injection e with e; rw [← e]; exact H
 | x :: r, had, h, hx, H, e => by
  unfold Fv at e
  split at e
  ·cases e
  ·rename_i h1 e1
   exact Had.now (fun y hy => hx y (List.mem_cons_of_mem _ hy)) (H.steps (hx x (List.mem_cons_self ..)) e1) e
theorem Had.run : ∀ {k : Nat} {had h : List Chip} {f : Nat}, Had n nl had → C4 ops losses k had f = some h → Had n nl h
 | 0, had, h, f, H, e => by unfold C4 at e; injection e with e; rw [← e]; exact H
 | k + 1, had, h, f, H, e => by
  unfold C4 at e
  split at e
  ·cases e
  ·rename_i h1 e1
   exact Had.run (H.now (fun x hx => H.inv x (List.mem_of_mem_drop hx)) e1) e
theorem X7 : ∀ {k : Nat} {had h : List Chip} {f : Nat}, C4 ops losses k had f = some h → had.length ≤ h.length
 | 0, had, h, f, e => by unfold C4 at e; injection e with e; rw [← e]; exact Nat.le_refl _
 | k + 1, had, h, f, e => by
  unfold C4 at e
  split at e
  ·cases e
  ·rename_i h1 e1
   obtain ⟨t, ht⟩ := Lr e1
   have := X7 e
   rw [ht, List.length_append] at this; omega
theorem Had.one (hn : 1 ≤ n ∧ n ≤ 4) (hl : 1 ≤ nl ∧ nl ≤ 4) : Had n nl [Eb n nl] :=
 ⟨fun x hx => by rw [List.mem_singleton.1 hx]; exact ⟨_, Oq hn hl⟩, by simp⟩
end
theorem Abe {c : Config} {ops : List Op} {losses : Bool} {most : Int} (h : (Ct c ops losses most).2 = 0) : (Ct c ops losses most).1.bad = 0 ∧ 1 ≤ (Ct c ops losses most).1.states ∧ (Ct c ops losses most).1.states ≤ 120 ∧ (most = 0 → (Ct c ops losses most).1.states = 1) ∧
  (most ≠ 0 → (Ct c ops losses (most - 1)).2 = 0 ∧ (Ct c ops losses (most - 1)).1.states ≤ (Ct c ops losses most).1.states ∧ ((Ct c ops losses (most - 1)).1.full = true → (Ct c ops losses most).1.full = true)) := by
 unfold Ct at h
 split at h
 ·rename_i h1; exact absurd h h1
 rename_i h1
 split at h
 ·exact absurd h (by decide)
 rename_i h2
 split at h
 ·exact absurd h (by decide)
 rename_i h3
 obtain ⟨n, nl, a1, a2, a3, a4⟩ := Lg (Decidable.not_not.1 h1)
 have hH := Had.one a1 a2
 have e : ∀ m : Int, ¬ (m < 0 ∨ 300 < m) → Ct c ops losses m = match C4 ops losses m.toNat [Eb n nl] 0 with | none => (⟨120, 0, true⟩, 0) | some h => (⟨(h.length : Int), 0, false⟩, 0) := fun m hm => by
  unfold Ct; rw [if_neg h1, if_neg hm, if_neg h3, a4]
 rw [e most h2]
 have big : ∀ (k : Nat) (h : List Chip), C4 ops losses k [Eb n nl] 0 = some h → 1 ≤ (h.length : Int) ∧ (h.length : Int) ≤ 120 := fun k h hr => by
  have h1 := X7 hr; have h2 := (hH.run hr).len
  simp only [List.length_singleton] at h1; omega
 refine ⟨?_, ?_, ?_, fun h0 => ?_, fun h0 => ?_⟩
 ·split <;> rfl
 ·split
  ·decide
  ·rename_i h hr; exact (big _ h hr).1
 ·split
  ·decide
  ·rename_i h hr; exact (big _ h hr).2
 ·rw [h0]; rfl
 ·rw [e (most - 1) (by omega)]
  obtain ⟨k, hk⟩ : ∃ k : Nat, most = (k : Int) + 1 := ⟨most.toNat - 1, by omega⟩
  have e1 : most.toNat = k + 1 := by omega
  have e2 : (most - 1).toNat = k := by omega
  rw [e1, e2]
  obtain ⟨m1, m2⟩ := Pm (ops := ops) (losses := losses) k [Eb n nl] 0
  cases hb : C4 ops losses k [Eb n nl] 0 with
  | none => rw [m1 hb]; exact ⟨rfl, Int.le_refl _, fun h => h⟩
  | some h =>
   cases hc : C4 ops losses (k + 1) [Eb n nl] 0 with
   | none => exact ⟨rfl, (big _ h hb).2, fun h => rfl⟩
   | some g => exact ⟨rfl, by have := m2 h hb g hc; show (h.length : Int) ≤ g.length; omega, fun h => h⟩
set_option maxHeartbeats 1000000
set_option maxRecDepth 8000
variable {L : List Chunk} {R : List Fact} {w : World}
theorem Ld {v0 : Value} {xs : List UInt8} (hs : St (L) R w) (h0 : sl v0 xs ∈ R) : Calls Try.prog 51 [v0].toArray w (Bl (fun v : Value => v) (fun v => row 5 v xs :: L) (fun v => R)) := by
 refine Ah Try.func51 rfl Try.ntmps51 rfl hs ?_
 clear hs
 refine ZH ?_
 refine rn1 ?_
 refine ob (Y5 Try.underlying60 (Et h0)) ?_
 refine Gl ?_
 refine Bg (b := ?b1) ?e1 ?_ ?_; case e1 => exact rfl
 ·intro ht4
  refine JC.nilOf ht4 h0 (fun hx => ?_)
  refine ZA ?_
  exact Be (.slice none 0 0) (hs := fun w hs => by rw [hx]; exact Af (hs.rowNil 5 UInt8))
 ·intro ht4
  refine Gm ?_
  refine liO ([] : List UInt8) Kn rfl (fun j h => Sz) ?_; intro v5
  refine rn1 ?_
  refine ap Kn (hb := fun w hs => by have := Bv h0 hs; have : maxN = 16777216 := rfl; simp; omega) (k := ?_); intro v7
  refine Ga1 ?_
  exact Be v7
theorem Pr {v0 : Value} {l : Frames} (hs : St (L) R w) (h0 : sl v0 l ∈ R) : Calls Try.prog 32 [v0].toArray w (Bl (fun v : Value => v) (fun v => row 60 v l :: L) (fun v => R)) := by
 have hlen := Bv h0 hs
 refine Ah Try.func32 rfl Try.ntmps32 rfl hs ?_
 clear hs
 refine ZH ?_
 refine Gb1 ?_
 refine Ga3 ?_
 refine JC.rowNil 60 (List UInt8) ?_
 refine Bf (γ := Nat × Value) (fun g => g.1 ≤ l.length) (fun g => row 60 g.2 (l.take g.1) :: L) (fun _ => R) (fun g => [(0, v0), (3, g.2), (6, v0), (7, vi (l.length : Int)), (8, vi (g.1 : Int))]) (fun g => l.length - g.1) (0, .slice none 0 0) (Nat.zero_le _) alT (fun w hs => hs) ?_
 rintro ⟨k, vs⟩ hk
 try simp only at hk ⊢
 refine ZA ?_
 refine cdy ?_ ?_
 ·intro ht9
  refine Gl ?_
  refine JC.open1 (xs := l) k mm (by omega) (fun _ u => ?_)
  refine Aa ?_
  refine Gb3 ?_
  refine rn2 ?_
  refine Ak Try.call51 rfl (fun w hs => Ld hs mm) ?_; intro v14
  refine J.shut .hd ?_
  refine li [_] Rm rfl rd_sl ?_; intro v15
  refine ap Rm (hb := fun w hs => by have : maxN = 16777216 := rfl; have := hlen; simp only [List.length_cons, List.length_nil, List.length_take, List.length_append]; omega) (k := ?_); intro v16
  refine ZL ?_
  refine A3 (k + 1, v16) (by show k + 1 ≤ l.length; omega) (by show l.length - (k + 1) < l.length - k; omega) alT (fun w hs => ?_)
  try simp only
  rw [Kx [] (by omega)]; exact Af hs
 ·intro ht9
  refine ZD ?_
  have hkl : k = l.length := by omega
  subst hkl
  exact Be vs (hs := fun w hs => by rw [List.take_length] at hs; exact Af hs)
theorem Pq {v0 v1 : Value} {l : Frames} {b : List UInt8} (hs : St (L) R w) (h0 : sl v0 l ∈ R) (h1 : sl v1 b ∈ R) : Calls Try.prog 36 [v0, v1].toArray w (Bl (fun v : Value => v) (fun v => row 60 v (Dx l b) :: L) (fun v => R)) := by
 have hlen := Bv h0 hs
 refine Ah Try.func36 rfl Try.ntmps36 rfl hs ?_
 clear hs
 refine ZH ?_
 refine rn1 ?_
 refine Ak Try.call32 rfl (fun w hs => Pr hs mm) ?_; intro v7
 refine Gb1 ?_
 refine Ga3 ?_
 refine cdy ?_ ?_
 ·intro ht10
  refine ZB ?_
  refine Ak Try.call51 rfl (fun w hs => Ld hs mm) ?_; intro v13
  refine J.shut .hd ?_
  refine li [_] Rm rfl rd_sl ?_; intro v14
  refine ap Rm (hb := fun w hs => by have : maxN = 16777216 := rfl; have := hlen; simp only [List.length_cons, List.length_nil, List.length_take, List.length_append]; omega) (k := ?_); intro v15
  refine ZL ?_
  have e : Dx l b = l ++ [b] := by unfold Dx; rw [if_pos (by omega)]
  rw [e]
  exact Be v15
 ·intro ht10
  refine ZD ?_
  have e : Dx l b = l := by unfold Dx; rw [if_neg (by omega)]
  rw [e]
  exact Be v7
theorem H0 {α : Type} {l : List α} {i : Nat} {d : α} : l.set i (l.getD i d) = l := by
 by_cases h : i < l.length
 ·rw [List.getD_eq_getElem?_getD, List.getElem?_eq_getElem h]; exact List.set_getElem_self h
 ·exact List.set_eq_of_length_le (by omega)
theorem q_mx {P : Program} {n : Nat} {L : List Chunk} {R : List Fact} {al : List (Nat × Value)} {d : Nat} {x : Operand} {T ty : TypeId} {pos : String} {aft : Array Edge} {a : Int} (hx : ev n al x = some (vi a)) (h0 : 0 ≤ a) : As P n al L R ⟨some d, .call { callee := .builtin .max, args := #[x, .const (.int .i64 0)], argTypes := #[T, T] }, ty, pos, aft, none⟩ (vi a) :=
 ⟨rfl, fun ρ w h _ => by
  have hx' := h x (by simp [Op.operands, Call.operands]) _ hx
  have hc' := h (.const (.int .i64 0)) (by simp [Op.operands, Call.operands]) _ rfl
  simp [execOp, resolve, invoke, builtin, hx', hc', Builtin.max_, Builtin.max2, show ¬ (a < 0) from by omega]⟩
theorem Aba {a : Int} (hs : St (L) R w) (h0 : 0 ≤ a) (h1 : a ≤ 16777216) : Calls Try.prog 54 [vi a].toArray w (Bl (fun v : Value => v) (fun v => row 3 v (List.replicate a.toNat (0 : Int)) :: L) (fun v => R)) := by
 refine Ah Try.func54 rfl Try.ntmps54 rfl hs ?_
 clear hs
 refine ZH ?_
 refine rn1 ?_
 refine ob (q_mx (a := a) rfl h0) ?_
 refine S2 (α := Int) (x0 := 0) (zc := [vi 0]) Ko rfl (by decide) rfl rfl rfl (fun j => ⟨rfl, by unfold Ao; omega⟩) h0 h1 ?_; intro v5
 refine Ga1 ?_
 exact Be v5
theorem Abb {v0 : Value} {m : List Int} {o : Op} (hs : St (L) R w) (h0 : sl v0 m ∈ R) : Calls Try.prog 55 [v0, .agg o.cells.toArray].toArray w (Bl (fun v : Value => .tuple #[v, vi (Dh m o).2.1, vi (Dh m o).2.2]) (fun v => L) (fun v => sl v (Dh m o).1 :: R)) := by
 have hlen := Bv h0 hs
 refine Ah Try.func55 rfl Try.ntmps55 rfl hs ?_
 clear hs
 refine Gm ?_
 refine bx ?_; intro b3
 refine Ga3 ?_
 rcases (show (o.kind < 1) ∨ (¬ o.kind < 1 ∧ 4 < o.kind) ∨ (1 ≤ o.kind ∧ o.kind ≤ 4) from by omega) with hc | hc | hc
 ·refine Zat ?_
  refine Gd6 ?_
  exact Zdz
 ·refine ZaV ?_
  refine Gd2 ?_
  exact Zdz
 ·refine Zar ?_
  refine Gc2 ?_
  rcases (show (o.line < 0) ∨ (0 ≤ o.line ∧ (m.length : Int) ≤ o.line) ∨ (0 ≤ o.line ∧ o.line < (m.length : Int) ∧ o.value < 0) ∨ (0 ≤ o.line ∧ o.line < (m.length : Int) ∧ 255 < o.value) ∨ (0 ≤ o.line ∧ o.line < (m.length : Int) ∧ 0 ≤ o.value ∧ o.value ≤ 255) from by omega) with hc | hc | hc | hc | hc
  ·refine Zat ?_
   refine Gc18 ?_
   exact Zdv
  ·refine ZB ?_
   refine Bb ?_
   refine Zab ?_
   refine Jk ?_
   refine Gc12 ?_
   exact Zdv
  ·refine ZB ?_
   refine Bb ?_
   refine Zab ?_
   refine Ea ?_
   refine ZE ?_
   refine E4 ?_
   refine Gc7 ?_
   exact Zdv
  ·refine ZB ?_
   refine Bb ?_
   refine Zab ?_
   refine Ea ?_
   refine Za0 ?_
   refine Ha ?_
   refine Gc2 ?_
   exact Zdv
  ·refine ZB ?_
   refine Bb ?_
   refine Zab ?_
   refine Ea ?_
   refine Zas ?_
   refine Gc2 ?_
   refine JC.rowNil 3 Int ?_
   refine kp [0, 3, 4, 5, 6, 7, 39, 40] ?_
   refine ZC ?_
   refine ap Ko (hb := fun w hs => by have := Bv h0 hs; have : maxN = 16777216 := rfl; simp; omega) (k := ?_); intro v40
   refine Ga1 ?_
   refine JC.open0 (xs := m) (v := v0) o.line.toNat mm (by omega) (fun hw => ?_)
   have hw9 : Ao (m.getD o.line.toNat 0) := hw
   refine Aa ?_
   refine Gb6 ?_
   refine Ga2 ?_
   rcases (show (o.kind = 1) ∨ (o.kind = 2) ∨ (o.kind = 3) ∨ (o.kind = 4) from by omega) with hc | hc | hc | hc
   ·refine Aa ?_
    refine C3 ?_
    refine Gd1 ?_
    refine Ga5 ?_
    have er : Dh m o = (m, m.getD o.line.toNat 0, 0) := by unfold Dh; rw [if_neg (by omega), if_neg (by omega), opv1 hc]; exact congrArg (·, _) H0
    exact ZcV
   ·refine Aa ?_
    refine ZF ?_
    refine C3 ?_
    refine Gd1 ?_
    refine rn6 ?_
    refine Fp (xs := m) Try.sizeOf3 rfl rfl pkk (getD_some 0 (by omega)) (by unfold Ao at hw9 ⊢; omega) ?_
    refine Zag ?_
    have er : Dh m o = ((m.set o.line.toNat o.value), 0, 0) := by unfold Dh; rw [if_neg (by omega), if_neg (by omega), opv2 hc]
    exact ZcV
   ·refine Aa ?_
    refine ZaF ?_
    refine Gd1 ?_
    refine rn6 ?_
    refine ob (Ei (a := m.getD o.line.toNat 0) (b := o.value) b_addw) ?_
    refine ob (Ei (b := 255) Xz) ?_
    rw [Qd]
    refine rn1 ?_
    refine Fp (xs := m) Try.sizeOf3 rfl rfl pkk (getD_some 0 (by omega)) (by unfold Ao at hw9 ⊢; omega) ?_
    refine Gm ?_
    refine Ga5 ?_
    have er : Dh m o = ((m.set o.line.toNat ((m.getD o.line.toNat 0 + o.value) % 256)), m.getD o.line.toNat 0, 0) := by unfold Dh; rw [if_neg (by omega), if_neg (by omega), opv3 hc]
    exact ZcV
   ·refine Aa ?_
    refine ZF ?_
    refine ZF ?_
    refine ZF ?_
    refine Ga4 ?_
    have er : Dh m o = (m, 0, 0) := by unfold Dh; rw [if_neg (by omega), if_neg (by omega), opv4 hc]; exact congrArg (·, _) H0
    exact ZcV
theorem Rz {v0 : Value} {xs : List Line} (hs : St (L) R w) (h0 : sl v0 xs ∈ R) : Calls Try.prog 52 [v0].toArray w (Bl (fun v : Value => v) (fun v => row 67 v xs :: L) (fun v => R)) := by
 refine Ah Try.func52 rfl Try.ntmps52 rfl hs ?_
 clear hs
 refine ZH ?_
 refine rn1 ?_
 refine ob (Y5 Try.underlying55 (Et h0)) ?_
 refine Gl ?_
 refine Bg (b := ?b1) ?e1 ?_ ?_; case e1 => exact rfl
 ·intro ht4
  refine JC.nilOf ht4 h0 (fun hx => ?_)
  refine ZA ?_
  exact Be (.slice none 0 0) (hs := fun w hs => by rw [hx]; exact Af (hs.rowNil 67 Line))
 ·intro ht4
  refine Gm ?_
  refine liO ([] : List Line) W6 rfl (fun j h => Sz) ?_; intro v5
  refine rn1 ?_
  refine ap W6 (hb := fun w hs => by have := Bv h0 hs; have : maxN = 16777216 := rfl; simp; omega) (k := ?_); intro v7
  refine Ga1 ?_
  exact Be v7
theorem Um {v0 : Value} {xs : List Int} (hs : St (L) R w) (h0 : sl v0 xs ∈ R) : Calls Try.prog 50 [v0].toArray w (Bl (fun v : Value => v) (fun v => row 3 v xs :: L) (fun v => R)) := by
 refine Ah Try.func50 rfl Try.ntmps50 rfl hs ?_
 clear hs
 refine ZH ?_
 refine rn1 ?_
 refine ob (Y5 Try.underlying52 (Et h0)) ?_
 refine Gl ?_
 refine Bg (b := ?b1) ?e1 ?_ ?_; case e1 => exact rfl
 ·intro ht4
  refine JC.nilOf ht4 h0 (fun hx => ?_)
  refine ZA ?_
  exact Be (.slice none 0 0) (hs := fun w hs => by rw [hx]; exact Af (hs.rowNil 3 Int))
 ·intro ht4
  refine Gm ?_
  refine liO ([] : List Int) Ko rfl (fun j h => Sz) ?_; intro v5
  refine rn1 ?_
  refine ap Ko (hb := fun w hs => by have := Bv h0 hs; have : maxN = 16777216 := rfl; simp; omega) (k := ?_); intro v7
  refine Ga1 ?_
  exact Be v7
def pr (p : Prop) : Fact := ⟨fun _ => p, fun _ _ _ h => h⟩
theorem St.pr {p : Prop} (h : p) (hs : St L R w) : St L (pr p :: R) w := by
 obtain ⟨m, j, hd, hm, hj, hst, hr⟩ := hs
 exact ⟨m, j, hd, hm, hj, hst, fun q hq => by
  rcases List.mem_cons.1 hq with e | e
  ·rw [e]; exact h
  ·exact hr q e⟩
theorem Fq {p : Prop} (hm : pr p ∈ R) (hs : St L R w) : p := hs.fact hm
theorem G6 {P : Program} {γ δ : Type} {f : FuncId} {args : Array Value} {w : World} {val : γ → Value} {val2 : δ → Value} {L : γ → List Chunk} {R : γ → List Fact} {L2 : δ → List Chunk} {R2 : δ → List Fact} (h : Calls P f args w (Bl val L R)) (hk : ∀ g w', St (L g) (R g) w' → ∃ d, val g = val2 d ∧ St (L2 d) (R2 d) w') : Calls P f args w (Bl val2 L2 R2) := by
 refine h.mono ?_
 rintro e w' ⟨g, rfl, hs'⟩
 obtain ⟨d, h1, h2⟩ := hk g w' hs'
 exact ⟨d, by rw [h1], h2⟩
structure EV where
 e : Entry
 u : Value
instance instEncEV : Enc EV where
 sz := 10
 rd x cs _ := cs = x.e.cells x.u ∧ x.e.wf ∧ x.u.oneCell' = true
 mono _ _ _ _ _ h := h
 len x cs _ h := by rw [h.1]; rfl
 one x cs _ h := by have := h.2.2; rw [h.1]; simp [Entry.cells, Value.oneCell'] at this ⊢; exact this
def Hc (x : EV) : Chunk := row 3 x.u x.e.last
def Wc (x : EV) : Fact := sl x.u x.e.last
theorem Ix {L : List Chunk} {w : World} : ∀ (l : List EV) {R : List Fact}, St (l.map Hc ++ L) R w → St L (l.map Wc ++ R) w
 | [], _, hs => hs
 | x :: l, R, hs => by
  have h1 : St (row 3 x.u x.e.last :: (l.map Hc ++ L)) R w := hs
  have h2 := Ix l h1.shut
  exact h2.sub .refl (fun f hf => by
   simp only [List.map_cons, List.cons_append, List.mem_append, List.mem_cons] at hf ⊢
   rcases hf with e | e | e
   ·exact .inr (.inl e)
   ·exact .inl e
   ·exact .inr (.inr e))
theorem S3 {α : Type} : ∀ (l : List α) (i : Nat) (hi : i < l.length), l.Perm (l[i] :: l.eraseIdx i)
 | x :: l, 0, _ => .refl _
 | x :: l, i + 1, hi => ((S3 l i (by simpa using hi)).cons x).trans (.swap ..)
theorem Wb {l : List EV} {i : Nat} (hi : i < l.length) (hs : St (l.map Hc ++ L) R w) : St (Hc l[i] :: ((l.eraseIdx i).map Hc ++ L)) R w := by
 refine hs.perm ?_
 have h := (S3 l i hi).map Hc
 exact h.append_right L
theorem Qr {T : TypeId} {v : Value} {l : List EV} {i : Nat} (hi : i < l.length) (hf : ∀ (k : Nat) x, k ≠ i → l[k]? = some x → Wc x ∈ R) (hs : St (row T v l :: L) R w) : St (foc T v (l.map EV.e) i (Entry.cells l[i].u l[i].e) :: L) R w := by
 obtain ⟨m, j, hd, hm, hj, ⟨m1, m2, hd', h1, h2, hc, hst⟩, hr⟩ := hs
 obtain ⟨rs, r1, r2, r3⟩ := Ip hc
 have hir : i < rs.length := by rw [r2]; exact hi
 refine ⟨m, j, hd, hm, hj, ⟨m1, m2, hd', h1, h2, ⟨rs, r1, by rw [r2]; simp, ⟨rs[i], List.getElem?_eq_getElem hir, ?_⟩, fun k e r hk he hkr => ?_⟩, hst⟩, hr⟩
 ·exact (r3 i l[i] rs[i] (List.getElem?_eq_getElem hi) (List.getElem?_eq_getElem hir)).1
 ·rw [List.getElem?_map] at he
  obtain ⟨x, hx, hxe⟩ := Option.map_eq_some_iff.1 he
  have h3 := r3 k x r hx hkr
  refine ⟨x.u, ?_, ?_, ?_⟩
  ·rw [← hxe]; exact h3.1
  ·rw [← hxe]; exact hr _ (hf k x hk hx)
  ·rw [← hxe]; exact h3.2.1
theorem Qs {T : TypeId} {v : Value} {l : List EV} (hf : ∀ x ∈ l, Wc x ∈ R) (hs : St (row T v l :: L) R w) : St (row T v (l.map EV.e) :: L) R w := by
 obtain ⟨m, j, hd, hm, hj, ⟨m1, m2, hd', h1, h2, hc, hst⟩, hr⟩ := hs
 obtain ⟨rs, r1, r2, r3⟩ := Ip hc
 refine ⟨m, j, hd, hm, hj, ⟨m1, m2, hd', h1, h2, Oc (xs := l.map EV.e) (rs := rs) r1 (by rw [r2]; simp) (fun k e r he hkr => ?_), hst⟩, hr⟩
 exact ZcM
theorem Kl {v : Value} {l : List EV} (hs : St (row 54 v l :: (l.map Hc ++ L)) R w) : St L (sl v (l.map EV.e) :: R) w := by
 have h1 : St (l.map Hc ++ (row 54 v l :: L)) R w := hs.perm List.perm_middle.symm
 have h2 := Qs (fun x hx => List.mem_append.2 (.inl (List.mem_map.2 ⟨x, hx, rfl⟩))) (Ix l h1)
 exact h2.shut.sub .refl (fun f hf => by
  rcases List.mem_cons.1 hf with e | e
  ·exact List.mem_cons.2 (.inl e)
  ·exact List.mem_cons.2 (.inr (List.mem_append.2 (.inr e))))
theorem Hp {v : Value} {l : List EV} {es : List Entry} (i : Nat) (he : l.map EV.e = es) (hi : i < es.length) (hs : St (row 54 v l :: (l.map Hc ++ L)) R w) : ∃ u, (es.getD i Ay).wf ∧ u.oneCell' = true ∧ St (foc 54 v es i (Entry.cells u (es.getD i Ay)) :: row 3 u (es.getD i Ay).last :: L) R w := by
 subst he
 have hil : i < l.length := by simpa using hi
 have e1 : (l.map EV.e).getD i Ay = l[i].e := by rw [List.getD_eq_getElem?_getD, List.getElem?_map, List.getElem?_eq_getElem hil]; rfl
 refine ⟨l[i].u, ?_⟩
 rw [e1]
 have hw : l[i].e.wf ∧ l[i].u.oneCell' = true := by
  obtain ⟨m, j, hd, hm, hj, ⟨m1, m2, hd', h1, h2, hc, hst⟩, hr⟩ := hs
  obtain ⟨rs, r1, r2, r3⟩ := Ip hc
  exact (r3 i l[i] rs[i] (List.getElem?_eq_getElem hil) (List.getElem?_eq_getElem (by rw [r2]; exact hil))).2
 refine ⟨hw.1, hw.2, ?_⟩
 have h1 : St (l.map Hc ++ (row 54 v l :: L)) R w := hs.perm List.perm_middle.symm
 have h2 := Wb hil h1
 have h3 : St ((l.eraseIdx i).map Hc ++ (Hc l[i] :: row 54 v l :: L)) R w := h2.perm List.perm_middle.symm
 have h4 := Ix _ h3
 have h5 : St (row 54 v l :: Hc l[i] :: L) ((l.eraseIdx i).map Wc ++ R) w := h4.perm (.swap ..)
 have h6 := Qr hil (fun k x hk hx => List.mem_append.2 (.inl (List.mem_map.2 ⟨x, ?_, rfl⟩))) h5
 ·exact h6.sub .refl (fun f hf => List.mem_append.2 (.inr hf))
 ·obtain ⟨hkl, hkx⟩ := List.getElem?_eq_some_iff.1 hx
  rw [← hkx]
  exact List.mem_eraseIdx_iff_getElem.2 ⟨k, hkl, hk, rfl⟩
theorem F2 {v0 : Value} {l : List Entry} (hs : St (L) R w) (h0 : sl v0 l ∈ R) : Calls Try.prog 31 [v0].toArray w (Bl (fun g : Value × List EV => g.1) (fun g => row 54 g.1 g.2 :: (g.2.map Hc ++ L)) (fun g => pr (g.2.map EV.e = l) :: R)) := by
 have hlen := Bv h0 hs
 refine Ah Try.func31 rfl Try.ntmps31 rfl hs ?_
 clear hs
 refine ZH ?_
 refine Gb1 ?_
 refine Ga3 ?_
 refine JC.rowNil 54 EV ?_
 refine Bf (γ := Nat × Value × List EV) (fun g => g.1 ≤ l.length ∧ g.2.2.map EV.e = l.take g.1) (fun g => row 54 g.2.1 g.2.2 :: (g.2.2.map Hc ++ L)) (fun _ => R) (fun g => [(3, g.2.1), (6, v0), (7, vi (l.length : Int)), (8, vi (g.1 : Int))]) (fun g => l.length - g.1) (0, .slice none 0 0, []) ⟨Nat.zero_le _, by simp⟩ alT (fun w hs => hs) ?_
 rintro ⟨k, vs, xs⟩ ⟨hk, hx⟩
 try simp only at hk hx ⊢
 have hxl : xs.length = k := by
  have := congrArg List.length hx
  simp at this; omega
 refine ZA ?_
 refine cdy ?_ ?_
 ·intro ht9
  refine Gl ?_
  refine JC.open1 (xs := l) (v := v0) k mm (by omega) (fun hwE u => ?_)
  refine JC.know (p := u.oneCell' = true) (fun w hs => isSlice.one (hs.fact (.tail _ (.head _)))) (fun honeu => ?_)
  refine ZB ?_
  refine al_ (cs := zEC) Try.zeroValue54 ?_; intro b5
  refine s_B (cs := Entry.cells u (l.getD k Ay)) Try.sizeOf54 ?_
  refine Zaf ?_
  refine Ak Try.call50 rfl (fun w hs => Um (xs := (l.getD k Ay).last) hs mm) ?_; intro v14
  refine J.know (p := v14.oneCell' = true) (fun w hs => A6 .hd hs) (fun honev => ?_)
  refine rn1 ?_
  refine Za3 ?_
  refine li (α := EV) [⟨(l.getD k Ay), v14⟩] Rn rfl (fun j hj => ⟨⟨_, rfl, rfl, hwE, honev⟩, trivial⟩) ?_; intro v18
  refine ap Rn (hb := fun w hs => by have : maxN = 16777216 := rfl; simp only [List.length_cons, List.length_nil]; omega) (k := ?_); intro v19
  refine ZL ?_
  refine A3 (k + 1, v19, xs ++ [⟨(l.getD k Ay), v14⟩]) ⟨by show k + 1 ≤ l.length; omega, by rw [List.map_append, hx, Kx Ay (by omega)]; rfl⟩ (by show l.length - (k + 1) < l.length - k; omega) alT (fun w hs => ?_)
  try simp only
  have h9 : St (row 54 v19 (xs ++ [⟨(l.getD k Ay), v14⟩]) :: row 3 v14 (l.getD k Ay).last :: (xs.map Hc ++ L)) R w := Af hs
  refine h9.perm (.cons _ ?_)
  rw [List.map_append, List.append_assoc]
  exact List.perm_middle.symm
 ·intro ht9
  refine ZD ?_
  have hkl : k = l.length := by omega
  rw [hkl, List.take_length] at hx
  exact Be (vs, xs) (hs := fun w hs => St.pr hx (Af hs))
theorem Py {v0 : Value} {l : List Entry} (hs : St (L) R w) (h0 : sl v0 l ∈ R) : Calls Try.prog 31 [v0].toArray w (Bl (fun v : Value => v) (fun _ => L) (fun v => sl v l :: R)) :=
 G6 (F2 hs h0) (fun g w' hs' => ⟨g.1, rfl, by
  have h1 : g.2.map EV.e = l := Fq (.head _) hs'
  have h2 := Kl hs'
  rw [h1] at h2
  exact h2.sub .refl (fun f hf => by
   rcases List.mem_cons.1 hf with e | e
   ·exact List.mem_cons.2 (.inl e)
   ·exact List.mem_cons.2 (.inr (.tail _ e)))⟩)
def Hu (s : Int) : Int := if s = 0 then 0 else if s < 2 then 1 else if s < 4 then 2 else if s < 8 then 3 else 4
theorem q_ixS {P : Program} {n : Nat} {L : List Chunk} {R : List Fact} {al : List (Nat × Value)} {d : Nat} {x y : Operand} {T ty : TypeId} {pos : String} {aft : Array Edge} {s : ByteArray} {k : IntKind} {i : Int} {b : UInt8} (ht : P.underlying T = some .string) (hx : ev n al x = some (.string s)) (hy : ev n al y = some (.int k i)) (h0 : 0 ≤ i) (hb : s[i.toNat]? = some b) : As P n al L R ⟨some d, .index T x y, ty, pos, aft, none⟩ (vb b) :=
 ⟨rfl, fun ρ w h _ => by
  show (Instr.index T (ρ x) (ρ y) >>= fun v => Pure.pure (Next.value v)).run P w = _
  rw [h x (by simp [Op.operands]) _ hx, h y (by simp [Op.operands]) _ hy]
  simp [Instr.index, asIntOf, Cb ht, h0, hb]⟩
theorem len64 {s : Int} (hs : St (L) R w) (h0 : 0 ≤ s) (h1 : s < 16) : Calls Try.prog 71 [.int .u64 s].toArray w (Bl (fun _ : Unit => vi (Hu s)) (fun _ => L) (fun _ => R)) := by
 refine Ah Try.func71 rfl Try.ntmps71 rfl hs ?_
 clear hs
 refine ZH ?_
 refine rn1 ?_
 refine Ea ?_
 refine Gmc ?_
 refine rn1 ?_
 refine Ea ?_
 refine Gmc ?_
 refine rn1 ?_
 refine Ea ?_
 refine Gmc ?_
 refine rn2 ?_
 refine ob (Aq (v := .int .u8 s) Try.underlying148 Try.underlying5 rfl (by rcases (show s = 0 ∨ s = 1 ∨ s = 2 ∨ s = 3 ∨ s = 4 ∨ s = 5 ∨ s = 6 ∨ s = 7 ∨ s = 8 ∨ s = 9 ∨ s = 10 ∨ s = 11 ∨ s = 12 ∨ s = 13 ∨ s = 14 ∨ s = 15 by omega) with h | h | h | h | h | h | h | h | h | h | h | h | h | h | h | h <;> subst h <;> rfl)) ?_
 refine ob (q_ixS (b := u8 (Hu s)) Try.underlying9 rfl rfl h0 (by rcases (show s = 0 ∨ s = 1 ∨ s = 2 ∨ s = 3 ∨ s = 4 ∨ s = 5 ∨ s = 6 ∨ s = 7 ∨ s = 8 ∨ s = 9 ∨ s = 10 ∨ s = 11 ∨ s = 12 ∨ s = 13 ∨ s = 14 ∨ s = 15 by omega) with h | h | h | h | h | h | h | h | h | h | h | h | h | h | h | h <;> subst h <;> kernel_rfl)) ?_
 refine ob (Aq (v := vi (Hu s)) Try.underlying5 Try.underlying3 rfl (by rcases (show s = 0 ∨ s = 1 ∨ s = 2 ∨ s = 3 ∨ s = 4 ∨ s = 5 ∨ s = 6 ∨ s = 7 ∨ s = 8 ∨ s = 9 ∨ s = 10 ∨ s = 11 ∨ s = 12 ∨ s = 13 ∨ s = 14 ∨ s = 15 by omega) with h | h | h | h | h | h | h | h | h | h | h | h | h | h | h | h <;> subst h <;> rfl)) ?_
 refine ob (Qw (a := 0) (b := Hu s) (by exact rfl) (by exact rfl) (by unfold Hu; omega) (by unfold Hu; omega)) ?_
 rw [Int.zero_add]
 refine Ga1 ?_
 exact Be ()
theorem Acf {s : Int} (hs : St (L) R w) (h0 : 0 ≤ s) (h1 : s < 16) : Calls Try.prog 69 [.int .u64 s].toArray w (Bl (fun _ : Unit => vi (Hu s)) (fun _ => L) (fun _ => R)) := by
 refine Ah Try.func69 rfl Try.ntmps69 rfl hs ?_
 clear hs
 refine Gm ?_
 refine Gd1 ?_
 refine rn1 ?_
 refine Ak Try.call71 rfl (fun w hs => len64 hs h0 h1) ?_; intro _
 refine Ga1 ?_
 exact Be ()
section
variable {P : Program} {n : Nat} {Q : Exit → Act → World → Prop} {Sh : Rho → (Nat → Bool) → List Chunk} {R0 : List Fact} {al0 : List (Nat × Value)}
variable {ops : Array Oper} {i : Nat} {rest : List Oper} {its : List Item} {d : Nat} {x y : Operand} {T ty : TypeId} {pos : String} {aft : Array Edge}
theorem T1 {γ : Type} [Gh γ] {val : γ → Value} {F : γ → List Fact} {C : γ → List Chunk} {f : FuncId} {args : List Operand} {ts : Array TypeId} {vs : Rho → List Value} (hf : ∀ args w, (callFunc f args).run P w = .ok (.enter f args) w)
  (ha : ∀ ρ, evL n (Db its al0 ρ) args = some (vs ρ)) (hc : ∀ ρ L' R' w, Deps ops R0 its i ρ R' → St L' R' w → Calls P f (vs ρ).toArray w (Bl val (fun g => C g ++ L') (fun g => F g ++ R'))) (hSh : Ij ops Sh i)
  (k : DJ P n ops Q Sh R0 al0 (i + 1) rest (⟨i, some d, fun ρ => val (Gh.dec (ρ i)), fun ρ => F (Gh.dec (ρ i)), fun ρ => C (Gh.dec (ρ i))⟩ :: its)) :
  DJ P n ops Q Sh R0 al0 i (⟨some d, .call { callee := .value (.func f), args := args.toArray, argTypes := ts }, ty, pos, aft, none⟩ :: rest) its :=
 Abn (C := C) rfl rfl hSh (fun ρ S a L' R' w K h hK => by
  unfold Oper.wp
  rw [Ia hf rfl, Oper.upon_enter, List.map_toArray, Fz h.agree (fun x hx => by simp [Op.operands, Call.operands, hx]) (ha ρ)]
  refine (hc ρ _ _ w ⟨h.base, h.deps⟩ h.st).mono ?_
  rintro e w' ⟨g, rfl, hs'⟩
  exact hK g w' hs') k
end
theorem Fm {u : Value} {c : Core} (hs : St (L) R w) (hu : sl u c.lines ∈ R) : Calls Try.prog 33 [.agg (c.cells u).toArray].toArray w (Bl (fun v : Value => .agg (Core.cells v c).toArray) (fun v => row 67 v c.lines :: L) (fun v => R)) := by
 have hone0 : u.oneCell' = true := isSlice.one (hs.fact hu)
 refine Ah Try.func33 rfl Try.ntmps33 rfl hs ?_
 clear hs
 refine Gm ?_
 refine bx ?_; intro b1
 refine al_ (cs := [.slice none 0 0, vi 0, vi 0, vi 0]) Try.zeroValue57 ?_; intro b2
 refine Gl ?_
 refine cq_ (blk b2 57 [.slice none 0 0, vi 0, vi 0, vi 0] :: blk b1 57 (c.cells u) :: L) ?_
 refine jd_ (fun ρ S => blk b2 57 (bif S 6 then [(Gh.dec (γ := Value) (ρ 2)), vi c.wait.kind, vi c.wait.line, vi c.wait.value] else [.slice none 0 0, vi 0, vi 0, vi 0]) :: blk b1 57 (c.cells u) :: L) ?_
 refine dn2 ?_
 refine T1 (γ := Value) (val := fun v => v) (F := fun v => [pr (v.oneCell' = true)]) (C := fun v => [row 67 v c.lines]) Try.call52 (fun _ => rfl) (fun ρ L R w hd hs => G6 (Rz (xs := c.lines) hs (hd.base mm)) (fun v w hs => ⟨v, rfl, St.pr (A6 .hd hs) hs⟩)) (fun ρ g S hS hA => by have u6 : upS S 2 6 = S 6 := rfl; have h6 : S 6 = false := hA 6 ⟨0, rfl⟩; simp only [u6, h6, cond_false]) ?_
 refine dn2 ?_
 refine e_pd (v := fun ρ => .agg ([(Gh.dec (γ := Value) (ρ 2)), vi c.wait.kind, vi c.wait.line, vi c.wait.value]).toArray) (fun ρ S R' L' w hd hs => by have h1 : ((Gh.dec (γ := Value) (ρ 2))).oneCell' = true := hs.fact (hd.dep (it := ⟨2, _, _, _, _⟩) (by repeat (first | exact List.Mem.head _ | refine List.Mem.tail _ ?_)) ⟨9, rfl⟩ (List.Mem.head _)); exact Eh J0) (Ind.gh (h := fun g => Value.agg ([(Gh.dec (γ := Value) g), vi c.wait.kind, vi c.wait.line, vi c.wait.value]).toArray) 2 3 rfl) (fun _ _ _ _ _ => rfl) ?_
 refine es_ 57 0 [] [] (fun ρ => b2) (fun ρ => [.slice none 0 0, vi 0, vi 0, vi 0]) (fun ρ => [(Gh.dec (γ := Value) (ρ 2)), vi c.wait.kind, vi c.wait.line, vi c.wait.value]) Try.sizeOf57 (h1 := (fun ρ R w L' hd hs => Dt (hs.fact (hd.dep (it := ⟨2, _, _, _, _⟩) (by repeat (first | exact List.Mem.head _ | refine List.Mem.tail _ ?_)) ⟨9, rfl⟩ (List.Mem.head _)) : ((Gh.dec (γ := Value) (ρ 2))).oneCell' = true) (by repeat (first | exact Hn | refine Dt rfl ?_)))) ?_
 refine dnl ?_; intro ρ
 refine JX.conseq (L' := row 67 (Gh.dec (γ := Value) (ρ 2)) c.lines :: blk b2 57 [(Gh.dec (γ := Value) (ρ 2)), vi c.wait.kind, vi c.wait.line, vi c.wait.value] :: blk b1 57 (c.cells u) :: L) (fun w hs => Af hs) ?_
 generalize (Gh.dec (γ := Value) (ρ 2)) = v5
 refine Gl ?_
 exact Sy v5 Try.isAgg57 Try.sizeOf57
theorem Ed {LX : List Chunk} {R : List Fact} {w : World} {vL vo vd : Value} {bk : Nat} {q : Op} {id home : Int} {ms : List Msg} {kind line serial turn value : Int} (hs : St (blk bk 98 [vL, vi q.kind, vi q.line, vi q.value, vi id, vi home, vo, vd] :: row 105 vo ms :: LX) R w) (hn : ms.length ≤ 1000) (hwf : (⟨kind, id, home, line, serial, turn, value, false⟩ : Msg).wf) : Calls Try.prog 61 [bp bk 0, vi kind, vi line, vi serial, vi turn, vi value].toArray w (Bl (fun v : Value => .tuple #[]) (fun v => blk bk 98 [vL, vi q.kind, vi q.line, vi q.value, vi id, vi home, v, vd] :: row 105 v (ms ++ [(⟨kind, id, home, line, serial, turn, value, false⟩ : Msg)]) :: LX) (fun v => R)) := by
 refine Ah Try.func61 rfl Try.ntmps61 rfl hs ?_
 clear hs
 refine cq_ (blk bk 98 [vL, vi q.kind, vi q.line, vi q.value, vi id, vi home, vo, vd] :: row 105 vo ms :: LX) ?_
 refine jd_ (fun ρ S => blk bk 98 (bif S 23 then [vL, vi q.kind, vi q.line, vi q.value, vi id, vi home, (Gh.dec (γ := Value) (ρ 20)), vd] else [vL, vi q.kind, vi q.line, vi q.value, vi id, vi home, vo, vd]) :: (bif S 20 then row 105 (Gh.dec (γ := Value) (ρ 20)) (ms ++ [(⟨kind, id, home, line, serial, turn, value, false⟩ : Msg)]) else row 105 vo ms) :: (LX)) ?_
 refine dn4 ?_
 refine Hv (v := vo) (fun ρ S hS hB hA => by have h23 : S 23 = false := hA 23 ⟨0, rfl⟩; simp only [h23, cond_false]; exact Dm (hc := Bd pkk (by repeat (first | exact rfl | refine Cp rfl ?_))) Try.isAgg78) (fun _ _ _ _ _ => rfl) ?_
 refine dn4 ?_
 refine Hv (v := vi id) (fun ρ S hS hB hA => by have h23 : S 23 = false := hA 23 ⟨0, rfl⟩; simp only [h23, cond_false]; exact Dm (hc := Bd pkk (by repeat (first | exact rfl | refine Cp rfl ?_))) Try.isAgg3) (fun _ _ _ _ _ => rfl) ?_
 refine dn3 ?_
 refine Hv (v := vi home) (fun ρ S hS hB hA => by have h23 : S 23 = false := hA 23 ⟨0, rfl⟩; simp only [h23, cond_false]; exact Dm (hc := Bd pkk (by repeat (first | exact rfl | refine Cp rfl ?_))) Try.isAgg3) (fun _ _ _ _ _ => rfl) ?_
 refine dn4 ?_
 first | refine epc (fun _ _ => D5 Cg) ?_ | refine epc (fun _ _ => Eh Cg) ?_ | refine epp (fun _ _ => D5 Cg) ?_ | refine epp (fun _ _ => Eh Cg) ?_
 refine Ie ([(⟨kind, id, home, line, serial, turn, value, false⟩ : Msg)] : List Msg) Km rfl (fun _ => rfl) rfl (fun _ => rfl) rfl rfl (fun ρ R hd => S1 hwf) (fun _ _ _ _ _ => rfl) ?_
 refine Ec (e := 105) (xs := ms) (ys := [(⟨kind, id, home, line, serial, turn, value, false⟩ : Msg)]) (v := vo) Km (fun _ => rfl) (fun _ => rfl) rfl (by decide) (fun ρ R hd => (hd.dep (it := ⟨19, _, _, _, _⟩) (by repeat (first | exact List.Mem.head _ | refine List.Mem.tail _ ?_)) ⟨9, rfl⟩ (List.Mem.head _))) (by have : maxN = 16777216 := rfl; simp only [List.length_cons, List.length_nil]; omega) (fun ρ g S hS hB hA => ?_) ?_
 ·have ui : upS S 20 20 = true := rfl; have u23 : upS S 20 23 = S 23 := rfl; have h23 : S 23 = false := hA 23 ⟨0, rfl⟩; have rs : (Gh.dec (γ := Value) (Rho.set ρ 20 (Gh.enc g) 20)) = g := rfl
  simp only [ui, hS, u23, h23, rs, cond_true, cond_false]
  exact pex
 refine dn2 ?_
 refine Di (T0 := 98) (f := 6) (vs := fun ρ => [vL, vi q.kind, vi q.line, vi q.value, vi id, vi home, vo, vd]) (v := fun ρ => (Gh.dec (γ := Value) (ρ 20))) (fun ρ => bk) Try.sizeOf78 (fun _ => rfl) (fun _ => rfl) (fun ρ S R w L9 hB hd hs => by have h20 : S 20 = true := hB 20 ⟨9, rfl⟩; simp only [h20, cond_true] at hs; exact A6 pkk hs) (fun _ => rfl) (fun ρ g S hS hB hA => ?_) ?_
 ·have ui : upS S 23 23 = true := rfl; have u20 : upS S 23 20 = S 20 := rfl; have r20 : Rho.set ρ 23 g 20 = ρ 20 := rfl
  simp only [ui, hS, u20, r20, cond_true, cond_false]
  exact pex
 refine dnl ?_; intro ρ
 refine xq_ (blk bk 98 [vL, vi q.kind, vi q.line, vi q.value, vi id, vi home, (Gh.dec (γ := Value) (ρ 20)), vd] :: row 105 (Gh.dec (γ := Value) (ρ 20)) (ms ++ [(⟨kind, id, home, line, serial, turn, value, false⟩ : Msg)]) :: (LX)) ?_
 generalize (Gh.dec (γ := Value) (ρ 19)) = v31
 generalize (Gh.dec (γ := Value) (ρ 20)) = v32
 refine A0 (.inl rfl) (fun B w hs => Gb rfl _ w) (fun w hs => ⟨v32, rfl, Af hs⟩)
theorem Fd {P : Program} {n : Nat} {Q : Exit → Act → World → Prop} {L : List Chunk} {R : List Fact} {al : List (Nat × Value)} {cd : Code} {v : Value} {x : Chip} (p : Nat) (hm : sl v x.cores ∈ R) (hp : p < x.cores.length) (k : (cor x p).wait.wf → ∀ u, u.oneCell' = true → JC P n cd Q L (cF v 4 p (Core.cells u (cor x p)) :: sl u (cor x p).lines :: R) al) : JC P n cd Q L R al :=
 JC.open1 p hm hp fun hw u => JC.know (p := u.oneCell' = true) (fun w hs => isSlice.one (hs.fact (.tail _ (.head _)))) (k hw u)
theorem Lq {P : Program} {n : Nat} {Q : Exit → Act → World → Prop} {L : List Chunk} {R : List Fact} {al : List (Nat × Value)} {cd : Code} {v : Value} {x : Chip} (i : Nat) (hm : sl v x.home ∈ R) (hi : i < x.home.length) (k : (ent x i).wf → ∀ u, u.oneCell' = true → JC P n cd Q L (cF v 10 i (Entry.cells u (ent x i)) :: sl u (ent x i).last :: R) al) : JC P n cd Q L R al :=
 JC.open1 i hm hi fun hw u => JC.know (p := u.oneCell' = true) (fun w hs => isSlice.one (hs.fact (.tail _ (.head _)))) (k hw u)
theorem G0 {P : Program} {n : Nat} {Q : Exit → Act → World → Prop} {L : List Chunk} {R : List Fact} {al : List (Nat × Value)} {cd : Code} {u : Value} {x : Chip} {p : Nat} (i : Nat) (hm : sl u (cor x p).lines ∈ R) (hi : i < (cor x p).lines.length) (k : (lin x i p).wf → JC P n cd Q L (cF u 7 i (lin x i p).cells :: R) al) : JC P n cd Q L R al := JC.open0 i hm hi k
theorem Vy {P : Program} {n : Nat} {Q : Exit → Act → World → Prop} {L : List Chunk} {R : List Fact} {al : List (Nat × Value)} {cd : Code} {u : Value} {x : Chip} {i : Nat} (p : Nat) (hm : sl u (ent x i).last ∈ R) (hp : p < (ent x i).last.length) (k : Ao ((ent x i).last.getD p 0) → JC P n cd Q L (cF u 1 p [vi ((ent x i).last.getD p 0)] :: R) al) : JC P n cd Q L R al := JC.open0 (xs := (ent x i).last) p hm hp k
section
variable {P : Program} {n : Nat} {Q : Exit → Act → World → Prop} {Sh : Rho → (Nat → Bool) → List Chunk} {R0 : List Fact} {al0 : List (Nat × Value)}
variable {ops : Array Oper} {i : Nat} {rest : List Oper} {its : List Item} {d : Nat} {x y : Operand} {T ty : TypeId} {pos : String} {aft : Array Edge}
theorem T2 {α : Type} [Enc α] {t e : TypeId} {d sz bytes : Nat} {z : Value} {xs : List α} {ys : Rho → List α} {v : Value} {u : Rho → Value} (he : ElemOf P t e sz z bytes) (hx : ∀ ρ, ev n (Db its al0 ρ) x = some v) (hy : ∀ ρ, ev n (Db its al0 ρ) y = some (u ρ)) (hsz : Enc.sz α = sz) (hpos : 0 < sz)
  (hm : ∀ ρ R', Deps ops R0 its i ρ R' → sl (u ρ) (ys ρ) ∈ R') (hb : ∀ ρ, xs.length + (ys ρ).length ≤ maxN)
  (hSh : ∀ ρ (g : Value) S, S i = false → (∀ j, Bef ops j i → S j = true) → (∀ j, Bef ops i j → S j = false) → ∃ L1, (Sh ρ S).Perm (row e v xs :: L1) ∧ (Sh (Rho.set ρ i (Gh.enc g)) (upS S i)).Perm (row e g (xs ++ ys ρ) :: L1))
  (k : DJ P n ops Q Sh R0 al0 (i + 1) rest (⟨i, some d, fun ρ => (Gh.dec (ρ i) : Value), fun _ => [], fun _ => []⟩ :: its)) :
  DJ P n ops Q Sh R0 al0 i (⟨some d, .call { callee := .builtin .append, args := #[x, y], argTypes := #[t, t] }, ty, pos, aft, none⟩ :: rest) its := by
 refine dj ⟨⟨i, some d, fun ρ => (Gh.dec (ρ i) : Value), fun _ => [], fun _ => []⟩, rfl, rfl, Ind.self (h := fun g => (Gh.dec g : Value)), Ind.const _, Ind.const _, ?_, k⟩
 intro ρ S a L' R' w K hS hbef haft hag hdep hbase hst hK
 rw [if_pos (by simp [Region.wanted])]
 left
 unfold Oper.wp
 obtain ⟨L1, p1, _⟩ := hSh ρ undef S hS hbef haft
 have hs' : St (row e v xs :: (L1 ++ L')) R' w := hst.perm (p1.append_right L')
 obtain ⟨v', w', h1, h2⟩ := I8 (ty := ty) he hsz hpos hs' (hm ρ R' ⟨hbase, hdep⟩) (hb ρ)
 have hx' := Bq hag (by simp [Op.operands, Call.operands]) (hx ρ)
 have hy' := Bq hag (by simp [Op.operands, Call.operands]) (hy ρ)
 rw [E6 (w' := w') (v := v') (by rw [hx', hy']; exact h1), Oper.upon_value]
 obtain ⟨L2, q1, q2⟩ := hSh ρ v' S hS hbef haft
 have e2 : (Rho.set ρ i (Gh.enc v')) i = Gh.enc v' := by simp [Rho.set]
 have h3 := h2
 have hL : L1.Perm L2 := (List.perm_cons _).1 (p1.symm.trans q1)
 have := hK (Gh.enc v') w' ((h3.perm ((hL.append_right L').cons _)).perm (by
  refine List.Perm.trans ?_ (q2.symm.append_right L')
  exact List.Perm.refl _))
 simp only [e2, Gh.ok] at this
 exact this
theorem e_litR {α : Type} [Enc α] {t el : TypeId} {sz bytes len : Nat} {z : Value} {parts : List (Nat × Operand)} {vs : Rho → List Value} (xs : Rho → List α) (he : ElemOf P t el sz z bytes) (hsz : Enc.sz α = sz)
  (ha : ∀ ρ, evL n (Db its al0 ρ) (parts.map (·.2)) = some (vs ρ)) (hidx : parts.map (·.1) = List.range' 0 len) (hlv : ∀ ρ, (vs ρ).length = len) (hsmall : Nat.ble (len * sz) 1000 = true) (hsm2 : Nat.ble len 1000 = true)
  (hrd : ∀ ρ R', Deps ops R0 its i ρ R' → ∀ j, (∀ q ∈ R', q.p j) → RdV (xs ρ) (vs ρ) j) (hxi : Ind ops i xs) (hxs : ∀ ρ g, xs (Rho.set ρ i g) = xs ρ) (hSh : Ij ops Sh i)
  (k : DJ P n ops Q Sh R0 al0 (i + 1) rest (⟨i, some d, fun ρ => (Gh.dec (ρ i) : Value), fun ρ => [sl (Gh.dec (ρ i) : Value) (xs ρ)], fun _ => []⟩ :: its)) :
  DJ P n ops Q Sh R0 al0 i (⟨some d, .buildSlice t len parts.toArray, ty, pos, aft, none⟩ :: rest) its := by
 refine dj ⟨⟨i, some d, fun ρ => (Gh.dec (ρ i) : Value), fun ρ => [sl (Gh.dec (ρ i) : Value) (xs ρ)], fun _ => []⟩, rfl, rfl, Ind.self (h := fun g => (Gh.dec g : Value)), (fun q g ρ hq hn => ?_), Ind.const _, ?_, k⟩
 ·show [sl (Gh.dec ((Rho.set ρ q g) i) : Value) (xs (Rho.set ρ q g))] = [sl (Gh.dec (ρ i) : Value) (xs ρ)]
  rw [hxi q g ρ hq hn]; simp [Rho.set, Ne.symm hq]
 intro ρ S ac L' R' w K hS hbef haft hag hdep hbase hst hK
 rw [if_pos (by simp [Region.wanted])]
 left
 obtain ⟨j, hj, hrj⟩ := hst.ex
 have hrd' := hrd ρ R' ⟨hbase, hdep⟩
 obtain ⟨h1, h2, h3⟩ := (hrd' j hrj).list
 have hlen := hlv ρ
 have hb := Nat.le_of_ble_eq_true hsmall
 have hb2 := Nat.le_of_ble_eq_true hsm2
 have hrun := Fj (vs := vs ρ) he (fun v hv => by rw [h2 v hv, hsz]) (by rw [hlen]; exact hb) w
 have e : (execOp ac.eval ⟨some d, .buildSlice t len parts.toArray, ty, pos, aft, none⟩).run P w = .ok (.value (.slice (some ⟨w.heap.size, 0, none⟩) len len)) (w.alloc (.cells ((vs ρ).flatMap fun v => v.cells.toList).toArray el)) := by
  show (Instr.buildSlice t len (parts.toArray.map fun (i, x) => (i, ac.eval x)) >>= fun v => Pure.pure (Next.value v)).run P w = _
  have hp : (parts.toArray.map fun (i, x) => (i, ac.eval x)) = ((parts.map (·.1)).zip (vs ρ)).toArray := by
   rw [← Fz hag (fun x hx => by simpa [Op.operands] using hx) (ha ρ)]
   simp only [List.map_toArray, List.map_map, List.zip_map', Function.comp_def]
  rw [hp, hidx, Sem.run_bind, ← hlen, hrun]; rfl
 unfold Oper.wp
 rw [e, Oper.upon_value]
 obtain ⟨m, j', hd, hmw, hjw, hst', hr⟩ := hst
 have hnew : St (row el (.slice (some ⟨w.heap.size, 0, none⟩) len len) (xs ρ) :: (Sh ρ S ++ L')) R' (w.alloc (.cells ((vs ρ).flatMap fun v => v.cells.toList).toArray el)) := by
  obtain ⟨g1, g2, g3⟩ := (hrd' j' hr).list
  have hcl : ((vs ρ).flatMap fun v => v.cells.toList).length = len * sz := by rw [g3.len, g1, hlen, hsz]
  exact St.newC hd hmw hjw hst' hr rfl rfl rfl ⟨by rw [g1, hlen]; have : maxN = 16777216 := rfl; omega, .inr ⟨w.heap.size, len, _, _, by rw [g1, hlen], Ds _ _, by rw [g1, hlen]; exact Nat.le_refl _, by unfold maxLen; omega, by rw [hsz]; simpa using hcl, rfl, by
   rw [g1, hlen, hsz, ← hcl, List.toList_toArray, List.take_length]; exact g3⟩⟩
 have e2 : (Rho.set ρ i (Gh.enc (Value.slice (some ⟨w.heap.size, 0, none⟩) len len))) i = Gh.enc (Value.slice (some ⟨w.heap.size, 0, none⟩) len len) := by simp [Rho.set]
 have := hK (Gh.enc (Value.slice (some ⟨w.heap.size, 0, none⟩) len len)) (w.alloc (.cells ((vs ρ).flatMap fun v => v.cells.toList).toArray el))
 simp only [e2, Gh.ok, hxs, hSh ρ _ S hS haft] at this
 exact this hnew.shut
end
structure KV where
 c : Core
 u : Value
instance instEncKV : Enc KV where
 sz := 4
 rd x cs _ := cs = x.c.cells x.u ∧ x.c.wait.wf ∧ x.u.oneCell' = true
 mono _ _ _ _ _ h := h
 len x cs _ h := by rw [h.1]; rfl
 one x cs _ h := by have := h.2.2; rw [h.1]; simp [Core.cells] at this ⊢; refine ⟨this, ?_⟩; simp [Value.oneCell']
def Va (x : KV) : Chunk := row 67 x.u x.c.lines
def linF (x : KV) : Fact := sl x.u x.c.lines
theorem M6 {L : List Chunk} {w : World} : ∀ (l : List KV) {R : List Fact}, St (l.map Va ++ L) R w → St L (l.map linF ++ R) w
 | [], _, hs => hs
 | x :: l, R, hs => by
  have h1 : St (row 67 x.u x.c.lines :: (l.map Va ++ L)) R w := hs
  have h2 := M6 l h1.shut
  exact h2.sub .refl (fun f hf => by
   simp only [List.map_cons, List.cons_append, List.mem_append, List.mem_cons] at hf ⊢
   rcases hf with e | e | e
   ·exact .inr (.inl e)
   ·exact .inl e
   ·exact .inr (.inr e))
theorem Qq {T : TypeId} {v : Value} {l : List KV} (hf : ∀ x ∈ l, linF x ∈ R) (hs : St (row T v l :: L) R w) : St (row T v (l.map KV.c) :: L) R w := by
 obtain ⟨m, j, hd, hm, hj, ⟨m1, m2, hd', h1, h2, hc, hst⟩, hr⟩ := hs
 obtain ⟨rs, r1, r2, r3⟩ := Ip hc
 refine ⟨m, j, hd, hm, hj, ⟨m1, m2, hd', h1, h2, Oc (xs := l.map KV.c) (rs := rs) r1 (by rw [r2]; simp) (fun k e r he hkr => ?_), hst⟩, hr⟩
 exact ZcM
theorem Abw {cv hv fv : Value} {x : Chip} (hs : St (L) R w) (hcv : sl cv x.cores ∈ R) (hhv : sl hv x.home ∈ R) (hfv : sl fv x.frames ∈ R) (hn4 : x.cores.length ≤ 1000) : Calls Try.prog 19 [.agg #[cv, hv, fv]].toArray w (Bl (fun g : Value × Value × Value × List KV => .agg #[g.1, g.2.1, g.2.2.1]) (fun g => row 57 g.1 g.2.2.2 :: (g.2.2.2.map Va ++ L)) (fun g => pr (g.2.2.2.map KV.c = x.cores) :: sl g.2.2.1 x.frames :: sl g.2.1 x.home :: R)) := by
 refine Za6 ?_;intro honec honeh
 have honef : fv.oneCell' = true := isSlice.one (hs.fact hfv)
 refine Ah Try.func19 rfl Try.ntmps19 rfl hs ?_
 clear hs
 refine ZbD ?_;intro b1 b2
 refine Gl ?_
 refine cq_ (blk b2 38 [.slice none 0 0, .slice none 0 0, .slice none 0 0] :: blk b1 38 [cv, hv, fv] :: L) ?_
 refine jd_ (fun ρ S => blk b2 38 [.slice none 0 0, .slice none 0 0, .slice none 0 0] :: blk b1 38 [cv, hv, fv] :: ((bif S 7 then [blk (Gh.dec (γ := Nat) (ρ 7)) 38 (bif S 8 then [.slice none 0 0, (Gh.dec (γ := Value) (ρ 2)), (Gh.dec (γ := Value) (ρ 5))] else [.slice none 0 0, .slice none 0 0, .slice none 0 0])] else []) ++ (L))) ?_
 refine dn2 ?_
 refine Gc (γ := Value) (val := fun v => v) (F := fun v => [sl v x.home]) Try.call31 (fun _ => rfl) (fun ρ L R w hd hs => Py (l := x.home) hs (hd.base mm)) (fun ρ g S hS hA => by have u7 : upS S 2 7 = S 7 := rfl; have u8 : upS S 2 8 = S 8 := rfl; have r5 : Rho.set ρ 2 g 5 = ρ 5 := rfl; have r7 : Rho.set ρ 2 g 7 = ρ 7 := rfl; have h8 : S 8 = false := hA 8 ⟨0, rfl⟩; simp only [u7, u8, r5, r7, h8, cond_false]) ?_
 refine dn2 ?_
 refine Gc (γ := Value) (val := fun v => v) (F := fun v => [sl v x.frames]) Try.call32 (fun _ => rfl) (fun ρ L R w hd hs => frz (Pr (l := x.frames) hs (hd.base mm))) (fun ρ g S hS hA => by have u7 : upS S 5 7 = S 7 := rfl; have u8 : upS S 5 8 = S 8 := rfl; have r2 : Rho.set ρ 5 g 2 = ρ 2 := rfl; have r7 : Rho.set ρ 5 g 7 = ρ 7 := rfl; have h8 : S 8 = false := hA 8 ⟨0, rfl⟩; simp only [u7, u8, r2, r7, h8, cond_false]) ?_
 refine e_pd (v := fun ρ => .agg ([.slice none 0 0, (Gh.dec (γ := Value) (ρ 2)), (Gh.dec (γ := Value) (ρ 5))]).toArray) (fun ρ S R' L' w hd hs => by have h1 : ((Gh.dec (γ := Value) (ρ 2))).oneCell' = true := isSlice.one (hs.fact (hd.dep (it := ⟨2, _, _, _, _⟩) (by repeat (first | exact List.Mem.head _ | refine List.Mem.tail _ ?_)) ⟨9, rfl⟩ (List.Mem.head _))); have h2 : ((Gh.dec (γ := Value) (ρ 5))).oneCell' = true := isSlice.one (hs.fact (hd.dep (it := ⟨5, _, _, _, _⟩) (by repeat (first | exact List.Mem.head _ | refine List.Mem.tail _ ?_)) ⟨9, rfl⟩ (List.Mem.head _))); exact Eh G9) (Ind.gh2 (h := fun g g' => Value.agg ([.slice none 0 0, (Gh.dec (γ := Value) g), (Gh.dec (γ := Value) g')]).toArray) 2 5 3 rfl rfl) (fun _ _ _ _ _ => rfl) ?_
 refine Lz (cs := [.slice none 0 0, .slice none 0 0, .slice none 0 0]) Try.zeroValue38 rfl (fun ρ b S hS hA => ?_) ?_
 ·have ui : upS S 7 7 = true := rfl; have u8 : upS S 7 8 = S 8 := rfl; have r2 : Rho.set ρ 7 (Gh.enc b) 2 = ρ 2 := rfl; have r5 : Rho.set ρ 7 (Gh.enc b) 5 = ρ 5 := rfl; have h8 : S 8 = false := hA 8 ⟨0, rfl⟩; have rs : (Gh.dec (γ := Nat) (Rho.set ρ 7 (Gh.enc b) 7)) = b := rfl
  simp only [ui, hS, u8, r2, r5, h8, rs, cond_true, cond_false, List.nil_append]
  exact ZcP
 refine es_ 38 0 [7] [] (fun ρ => (Gh.dec (γ := Nat) (ρ 7))) (fun ρ => [.slice none 0 0, .slice none 0 0, .slice none 0 0]) (fun ρ => [.slice none 0 0, (Gh.dec (γ := Value) (ρ 2)), (Gh.dec (γ := Value) (ρ 5))]) Try.sizeOf38 (h1 := (fun ρ R w L' hd hs => Dt rfl (Dt (isSlice.one (hs.fact (hd.dep (it := ⟨2, _, _, _, _⟩) (by repeat (first | exact List.Mem.head _ | refine List.Mem.tail _ ?_)) ⟨9, rfl⟩ (List.Mem.head _)))) (Dt (isSlice.one (hs.fact (hd.dep (it := ⟨5, _, _, _, _⟩) (by repeat (first | exact List.Mem.head _ | refine List.Mem.tail _ ?_)) ⟨9, rfl⟩ (List.Mem.head _)))) Hn)))) ?_
 refine dnl ?_; intro ρ
 refine xq_ (blk b2 38 [.slice none 0 0, .slice none 0 0, .slice none 0 0] :: blk b1 38 [cv, hv, fv] :: (blk (Gh.dec (γ := Nat) (ρ 7)) 38 [.slice none 0 0, (Gh.dec (γ := Value) (ρ 2)), (Gh.dec (γ := Value) (ρ 5))] :: L)) ?_
 generalize (Gh.dec (γ := Value) (ρ 2)) = v8
 generalize (Gh.dec (γ := Value) (ρ 5)) = v11
 generalize (Gh.dec (γ := Nat) (ρ 7)) = b3
 refine Zag ?_
 refine JC.rowNil 57 KV ?_
 refine Bf (γ := Nat × Value × List KV) (fun g => g.1 ≤ x.cores.length ∧ g.2.2.map KV.c = x.cores.take g.1) (fun g => row 57 g.2.1 g.2.2 :: blk b3 38 [g.2.1, v8, v11] :: blk b2 38 [.slice none 0 0, .slice none 0 0, .slice none 0 0] :: blk b1 38 [cv, hv, fv] :: (g.2.2.map Va ++ L)) (fun _ => sl v11 x.frames :: sl v8 x.home :: R) (fun g => [(2, bp b2 0), (3, bp b3 0), (14, cv), (15, vi (x.cores.length : Int)), (16, vi (g.1 : Int))]) (fun g => x.cores.length - g.1) (0, .slice none 0 0, []) ⟨Nat.zero_le _, by simp⟩ alT (fun w hs => Af hs) ?_
 rintro ⟨k, vs, xs⟩ ⟨hk, hxc⟩
 try simp only at hk hxc ⊢
 have hxl : xs.length = k := by
  have := congrArg List.length hxc
  simp at this; omega
 refine ZA ?_
 refine cdy ?_ ?_
 ·intro ht17
  refine Gl ?_
  refine Fd k (v := cv) mm (by omega) (fun hwp up honep => ?_)
  refine ZB ?_
  refine al_ (cs := [.slice none 0 0, vi 0, vi 0, vi 0]) Try.zeroValue57 ?_; intro b5
  refine s_B (cs := Core.cells up (cor x k)) Try.sizeOf57 ?_
  refine Gl ?_
  refine cq_ (blk b3 38 [vs, v8, v11] :: row 57 vs xs :: blk b5 57 (Core.cells up (cor x k)) :: blk b2 38 [.slice none 0 0, .slice none 0 0, .slice none 0 0] :: blk b1 38 [cv, hv, fv] :: (xs.map Va ++ L)) ?_
  refine jd_ (fun ρ S => blk b3 38 (bif S 7 then [(Gh.dec (γ := Value) (ρ 5)), v8, v11] else [vs, v8, v11]) :: (bif S 5 then row 57 (Gh.dec (γ := Value) (ρ 5)) (xs ++ [(⟨cor x k, (Gh.dec (γ := Value) (ρ 3))⟩ : KV)]) else row 57 vs xs) :: blk b5 57 (Core.cells up (cor x k)) :: blk b2 38 [.slice none 0 0, .slice none 0 0, .slice none 0 0] :: blk b1 38 [cv, hv, fv] :: ((xs.map Va ++ L))) ?_
  refine dn1 ?_
  refine Hv (v := vs) (fun ρ S hS hB hA => by have h7 : S 7 = false := hA 7 ⟨0, rfl⟩; simp only [h7, cond_false]; exact Dm (hc := Bd pkk (by repeat (first | exact rfl | refine Cp rfl ?_))) Try.isAgg34) (fun _ _ _ _ _ => rfl) ?_
  refine dn1 ?_
  refine T1 (γ := Value) (val := fun v => .agg (Core.cells v (cor x k)).toArray) (F := fun v => [pr (v.oneCell' = true)]) (C := fun v => [row 67 v (cor x k).lines]) Try.call33 (fun _ => rfl) (fun ρ L R w hd hs => G6 (Fm (u := up) (c := cor x k) hs (hd.base mm)) (fun v w hs => ⟨v, rfl, St.pr (A6 .hd hs) hs⟩)) (fun ρ g S hS hA => by have u5 : upS S 3 5 = S 5 := rfl; have u7 : upS S 3 7 = S 7 := rfl; have r5 : Rho.set ρ 3 g 5 = ρ 5 := rfl; have h5 : S 5 = false := hA 5 ⟨0, rfl⟩; simp only [u5, u7, r5, h5, cond_false]) ?_
  refine e_litR (fun ρ => [(⟨cor x k, (Gh.dec (γ := Value) (ρ 3))⟩ : KV)]) Ro rfl (fun _ => rfl) rfl (fun _ => rfl) rfl rfl (fun ρ R hd j hj => ⟨⟨_, rfl, rfl, hwp, hj (pr (((Gh.dec (γ := Value) (ρ 3))).oneCell' = true)) (hd.dep (it := ⟨3, _, _, _, _⟩) (by repeat (first | exact List.Mem.head _ | refine List.Mem.tail _ ?_)) ⟨9, rfl⟩ (List.Mem.head _))⟩, trivial⟩) (Ind.gh (h := fun g => [(⟨cor x k, Gh.dec (γ := Value) g⟩ : KV)]) 3 0 rfl) (fun _ _ => rfl) (fun _ _ _ _ _ => rfl) ?_
  refine T2 (e := 57) (xs := xs) (ys := fun ρ => [(⟨cor x k, (Gh.dec (γ := Value) (ρ 3))⟩ : KV)]) (v := vs) Ro (fun _ => rfl) (fun _ => rfl) rfl (by decide) (fun ρ R hd => (hd.dep (it := ⟨4, _, _, _, _⟩) (by repeat (first | exact List.Mem.head _ | refine List.Mem.tail _ ?_)) ⟨9, rfl⟩ (List.Mem.head _))) (fun _ => by have : maxN = 16777216 := rfl; simp only [List.length_cons, List.length_nil]; omega) (fun ρ g S hS hB hA => ?_) ?_
  ·have ui : upS S 5 5 = true := rfl; have u7 : upS S 5 7 = S 7 := rfl; have r3 : Rho.set ρ 5 (Gh.enc g) 3 = ρ 3 := rfl; have h7 : S 7 = false := hA 7 ⟨0, rfl⟩; have rs : (Gh.dec (γ := Value) (Rho.set ρ 5 (Gh.enc g) 5)) = g := rfl
   simp only [ui, hS, u7, r3, h7, rs, cond_true, cond_false]
   exact pex
  refine dn1 ?_
  refine Di (T0 := 38) (f := 0) (vs := fun ρ => [vs, v8, v11]) (v := fun ρ => (Gh.dec (γ := Value) (ρ 5))) (fun ρ => b3) Try.sizeOf34 (fun _ => rfl) (fun _ => rfl) (fun ρ S R w L9 hB hd hs => by have h5 : S 5 = true := hB 5 ⟨9, rfl⟩; simp only [h5, cond_true] at hs; exact A6 pkk hs) (fun _ => rfl) (fun ρ g S hS hB hA => ?_) ?_
  ·have ui : upS S 7 7 = true := rfl; have u5 : upS S 7 5 = S 5 := rfl; have r3 : Rho.set ρ 7 g 3 = ρ 3 := rfl; have r5 : Rho.set ρ 7 g 5 = ρ 5 := rfl
   simp only [ui, hS, u5, r3, r5, cond_true, cond_false]
   exact pex
  refine dnl ?_; intro ρ
  refine JX.conseq (L' := row 67 (Gh.dec (γ := Value) (ρ 3)) (cor x k).lines :: blk b3 38 [(Gh.dec (γ := Value) (ρ 5)), v8, v11] :: row 57 (Gh.dec (γ := Value) (ρ 5)) (xs ++ [(⟨cor x k, (Gh.dec (γ := Value) (ρ 3))⟩ : KV)]) :: blk b5 57 (Core.cells up (cor x k)) :: blk b2 38 [.slice none 0 0, .slice none 0 0, .slice none 0 0] :: blk b1 38 [cv, hv, fv] :: ((xs.map Va ++ L))) (fun w hs => Af hs) ?_
  generalize (Gh.dec (γ := Value) (ρ 3)) = v23
  generalize (Gh.dec (γ := Value) (ρ 4)) = v24
  generalize (Gh.dec (γ := Value) (ρ 5)) = v25
  refine ZD ?_
  refine A3 (k + 1, v25, xs ++ [⟨cor x k, v23⟩]) ⟨by show k + 1 ≤ x.cores.length; omega, by rw [List.map_append, hxc, Kx Ez (by omega)]; rfl⟩ (by show x.cores.length - (k + 1) < x.cores.length - k; omega) alT (fun w hs => ?_)
  try simp only
  have h9 : St (row 57 v25 (xs ++ [⟨cor x k, v23⟩]) :: blk b3 38 [v25, v8, v11] :: blk b2 38 [.slice none 0 0, .slice none 0 0, .slice none 0 0] :: blk b1 38 [cv, hv, fv] :: row 67 v23 (cor x k).lines :: (xs.map Va ++ L)) (sl v11 x.frames :: sl v8 x.home :: R) w := Af hs
  refine h9.perm (.cons _ (.cons _ (.cons _ (.cons _ ?_))))
  rw [List.map_append, List.append_assoc]
  exact List.perm_middle.symm
 ·intro ht17
  refine Gl ?_
  refine JC.know (p := vs.oneCell' = true) (fun w hs => A6 .hd hs) (fun hone5 => ?_)
  refine JC.know (p := v8.oneCell' = true ∧ v11.oneCell' = true) (fun w hs => ⟨isSlice.one (hs.fact (.tail _ (.head _))), isSlice.one (hs.fact (.head _))⟩) (fun h12 => ?_)
  obtain ⟨hone1, hone2⟩ := h12
  refine ZC ?_
  refine s_B (cs := [vs, v8, v11]) Try.sizeOf38 ?_
  refine Gl ?_
  have hkl : k = x.cores.length := by omega
  rw [hkl, List.take_length] at hxc
  exact Sy (vs, v8, v11, xs) Try.isAgg38 Try.sizeOf38 (hs := fun w hs => St.pr hxc (Af hs))
theorem Ace {b : Nat} {u : Bool} {v : Value} (hs : St (blk b 64 [pv b u, v] :: L) R w) (hv : v.oneCell' = true) : Calls Try.prog 30 [bp b 0].toArray w (Bl (fun _ : Unit => .tuple #[]) (fun _ => blk b 64 [pv b true, v] :: L) (fun _ => R)) := by
 refine Ah Try.func30 rfl Try.ntmps30 rfl hs ?_
 clear hs
 refine Gl ?_
 rcases (show (u = true) ∨ (u = false) from by cases u <;> simp) with hc | hc
 ·subst hc
  refine ZG ?_
  refine ob (J7 rfl rfl Kf (Xv Try.underlying59)) ?_
  refine Gmc ?_
  refine rn5 ?_
  refine ob (J7 rfl rfl Kf (Uz Try.underlying59 (by kernel_rfl))) ?_
  refine Glc ?_
  exact Zd0
 ·subst hc
  refine ZG ?_
  refine ob (J7 rfl rfl Kf (Xw Try.underlying59)) ?_
  refine Gmc ?_
  refine rn2 ?_
  refine ob (q_toU Try.underlying59 Try.underlying122 (by kernel_rfl) rfl pkk (by exact Nat.zero_lt_succ _)) ?_
  refine r_ext Try.func49 (by kernel_rfl) (by kernel_rfl) (by kernel_rfl) (e := Extern.AbiNoEscape.same) (by kernel_rfl) rfl (fun w => rfl) ?_
  refine ob (Y7 Try.underlying122 Try.underlying59 (by kernel_rfl) (k := 2) rfl (by kernel_rfl) rfl pkk) ?_
  refine rn2 ?_
  refine sc ?_
  refine Gl ?_
  exact Zd0
theorem Qa {b : Nat} {u : Bool} {v v1 : Value} {bs ys : List UInt8} (hs : St (blk b 64 [pv b u, v] :: row 5 v bs :: L) R w) (h1 : sl v1 ys ∈ R) (hn : bs.length ≤ 1000000) (hm : ys.length ≤ 1000000) : Calls Try.prog 14 [bp b 0, v1].toArray w (Bl (fun g : Value => .tuple #[vi (ys.length : Int), .nilIface]) (fun g => blk b 64 [pv b true, g] :: row 5 g (bs ++ ys) :: L) (fun g => R)) := by
 refine Ah Try.func14 rfl Try.ntmps14 rfl hs ?_
 clear hs
 refine ZD ?_
 refine JC.know (p := v.oneCell' = true) (fun w hs => A6 pkk hs) (fun honev => ?_)
 refine ZC ?_
 refine Ak Try.call30 rfl (fun w hs => Ace (b := b) (u := u) (v := v) (Af hs) honev) ?_; intro _
 refine Gm ?_
 refine rn6 ?_
 refine ap Kn (hb := fun w hs => by have : maxN = 16777216 := rfl; omega) (k := ?_); intro v14
 refine rn2 ?_
 refine J.know (p := v14.oneCell' = true) (fun w hs => A6 pkk hs) (fun hone30 => ?_)
 refine s_b Try.sizeOf60 ?_
 intro cs_ hcs_; simp only [Nat.zero_add, Nat.add_zero, Nat.reduceAdd, List.set_cons_zero, List.set_cons_succ] at hcs_; subst hcs_
 refine Zag ?_
 exact De v14
theorem Uv {b : Nat} {u : Bool} {v : Value} {bs : List UInt8} (hs : St (blk b 64 [pv b u, v] :: row 5 v bs :: L) R w) (h0 : bs ≠ []) : Calls Try.prog 15 [bp b 0].toArray w (Bl (fun _ : Unit => .string (Mf bs)) (fun _ => L) (fun _ => R)) := by
 refine Ah Try.func15 rfl Try.ntmps15 rfl hs ?_
 clear hs
 refine ZA ?_
 refine A8 ?_
 refine dn4 ?_
 refine djc (fun _ _ => q_usd rfl pkk h0) ?_
 refine dn5 ?_
 refine dtl ?_; intro ρ
 refine r_ustr Try.underlying92 (by kernel_rfl) rfl rfl pkk h0 ?_
 refine Ga1 ?_
 exact Be ()
theorem Xu {P : Program} {T : TypeId} {a : Int} (w : World) : (binOp .shr T (vi a) (.int .u64 16)).run P w = .ok (vi (a / 65536)) w := b_shr (k := .u64) (s := 16) (by omega) (by omega) w
theorem Ta {l : List Int} {k : Nat} (h : k < l.length) : Fb (l.take (k + 1)) = Fb (l.take k) ++ n3 (l.getD k 0) := by rw [Kx 0 h, H6]; simp [Fb]
theorem H9 {α β : Type} {f : α → List β} {l : List α} {k : Nat} (d : α) (h : k < l.length) : (l.take (k + 1)).flatMap f = (l.take k).flatMap f ++ f (l.getD k d) := by rw [Kx d h, List.flatMap_append]; simp
theorem Ho {α β : Type} {f : α → List β} {k : Nat} : ∀ {l : List α}, (∀ a ∈ l, (f a).length ≤ k) → (l.flatMap f).length ≤ l.length * k
 | [], _ => by simp
 | a :: l, h => by
  have := h a (List.mem_cons_self ..)
  have h2 := Ho (fun b hb => h b (List.mem_cons_of_mem _ hb))
  rw [List.flatMap_cons, List.length_append, List.length_cons, Nat.succ_mul]; omega
structure KX (x : Chip) : Prop where
 cl : x.cores.length ≤ 4
 ll : ∀ p, p < x.cores.length → (cor x p).lines.length ≤ 4
 hl : x.home.length ≤ 4
 la : ∀ i, i < x.home.length → (ent x i).last.length ≤ 4
 fl : x.frames.length ≤ 40
 fb : ∀ k, k < x.frames.length → (x.frames.getD k []).length ≤ 12
theorem Inv.kx {n nl : Nat} {x : Chip} {M : List Int} (h : Inv n nl x M) : KX x := by
 have hn := h.n1; have hl := h.l1
 refine ⟨by rw [h.nc]; omega, fun p hp => by rw [h.ncl p (by rw [← h.nc]; exact hp)]; omega, by rw [h.nh]; omega, fun i hi => by rw [h.nla i (by rw [← h.nh]; exact hi)]; omega, h.fr, fun k hk => ?_⟩
 have hm : x.frames.getD k [] ∈ x.frames := by rw [List.getD_eq_getElem?_getD, List.getElem?_eq_getElem hk]; exact List.getElem_mem _
 rw [(h.mi _ hm).1]; decide
theorem W9 {c : Core} : (A5 c).length = 4 + c.lines.length * 7 := by unfold A5; rw [List.length_append, Fg (k := 7) (fun _ _ => rfl)]; rfl
theorem Abk {e : Entry} : (entNums e).length = 10 + e.last.length := by unfold entNums; rw [List.length_append]; rfl
theorem KX.c {x : Chip} (h : KX x) (k : Nat) : ((x.cores.take k).flatMap A5).length ≤ 128 := by
 have h1 := Ho (f := A5) (k := 32) (l := x.cores.take k) (fun c hc => by
  obtain ⟨p, hp, e⟩ := Kb Ez (List.mem_of_mem_take hc)
  have := h.ll p hp
  rw [show cor x p = c from e] at this
  rw [W9]; omega)
 have := h.cl
 rw [List.length_take] at h1; omega
theorem KX.h {x : Chip} (h : KX x) (k : Nat) : ((x.home.take k).flatMap entNums).length ≤ 56 := by
 have h1 := Ho (f := entNums) (k := 14) (l := x.home.take k) (fun c hc => by
  obtain ⟨p, hp, e⟩ := Kb Ay (List.mem_of_mem_take hc)
  have := h.la p hp
  rw [show ent x p = c from e] at this
  rw [Abk]; omega)
 have := h.hl
 rw [List.length_take] at h1; omega
theorem KX.f {x : Chip} (h : KX x) (k : Nat) : ((x.frames.take k).flatMap frKey).length ≤ 600 := by
 have h1 := Ho (f := frKey) (k := 15) (l := x.frames.take k) (fun c hc => by
  obtain ⟨p, hp, e⟩ := Kb [] (List.mem_of_mem_take hc)
  have := h.fb p hp
  rw [e] at this
  unfold frKey; rw [List.length_append]; show 3 + _ ≤ _; omega)
 have := h.fl
 rw [List.length_take] at h1; omega
theorem I3 {b : Nat} {u : Bool} {v vl : Value} {bs : List UInt8} {l : List Int} (hs : St (blk b 64 [pv b u, v] :: row 5 v bs :: L) R w) (h1 : sl vl l ∈ R) (hn : bs.length ≤ 100000) (hl : l.length ≤ 1000) : Calls Try.prog 12 [bp b 0, vl].toArray w (Bl (fun g : Bool × Value => .tuple #[]) (fun g => blk b 64 [pv b g.1, g.2] :: row 5 g.2 (bs ++ Fb l) :: L) (fun g => R)) := by
 refine Ah Try.func12 rfl Try.ntmps12 rfl hs ?_
 clear hs
 refine Za2 ?_
 refine Bf (γ := Nat × Bool × Value) (fun g => g.1 ≤ l.length) (fun g => blk b 64 [pv b g.2.1, g.2.2] :: row 5 g.2.2 (bs ++ Fb (l.take g.1)) :: L) (fun _ => R) (fun g => [(0, bp b 0), (6, vl), (7, vi (l.length : Int)), (8, vi (g.1 : Int))]) (fun g => l.length - g.1) (0, u, v) (Nat.zero_le _) alT (fun w hs => by rw [List.take_zero, show Fb [] = [] from rfl, List.append_nil]; exact Af hs) ?_
 rintro ⟨k, u, v⟩ hk
 try simp only at hk ⊢
 have hnl := E0 (l.take k)
 rw [List.length_take] at hnl
 refine ZA ?_
 refine cdy ?_ ?_
 ·intro ht9
  refine Gl ?_
  refine JC.open0 (xs := l) (v := vl) k mm (by omega) (fun hkw => ?_)
  refine Aa ?_
  refine Gb3 ?_
  refine rn4 ?_
  refine ob (Ai rfl rfl Xu) ?_
  refine ZW ?_
  refine rn1 ?_
  refine ob (Ai rfl rfl F9) ?_
  refine ZW ?_
  refine rn1 ?_
  refine ZW ?_
  refine li (α := UInt8) ([u8 ((l.getD k 0) / 65536), u8 ((l.getD k 0) / 256), u8 (l.getD k 0)] : List UInt8) Kn rfl (fun j hj => ⟨⟨_, rfl, rfl⟩, ⟨_, rfl, rfl⟩, ⟨_, rfl, rfl⟩, trivial⟩) ?_; intro v23
  refine Ak Try.call14 rfl (fun w hs => Qa (b := b) (u := u) (v := v) (bs := bs ++ Fb (l.take k)) (ys := n3 (l.getD k 0)) (Af hs) mm (by rw [List.length_append]; omega) (by show 3 ≤ 1000000; omega)) ?_; intro v24
  refine ZD ?_
  refine A3 (k + 1, true, v24) (by show k + 1 ≤ l.length; omega) (by show l.length - (k + 1) < l.length - k; omega) alT (fun w hs => ?_)
  try simp only
  rw [Ta (by omega), ← List.append_assoc]; exact Af hs
 ·intro ht9
  refine Gl ?_
  have hkl : k = l.length := by omega
  subst hkl
  refine A0 (.inl rfl) (fun B w hs => Gb rfl _ w) (fun w hs => ⟨(u, v), rfl, by rw [List.take_length] at hs; exact Af hs⟩)
theorem Abc {y : Bool} (hs : St (L) R w) : Calls Try.prog 13 [.bool y].toArray w (Bl (fun _ : Unit => vi (Fu y)) (fun _ => L) (fun _ => R)) := by
 refine Ah Try.func13 rfl Try.ntmps13 rfl hs ?_
 clear hs
 refine ZH ?_
 refine Ga1 ?_
 first | (refine cdx (p := ?p1) (hd := ?d1) ?e1 ?_ ?_; case e1 => exact rfl) | (refine Bg (b := ?b1) ?e1 ?_ ?_; case e1 => exact rfl)
 ·intro ht3
  refine ZA ?_
  have er : Fu y = 1 := by unfold Fu; rw [ht3]; rfl
  exact ZcJ
 ·intro ht3
  refine ZA ?_
  have er : Fu y = 0 := by unfold Fu; rw [ht3]; rfl
  exact ZcJ
theorem Wd {x : Chip} {k : Nat} (h : k < x.cores.length) : A9 x ++ (x.cores.take (k + 1)).flatMap A5 = A9 x ++ (x.cores.take k).flatMap A5 ++ [(cor x k).wait.kind, (cor x k).wait.line, (cor x k).wait.value, ((cor x k).lines.length : Int)] ++ (cor x k).lines.flatMap lineNums := by
 rw [H9 Ez h, List.append_assoc, List.append_assoc]; rfl
theorem Zm {x : Chip} {i : Nat} (h : i < x.home.length) : A9 x ++ x.cores.flatMap A5 ++ (x.home.take (i + 1)).flatMap entNums = A9 x ++ x.cores.flatMap A5 ++ (x.home.take i).flatMap entNums ++ [(ent x i).value, (ent x i).owner, (ent x i).sharers, (ent x i).phase, (ent x i).who, (ent x i).serial, Fu (ent x i).alone, (ent x i).turn, (ent x i).need, ((ent x i).last.length : Int)] ++ (ent x i).last := by
 rw [H9 Ay h]; simp only [List.append_assoc]; rfl
theorem Mt {R : List Fact} {l : List Int} (h : ∀ a ∈ l, Ao a) : ∀ j, (∀ q ∈ R, q.p j) → RdV l (l.map vi) j := fun j _ => by
 induction l with
 | nil => trivial
 | cons a l ih => exact ⟨⟨_, rfl, rfl, h a (List.mem_cons_self ..)⟩, ih (fun b hb => h b (List.mem_cons_of_mem _ hb))⟩
theorem Ni {cv hv fv : Value} {x : Chip} (hs : St (L) R w) (hcv : sl cv x.cores ∈ R) (hhv : sl hv x.home ∈ R) (hfv : sl fv x.frames ∈ R) (hx : KX x) : Calls Try.prog 8 [.agg #[cv, hv, fv]].toArray w (Bl (fun _ : Unit => .string (Mf (Gr x))) (fun _ => L) (fun _ => R)) := by
 refine Ah Try.func8 rfl Try.ntmps8 rfl hs ?_
 clear hs
 refine ZaM ?_;intro b1
 refine ob (D5 (cs := [.pointer none, .slice none 0 0]) st_64) ?_
 refine bx ?_; intro b13
 refine Ga1 ?_
 refine JC.rowNil 5 UInt8 ?_
 refine cq_ (blk b13 64 [pv b13 false, .slice none 0 0] :: row 5 (.slice none 0 0) ([] : List UInt8) :: blk b1 38 [cv, hv, fv] :: L) ?_
 have hcl := hx.cl
 have hhl := hx.hl
 have hfl := hx.fl
 refine Aa ?_
 refine rn10 ?_
 refine li (α := Int) [(x.cores.length : Int), (x.home.length : Int), (x.frames.length : Int)] Ko rfl (Mt (l := [(x.cores.length : Int), (x.home.length : Int), (x.frames.length : Int)]) (by intro a ha; simp only [List.mem_cons, List.not_mem_nil, or_false] at ha; rcases ha with e | e | e <;> rw [e] <;> unfold Ao <;> omega)) ?_; intro v24
 refine Ak Try.call12 rfl (fun w hs => I3 (b := b13) (u := false) (v := .slice none 0 0) (bs := []) (l := A9 x) (Af (L' := blk b13 64 [pv b13 false, .slice none 0 0] :: row 5 (.slice none 0 0) ([] : List UInt8) :: blk b1 38 [cv, hv, fv] :: L) hs) mm (Nat.zero_le _) (by show 3 ≤ 1000; omega)) ?_; intro v25
 rw [List.nil_append]
 refine Zag ?_
 refine Bf (γ := Nat × Bool × Value) (fun g => g.1 ≤ x.cores.length) (fun g => blk b13 64 [pv b13 g.2.1, g.2.2] :: row 5 g.2.2 (Fb (A9 x ++ (x.cores.take g.1).flatMap A5)) :: blk b1 38 [cv, hv, fv] :: L) (fun _ => R) (fun g => [(1, bp b1 0), (3, bp b13 0), (27, cv), (28, vi (x.cores.length : Int)), (29, vi (g.1 : Int))]) (fun g => x.cores.length - g.1) (0, v25.1, v25.2) (Nat.zero_le _) alT (fun w hs => by rw [List.take_zero, List.flatMap_nil, List.append_nil]; exact Af hs) ?_
 rintro ⟨k, u, v⟩ hk
 try simp only at hk ⊢
 have hb1 := hx.c k
 refine ZA ?_
 refine cdy ?_ ?_
 ·intro ht30
  refine Gl ?_
  refine Fd k (v := cv) mm (by omega) (fun hwt uc honeuc => ?_)
  have hll := hx.ll k (by omega)
  refine ZB ?_
  refine al_ (cs := [.slice none 0 0, vi 0, vi 0, vi 0]) Try.zeroValue57 ?_; intro b5
  refine s_B (cs := Core.cells uc (cor x k)) Try.sizeOf57 ?_
  refine Gm ?_
  refine rn13 ?_
  refine li (α := Int) [(cor x k).wait.kind, (cor x k).wait.line, (cor x k).wait.value, ((cor x k).lines.length : Int)] Ko rfl (Mt (l := [(cor x k).wait.kind, (cor x k).wait.line, (cor x k).wait.value, ((cor x k).lines.length : Int)]) (by intro a ha; simp only [List.mem_cons, List.not_mem_nil, or_false] at ha; have h1 := hwt.1; have h2 := hwt.2.1; have h3 := hwt.2.2; unfold Ao at *; rcases ha with e | e | e | e <;> rw [e] <;> omega)) ?_; intro v46
  refine Ak Try.call12 rfl (fun w hs => I3 (b := b13) (u := u) (v := v) (bs := Fb (A9 x ++ (x.cores.take k).flatMap A5)) (l := [(cor x k).wait.kind, (cor x k).wait.line, (cor x k).wait.value, ((cor x k).lines.length : Int)]) (Af (L' := blk b13 64 [pv b13 u, v] :: row 5 v (Fb (A9 x ++ (x.cores.take k).flatMap A5)) :: blk b5 57 (Core.cells uc (cor x k)) :: blk b1 38 [cv, hv, fv] :: L) hs) mm (by have hh3 : (A9 x).length = 3 := rfl; simp only [E0, List.length_append, List.length_cons, List.length_nil]; omega) (by simp only [List.length_cons, List.length_nil]; omega)) ?_; intro v47
  refine Gl ?_
  refine kp [1, 2, 3, 5, 27, 28, 29, 30, 31, 32, 33, 34, 35, 36, 37, 38, 39, 40, 41, 42, 43, 44, 45, 46, 48, 49, 50, 51] ?_
  refine Aa ?_
  refine Ga4 ?_
  refine Bf (γ := Nat × Bool × Value) (fun g => g.1 ≤ (cor x k).lines.length) (fun g => blk b13 64 [pv b13 g.2.1, g.2.2] :: row 5 g.2.2 (Fb (A9 x ++ (x.cores.take k).flatMap A5 ++ [(cor x k).wait.kind, (cor x k).wait.line, (cor x k).wait.value, ((cor x k).lines.length : Int)] ++ ((cor x k).lines.take g.1).flatMap lineNums)) :: blk b1 38 [cv, hv, fv] :: L) (fun _ => sl uc (cor x k).lines :: R) (fun g => [(1, bp b1 0), (3, bp b13 0), (27, cv), (28, vi (x.cores.length : Int)), (29, vi (k : Int)), (49, uc), (50, vi ((cor x k).lines.length : Int)), (51, vi (g.1 : Int))]) (fun g => (cor x k).lines.length - g.1) (0, v47.1, v47.2) (Nat.zero_le _) alT (fun w hs => by rw [List.take_zero, List.flatMap_nil, List.append_nil, H6]; exact Af hs) ?_
  rintro ⟨j, u, v⟩ hj
  try simp only at hj ⊢
  have hb2 := Fg (f := lineNums) (k := 7) (l := (cor x k).lines.take j) (fun _ _ => rfl)
  rw [List.length_take] at hb2
  refine ZA ?_
  refine cdy ?_ ?_
  ·intro ht52
   refine Gl ?_
   refine G0 j (x := x) (p := k) (u := uc) mm (by omega) (fun hlw => ?_)
   refine ZB ?_
   refine al_ (cs := zLine.cells) Try.zeroValue67 ?_; intro b7
   refine s_B (cs := (lin x j k).cells) Try.sizeOf67 ?_
   refine Gm ?_
   refine rn15 ?_
   refine li (α := Int) [(lin x j k).state, (lin x j k).value, (lin x j k).want, (lin x j k).serial, (lin x j k).seen, (lin x j k).gave, (lin x j k).given] Ko rfl (Mt (l := [(lin x j k).state, (lin x j k).value, (lin x j k).want, (lin x j k).serial, (lin x j k).seen, (lin x j k).gave, (lin x j k).given]) (by intro a ha; simp only [List.mem_cons, List.not_mem_nil, or_false] at ha; obtain ⟨h1, h2, h3, h4, h5, h6, h7⟩ := hlw; rcases ha with e | e | e | e | e | e | e <;> rw [e] <;> assumption)) ?_; intro v70
   refine Ak Try.call12 rfl (fun w hs => I3 (b := b13) (u := u) (v := v) (bs := Fb (A9 x ++ (x.cores.take k).flatMap A5 ++ [(cor x k).wait.kind, (cor x k).wait.line, (cor x k).wait.value, ((cor x k).lines.length : Int)] ++ ((cor x k).lines.take j).flatMap lineNums)) (l := [(lin x j k).state, (lin x j k).value, (lin x j k).want, (lin x j k).serial, (lin x j k).seen, (lin x j k).gave, (lin x j k).given]) (Af (L' := blk b13 64 [pv b13 u, v] :: row 5 v (Fb (A9 x ++ (x.cores.take k).flatMap A5 ++ [(cor x k).wait.kind, (cor x k).wait.line, (cor x k).wait.value, ((cor x k).lines.length : Int)] ++ ((cor x k).lines.take j).flatMap lineNums)) :: blk b7 67 (lin x j k).cells :: blk b1 38 [cv, hv, fv] :: L) hs) mm (by have hh3 : (A9 x).length = 3 := rfl; simp only [E0, List.length_append, List.length_cons, List.length_nil]; omega) (by simp only [List.length_cons, List.length_nil]; omega)) ?_; intro v71
   refine ZD ?_
   refine A3 (j + 1, v71.1, v71.2) (by show j + 1 ≤ (cor x k).lines.length; omega) (by show (cor x k).lines.length - (j + 1) < (cor x k).lines.length - j; omega) alT (fun w hs => ?_)
   try simp only
   rw [H9 zLine (by omega), ← List.append_assoc, H6]; exact Af hs
  ·intro ht52
   refine ZD ?_
   have hjl : j = (cor x k).lines.length := by omega
   refine A3 (k + 1, u, v) (by show k + 1 ≤ x.cores.length; omega) (by show x.cores.length - (k + 1) < x.cores.length - k; omega) alT (fun w hs => ?_)
   try simp only
   rw [hjl, List.take_length] at hs
   rw [Wd (by omega)]; exact Af hs
 ·intro ht30
  refine Zag ?_
  have hkl : k = x.cores.length := by omega
  refine Bf (γ := Nat × Bool × Value) (fun g => g.1 ≤ x.home.length) (fun g => blk b13 64 [pv b13 g.2.1, g.2.2] :: row 5 g.2.2 (Fb (A9 x ++ x.cores.flatMap A5 ++ (x.home.take g.1).flatMap entNums)) :: blk b1 38 [cv, hv, fv] :: L) (fun _ => R) (fun g => [(1, bp b1 0), (3, bp b13 0), (75, hv), (76, vi (x.home.length : Int)), (77, vi (g.1 : Int))]) (fun g => x.home.length - g.1) (0, u, v) (Nat.zero_le _) alT (fun w hs => by rw [List.take_zero, List.flatMap_nil, List.append_nil]; rw [hkl, List.take_length] at hs; exact Af hs) ?_
  rintro ⟨i, u, v⟩ hi
  try simp only at hi ⊢
  have hb3 := hx.h i
  have hb4 := hx.c x.cores.length
  rw [List.take_length] at hb4
  refine ZA ?_
  refine cdy ?_ ?_
  ·intro ht78
   refine Gl ?_
   refine Lq i (v := hv) mm (by omega) (fun hew ue honeue => ?_)
   have hla := hx.la i (by omega)
   refine ZB ?_
   refine al_ (cs := [vi 0, vi 0, vi 0, vi 0, vi 0, vi 0, .bool false, vi 0, vi 0, .slice none 0 0]) Try.zeroValue54 ?_; intro b9
   refine s_B (cs := Entry.cells ue (ent x i)) Try.sizeOf54 ?_
   refine Gl ?_
   have hfg : 0 ≤ Fu (ent x i).alone ∧ Fu (ent x i).alone ≤ 1 := by unfold Fu; split <;> omega
   obtain ⟨h1, h2, h3, h4, h5, h6, h7, h8⟩ := hew
   refine kp [1, 2, 3, 9, 75, 76, 77, 78, 79, 80, 81, 82, 83, 84, 85, 86, 87, 88, 89, 90, 91, 92, 93, 94, 95, 96, 97, 98, 99, 100, 101, 102, 103, 104] ?_
   refine cq_ (blk b13 64 [pv b13 u, v] :: row 5 v (Fb (A9 x ++ x.cores.flatMap A5 ++ (x.home.take i).flatMap entNums)) :: blk b9 54 (Entry.cells ue (ent x i)) :: blk b1 38 [cv, hv, fv] :: L) ?_
   refine jd_ (fun ρ S => blk b13 64 [pv b13 u, v] :: row 5 v (Fb (A9 x ++ x.cores.flatMap A5 ++ (x.home.take i).flatMap entNums)) :: blk b9 54 (Entry.cells ue (ent x i)) :: blk b1 38 [cv, hv, fv] :: L) ?_
   refine dn15 ?_
   refine Gc (γ := Unit) (val := fun _ => vi (Fu (ent x i).alone)) (F := fun _ => []) Try.call13 (fun _ => rfl) (fun ρ L R w hd hs => Abc hs ) (fun _ _ _ _ _ => rfl) ?_
   refine dn7 ?_
   refine Ie [(ent x i).value, (ent x i).owner, (ent x i).sharers, (ent x i).phase, (ent x i).who, (ent x i).serial, Fu (ent x i).alone, (ent x i).turn, (ent x i).need, ((ent x i).last.length : Int)] Ko rfl (fun _ => rfl) rfl (fun _ => rfl) rfl rfl (fun ρ R hd => Mt (l := [(ent x i).value, (ent x i).owner, (ent x i).sharers, (ent x i).phase, (ent x i).who, (ent x i).serial, Fu (ent x i).alone, (ent x i).turn, (ent x i).need, ((ent x i).last.length : Int)]) (by intro a ha; simp only [List.mem_cons, List.not_mem_nil, or_false] at ha; unfold Ao at *; rcases ha with e | e | e | e | e | e | e | e | e | e <;> rw [e] <;> omega)) (fun _ _ _ _ _ => rfl) ?_
   refine dtl ?_; intro ρ
   refine J.conseq (L' := blk b13 64 [pv b13 u, v] :: row 5 v (Fb (A9 x ++ x.cores.flatMap A5 ++ (x.home.take i).flatMap entNums)) :: blk b9 54 (Entry.cells ue (ent x i)) :: blk b1 38 [cv, hv, fv] :: L) (fun w hs => hs) ?_
   generalize (Gh.dec (γ := Value) (ρ 23)) = v104
   refine Ak Try.call12 rfl (fun w hs => I3 (b := b13) (u := u) (v := v) (bs := Fb (A9 x ++ x.cores.flatMap A5 ++ (x.home.take i).flatMap entNums)) (l := [(ent x i).value, (ent x i).owner, (ent x i).sharers, (ent x i).phase, (ent x i).who, (ent x i).serial, Fu (ent x i).alone, (ent x i).turn, (ent x i).need, ((ent x i).last.length : Int)]) (Af (L' := blk b13 64 [pv b13 u, v] :: row 5 v (Fb (A9 x ++ x.cores.flatMap A5 ++ (x.home.take i).flatMap entNums)) :: blk b9 54 (Entry.cells ue (ent x i)) :: blk b1 38 [cv, hv, fv] :: L) hs) mm (by have hh3 : (A9 x).length = 3 := rfl; simp only [E0, List.length_append, List.length_cons, List.length_nil]; omega) (by simp only [List.length_cons, List.length_nil]; omega)) ?_; intro v105
   refine Gm ?_
   refine rn3 ?_
   refine Ak Try.call12 rfl (fun w hs => I3 (b := b13) (u := v105.1) (v := v105.2) (bs := Fb (A9 x ++ x.cores.flatMap A5 ++ (x.home.take i).flatMap entNums) ++ Fb [(ent x i).value, (ent x i).owner, (ent x i).sharers, (ent x i).phase, (ent x i).who, (ent x i).serial, Fu (ent x i).alone, (ent x i).turn, (ent x i).need, ((ent x i).last.length : Int)]) (l := (ent x i).last) (Af (L' := blk b13 64 [pv b13 v105.1, v105.2] :: row 5 v105.2 (Fb (A9 x ++ x.cores.flatMap A5 ++ (x.home.take i).flatMap entNums) ++ Fb [(ent x i).value, (ent x i).owner, (ent x i).sharers, (ent x i).phase, (ent x i).who, (ent x i).serial, Fu (ent x i).alone, (ent x i).turn, (ent x i).need, ((ent x i).last.length : Int)]) :: blk b1 38 [cv, hv, fv] :: L) hs) mm (by have hh3 : (A9 x).length = 3 := rfl; simp only [E0, List.length_append, List.length_cons, List.length_nil]; omega) (by omega)) ?_; intro v109
   refine ZD ?_
   refine A3 (i + 1, v109.1, v109.2) (by show i + 1 ≤ x.home.length; omega) (by show x.home.length - (i + 1) < x.home.length - i; omega) alT (fun w hs => ?_)
   try simp only
   rw [Zm (by omega), H6, H6]; exact Af hs
  ·intro ht78
   refine Zag ?_
   have hil : i = x.home.length := by omega
   have hcn : Ca x = A9 x ++ x.cores.flatMap A5 ++ x.home.flatMap entNums := rfl
   have hb5 := hx.h x.home.length
   rw [List.take_length] at hb5
   refine Bf (γ := Nat × Bool × Value) (fun g => g.1 ≤ x.frames.length) (fun g => blk b13 64 [pv b13 g.2.1, g.2.2] :: row 5 g.2.2 (Fb (Ca x) ++ (x.frames.take g.1).flatMap frKey) :: blk b1 38 [cv, hv, fv] :: L) (fun _ => R) (fun g => [(3, bp b13 0), (112, fv), (113, vi (x.frames.length : Int)), (114, vi (g.1 : Int))]) (fun g => x.frames.length - g.1) (0, u, v) (Nat.zero_le _) alT (fun w hs => by rw [List.take_zero, List.flatMap_nil, List.append_nil]; rw [hil, List.take_length] at hs; exact Af hs) ?_
   rintro ⟨k, u, v⟩ hk
   try simp only at hk ⊢
   have hb6 := hx.f k
   have hb7 : (Ca x).length ≤ 187 := by
    rw [hcn, List.length_append, List.length_append]
    have : (A9 x).length = 3 := rfl
    omega
   have hb8 : (Fb (Ca x) ++ (x.frames.take k).flatMap frKey).length ≤ 1200 := by rw [List.length_append, E0]; omega
   refine Gl ?_
   refine kp [2, 3, 112, 113, 114, 115] ?_
   refine Aa ?_
   refine Ga1 ?_
   refine cdy ?_ ?_
   ·intro ht115
    refine Gl ?_
    refine JC.open1 (xs := x.frames) (v := fv) k mm (by omega) (fun _ uf => ?_)
    have hfb := hx.fb k (by omega)
    refine Aa ?_
    refine Gb3 ?_
    refine rn3 ?_
    refine li (α := Int) [((x.frames.getD k []).length : Int)] Ko rfl (Mt (l := [((x.frames.getD k []).length : Int)]) (by intro a ha; simp only [List.mem_cons, List.not_mem_nil, or_false] at ha; rw [ha]; unfold Ao; omega)) ?_; intro v121
    refine Ak Try.call12 rfl (fun w hs => I3 (b := b13) (u := u) (v := v) (bs := Fb (Ca x) ++ (x.frames.take k).flatMap frKey) (l := [((x.frames.getD k []).length : Int)]) (Af (L' := blk b13 64 [pv b13 u, v] :: row 5 v (Fb (Ca x) ++ (x.frames.take k).flatMap frKey) :: blk b1 38 [cv, hv, fv] :: L) hs) mm (by omega) (by simp only [List.length_cons, List.length_nil]; omega)) ?_; intro v122
    refine Gm ?_
    refine rn4 ?_
    refine Ak Try.call14 rfl (fun w hs => Qa (b := b13) (u := v122.1) (v := v122.2) (bs := Fb (Ca x) ++ (x.frames.take k).flatMap frKey ++ Fb [((x.frames.getD k []).length : Int)]) (ys := x.frames.getD k []) (Af (L' := blk b13 64 [pv b13 v122.1, v122.2] :: row 5 v122.2 (Fb (Ca x) ++ (x.frames.take k).flatMap frKey ++ Fb [((x.frames.getD k []).length : Int)]) :: blk b1 38 [cv, hv, fv] :: L) hs) mm (by rw [List.length_append]; have : (Fb [((x.frames.getD k []).length : Int)]).length = 3 := rfl; omega) (by omega)) ?_; intro v127
    refine ZD ?_
    refine A3 (k + 1, true, v127) (by show k + 1 ≤ x.frames.length; omega) (by show x.frames.length - (k + 1) < x.frames.length - k; omega) alT (fun w hs => ?_)
    try simp only
    rw [H9 [] (by omega), ← List.append_assoc]
    unfold frKey
    rw [← List.append_assoc]; exact Af hs
   ·intro ht115
    refine Gl ?_
    have hkl2 : k = x.frames.length := by omega
    have hne : (Fb (Ca x) ++ (x.frames.take k).flatMap frKey) ≠ [] := by
     intro h
     have := congrArg List.length h
     rw [List.length_append, E0, List.length_nil, hcn, List.length_append, List.length_append] at this
     have h3 : (A9 x).length = 3 := rfl
     omega
    refine ZP ?_
    refine Ak Try.call15 rfl (fun w hs => Uv (b := b13) (u := u) (v := v) (bs := Fb (Ca x) ++ (x.frames.take k).flatMap frKey) (Af (L' := blk b13 64 [pv b13 u, v] :: row 5 v (Fb (Ca x) ++ (x.frames.take k).flatMap frKey) :: L) hs) hne) ?_; intro _
    refine Ga1 ?_
    have er : Gr x = Fb (Ca x) ++ (x.frames.take k).flatMap frKey := by unfold Gr; rw [hkl2, List.take_length]
    rw [er]
    exact Be ()
end Go.Proofs.Ytbigiimomnfpdaa
namespace Go.Proofs.Ytbigiimomnfpdaa
open Go Go.MapKept
structure MapIs {κ : Type} (kv : κ → Value) (d : TypeDesc) (es : List MapEntry) (f : κ → Option Value) : Prop where
 key : ∀ e ∈ es, IsKey d e.key
 uni : ∀ (i j : Nat) (e e' : MapEntry), es[i]? = some e → es[j]? = some e' → e.key = e'.key → i = j
 val : ∀ e ∈ es, ∀ k, e.key = kv k → f k = some e.val
 non : ∀ k, (∀ e ∈ es, e.key ≠ kv k) → f k = none
section
variable {P : Program} {n : Nat} {ops : Array Oper} {Q : Exit → Act → World → Prop} {rest : List Oper} {L L' : List Chunk} {R : List Fact} {al : List (Nat × Value)} {d0 : Nat} {x y z : Operand} {T ty : TypeId} {pos : String} {aft : Array Edge} {κ : Type} {kv : κ → Value} {d : TypeDesc} {b : Nat} {f : κ → Option Value}
theorem MapIs.nil : MapIs kv d [] (fun _ => none) := ⟨by simp, by simp, by simp, fun _ _ => rfl⟩
end
end Go.Proofs.Ytbigiimomnfpdaa
namespace Go.Proofs.Ytbigiimomnfpdaa
open Go Go.MapKept
def N7 {κ : Type} (kv : κ → Value) (b : Nat) (ks : List κ) : Chunk :=
 ⟨fun m _ => ∃ es clock, m (b + 1) = some (.ob (.map es clock)) ∧ es.toList.map (fun e => (e.key, e.val)) = ks.map (fun k => (kv k, Value.bool true)), fun _ _ _ _ h => h⟩
section
variable {P : Program} {n : Nat} {ops : Array Oper} {Q : Exit → Act → World → Prop} {rest : List Oper} {L L' : List Chunk} {R : List Fact} {al : List (Nat × Value)} {d0 : Nat} {x y z : Operand} {T ty : TypeId} {pos : String} {aft : Array Edge} {κ : Type} {kv : κ → Value} {d : TypeDesc} {b : Nat} {ks : List κ}
theorem St.set_get {w : World} (hs : St (N7 kv b ks :: L) R w) : ∃ es clock, w.heap[b]? = some (.map es clock) ∧ es.toList.map (fun e => (e.key, e.val)) = ks.map (fun k => (kv k, Value.bool true)) ∧ ∀ (w' : World) (o' : Obj) (c' : Chunk), w'.heap[b]? = some o' → (∀ x, x ≠ b → w'.heap[x]? = w.heap[x]?) → w'.os = w.os → w'.output = w.output → (∀ i, c'.p (one b o') i) → St (c' :: L) R w' := by
 obtain ⟨m, i, hd, hm, hi, ⟨m1, m2, hd', h1, h2, ⟨es, clock, hc, hM⟩, hst⟩, hr⟩ := hs
 exact ⟨es, clock, He (hm _ _ (h1 _ _ hc)), hM, fun w' o' c' hb hrest ho hu hn => St.put hd hm hi hd' h1 h2 hst hr hc hb hrest ho hu (hn i)⟩
theorem Pk {es : List MapEntry} (h : es.map (fun e => (e.key, e.val)) = ks.map (fun k => (kv k, Value.bool true))) : (∀ e ∈ es, ∃ k ∈ ks, e.key = kv k ∧ e.val = .bool true) ∧ ∀ k ∈ ks, ∃ e ∈ es, e.key = kv k := by
 refine ⟨fun e he => ?_, fun k hk => ?_⟩
 ·have : (e.key, e.val) ∈ ks.map (fun k => (kv k, Value.bool true)) := by rw [← h]; exact List.mem_map.2 ⟨e, he, rfl⟩
  obtain ⟨k, hk, e2⟩ := List.mem_map.1 this
  injection e2 with a1 a2
  exact ⟨k, hk, a1.symm, a2.symm⟩
 ·have : (kv k, Value.bool true) ∈ es.map (fun e => (e.key, e.val)) := by rw [h]; exact List.mem_map.2 ⟨k, hk, rfl⟩
  obtain ⟨e, he, e2⟩ := List.mem_map.1 this
  injection e2 with a1 a2
  exact ⟨e, he, a1⟩
theorem Y3 (kv : κ → Value) (k : ∀ b, J P n ops Q rest (N7 kv b [] :: L) R ((d0, .map (some b)) :: al)) : J P n ops Q (⟨some d0, .makeMap T none, ty, pos, aft, none⟩ :: rest) L R al :=
 J.yieldEx (v := fun b => .map (some b)) (L' := fun b => N7 kv b [] :: L) (R' := fun _ => R) rfl rfl (fun B w hs => by
  refine ⟨w.heap.size, w.alloc (.map #[] 0), ?_, ?_⟩
  ·show (Instr.makeMap T (Option.map _ none) >>= fun v => Pure.pure (Next.value v)).run P w = _
   rw [Sem.run_bind]; rfl
  ·obtain ⟨m, i, hd, hm, hi, hst, hr⟩ := hs
   exact St.newC (o := .map #[] 0) hd hm hi hst hr rfl rfl rfl ⟨#[], 0, Ds _ _, rfl⟩) k
theorem Mv {kt et : TypeId} (k0 : κ) (v : Bool) (hv : v = true ↔ k0 ∈ ks) (inj : ∀ a b, kv a = kv b → a = b) (hm : P.underlying T = some (.map kt et)) (hd : P.underlying kt = some d) (hz : ∀ w, (zeroValue et).run P w = .ok (.bool false) w) (hk : ∀ k, IsKey d (kv k)) (hx : ev n al x = some (.map (some b))) (hy : ev n al y = some (kv k0)) (hp : Pick L (N7 kv b ks) L')
  (k : J P n ops Q rest L R ((d0, .bool v) :: al)) : J P n ops Q (⟨some d0, .lookup T x y false, ty, pos, aft, none⟩ :: rest) L R al :=
 J.pure rfl rfl (fun B w hs => by
  obtain ⟨es, clock, hb, hM, _⟩ := (hs.pick hp).set_get
  obtain ⟨g1, g2⟩ := Pk hM
  have hkey : ∀ e ∈ es.toList, IsKey d e.key := fun e he => by obtain ⟨k, _, e1, _⟩ := g1 e he; rw [e1]; exact hk k
  show (Instr.lookup T ((mkA n al B).eval x) ((mkA n al B).eval y) false >>= fun v => Pure.pure (Next.value v)).run P w = _
  have hl : (Instr.lookup T (.map (some b)) (kv k0) false).run P w = .ok (.bool v) w := by
   rcases findNow_spec (hk k0) es.toList 0 hkey with ⟨h1, h2⟩ | ⟨j, e, h1, h2, h3⟩
   ·have hn : ¬ k0 ∈ ks := fun hin => by obtain ⟨e, he, e1⟩ := g2 k0 hin; exact h2 e he e1
    have hvf : v = false := by cases v with | false => rfl | true => exact absurd (hv.1 rfl) hn
    rw [hvf]
    simp [Instr.lookup, run_underlying hm, _root_.Go.MapKept.run_getObj_map hb, run_checkKey hd (hk k0), run_findKey hd h1, Result.andThen, hz]
   ·have he := List.mem_of_getElem? h2
    obtain ⟨k, hin, e1, e2⟩ := g1 e he
    have : k0 = k := inj _ _ (by rw [← h3, e1])
    rw [hv.2 (by rw [this]; exact hin)]
    simp [Instr.lookup, run_underlying hm, _root_.Go.MapKept.run_getObj_map hb, run_checkKey hd (hk k0), run_findKey hd h1, Result.andThen, hz, e2]
  rw [Ax hx, Ax hy, Sem.run_bind, hl]; rfl) k
theorem Su {kt et : TypeId} {w : World} (k0 : κ) (hm : P.underlying T = some (.map kt et)) (hd : P.underlying kt = some d) (hk : ∀ k, IsKey d (kv k)) (inj : ∀ a b, kv a = kv b → a = b) (hn : ¬ k0 ∈ ks) (hs : St (N7 kv b ks :: L) R w) :
  ∃ w', (Instr.mapUpdate T (.map (some b)) (kv k0) (.bool true)).run P w = .ok () w' ∧ St (N7 kv b (ks ++ [k0]) :: L) R w' := by
 obtain ⟨es, clock, hb, hM, put⟩ := hs.set_get
 obtain ⟨g1, g2⟩ := Pk hM
 have hkey : ∀ e ∈ es.toList, IsKey d e.key := fun e he => by obtain ⟨k, _, e1, _⟩ := g1 e he; rw [e1]; exact hk k
 rcases findNow_spec (hk k0) es.toList 0 hkey with ⟨h1, h2⟩ | ⟨j, e, h1, h2, h3⟩
 ·refine ⟨{ w with heap := w.heap.setIfInBounds b (.map (es.push { key := kv k0, val := .bool true, born := clock }) (clock + 1)) }, ?_, ?_⟩
  ·simp [Instr.mapUpdate, run_underlying hm, _root_.Go.MapKept.run_getObj_map hb, run_checkKey hd (hk k0), run_findKey hd h1, _root_.Go.MapKept.run_setObj_map _ hb, Result.andThen]
  ·refine put _ _ _ (heap_set hb).1 (fun r hr => (heap_set hb).2 r hr) rfl rfl (fun i => ⟨_, _, Ds _ _, ?_⟩)
   rw [Array.toList_push, List.map_append, List.map_append, hM]; rfl
 ·obtain ⟨k, hin, e1, _⟩ := g1 e (List.mem_of_getElem? h2)
  have : k0 = k := inj _ _ (by rw [← h3, e1])
  exact absurd (by rw [this]; exact hin) hn
theorem Vs {kt et : TypeId} (k0 : κ) (inj : ∀ a b, kv a = kv b → a = b) (hm : P.underlying T = some (.map kt et)) (hd : P.underlying kt = some d) (hk : ∀ k, IsKey d (kv k)) (hn : ¬ k0 ∈ ks) (hx : ev n al x = some (.map (some b))) (hy : ev n al y = some (kv k0)) (hz : ev n al z = some (.bool true)) (hp : Pick L (N7 kv b ks) L')
  (k : J P n ops Q rest (N7 kv b (ks ++ [k0]) :: L') R al) : J P n ops Q (⟨none, .mapUpdate T x y z, ty, pos, aft, none⟩ :: rest) L R al :=
 J.skip rfl rfl (fun B w hs => by
  obtain ⟨w', h1, h2⟩ := Su k0 hm hd hk inj hn (hs.pick hp)
  refine ⟨w', ?_, h2⟩
  show (Instr.mapUpdate T ((mkA n al B).eval x) ((mkA n al B).eval y) ((mkA n al B).eval z) >>= fun _ => Pure.pure Next.skip).run P w = _
  rw [Ax hx, Ax hy, Ax hz, Sem.run_bind, h1]; rfl) k
theorem Vu {kt et : TypeId} (k0 : κ) (inj : ∀ a b, kv a = kv b → a = b) (hm : P.underlying T = some (.map kt et)) (hd : P.underlying kt = some d) (hk : ∀ k, IsKey d (kv k)) (hn : ¬ k0 ∈ ks) (hx : ev n al x = some (.map (some b))) (hy : ev n al y = some (kv k0)) (hz : ev n al z = some (.bool true)) (hp : Pick L (N7 kv b ks) L')
  (k : J P n ops Q rest (N7 kv b (ks ++ [k0]) :: L') R al) : J P n ops Q (⟨none, .insert T x y z, ty, pos, aft, none⟩ :: rest) L R al :=
 J.skip rfl rfl (fun B w hs => by
  obtain ⟨w', h1, h2⟩ := Su k0 hm hd hk inj hn (hs.pick hp)
  refine ⟨w', ?_, h2⟩
  show (Instr.mapUpdate T ((mkA n al B).eval x) ((mkA n al B).eval y) ((mkA n al B).eval z) >>= fun _ => Pure.pure Next.skip).run P w = _
  rw [Ax hx, Ax hy, Ax hz, Sem.run_bind, h1]; rfl) k
theorem Vt {t kt et : TypeId} (hm : P.underlying t = some (.map kt et)) (hx : ev n al x = some (.map (some b))) (hp : Pick L (N7 kv b ks) L')
  (k : J P n ops Q rest L R ((d0, vi (ks.length : Int)) :: al)) : J P n ops Q (⟨some d0, .call { callee := .builtin .len, args := #[x], argTypes := #[t] }, ty, pos, aft, none⟩ :: rest) L R al :=
 J.pure rfl rfl (fun B w hs => by
  obtain ⟨es, clock, hb, hM, _⟩ := (hs.pick hp).set_get
  have hl : es.size = ks.length := by
   have := congrArg List.length hM
   rw [List.length_map, List.length_map, Array.length_toList] at this; exact this
  have e : (Builtin.len_ #[t] ty #[.map (some b)]).run P w = .ok (vi (ks.length : Int)) w := by
   simp [Builtin.len_, run_underlying hm, _root_.Go.MapKept.run_getObj_map hb, goInt, hl]
  have hx' := Ax (B := B) hx
  simp [execOp, resolve, invoke, builtin, hx', e]) k
end
def skv (l : List UInt8) : Value := .string (Mf l)
theorem Lo : ∀ a b : List UInt8, skv a = skv b → a = b := fun a b h => by
 unfold skv Mf at h
 injection h with h
 injection h with h
 exact Array.toList_inj.2 h
theorem Ln : ∀ k, IsKey .string (skv k) := fun k => trivial
set_option maxHeartbeats 1000000
set_option maxRecDepth 8000
variable {L : List Chunk} {R : List Fact} {w : World}
def Iv (x : Chip) (ops : List Op) (p j : Nat) : List Step := if (cor x p).wait.kind = 0 then (ops.take j).map fun o => ⟨1, (p : Int), 0, 0, o⟩ else []
theorem Za {x : Chip} {ops : List Op} {p j : Nat} (h : (cor x p).wait.kind = 0) (hj : j < ops.length) : Iv x ops p (j + 1) = Iv x ops p j ++ [⟨1, (p : Int), 0, 0, ops.getD j zOp⟩] := by
 unfold Iv; rw [if_pos h, if_pos h, Kx zOp hj, List.map_append]; rfl
theorem Zb {x : Chip} {ops : List Op} {p j : Nat} (h : ¬ (cor x p).wait.kind = 0) : Iv x ops p (j + 1) = Iv x ops p j := by unfold Iv; rw [if_neg h, if_neg h]
theorem S7 (x : Chip) (ops : List Op) (p : Nat) : Iv x ops p ops.length = Oh x ops p := by unfold Iv Oh; rw [List.take_length]
theorem S6 (x : Chip) (ops : List Op) (p j : Nat) : (Iv x ops p j).length ≤ ops.length := by
 unfold Iv; split
 ·rw [List.length_map, List.length_take]; omega
 ·exact Nat.zero_le _
def stA (x : Chip) (ops : List Op) (p : Nat) : List Step := (List.range p).flatMap (Oh x ops)
def stB (x : Chip) (ops : List Op) (losses : Bool) (k : Nat) : List Step := stA x ops x.cores.length ++ (List.range k).flatMap (Wr losses)
def stC (x : Chip) (ops : List Op) (losses : Bool) (k : Nat) : List Step := stB x ops losses x.frames.length ++ (List.range k).flatMap (Vg losses)
theorem Sq (x : Chip) (ops : List Op) (losses : Bool) : stC x ops losses (x.cores.length + 1) = Io x ops losses := rfl
theorem Vj (x : Chip) (ops : List Op) (p : Nat) : stA x ops (p + 1) = stA x ops p ++ Oh x ops p := Is _ _
theorem Pi (x : Chip) (ops : List Op) (losses : Bool) (k : Nat) : stB x ops losses (k + 1) = stB x ops losses k ++ Wr losses k := by unfold stB; rw [Is, List.append_assoc]
theorem Ph (x : Chip) (ops : List Op) (losses : Bool) (k : Nat) : stC x ops losses (k + 1) = stC x ops losses k ++ Vg losses k := by unfold stC; rw [Is, List.append_assoc]
theorem Ss (x : Chip) (ops : List Op) (p : Nat) : (stA x ops p).length ≤ p * ops.length := by
 have := Ho (f := Oh x ops) (k := ops.length) (l := List.range p) (fun a _ => by unfold Oh; split <;> simp)
 rw [List.length_range] at this; exact this
theorem Sr (x : Chip) (ops : List Op) (losses : Bool) (k : Nat) : (stB x ops losses k).length ≤ x.cores.length * ops.length + k * 3 := by
 have h1 := Ss x ops x.cores.length
 have := Ho (f := Wr losses) (k := 3) (l := List.range k) (fun a _ => by unfold Wr; cases losses <;> simp)
 rw [List.length_range] at this
 unfold stB; rw [List.length_append]; omega
theorem Sp (x : Chip) (ops : List Op) (losses : Bool) (k : Nat) : (stC x ops losses k).length ≤ x.cores.length * ops.length + x.frames.length * 3 + k := by
 have h1 := Sr x ops losses x.frames.length
 have := Ho (f := Vg losses) (k := 1) (l := List.range k) (fun a _ => by unfold Vg; cases losses <;> simp)
 rw [List.length_range] at this
 unfold stC; rw [List.length_append]; omega
theorem S0 {R : List Fact} {e : Step} (hw : e.wf) : ∀ j, (∀ q ∈ R, q.p j) → RdV [e] [.agg e.cells.toArray] j := fun j _ => ⟨⟨_, rfl, rfl, hw⟩, trivial⟩
theorem V1 {P : Program} {n : Nat} {Q : Exit → Act → World → Prop} {L : List Chunk} {R : List Fact} {al : List (Nat × Value)} {cd : Code} {v : Value} {xs : List Chip} (k : Nat) (hm : sl v xs ∈ R) (hk : k < xs.length) (kk : ∀ a b c, a.oneCell' = true ∧ b.oneCell' = true ∧ c.oneCell' = true → JC P n cd Q L (cF v 3 k [a, b, c] :: sl a (xs.getD k Dd).cores :: sl b (xs.getD k Dd).home :: sl c (xs.getD k Dd).frames :: R) al) : JC P n cd Q L R al := fun B w hs => by
 obtain ⟨m, j, hd, hmw, hjw, hst, hr⟩ := hs
 obtain ⟨cs, h1, h2⟩ := N6 (hr _ hm) (getD_some Dd hk)
 obtain ⟨a, b, c, rfl, ha, hb, hc⟩ := h1
 refine kk a b c ⟨ha.one, hb.one, hc.one⟩ B w ⟨m, j, hd, hmw, hjw, hst, fun g hg => ?_⟩
 simp only [List.mem_cons] at hg
 rcases hg with e | e | e | e | e
 ·rw [e]; exact h2
 ·rw [e]; exact ha
 ·rw [e]; exact hb
 ·rw [e]; exact hc
 ·exact hr g e
theorem X9 {R : List Fact} {a b c : Value} {x : Chip} (ha : sl a x.cores ∈ R) (hb : sl b x.home ∈ R) (hc : sl c x.frames ∈ R) : ∀ j, (∀ q ∈ R, q.p j) → RdV [x] [.agg #[a, b, c]] j := fun j h => ⟨⟨[a, b, c], rfl, a, b, c, rfl, h _ ha, h _ hb, h _ hc⟩, trivial⟩
theorem P5 {cv hv fv vo : Value} {x : Chip} {ops : List Op} {losses : Bool} (hs : St (L) R w) (hcv : sl cv x.cores ∈ R) (hfv : sl fv x.frames ∈ R) (ho : sl vo ops ∈ R) (hx : KX x) (hol : ops.length ≤ 4000000) : Calls Try.prog 7 [.agg #[cv, hv, fv], vo, .bool losses].toArray w (Bl (fun g : Value => g) (fun g => L) (fun g => sl g (Io x ops losses) :: R)) := by
 refine Ah Try.func7 rfl Try.ntmps7 rfl hs ?_
 clear hs
 refine Gm ?_
 refine bx ?_; intro b3
 refine Gb1 ?_
 refine Ga1 ?_
 have hcl := hx.cl
 have hfl := hx.fl
 refine Aa ?_
 refine Ga4 ?_
 refine JC.rowNil 47 Step ?_
 refine Bf (γ := Nat × Value) (fun g => g.1 ≤ x.cores.length) (fun g => row 47 g.2 (stA x ops g.1) :: blk b3 38 [cv, hv, fv] :: L) (fun _ => R) (fun g => [(1, vo), (2, .bool losses), (3, bp b3 0), (7, g.2), (15, cv), (16, vi (x.cores.length : Int)), (17, vi (g.1 : Int))]) (fun g => x.cores.length - g.1) (0, .slice none 0 0) (Nat.zero_le _) alT (fun w hs => Af hs) ?_
 rintro ⟨p, v⟩ hp
 try simp only at hp ⊢
 have hal := Ss x ops p
 have hmul : p * ops.length ≤ 4 * ops.length := Nat.mul_le_mul_right _ (by omega)
 refine ZA ?_
 refine cdy ?_ ?_
 ·intro ht18
  refine Gl ?_
  refine Fd p (v := cv) mm (by omega) (fun hwt uc honeuc => ?_)
  refine ZP ?_
  refine al_ (cs := [.slice none 0 0, vi 0, vi 0, vi 0]) Try.zeroValue57 ?_; intro b9
  refine rn1 ?_
  refine s_B (cs := Core.cells uc (cor x p)) Try.sizeOf57 ?_
  refine Za2 ?_
  refine Bf (γ := Nat × Value) (fun g => g.1 ≤ ops.length) (fun g => row 47 g.2 (stA x ops p ++ Iv x ops p g.1) :: blk b9 57 (Core.cells uc (cor x p)) :: blk b3 38 [cv, hv, fv] :: L) (fun _ => R) (fun g => [(1, vo), (2, .bool losses), (3, bp b3 0), (7, g.2), (8, vi (p : Int)), (9, bp b9 0), (15, cv), (16, vi (x.cores.length : Int)), (17, vi (p : Int)), (22, vo), (23, vi (ops.length : Int)), (24, vi (g.1 : Int))]) (fun g => ops.length - g.1) (0, v) (Nat.zero_le _) alT (fun w hs => by rw [show Iv x ops p 0 = [] by unfold Iv; split <;> rfl, List.append_nil]; exact Af hs) ?_
  rintro ⟨j, v⟩ hj
  try simp only at hj ⊢
  have hol2 := S6 x ops p j
  have hmul2 : (p + 1) * ops.length ≤ 4 * ops.length := Nat.mul_le_mul_right _ (by omega)
  rw [Nat.succ_mul] at hmul2
  refine ZA ?_
  refine cdy ?_ ?_
  ·intro ht25
   refine Gl ?_
   refine JC.open0 (xs := ops) (v := vo) j mm (by omega) (fun how => ?_)
   refine ZB ?_
   refine al_ (cs := zOp.cells) Try.zeroValue33 ?_; intro b11
   refine s_B (cs := (ops.getD j zOp).cells) Try.sizeOf33 ?_
   refine Zag ?_
   refine cdy ?_ ?_
   ·intro ht31
    refine ZG ?_
    refine li (α := Step) [⟨1, (p : Int), 0, 0, (ops.getD j zOp)⟩] Nj rfl (S0 (by unfold Step.wf Ao; exact ⟨by simp only; omega, by simp only; omega, by simp only; omega, by simp only; omega, how⟩)) ?_; intro v36
    refine ap Nj (hb := fun w hs => by have : maxN = 16777216 := rfl; simp only [List.length_cons, List.length_nil, List.length_append]; omega) (k := ?_); intro v37
    refine Ga1 ?_
    refine kp [1, 2, 3, 6, 7, 8, 9, 11, 15, 16, 17, 18, 19, 20, 21, 22, 23, 24, 25, 26, 27, 28, 29, 30, 31, 32, 33, 34, 35, 36, 37, 38] ?_
    refine Zac ?_
    refine A3 (j + 1, v37) (by show j + 1 ≤ ops.length; omega) (by show ops.length - (j + 1) < ops.length - j; omega) alT (fun w hs => ?_)
    try simp only
    rw [Za ht31 (by omega), ← List.append_assoc]; exact Af hs
   ·intro ht31
    refine ZD ?_
    refine A3 (j + 1, v) (by show j + 1 ≤ ops.length; omega) (by show ops.length - (j + 1) < ops.length - j; omega) alT (fun w hs => ?_)
    try simp only
    rw [Zb ht31]; exact Af hs
  ·intro ht25
   refine ZD ?_
   have hje : j = ops.length := by omega
   refine A3 (p + 1, v) (by show p + 1 ≤ x.cores.length; omega) (by show x.cores.length - (p + 1) < x.cores.length - p; omega) alT (fun w hs => ?_)
   try simp only
   rw [hje, S7, ← Vj] at hs
   exact Af hs
 ·intro ht18
  refine Zag ?_
  have hpe : p = x.cores.length := by omega
  have hml : x.cores.length * ops.length ≤ 4 * ops.length := Nat.mul_le_mul_right _ hcl
  refine Bf (γ := Nat × Value) (fun g => g.1 ≤ x.frames.length) (fun g => row 47 g.2 (stB x ops losses g.1) :: blk b3 38 [cv, hv, fv] :: L) (fun _ => R) (fun g => [(2, .bool losses), (3, bp b3 0), (7, g.2), (42, vi (x.frames.length : Int)), (43, vi (g.1 : Int))]) (fun g => x.frames.length - g.1) (0, v) (Nat.zero_le _) alT (fun w hs => by rw [hpe] at hs; unfold stB; rw [List.range_zero, List.flatMap_nil, List.append_nil]; exact Af hs) ?_
  rintro ⟨k, v⟩ hk
  try simp only at hk ⊢
  have hbl := Sr x ops losses k
  refine ZA ?_
  refine cdy ?_ ?_
  ·intro ht44
   refine Gm ?_
   refine Gb2 ?_
   refine rn3 ?_
   refine li (α := Step) [⟨2, 0, (k : Int), 0, zOp⟩] Nj rfl (S0 (by unfold Step.wf Ao zOp; simp only; omega)) ?_; intro v49
   refine ap Nj (hb := fun w hs => by have : maxN = 16777216 := rfl; simp only [List.length_cons, List.length_nil, List.length_append]; omega) (k := ?_); intro v50
   refine Gb1 ?_
   refine Ga1 ?_
   first | (refine cdx (p := ?p5) (hd := ?d5) ?e5 ?_ ?_; case e5 => exact rfl) | (refine Bg (b := ?b5) ?e5 ?_ ?_; case e5 => exact rfl)
   ·intro ht51
    refine Zah ?_
    refine li (α := Step) [⟨3, 0, (k : Int), 0, zOp⟩, ⟨4, 0, (k : Int), 0, zOp⟩] Nj rfl (fun j hj => ⟨⟨_, rfl, rfl, by unfold Step.wf Ao zOp; simp only; omega⟩, ⟨_, rfl, rfl, by unfold Step.wf Ao zOp; simp only; omega⟩, trivial⟩) ?_; intro v57
    refine ap Nj (hb := fun w hs => by have : maxN = 16777216 := rfl; simp only [List.length_cons, List.length_nil, List.length_append]; omega) (k := ?_); intro v58
    refine ZL ?_
    have e1 : Wr losses k = [⟨2, 0, (k : Int), 0, zOp⟩] ++ [⟨3, 0, (k : Int), 0, zOp⟩, ⟨4, 0, (k : Int), 0, zOp⟩] := by unfold Wr; rw [ht51]; rfl
    refine A3 (k + 1, v58) (by show k + 1 ≤ x.frames.length; omega) (by show x.frames.length - (k + 1) < x.frames.length - k; omega) alT (fun w hs => ?_)
    try simp only
    rw [Pi, e1, ← List.append_assoc]; exact Af hs
   ·intro ht51
    refine ZD ?_
    have e1 : Wr losses k = [⟨2, 0, (k : Int), 0, zOp⟩] := by unfold Wr; rw [ht51]; rfl
    refine A3 (k + 1, v50) (by show k + 1 ≤ x.frames.length; omega) (by show x.frames.length - (k + 1) < x.frames.length - k; omega) alT (fun w hs => ?_)
    try simp only
    rw [Pi, e1]; exact Af hs
  ·intro ht44
   refine Gm ?_
   refine Ga5 ?_
   have hke : k = x.frames.length := by omega
   refine Bf (γ := Nat × Value) (fun g => g.1 ≤ x.cores.length + 1) (fun g => row 47 g.2 (stC x ops losses g.1) :: L) (fun _ => R) (fun g => [(2, .bool losses), (7, g.2), (63, vi ((x.cores.length + 1 : Nat) : Int)), (64, vi (g.1 : Int))]) (fun g => x.cores.length + 1 - g.1) (0, v) (Nat.zero_le _) alT (fun w hs => by rw [hke] at hs; unfold stC; rw [List.range_zero, List.flatMap_nil, List.append_nil]; exact Af hs) ?_
   rintro ⟨i, v⟩ hi
   try simp only at hi ⊢
   have hcl2 := Sp x ops losses i
   refine ZA ?_
   refine cdy ?_ ?_
   ·intro ht65
    refine Gm ?_
    refine Gb2 ?_
    refine Ga1 ?_
    first | (refine cdx (p := ?p7) (hd := ?d7) ?e7 ?_ ?_; case e7 => exact rfl) | (refine Bg (b := ?b7) ?e7 ?_ ?_; case e7 => exact rfl)
    ·intro ht67
     refine ZP ?_
     refine li (α := Step) [⟨6, (i : Int), 0, 0, zOp⟩] Nj rfl (S0 (by unfold Step.wf Ao zOp; simp only; omega)) ?_; intro v71
     refine ap Nj (hb := fun w hs => by have : maxN = 16777216 := rfl; simp only [List.length_cons, List.length_nil, List.length_append]; omega) (k := ?_); intro v72
     refine ZL ?_
     have e1 : Vg losses i = [⟨6, (i : Int), 0, 0, zOp⟩] := by unfold Vg; rw [ht67]; rfl
     refine A3 (i + 1, v72) (by show i + 1 ≤ x.cores.length + 1; omega) (by show x.cores.length + 1 - (i + 1) < x.cores.length + 1 - i; omega) alT (fun w hs => ?_)
     try simp only
     rw [Ph, e1]; exact Af hs
    ·intro ht67
     refine ZD ?_
     have e1 : Vg losses i = [] := by unfold Vg; rw [ht67]; rfl
     refine A3 (i + 1, v) (by show i + 1 ≤ x.cores.length + 1; omega) (by show x.cores.length + 1 - (i + 1) < x.cores.length + 1 - i; omega) alT (fun w hs => ?_)
     try simp only
     rw [Ph, e1, List.append_nil]; exact Af hs
   ·intro ht65
    refine Gl ?_
    have hie : i = x.cores.length + 1 := by omega
    refine JC.shut (v := v) pkk ?_
    refine Zac ?_
    rw [← Sq, ← hie]
    exact Be v
theorem Fk {v0 : Value} {b : List UInt8} (hs : St L R w) (h0 : sl v0 b ∈ R) : Calls Try.prog 56 [v0].toArray w (Bl (fun _ : Unit => vi (Jz b)) (fun _ => L) (fun _ => R)) := by
 have hlen := Bv h0 hs
 refine Ah Try.func56 rfl Try.ntmps56 rfl hs ?_
 clear hs
 repeat refine Co ?_
 refine Aa ?_
 refine Zaa ?_
 repeat refine Co ?_
 refine Aa ?_
 refine Zaa ?_
 repeat refine Co ?_
 refine ZQ ?_
 refine r_len Try.underlying60 rfl (by first | exact Dy pkk | exact Et mm) ?_
 refine Dl rfl ?_
 refine Zaq ?_
 repeat refine Co ?_
 refine Ff ?_
 refine Bf (γ := Nat) (fun k => k ≤ b.length) (fun _ => L) (fun _ => R) (fun k => [(0, v0), (6, v0), (7, vi (b.length : Int)), (8, vi (k : Int)), (3, vi ((Ky b k).toNat : Int))]) (fun k => b.length - k) 0 (by omega) ⟨rfl, rfl, rfl, rfl, rfl, trivial⟩ (fun w hs => hs) ?_
 intro k hk
 repeat refine Co ?_
 refine Aa ?_
 refine H3 rfl rfl Mb ?_
 refine Zaq ?_
 repeat refine Co ?_
 refine Bg rfl (fun ht9 => ?_) (fun ht9 => ?_)
 ·
  try simp only [decide_eq_true_eq, decide_eq_false_iff_not, beq_iff_eq, bne_iff_ne, beq_eq_false_iff_ne, bne_eq_false_iff_eq, Int.not_lt, Int.not_le, Bool.not_eq_true, ne_eq, Bool.not_eq_eq_eq_not, Bool.not_true, Bool.not_false] at ht9
  refine Gt ?_
  refine A2 ?_
  repeat refine Co ?_
  refine Ff ?_
  repeat refine Co ?_
  refine Aa ?_
  first | refine Jc Dv rfl rfl (by first | exact Dy pkk | exact Et mm) (by first | assumption | omega | (simp only [List.length_nil, List.length_cons, List.length_append, List.length_take, List.length_drop, List.length_set, List.length_replicate]; omega)) ?_ | refine Hm Dv rfl rfl (by first | exact Dy pkk | exact Et mm) (by first | assumption | omega | (simp only [List.length_nil, List.length_cons, List.length_append, List.length_take, List.length_drop, List.length_set, List.length_replicate]; omega)) (by first | assumption | omega | (simp only [List.length_nil, List.length_cons, List.length_append, List.length_take, List.length_drop, List.length_set, List.length_replicate]; omega)) ?_
  first | refine Oe Try.isAgg5 rfl (Bd pkk (by exact rfl)) ?_ | refine Oe Try.isAgg5 rfl (Lh pkk (by first | assumption | omega | (simp only [List.length_nil, List.length_cons, List.length_append, List.length_take, List.length_drop, List.length_set, List.length_replicate]; omega))) ?_ | refine Oe Try.isAgg5 rfl (Qb mm (by first | assumption | omega | (simp only [List.length_nil, List.length_cons, List.length_append, List.length_take, List.length_drop, List.length_set, List.length_replicate]; omega))) ?_
  refine Zaa ?_
  repeat refine Co ?_
  refine ZQ ?_
  refine Dl rfl ?_
  refine r_p (Aq Try.underlying5 Try.underlying3 rfl (Bh _)) rfl ?_
  refine Od rfl rfl (Uy (s := 8) (by omega) (by have := (b.getD k 0).toNat_lt; omega)) ?_
  refine H3 rfl rfl (Ym (lt63 _) (by have := (b.getD k 0).toNat_lt; omega)) ?_
  refine Zaa ?_
  repeat refine Co ?_
  refine ZQ ?_
  refine Zaq ?_
  refine Ff ?_
  refine Bf (γ := Nat) (fun j => j ≤ 8) (fun _ => L) (fun _ => R) (fun j => [(0, v0), (6, v0), (7, vi (b.length : Int)), (8, vi (k : Int)), (17, vi (j : Int)), (3, vi ((Hs j (Ky b k ^^^ (Em (b.getD k 0) <<< 8))).toNat : Int))]) (fun j => 8 - j) 0 (by omega) ⟨rfl, rfl, rfl, rfl, rfl, congrArg (fun z : Nat => some (vi (z : Int))) (crc_in _ _), trivial⟩ (fun w hs => hs) ?_
  intro j hj
  generalize hx : Hs j (Ky b k ^^^ (Em (b.getD k 0) <<< 8)) = x
  have hcb : Hs (j + 1) (Ky b k ^^^ (Em (b.getD k 0) <<< 8)) = Hi x := by rw [← hx]; rfl
  repeat refine Co ?_
  refine Aa ?_
  refine H3 rfl rfl Mb ?_
  refine Zaq ?_
  repeat refine Co ?_
  refine Bg rfl (fun ht18 => ?_) (fun ht18 => ?_)
  ·
   try simp only [decide_eq_true_eq, decide_eq_false_iff_not, beq_iff_eq, bne_iff_ne, beq_eq_false_iff_ne, bne_eq_false_iff_eq, Int.not_lt, Int.not_le, Bool.not_eq_true, ne_eq, Bool.not_eq_eq_eq_not, Bool.not_true, Bool.not_false] at ht18
   refine Gt ?_
   refine A2 ?_
   repeat refine Co ?_
   refine Ff ?_
   repeat refine Co ?_
   refine ZQ ?_
   refine H3 rfl rfl (U0 (b := 32768) (lt63 _) (by omega)) ?_
   refine H3 rfl rfl Xx ?_
   refine Zaq ?_
   repeat refine Co ?_
   refine Bg rfl (fun ht21 => ?_) (fun ht21 => ?_)
   ·
    try simp only [decide_eq_true_eq, decide_eq_false_iff_not, beq_iff_eq, bne_iff_ne, beq_eq_false_iff_ne, bne_eq_false_iff_eq, Int.not_lt, Int.not_le, Bool.not_eq_true, ne_eq, Bool.not_eq_eq_eq_not, Bool.not_true, Bool.not_false] at ht21
    replace ht21 : x.toNat &&& 32768 ≠ 0 := by intro h; apply ht21; rw [h]; rfl
    refine ZQ ?_
    refine Od rfl rfl (Uy (s := 1) (by omega) (by have := x.isLt; omega)) ?_
    refine H3 rfl rfl (Ym (b := 4129) (by have := x.isLt; omega) (by omega)) ?_
    refine Zaa ?_
    refine ZQ ?_
    refine H3 rfl rfl (U0 (b := 65535) (Pc (by have := x.isLt; omega) (by omega)) (by omega)) ?_
    refine C7 rfl ?_
    refine J.nil ?_
    refine ZbB ?_
    refine A3 (j + 1) (by omega) (by omega) ⟨rfl, rfl, rfl, rfl, rfl, ?_, trivial⟩ (fun w hs => hs)
    rw [hcb]; exact congrArg (fun z : Nat => some (vi (z : Int))) (crc_hi x ht21)
   ·
    try simp only [decide_eq_true_eq, decide_eq_false_iff_not, beq_iff_eq, bne_iff_ne, beq_eq_false_iff_ne, bne_eq_false_iff_eq, Int.not_lt, Int.not_le, Bool.not_eq_true, ne_eq, Bool.not_eq_eq_eq_not, Bool.not_true, Bool.not_false] at ht21
    replace ht21 : x.toNat &&& 32768 = 0 := by omega
    refine ZQ ?_
    refine Od rfl rfl (Uy (s := 1) (by omega) (by have := x.isLt; omega)) ?_
    refine Zaa ?_
    refine ZQ ?_
    refine H3 rfl rfl (U0 (b := 65535) (by have := x.isLt; omega) (by omega)) ?_
    refine C7 rfl ?_
    refine J.nil ?_
    refine ZbB ?_
    refine A3 (j + 1) (by omega) (by omega) ⟨rfl, rfl, rfl, rfl, rfl, ?_, trivial⟩ (fun w hs => hs)
    rw [hcb]; exact congrArg (fun z : Nat => some (vi (z : Int))) (crc_lo x ht21)
  ·
   try simp only [decide_eq_true_eq, decide_eq_false_iff_not, beq_iff_eq, bne_iff_ne, beq_eq_false_iff_ne, bne_eq_false_iff_eq, Int.not_lt, Int.not_le, Bool.not_eq_true, ne_eq, Bool.not_eq_eq_eq_not, Bool.not_true, Bool.not_false] at ht18
   refine Iy ?_
   repeat (first | refine Ej ?_ | refine Gs rfl ?_)
   refine Ek ?_
   refine ZbB ?_
   refine A3 (k + 1) (by omega) (by omega) ⟨rfl, rfl, rfl, rfl, ?_, trivial⟩ (fun w hs => hs)
   have h8 : j = 8 := by omega
   subst h8
   rw [Qh (by omega), ← hx]; rfl
 ·
  try simp only [decide_eq_true_eq, decide_eq_false_iff_not, beq_iff_eq, bne_iff_ne, beq_eq_false_iff_ne, bne_eq_false_iff_eq, Int.not_lt, Int.not_le, Bool.not_eq_true, ne_eq, Bool.not_eq_eq_eq_not, Bool.not_true, Bool.not_false] at ht9
  refine Iy ?_
  repeat (first | refine Ej ?_ | refine Gs rfl ?_)
  refine Ek ?_
  refine A2 ?_
  repeat refine Co ?_
  refine ZQ ?_
  refine Zaa ?_
  refine Jf ?_
  repeat (first | refine D4 ?_ | refine Df ?_)
  have hkl : k = b.length := by omega
  subst hkl
  rw [sum_vi]
  refine A0 (.inr rfl) (fun B w _ => res1 rfl rfl B w) (fun w hs => ⟨(), ?_, Af hs⟩)
  rfl
theorem Jj {P : Program} {n : Nat} {Q : Exit → Act → World → Prop} {L : List Chunk} {R : List Fact} {al : List (Nat × Value)} {c : Code} {v : Value} {b : List UInt8} (i : Nat) (hm : sl v b ∈ R) (hi : i < b.length) (k : JC P n c Q L (cF v 1 i [vb (b.getD i 0)] :: R) al) : JC P n c Q L R al := JC.open0 (xs := b) i hm hi (fun _ => k)
theorem Pick.perm {L L' : List Chunk} {c : Chunk} (h : Pick L c L') : L.Perm (c :: L') := by
 induction h with
 | hd => exact .refl _
 | tl _ ih => exact (ih.cons _).trans (.swap ..)
theorem b_subE {P : Program} {T : TypeId} {a b r : Int} (h : a - b = r) (h1 : -9223372036854775808 ≤ r) (h2 : r ≤ 9223372036854775807) (w : World) : (binOp .sub T (vi a) (vi b)).run P w = .ok (vi r) w := by subst h; exact b_sub h1 h2 w
theorem Cl {L1 : List Chunk} {n : Int} {c : Config} {b2 : Nat} (hs : St (L) R w) (hp : Pick L (blk b2 23 c.cells) L1) : Calls Try.prog 67 [vi n, bp b2 0].toArray w (Bl (fun _ : Unit => .bool (decide (0 ≤ n ∧ n ≤ c.cores))) (fun _ => L) (fun _ => R)) := by
 refine Ah Try.func67 rfl Try.ntmps67 rfl hs ?_
 clear hs
 refine ZA ?_
 refine JC.pick hp ?_
 rcases (show (n < 0) ∨ (0 ≤ n ∧ n ≤ c.cores) ∨ (0 ≤ n ∧ c.cores < n) from by omega) with hc | hc | hc
 ·refine ZC ?_
  refine Ea ?_
  refine Ga7 ?_
  exact ZcK
 ·refine ZC ?_
  refine Jk ?_
  refine ZE ?_
  refine oleqT ?_
  refine Ga2 ?_
  exact ZcK
 ·refine ZC ?_
  refine Jk ?_
  refine ZE ?_
  refine oleqF ?_
  refine Ga2 ?_
  exact ZcK
theorem Wp {c : Config} {m : Msg} (hs : St (L) R w) : Calls Try.prog 57 [.agg c.cells.toArray, .agg m.cells.toArray].toArray w (Bl (fun _ : Unit => vi (Bc c m)) (fun _ => L) (fun _ => R)) := by
 refine Ah Try.func57 rfl Try.ntmps57 rfl hs ?_
 clear hs
 refine Gm ?_
 refine bx ?_; intro b2
 refine bx ?_; intro b3
 refine Gb1 ?_
 refine K9 (vs := [bp b2 0]) rfl ?_
 refine Ga1 ?_
 refine kp [2, 3, 4, 5, 7, 8, 9, 10, 11, 12, 13, 14, 15] ?_
 refine Cx 7 (.bool (decide ((m.kind < 1) ∨ (11 < m.kind)))) ?_ ?_
 ·rcases (show ((m.kind < 1)) ∨ (¬ (m.kind < 1) ∧ (11 < m.kind)) ∨ (¬ (m.kind < 1) ∧ ¬ (11 < m.kind)) from by omega) with hm | hm | hm
  ·refine Zat ?_
   refine Ga6 ?_
   exact Zc9
  ·refine ZaV ?_
   refine Ga2 ?_
   exact Zc9
  ·refine Zar ?_
   refine Ga2 ?_
   exact ZcI
 ·refine A2 ?_
  first | (refine cdx (p := ?p1) (hd := ?d1) ?e1 ?_ ?_; case e1 => exact rfl) | (refine Bg (b := ?b1) ?e1 ?_ ?_; case e1 => exact rfl)
  ·intro ht7
   refine ZA ?_
   have er : Bc c m = 1 := by unfold Bc; rw [if_pos (by omega)]
   exact ZcJ
  ·intro ht7
   refine Gl ?_
   refine ZbR ?_
   refine Cx 16 (.bool (decide (m.src < 0 ∨ c.cores < m.src ∨ m.dst < 0 ∨ c.cores < m.dst ∨ m.line < 0 ∨ c.lines ≤ m.line ∨ m.serial < 0 ∨ 65535 < m.serial ∨ m.turn < 0 ∨ 65535 < m.turn ∨ m.value < 0 ∨ 255 < m.value))) ?_ ?_
   ·rcases (show ((¬ (0 ≤ m.src ∧ m.src ≤ c.cores))) ∨ ((0 ≤ m.src ∧ m.src ≤ c.cores) ∧ (¬ (0 ≤ m.dst ∧ m.dst ≤ c.cores))) ∨ ((0 ≤ m.src ∧ m.src ≤ c.cores) ∧ (0 ≤ m.dst ∧ m.dst ≤ c.cores) ∧ (m.line < 0)) ∨ ((0 ≤ m.src ∧ m.src ≤ c.cores) ∧ (0 ≤ m.dst ∧ m.dst ≤ c.cores) ∧ ¬ (m.line < 0) ∧ (c.lines ≤ m.line)) ∨ ((0 ≤ m.src ∧ m.src ≤ c.cores) ∧ (0 ≤ m.dst ∧ m.dst ≤ c.cores) ∧ ¬ (m.line < 0) ∧ ¬ (c.lines ≤ m.line) ∧ (m.serial < 0)) ∨ ((0 ≤ m.src ∧ m.src ≤ c.cores) ∧ (0 ≤ m.dst ∧ m.dst ≤ c.cores) ∧ ¬ (m.line < 0) ∧ ¬ (c.lines ≤ m.line) ∧ ¬ (m.serial < 0) ∧ (65535 < m.serial)) ∨ ((0 ≤ m.src ∧ m.src ≤ c.cores) ∧ (0 ≤ m.dst ∧ m.dst ≤ c.cores) ∧ ¬ (m.line < 0) ∧ ¬ (c.lines ≤ m.line) ∧ ¬ (m.serial < 0) ∧ ¬ (65535 < m.serial) ∧ (m.turn < 0)) ∨ ((0 ≤ m.src ∧ m.src ≤ c.cores) ∧ (0 ≤ m.dst ∧ m.dst ≤ c.cores) ∧ ¬ (m.line < 0) ∧ ¬ (c.lines ≤ m.line) ∧ ¬ (m.serial < 0) ∧ ¬ (65535 < m.serial) ∧ ¬ (m.turn < 0) ∧ (65535 < m.turn)) ∨ ((0 ≤ m.src ∧ m.src ≤ c.cores) ∧ (0 ≤ m.dst ∧ m.dst ≤ c.cores) ∧ ¬ (m.line < 0) ∧ ¬ (c.lines ≤ m.line) ∧ ¬ (m.serial < 0) ∧ ¬ (65535 < m.serial) ∧ ¬ (m.turn < 0) ∧ ¬ (65535 < m.turn) ∧ (m.value < 0)) ∨ ((0 ≤ m.src ∧ m.src ≤ c.cores) ∧ (0 ≤ m.dst ∧ m.dst ≤ c.cores) ∧ ¬ (m.line < 0) ∧ ¬ (c.lines ≤ m.line) ∧ ¬ (m.serial < 0) ∧ ¬ (65535 < m.serial) ∧ ¬ (m.turn < 0) ∧ ¬ (65535 < m.turn) ∧ ¬ (m.value < 0) ∧ (255 < m.value)) ∨ ((0 ≤ m.src ∧ m.src ≤ c.cores) ∧ (0 ≤ m.dst ∧ m.dst ≤ c.cores) ∧ ¬ (m.line < 0) ∧ ¬ (c.lines ≤ m.line) ∧ ¬ (m.serial < 0) ∧ ¬ (65535 < m.serial) ∧ ¬ (m.turn < 0) ∧ ¬ (65535 < m.turn) ∧ ¬ (m.value < 0) ∧ ¬ (255 < m.value)) from by grind) with hm | hm | hm | hm | hm | hm | hm | hm | hm | hm | hm
    ·refine ZP ?_
     refine Cc (γ := Unit) (val := fun _ => .bool (decide (0 ≤ m.src ∧ m.src ≤ c.cores))) (caps := [bp b2 0]) (vs := [vi m.src]) rfl Try.call67 rfl (fun w hs => Cl hs pkk) ?_; intro _
     refine ob (H4 rfl (decide_eq_false (by omega))) ?_
     refine rn32 ?_
     refine Ga18 ?_
     refine An ?_ (fun w hs => hs)
     exact meT
    ·refine Zai ?_
     refine Cc (γ := Unit) (val := fun _ => .bool (decide (0 ≤ m.src ∧ m.src ≤ c.cores))) (caps := [bp b2 0]) (vs := [vi m.src]) rfl Try.call67 rfl (fun w hs => Cl hs pkk) ?_; intro _
     refine ZN ?_
     refine Cc (γ := Unit) (val := fun _ => .bool (decide (0 ≤ m.dst ∧ m.dst ≤ c.cores))) (caps := [bp b2 0]) (vs := [vi m.dst]) rfl Try.call67 rfl (fun w hs => Cl hs pkk) ?_; intro _
     refine gy ?_
     refine ob (H4 rfl (decide_eq_false (by omega))) ?_
     refine rn32 ?_
     refine Ga12 ?_
     refine An ?_ (fun w hs => hs)
     exact meT
    ·refine Zai ?_
     refine Cc (γ := Unit) (val := fun _ => .bool (decide (0 ≤ m.src ∧ m.src ≤ c.cores))) (caps := [bp b2 0]) (vs := [vi m.src]) rfl Try.call67 rfl (fun w hs => Cl hs pkk) ?_; intro _
     refine ZN ?_
     refine Cc (γ := Unit) (val := fun _ => .bool (decide (0 ≤ m.dst ∧ m.dst ≤ c.cores))) (caps := [bp b2 0]) (vs := [vi m.dst]) rfl Try.call67 rfl (fun w hs => Cl hs pkk) ?_; intro _
     refine gy ?_
     refine ZN ?_
     refine E4 ?_
     refine rn32 ?_
     refine Ga7 ?_
     refine An ?_ (fun w hs => hs)
     exact meT
    ·refine Zai ?_
     refine Cc (γ := Unit) (val := fun _ => .bool (decide (0 ≤ m.src ∧ m.src ≤ c.cores))) (caps := [bp b2 0]) (vs := [vi m.src]) rfl Try.call67 rfl (fun w hs => Cl hs pkk) ?_; intro _
     refine ZN ?_
     refine Cc (γ := Unit) (val := fun _ => .bool (decide (0 ≤ m.dst ∧ m.dst ≤ c.cores))) (caps := [bp b2 0]) (vs := [vi m.dst]) rfl Try.call67 rfl (fun w hs => Cl hs pkk) ?_; intro _
     refine gy ?_
     refine ZN ?_
     refine Zbm ?_
     refine Ga32 ?_
     refine An ?_ (fun w hs => hs)
     exact meT
    ·refine Zai ?_
     refine Cc (γ := Unit) (val := fun _ => .bool (decide (0 ≤ m.src ∧ m.src ≤ c.cores))) (caps := [bp b2 0]) (vs := [vi m.src]) rfl Try.call67 rfl (fun w hs => Cl hs pkk) ?_; intro _
     refine ZN ?_
     refine Cc (γ := Unit) (val := fun _ => .bool (decide (0 ≤ m.dst ∧ m.dst ≤ c.cores))) (caps := [bp b2 0]) (vs := [vi m.dst]) rfl Try.call67 rfl (fun w hs => Cl hs pkk) ?_; intro _
     refine gy ?_
     refine ZN ?_
     refine Zaj ?_
     refine ZE ?_
     refine E4 ?_
     refine Ga27 ?_
     refine An ?_ (fun w hs => hs)
     exact meT
    ·refine Zai ?_
     refine Cc (γ := Unit) (val := fun _ => .bool (decide (0 ≤ m.src ∧ m.src ≤ c.cores))) (caps := [bp b2 0]) (vs := [vi m.src]) rfl Try.call67 rfl (fun w hs => Cl hs pkk) ?_; intro _
     refine ZN ?_
     refine Cc (γ := Unit) (val := fun _ => .bool (decide (0 ≤ m.dst ∧ m.dst ≤ c.cores))) (caps := [bp b2 0]) (vs := [vi m.dst]) rfl Try.call67 rfl (fun w hs => Cl hs pkk) ?_; intro _
     refine gy ?_
     refine ZN ?_
     refine Zaj ?_
     refine Za0 ?_
     refine Ha ?_
     refine Ga22 ?_
     refine An ?_ (fun w hs => hs)
     exact meT
    ·refine Zai ?_
     refine Cc (γ := Unit) (val := fun _ => .bool (decide (0 ≤ m.src ∧ m.src ≤ c.cores))) (caps := [bp b2 0]) (vs := [vi m.src]) rfl Try.call67 rfl (fun w hs => Cl hs pkk) ?_; intro _
     refine ZN ?_
     refine Cc (γ := Unit) (val := fun _ => .bool (decide (0 ≤ m.dst ∧ m.dst ≤ c.cores))) (caps := [bp b2 0]) (vs := [vi m.dst]) rfl Try.call67 rfl (fun w hs => Cl hs pkk) ?_; intro _
     refine ZaT ?_
     refine ZE ?_
     refine E4 ?_
     refine Ga17 ?_
     refine An ?_ (fun w hs => hs)
     exact meT
    ·refine Zai ?_
     refine Cc (γ := Unit) (val := fun _ => .bool (decide (0 ≤ m.src ∧ m.src ≤ c.cores))) (caps := [bp b2 0]) (vs := [vi m.src]) rfl Try.call67 rfl (fun w hs => Cl hs pkk) ?_; intro _
     refine ZN ?_
     refine Cc (γ := Unit) (val := fun _ => .bool (decide (0 ≤ m.dst ∧ m.dst ≤ c.cores))) (caps := [bp b2 0]) (vs := [vi m.dst]) rfl Try.call67 rfl (fun w hs => Cl hs pkk) ?_; intro _
     refine ZaT ?_
     refine Za0 ?_
     refine Ha ?_
     refine Ga12 ?_
     refine An ?_ (fun w hs => hs)
     exact meT
    ·refine Zai ?_
     refine Cc (γ := Unit) (val := fun _ => .bool (decide (0 ≤ m.src ∧ m.src ≤ c.cores))) (caps := [bp b2 0]) (vs := [vi m.src]) rfl Try.call67 rfl (fun w hs => Cl hs pkk) ?_; intro _
     refine ZN ?_
     refine Cc (γ := Unit) (val := fun _ => .bool (decide (0 ≤ m.dst ∧ m.dst ≤ c.cores))) (caps := [bp b2 0]) (vs := [vi m.dst]) rfl Try.call67 rfl (fun w hs => Cl hs pkk) ?_; intro _
     refine ZaT ?_
     refine Zas ?_
     refine ZE ?_
     refine E4 ?_
     refine Ga7 ?_
     refine An ?_ (fun w hs => hs)
     exact meT
    ·refine Zai ?_
     refine Cc (γ := Unit) (val := fun _ => .bool (decide (0 ≤ m.src ∧ m.src ≤ c.cores))) (caps := [bp b2 0]) (vs := [vi m.src]) rfl Try.call67 rfl (fun w hs => Cl hs pkk) ?_; intro _
     refine ZN ?_
     refine Cc (γ := Unit) (val := fun _ => .bool (decide (0 ≤ m.dst ∧ m.dst ≤ c.cores))) (caps := [bp b2 0]) (vs := [vi m.dst]) rfl Try.call67 rfl (fun w hs => Cl hs pkk) ?_; intro _
     refine ZaT ?_
     refine Zas ?_
     refine Za0 ?_
     refine Ha ?_
     refine Ga2 ?_
     refine An ?_ (fun w hs => hs)
     exact meT
    ·refine Zai ?_
     refine Cc (γ := Unit) (val := fun _ => .bool (decide (0 ≤ m.src ∧ m.src ≤ c.cores))) (caps := [bp b2 0]) (vs := [vi m.src]) rfl Try.call67 rfl (fun w hs => Cl hs pkk) ?_; intro _
     refine ZN ?_
     refine Cc (γ := Unit) (val := fun _ => .bool (decide (0 ≤ m.dst ∧ m.dst ≤ c.cores))) (caps := [bp b2 0]) (vs := [vi m.dst]) rfl Try.call67 rfl (fun w hs => Cl hs pkk) ?_; intro _
     refine ZaT ?_
     refine Zas ?_
     refine Zas ?_
     refine Ga2 ?_
     refine An ?_ (fun w hs => hs)
     exact meF
   ·refine A2 ?_
    first | (refine cdx (p := ?p2) (hd := ?d2) ?e2 ?_ ?_; case e2 => exact rfl) | (refine Bg (b := ?b2) ?e2 ?_ ?_; case e2 => exact rfl)
    ·intro ht16
     refine Gl ?_
     refine kp [2, 3, 4] ?_
     refine Aa ?_
     refine Ga1 ?_
     have er : Bc c m = 3 := by unfold Bc; rw [if_neg (by omega), if_pos ht16]
     exact ZcJ
    ·intro ht16
     refine Gl ?_
     refine kp [2, 3, 4, 71, 72, 73, 74, 75, 76, 77, 78, 79, 80, 81, 82] ?_
     refine Aa ?_
     refine rn10 ?_
     refine ob (p_bool rfl rfl (Xy Try.underlying4)) ?_
     refine Ga1 ?_
     refine Bg (b := ?b3) ?e3 ?_ ?_; case e3 => exact rfl
     ·intro ht71
      refine ZA ?_
      have er : Bc c m = 6 := by unfold Bc; rw [if_neg (by omega), if_neg ht16, if_pos (decide_eq_decide.1 (beq_iff_eq.1 ht71))]
      exact ZcJ
     ·intro ht71
      refine ZA ?_
      have er : Bc c m = 0 := by unfold Bc; rw [if_neg (by omega), if_neg ht16, if_neg (fun h => by rw [beq_iff_eq.2 (decide_eq_decide.2 h)] at ht71; cases ht71)]
      exact ZcJ
theorem P1 {v1 : Value} {b : List UInt8} {c : Config} (hs : St (L) R w) (h1 : sl v1 b ∈ R) : Calls Try.prog 39 [.agg c.cells.toArray, v1].toArray w (Bl (fun _ : Unit => .tuple #[.agg (Ae c b).1.cells.toArray, vi (Ae c b).2]) (fun _ => L) (fun _ => R)) := by
 have hlen := Bv h1 hs
 have B : ∀ i, (b.getD i 0).toNat < 256 := fun i => (b.getD i 0).toNat_lt
 refine Ah Try.func39 rfl Try.ntmps39 rfl hs ?_
 clear hs
 refine Gm ?_
 refine bx ?_; intro b2
 refine al_ (cs := zMsg.cells) Try.zeroValue105 ?_; intro b4
 refine Gb1 ?_
 refine Ga3 ?_
 refine cdy ?_ ?_
 ·intro ht11
  refine Gm ?_
  refine Zbk ?_
  have er : Ae c b = (zMsg, 2) := by
   unfold Ae
   rw [if_pos (by omega)]
  exact Zdh
 ·intro ht11
  refine Gl ?_
  have B0 := B 0; have B1 := B 1; have B2 := B 2; have B3 := B 3; have B4 := B 4; have B5 := B 5; have B6 := B 6; have B7 := B 7; have B8 := B 8; have B9 := B 9; have B10 := B 10; have B11 := B 11
  refine ZB ?_
  refine ob (Ai rfl rfl (b_subE (r := ((10 : Nat) : Int)) (by omega) (by omega) (by omega))) ?_
  refine Ga1 ?_
  refine Jj (v := v1) (b := b) 10 mm (by omega) ?_
  refine Jj (v := v1) (b := b) 11 mm (by omega) ?_
  refine ZU ?_
  refine dj ?_
  refine W8 (α := UInt8) (xs := b) (lo := 0) (hi := 10) Dv (fun _ => rfl) mm (fun _ => rfl) (fun _ => rfl) (by omega) (by omega) (fun _ _ _ _ => rfl) ?_
  refine dj ?_
  refine Yj (γ := Unit) (val := fun _ => vi (Jz (b.take 10))) (F := fun _ => []) (C := fun _ => []) Try.call56 (fun _ => rfl) (fun _ _ _ _ => rfl) (fun ρ L R w hd hs => Fk hs (hd.dep (it := ⟨2, _, _, _, _⟩) (by repeat (first | exact List.Mem.head _ | refine List.Mem.tail _ ?_)) ⟨9, rfl⟩ (List.Mem.head _))) ?_
  refine dn2 ?_
  refine djc (fun _ _ => Ik (i := 10) Dv) ?_
  refine dj ?_
  first | refine dc (fun _ _ => Dm Try.isAgg5) ?_ | refine dp (fun _ _ => Dm Try.isAgg5) ?_
  refine dj ?_
  first | refine dc (fun _ _ => Aq Try.underlying5 Try.underlying3 rfl (Bh _)) ?_ | refine dp (fun _ _ => Aq Try.underlying5 Try.underlying3 rfl (Bh _)) ?_
  refine djc (fun _ _ => Ai rfl rfl (Ma (by omega) (by omega))) ?_
  refine dn2 ?_
  refine dj ?_
  refine dc (fun _ _ => Ai rfl rfl (v := vi ((11 : Nat) : Int)) (b_addN (a := 10) (b := 1) (by omega))) ?_
  refine djc (fun _ _ => Ik (i := 11) Dv) ?_
  refine dj ?_
  first | refine dc (fun _ _ => Dm Try.isAgg5) ?_ | refine dp (fun _ _ => Dm Try.isAgg5) ?_
  refine dj ?_
  first | refine dc (fun _ _ => Aq Try.underlying5 Try.underlying3 rfl (Bh _)) ?_ | refine dp (fun _ _ => Aq Try.underlying5 Try.underlying3 rfl (Bh _)) ?_
  refine djc (fun _ _ => Ai rfl rfl (O6 (by omega) (by omega) (by omega) (by omega))) ?_
  refine dj ?_
  first | refine dc (fun _ _ => Ei Sa) ?_ | refine dp (fun _ _ => Ei Sa) ?_
  refine dnl ?_; intro ρ
  refine Gl ?_
  refine cdy ?_ ?_
  ·intro ht33
   refine Gm ?_
   refine Zbk ?_
   have er : Ae c b = (zMsg, 7) := by
    unfold Ae
    rw [if_neg (by omega), if_pos (by show Jz (b.take 10) ≠ _; unfold at8; omega)]
   exact Zdh
  ·intro ht33
   refine Gl ?_
   refine Jj (v := v1) (b := b) 8 mm (by omega) ?_
   refine Jj (v := v1) (b := b) 9 mm (by omega) ?_
   refine ZC ?_
   refine ob (Ik (i := 8) Dv) ?_
   refine rn3 ?_
   refine jgx (t := 39) (p := ?p3) (hd := ?d3) ?e3 ?_ ?_; case e3 => exact rfl
   ·intro ht39
    refine Gc5 ?_
    exact ZcL
   ·intro ht39
    refine rn1 ?_
    refine gy ?_
    refine ob (Ik (i := 9) Dv) ?_
    refine Ga3 ?_
    refine cdy ?_ ?_
    ·intro ht44
     refine Gl ?_
     exact ZcL
    ·intro ht44
     refine Gl ?_
     refine Jj (v := v1) (b := b) 0 mm (by omega) ?_
     refine Jj (v := v1) (b := b) 1 mm (by omega) ?_
     refine Jj (v := v1) (b := b) 2 mm (by omega) ?_
     refine Jj (v := v1) (b := b) 3 mm (by omega) ?_
     refine Jj (v := v1) (b := b) 4 mm (by omega) ?_
     refine Jj (v := v1) (b := b) 5 mm (by omega) ?_
     refine Jj (v := v1) (b := b) 6 mm (by omega) ?_
     refine Jj (v := v1) (b := b) 7 mm (by omega) ?_
     refine kp [1, 2, 4, 5, 7, 46, 47, 48, 49, 50, 51, 52, 53, 54, 55, 56, 57, 58, 59, 60, 61, 62, 63, 64, 65, 66, 67, 68, 69, 70, 71, 72, 73, 74, 75, 76, 77, 78, 79, 80, 81, 82, 83, 84, 85, 86, 87, 88, 89, 90, 91, 92] ?_
     refine cq_ (blk b4 105 zMsg.cells :: blk b2 23 c.cells :: L) ?_
     refine jd_ (fun ρ S => blk b4 105 zMsg.cells :: blk b2 23 c.cells :: ((bif S 47 then [blk (Gh.dec (γ := Nat) (ρ 47)) 105 (bif S 48 then (Hb b).cells else zMsg.cells)] else []) ++ (L))) ?_
     refine dn1 ?_
     first | refine epc (fun _ _ => Ik (i := 0) Dv) ?_ | refine epp (fun _ _ => Ik (i := 0) Dv) ?_
     first | refine epc (fun _ _ => Dm Try.isAgg5) ?_ | refine epp (fun _ _ => Dm Try.isAgg5) ?_
     first | refine epc (fun _ _ => Aq Try.underlying5 Try.underlying3 rfl (Bh _)) ?_ | refine epp (fun _ _ => Aq Try.underlying5 Try.underlying3 rfl (Bh _)) ?_
     refine dn1 ?_
     first | refine epc (fun _ _ => Ik (i := 1) Dv) ?_ | refine epp (fun _ _ => Ik (i := 1) Dv) ?_
     first | refine epc (fun _ _ => Dm Try.isAgg5) ?_ | refine epp (fun _ _ => Dm Try.isAgg5) ?_
     refine epc (fun _ _ => Ai rfl rfl Aci) ?_
     refine epc (fun _ _ => Aq Try.underlying5 Try.underlying3 rfl (Rx _)) ?_
     refine dn1 ?_
     first | refine epc (fun _ _ => Ik (i := 1) Dv) ?_ | refine epp (fun _ _ => Ik (i := 1) Dv) ?_
     first | refine epc (fun _ _ => Dm Try.isAgg5) ?_ | refine epp (fun _ _ => Dm Try.isAgg5) ?_
     refine epc (fun _ _ => Ai rfl rfl X0) ?_
     refine epc (fun _ _ => Aq Try.underlying5 Try.underlying3 rfl (Rw _)) ?_
     refine dn1 ?_
     first | refine epc (fun _ _ => Ik (i := 2) Dv) ?_ | refine epp (fun _ _ => Ik (i := 2) Dv) ?_
     first | refine epc (fun _ _ => Dm Try.isAgg5) ?_ | refine epp (fun _ _ => Dm Try.isAgg5) ?_
     first | refine epc (fun _ _ => Aq Try.underlying5 Try.underlying3 rfl (Bh _)) ?_ | refine epp (fun _ _ => Aq Try.underlying5 Try.underlying3 rfl (Bh _)) ?_
     refine dn1 ?_
     first | refine epc (fun _ _ => Ik (i := 3) Dv) ?_ | refine epp (fun _ _ => Ik (i := 3) Dv) ?_
     first | refine epc (fun _ _ => Dm Try.isAgg5) ?_ | refine epp (fun _ _ => Dm Try.isAgg5) ?_
     first | refine epc (fun _ _ => Aq Try.underlying5 Try.underlying3 rfl (Bh _)) ?_ | refine epp (fun _ _ => Aq Try.underlying5 Try.underlying3 rfl (Bh _)) ?_
     refine epc (fun _ _ => Ai rfl rfl (Ma (by omega) (by omega))) ?_
     refine dn1 ?_
     first | refine epc (fun _ _ => Ik (i := 4) Dv) ?_ | refine epp (fun _ _ => Ik (i := 4) Dv) ?_
     first | refine epc (fun _ _ => Dm Try.isAgg5) ?_ | refine epp (fun _ _ => Dm Try.isAgg5) ?_
     first | refine epc (fun _ _ => Aq Try.underlying5 Try.underlying3 rfl (Bh _)) ?_ | refine epp (fun _ _ => Aq Try.underlying5 Try.underlying3 rfl (Bh _)) ?_
     refine epc (fun _ _ => Ai rfl rfl (O6 (by omega) (by omega) (by omega) (by omega))) ?_
     refine dn1 ?_
     first | refine epc (fun _ _ => Ik (i := 5) Dv) ?_ | refine epp (fun _ _ => Ik (i := 5) Dv) ?_
     first | refine epc (fun _ _ => Dm Try.isAgg5) ?_ | refine epp (fun _ _ => Dm Try.isAgg5) ?_
     first | refine epc (fun _ _ => Aq Try.underlying5 Try.underlying3 rfl (Bh _)) ?_ | refine epp (fun _ _ => Aq Try.underlying5 Try.underlying3 rfl (Bh _)) ?_
     refine epc (fun _ _ => Ai rfl rfl (Ma (by omega) (by omega))) ?_
     refine dn1 ?_
     first | refine epc (fun _ _ => Ik (i := 6) Dv) ?_ | refine epp (fun _ _ => Ik (i := 6) Dv) ?_
     first | refine epc (fun _ _ => Dm Try.isAgg5) ?_ | refine epp (fun _ _ => Dm Try.isAgg5) ?_
     first | refine epc (fun _ _ => Aq Try.underlying5 Try.underlying3 rfl (Bh _)) ?_ | refine epp (fun _ _ => Aq Try.underlying5 Try.underlying3 rfl (Bh _)) ?_
     refine epc (fun _ _ => Ai rfl rfl (O6 (by omega) (by omega) (by omega) (by omega))) ?_
     refine dn1 ?_
     first | refine epc (fun _ _ => Ik (i := 7) Dv) ?_ | refine epp (fun _ _ => Ik (i := 7) Dv) ?_
     first | refine epc (fun _ _ => Dm Try.isAgg5) ?_ | refine epp (fun _ _ => Dm Try.isAgg5) ?_
     first | refine epc (fun _ _ => Aq Try.underlying5 Try.underlying3 rfl (Bh _)) ?_ | refine epp (fun _ _ => Aq Try.underlying5 Try.underlying3 rfl (Bh _)) ?_
     refine dn1 ?_
     first | refine epc (fun _ _ => Ik (i := 8) Dv) ?_ | refine epp (fun _ _ => Ik (i := 8) Dv) ?_
     first | refine epc (fun _ _ => Dm Try.isAgg5) ?_ | refine epp (fun _ _ => Dm Try.isAgg5) ?_
     first | refine epc (fun _ _ => Ei Sc) ?_ | refine epp (fun _ _ => Ei Sc) ?_
     first | refine epc (fun _ _ => D5 Cg) ?_ | refine epc (fun _ _ => Eh Cg) ?_ | refine epp (fun _ _ => D5 Cg) ?_ | refine epp (fun _ _ => Eh Cg) ?_
     refine Lz (cs := zMsg.cells) Try.zeroValue105 rfl (fun ρ b S hS hA => ?_) ?_
     ·have ui : upS S 47 47 = true := rfl; have u48 : upS S 47 48 = S 48 := rfl; have h48 : S 48 = false := hA 48 ⟨0, rfl⟩; have rs : (Gh.dec (γ := Nat) (Rho.set ρ 47 (Gh.enc b) 47)) = b := rfl
      simp only [ui, hS, u48, h48, rs, cond_true, cond_false, List.nil_append]
      exact ZcP
     refine es_ 105 0 [47] [] (fun ρ => (Gh.dec (γ := Nat) (ρ 47))) (fun ρ => zMsg.cells) (fun ρ => (Hb b).cells) Try.sizeOf105 ?_
     refine dnl ?_; intro ρ
     refine xq_ (blk b4 105 zMsg.cells :: blk b2 23 c.cells :: (blk (Gh.dec (γ := Nat) (ρ 47)) 105 (Hb b).cells :: L)) ?_
     generalize (Gh.dec (γ := Nat) (ρ 47)) = b7
     refine Gl ?_
     refine kp [2, 4, 5, 7, 8, 93, 94, 95] ?_
     refine ZB ?_
     refine Ak Try.call57 rfl (fun w hs => Wp (c := c) (m := Hb b) hs) ?_; intro _
     refine ZL ?_
     refine cdy ?_ ?_
     ·intro ht97
      refine Gm ?_
      refine ob (D5 (cs := zMsg.cells) Cg) ?_
      refine rn1 ?_
      refine s_B Try.sizeOf105 ?_
      refine Ga1 ?_
      have er : Ae c b = (zMsg, Bc c (Hb b)) := by
       unfold Ae
       rw [if_neg (by omega), if_neg (by show ¬ Jz (b.take 10) ≠ _; unfold at8; omega), if_neg (by unfold at8; omega), if_pos (by omega)]
      exact Zdh
     ·intro ht97
      refine Zad ?_
      refine s_B Try.sizeOf105 ?_
      refine Ga1 ?_
      have er : Ae c b = (Hb b, 0) := by
       unfold Ae
       rw [if_neg (by omega), if_neg (by show ¬ Jz (b.take 10) ≠ _; unfold at8; omega), if_neg (by unfold at8; omega), if_neg (by omega)]
      exact Zdh
theorem Kg {v0 : Value} {b : List UInt8} {bit : Int} (hs : St L R w) (h0 : sl v0 b ∈ R) (hbit : Ao bit) : Calls Try.prog 64 [v0, vi bit].toArray w (Bl (fun v : Value => v) (fun _ => L) (fun v => sl v (D1 b bit) :: R)) := by
 have hlen := Bv h0 hs
 have hbit' := hbit
 unfold Ao at hbit'
 refine Ah Try.func64 rfl Try.ntmps64 rfl hs ?_
 clear hs
 repeat refine Co ?_
 refine Aa ?_
 refine Zaa ?_
 repeat refine Co ?_
 refine ZQ ?_
 refine J.rowNil 5 UInt8 ?_
 refine Po Kn rfl rfl rfl (by decide) .hd h0 (fun w hs => by have : maxN = 16777216 := rfl; simp; omega) ?_; intro v7
 rw [List.nil_append]
 refine Zaa ?_
 repeat refine Co ?_
 refine ZQ ?_
 refine H3 rfl rfl Pa ?_
 refine Dl rfl ?_
 refine Oo (t := 10) (b := ?b1) ?e1 ?_ ?_
 case e1 => exact rfl
 ·
  intro ht10
  try simp only [decide_eq_true_eq, decide_eq_false_iff_not, beq_iff_eq, bne_iff_ne, beq_eq_false_iff_ne, bne_eq_false_iff_eq, Int.not_lt, Int.not_le, Bool.not_eq_true, ne_eq, Bool.not_eq_eq_eq_not, Bool.not_true, Bool.not_false] at ht10
  refine J.guardYes ?_ ?_
  ·exact rfl
  refine Dl rfl ?_
  refine J.guardYes ?_ ?_
  ·exact rfl
  refine Dl rfl ?_
  refine J.guardYes ?_ ?_
  ·exact rfl
  refine r_len Try.underlying60 rfl (by first | exact Dy pkk | exact Et mm) ?_
  refine J.guardYes ?_ ?_
  ·exact rfl
  refine H3 rfl rfl (Ack (by omega) (by omega)) ?_
  refine J.guardYes ?_ ?_
  ·exact rfl
  refine H3 rfl rfl Mb ?_
  refine Y1 rfl rfl ?_
  refine Zaq ?_
  repeat refine Co ?_
  refine Bg rfl (fun ht16 => ?_) (fun ht16 => ?_)
  ·
   try simp only [decide_eq_true_eq, decide_eq_false_iff_not, beq_iff_eq, bne_iff_ne, beq_eq_false_iff_ne, bne_eq_false_iff_eq, Int.not_lt, Int.not_le, Bool.not_eq_true, ne_eq, Bool.not_eq_eq_eq_not, Bool.not_true, Bool.not_false] at ht16
   obtain ⟨q, rfl⟩ : ∃ q : Nat, bit = (q : Int) := ⟨bit.toNat, by omega⟩
   have hq : q / 8 < b.length := by omega
   have hq8 : q % 8 < 8 := by omega
   refine On Zf (by kernel_rfl) (by kernel_rfl) (fun _ _ => _) (fun _ => rfl) ?_
   refine dj ?_
   refine Zb3 ?_
   refine Zb3 ?_
   refine d_pc (fun _ _ => Ai rfl rfl (b_quoN (b := 8) (by omega) (by decide))) rfl (fun _ _ _ _ => rfl) ?_
   refine dj ?_
   first | refine d_pc (fun _ _ => Gn Dv rfl rfl (by first | exact Dy pkk | exact Et mm) (by first | assumption | omega | (simp only [List.length_nil, List.length_cons, List.length_append, List.length_take, List.length_drop, List.length_set, List.length_replicate]; omega))) rfl (fun _ _ _ _ => rfl) ?_ | refine d_indexAddr Dv (fun _ => rfl) (fun _ => rfl) (fun _ _ => (by first | exact Dy pkk | exact Et mm)) (by first | assumption | omega | (simp only [List.length_nil, List.length_cons, List.length_append, List.length_take, List.length_drop, List.length_set, List.length_replicate]; omega)) (by first | assumption | omega | (simp only [List.length_nil, List.length_cons, List.length_append, List.length_take, List.length_drop, List.length_set, List.length_replicate]; omega)) (fun _ _ _ _ => rfl) ?_
   refine dj ?_
   first | refine Oy Try.isAgg5 (fun _ => rfl) (fun _ _ => Bd pkk (by exact rfl)) (fun _ _ _ _ => rfl) ?_ | refine Oy Try.isAgg5 (fun _ => rfl) (fun _ _ => Lh pkk (by first | assumption | omega | (simp only [List.length_nil, List.length_cons, List.length_append, List.length_take, List.length_drop, List.length_set, List.length_replicate]; omega))) (fun _ _ _ _ => rfl) ?_ | refine Oy Try.isAgg5 (fun _ => rfl) (fun _ _ => Qb mm (by first | assumption | omega | (simp only [List.length_nil, List.length_cons, List.length_append, List.length_take, List.length_drop, List.length_set, List.length_replicate]; omega))) (fun _ _ _ _ => rfl) ?_
   refine dj ?_
   refine Zb3 ?_
   refine d_pc (fun _ _ => Ai rfl rfl (b_remN (b := 8) (by decide) (by decide))) rfl (fun _ _ _ _ => rfl) ?_
   refine dj ?_
   refine d_pc (fun _ _ => Ai rfl rfl (b_shl8 (x := 1) (by omega) (by omega))) rfl (fun _ _ _ _ => rfl) ?_
   refine dj ?_
   first | refine d_pc (fun _ _ => Ai rfl rfl Yn) rfl (fun _ _ _ _ => rfl) ?_ | refine d_p (fun _ _ => Ai rfl rfl Yn) rfl (by first | exact Ind.const _ | exact fun _ _ _ _ _ => rfl | exact Ind.self | exact Ind.gh _ 3 rfl) (fun _ _ _ _ => rfl) ?_
   refine T6 (by kernel_rfl) ?_; intro ρ; simp only [Ey, facts, Db, List.append_nil, List.nil_append, List.cons_append]
   first | refine Jc Dv rfl rfl (by first | exact Dy pkk | exact Et mm) (by first | assumption | omega | (simp only [List.length_nil, List.length_cons, List.length_append, List.length_take, List.length_drop, List.length_set, List.length_replicate]; omega)) ?_ | refine Hm Dv rfl rfl (by first | exact Dy pkk | exact Et mm) (by first | assumption | omega | (simp only [List.length_nil, List.length_cons, List.length_append, List.length_take, List.length_drop, List.length_set, List.length_replicate]; omega)) (by first | assumption | omega | (simp only [List.length_nil, List.length_cons, List.length_append, List.length_take, List.length_drop, List.length_set, List.length_replicate]; omega)) ?_
   refine Gz (α := UInt8) (f := 0) (e' := b.getD (q / 8) 0 ^^^ ((1 : UInt8) <<< UInt8.ofNat (q % 8))) Try.sizeOf5 rfl rfl rfl rfl (by intro u hu; cases List.mem_singleton.1 hu; rfl) pkk (getD_some 0 hq) (fun ds m hr => by rw [show ds = [vb _] from hr]; exact Nat.le_refl _) (fun j _ ds hr => by rw [show ds = [vb _] from hr]; show [vb (b.getD (q / 8) 0 ^^^ u8 (((1 : UInt8).toNat : Int) * 2 ^ (((q % 8 : Nat) : Int)).toNat))] = [vb _]; rw [Int.toNat_natCast, Zh ⟨q % 8, hq8⟩]) ?_
   refine Zaq ?_
   repeat refine Co ?_
   refine ZQ ?_
   refine Zaa ?_
   refine Jf ?_
   repeat (first | refine D4 ?_ | refine Df ?_)
   have e1 : ((q : Int) / 8).toNat = q / 8 := by omega
   have e2 : ((q : Int) % 8).toNat = q % 8 := by omega
   have ht : D1 b (q : Int) = b.set (q / 8) (b.getD (q / 8) 0 ^^^ ((1 : UInt8) <<< UInt8.ofNat (q % 8))) := by unfold D1; rw [if_pos (by omega), e1, e2]
   refine A0 (.inr rfl) (fun B w hs => res1 rfl rfl B w) (fun w hs => ?_)
   refine ⟨v7, rfl, ?_⟩
   rw [ht]
   exact (St.shut (hs.pick pkk)).sub (by repeat (first | exact .refl | exact .nil | refine .cons pkk ?_ | refine .drop ?_)) (by repeat (first | exact FSub.refl | exact FSub.nil | refine FSub.cons (by first | assumption | (repeat (first | assumption | exact List.Mem.head _ | refine .tail _ ?_))) ?_ | refine FSub.drop ?_))
  ·
   try simp only [decide_eq_true_eq, decide_eq_false_iff_not, beq_iff_eq, bne_iff_ne, beq_eq_false_iff_ne, bne_eq_false_iff_eq, Int.not_lt, Int.not_le, Bool.not_eq_true, ne_eq, Bool.not_eq_eq_eq_not, Bool.not_true, Bool.not_false] at ht16
   refine Gt ?_
   refine A2 ?_
   repeat refine Co ?_
   refine ZQ ?_
   refine Zaa ?_
   refine Jf ?_
   repeat (first | refine D4 ?_ | refine Df ?_)
   have ht : D1 b bit = b := by unfold D1; rw [if_neg (by omega)]
   refine A0 (.inr rfl) (fun B w hs => res1 rfl rfl B w) (fun w hs => ?_)
   refine ⟨v7, rfl, ?_⟩
   rw [ht]
   exact (St.shut (hs.pick pkk)).sub (by repeat (first | exact .refl | exact .nil | refine .cons pkk ?_ | refine .drop ?_)) (by repeat (first | exact FSub.refl | exact FSub.nil | refine FSub.cons (by first | assumption | (repeat (first | assumption | exact List.Mem.head _ | refine .tail _ ?_))) ?_ | refine FSub.drop ?_))
 ·
  intro ht10
  try simp only [decide_eq_true_eq, decide_eq_false_iff_not, beq_iff_eq, bne_iff_ne, beq_eq_false_iff_ne, bne_eq_false_iff_eq, Int.not_lt, Int.not_le, Bool.not_eq_true, ne_eq, Bool.not_eq_eq_eq_not, Bool.not_true, Bool.not_false] at ht10
  refine J.guardNo ?_ ?_
  ·exact rfl
  refine J.guardNo ?_ ?_
  ·exact rfl
  refine J.guardNo ?_ ?_
  ·exact rfl
  refine J.guardNo ?_ ?_
  ·exact rfl
  refine J.guardNo ?_ ?_
  ·exact rfl
  refine Y2 rfl rfl ?_
  refine Zaq ?_
  repeat refine Co ?_
  refine Pw rfl ?_
  refine Gt ?_
  refine A2 ?_
  repeat refine Co ?_
  refine ZQ ?_
  refine Zaa ?_
  refine Jf ?_
  repeat (first | refine D4 ?_ | refine Df ?_)
  have ht : D1 b bit = b := by unfold D1; rw [if_neg (by omega)]
  refine A0 (.inr rfl) (fun B w hs => res1 rfl rfl B w) (fun w hs => ?_)
  refine ⟨v7, rfl, ?_⟩
  rw [ht]
  exact (St.shut (hs.pick pkk)).sub (by repeat (first | exact .refl | exact .nil | refine .cons pkk ?_ | refine .drop ?_)) (by repeat (first | exact FSub.refl | exact FSub.nil | refine FSub.cons (by first | assumption | (repeat (first | assumption | exact List.Mem.head _ | refine .tail _ ?_))) ?_ | refine FSub.drop ?_))
theorem Ox {α : Type} {l : List α} {i : Nat} : l.eraseIdx i = l.take i ++ l.drop (i + 1) := List.eraseIdx_eq_take_drop_succ ..
theorem RdL.erase {α : Type} [Enc α] {m : Mem} {xs : List α} {cs : List Value} {i : Nat} (hz : Enc.sz α = 1) (hi : i < xs.length) (h : RdL xs cs m) : RdL (xs.eraseIdx i) (cs.take i ++ cs.drop (i + 1)) m := by
 have h1 : xs = xs.take i ++ xs.drop i := (List.take_append_drop i xs).symm
 rw [h1] at h
 obtain ⟨a, b, e1, e2, e3⟩ := RdL.split h
 have la : a.length = i := by rw [e2.len, hz, List.length_take]; omega
 rw [List.drop_eq_getElem_cons hi] at e3
 obtain ⟨c1, c2, g1, g2, g3⟩ := e3
 have lc : c1.length = 1 := by rw [Enc.len _ _ _ g2, hz]
 rw [Ox]
 have ea : cs.take i = a := by rw [e1, ← la]; simp
 have eb : cs.drop (i + 1) = c2 := by
  rw [e1, g1, ← la, List.drop_append, show a.length + 1 - a.length = 1 by omega, List.drop_append, lc]
  simp [List.drop_of_length_le, lc]
 rw [ea, eb]
 exact RdL.append g3 e2
theorem Om {L : List Chunk} {R : List Fact} {a : Addr} {k c : Nat} : Da L R (.slice (some a) k c) k := fun w _ => ⟨some a, c, rfl, fun _ => ⟨a, rfl⟩⟩
theorem Vx {P : Program} {n : Nat} {L : List Chunk} {R : List Fact} {al : List (Nat × Value)} {d : Nat} {x p q r : Operand} {T ty : TypeId} {pos : String} {aft : Array Edge} {e : TypeId} {sz len cap lo hi mx : Nat} {a : Addr} (ht : Cn P T e sz) (hx : ev n al x = some (.slice (some a) len cap)) (h1 : ev n al p = some (vi (lo : Int))) (h2 : ev n al q = some (vi (hi : Int))) (h3 : ev n al r = some (vi (mx : Int))) (l1 : lo ≤ hi) (l2 : hi ≤ mx) (l3 : mx ≤ cap) :
  As P n al L R ⟨some d, .slice T x (some p) (some q) (some r), ty, pos, aft, none⟩ (.slice (if mx = lo then some a else some (a.add (lo * sz))) (hi - lo) (mx - lo)) :=
 ⟨rfl, fun ρ w h hs => by
  show (Instr.sliceAt T (ρ x) (some (ρ p)) (some (ρ q)) (some (ρ r)) >>= fun v => Pure.pure (Next.value v)).run P w = _
  rw [h x (by simp [Op.operands]) _ hx, h p (by simp [Op.operands]) _ h1, h q (by simp [Op.operands]) _ h2, h r (by simp [Op.operands]) _ h3, Sem.run_bind]
  have : (Instr.sliceAt T (.slice (some a) len cap) (some (vi (lo : Int))) (some (vi (hi : Int))) (some (vi (mx : Int)))).run P w = .ok (.slice (if mx = lo then some a else some (a.add (lo * sz))) (hi - lo) (mx - lo)) w := by
   have e1 : (0 : Int) ≤ (lo : Int) ∧ (lo : Int) ≤ (hi : Int) := by omega
   have e2 : (0 : Int) ≤ (hi : Int) ∧ (hi : Int) ≤ (mx : Int) := by omega
   have e3 : (0 : Int) ≤ (mx : Int) ∧ (mx : Int) ≤ (cap : Int) := by omega
   simp [Instr.sliceAt, Instr.slice, Instr.sliceBounds, Instr.sliceBound, Cb ht.1, ht.2, asIntOf, e1, e2, e3, l1, l2, l3]
  rw [this]; rfl⟩
theorem Tc {v0 : Value} {l : Frames} {i : Nat} (hs : St (row 60 v0 l :: L) R w) (hi : i < l.length) : Calls Try.prog 38 [v0, vi (i : Int), vi ((i + 1 : Nat) : Int)].toArray w (Bl (fun v : Value => v) (fun v => row 60 v (l.eraseIdx i) :: L) (fun v => R)) := by
 have hlen := Yy (L := row 60 v0 l :: L) .hd hs
 have hne : l ≠ [] := by intro h; rw [h] at hi; simp at hi
 obtain ⟨g, cap, cs, rfl, hcap, hml, hN, hcl, hs, h1⟩ := Y0 hne hs
 have hz : Enc.sz (List UInt8) = 1 := rfl
 rw [hz, Nat.mul_one] at hcl hs h1
 have fin : ∀ (w : World), St (blk g 60 ((cs.take i ++ (cs.drop (i + 1)).take (l.length - (i + 1)) ++ cs.drop (i + (l.length - (i + 1)))).take (i + (l.length - (i + 1))) ++ [.slice none 0 0] ++ (cs.take i ++ (cs.drop (i + 1)).take (l.length - (i + 1)) ++ cs.drop (i + (l.length - (i + 1)))).drop (i + (l.length - (i + 1)) + 1)) :: L) (rdL l (cs.take l.length) :: R) w →
    ∃ u, Value.slice (some ⟨g, 0, none⟩) (i + (l.length - (i + 1))) cap = u ∧ St (row 60 u (l.eraseIdx i) :: L) R w := by
   intro w hs
   have he : (l.eraseIdx i).length = i + (l.length - (i + 1)) := by rw [List.length_eraseIdx, if_pos hi]; omega
   have hA : (cs.take i ++ (cs.drop (i + 1)).take (l.length - (i + 1))).length = i + (l.length - (i + 1)) := by simp; omega
   refine ⟨_, rfl, ?_⟩
   have := Acd (T := 60) (g := g) (cap := cap) (xs := l.eraseIdx i) (by omega) (by omega) hml (by rw [hz, Nat.mul_one]; simp only [List.length_append, List.length_take, List.length_drop, List.length_cons, List.length_nil]; omega) (fun j hj => ?_) hs
   ·rw [he] at this; exact Af this
   ·have hr : RdL l (cs.take l.length) j := hj _ (List.Mem.head _)
    have hr2 := hr.erase hz hi
    rw [he, hz, Nat.mul_one]
    have : ((cs.take i ++ (cs.drop (i + 1)).take (l.length - (i + 1)) ++ cs.drop (i + (l.length - (i + 1)))).take (i + (l.length - (i + 1))) ++ [Value.slice none 0 0] ++ (cs.take i ++ (cs.drop (i + 1)).take (l.length - (i + 1)) ++ cs.drop (i + (l.length - (i + 1)))).drop (i + (l.length - (i + 1)) + 1)).take (i + (l.length - (i + 1))) = (cs.take l.length).take i ++ (cs.take l.length).drop (i + 1) := by
     rw [List.append_assoc, List.take_append_of_le_length (by simp; omega), List.take_take, Nat.min_self, List.take_append_of_le_length (by rw [hA]; exact Nat.le_refl _), List.take_of_length_le (by rw [hA]; exact Nat.le_refl _), List.take_take, Nat.min_eq_left (by omega), List.drop_take]
    rw [this]; exact hr2
 refine Ah Try.func38 rfl Try.ntmps38 rfl hs ?_
 clear hs
 refine ZH ?_
 refine rn4 ?_
 refine ob (My (hl := Om) Try.underlying36) ?_
 refine ob (Vx (a := ⟨g, 0, none⟩) Mo (lo := i) (hi := i + 1) (mx := l.length) rfl rfl rfl rfl (by omega) (by omega) hcap) ?_
 refine Zaf ?_
 refine Az ?_
 refine Gmc ?_
 refine rn1 ?_
 refine ob (My (hl := Om) Try.underlying36) ?_
 refine Ga1 ?_
 refine ZU ?_
 refine djc (fun _ _ => q_sl0 (hi := i) Mo rfl rfl (by omega)) ?_
 refine dn2 ?_
 refine djc (fun _ _ => q_slN (lo := i + 1) (hi := l.length) Mo rfl rfl rfl (by omega) (by omega)) ?_
 refine dtl ?_; intro ρ
 refine ap_in (j := i + 1) (cs := cs) Rm rfl rfl (fun hm => by rw [if_neg (by omega)]; unfold Addr.add; simp) .hd hcl (by omega) (by omega) (fun u hu => h1 u (by rw [← List.drop_take] at hu; exact List.mem_of_mem_drop hu)) ?_
 refine Gb1 ?_
 refine rn2 ?_
 refine ob (My (hl := Om) Try.underlying36) ?_
 refine rn1 ?_
 refine ob (q_slN (lo := i + (l.length - (i + 1))) (hi := l.length) Mo rfl rfl rfl (by omega) (by omega)) ?_
 refine clr (o := i + (l.length - (i + 1))) (c2 := cap - (i + (l.length - (i + 1)))) (z := .slice none 0 0) Rm Try.zeroValue60 rfl rfl ?_ .hd ?_ ?_
 ·refine congrArg some ?_; rw [if_neg (by omega), show l.length - (i + (l.length - (i + 1))) = 1 by omega]; rw [Ge]; simp
 ·simp only [List.length_append, List.length_take, List.length_drop]; omega
 intro cs_ hcs_; subst hcs_
 refine ZD ?_
 refine A0 (.inr rfl) (fun B w hs => res1 rfl rfl B w) (fun w hs => fin w hs)
theorem Vz {P : Program} {n : Nat} {Q : Exit → Act → World → Prop} {L : List Chunk} {R : List Fact} {al : List (Nat × Value)} {c : Code} {v : Value} {l : List Entry} (i : Nat) (hm : sl v l ∈ R) (hi : i < l.length) (k : (l.getD i Ay).wf → ∀ u, JC P n c Q L (cF v 10 i (Entry.cells u (l.getD i Ay)) :: sl u (l.getD i Ay).last :: R) al) : JC P n c Q L R al := JC.open1 i hm hi k
def Ft (c : Config) : Entry := { Ay with last := List.replicate c.cores.toNat 0 }
def Je (c : Config) : Core := ⟨List.replicate c.lines.toNat zLine, zOp⟩
theorem Jr {α : Type} (k : Nat) (a : α) : List.replicate (k + 1) a = List.replicate k a ++ [a] := List.replicate_succ' ..
theorem M4 (c : Config) : (Ft c).wf := by unfold Ft Ay Entry.wf Ao; simp only; omega
theorem F7 {c : Config} (h : c.cores < 1 ∨ 4 < c.cores ∨ c.lines < 1 ∨ 4 < c.lines) : Aw c = (Dd, 3) := by unfold Aw C0; rw [if_pos h, if_pos (by decide)]
theorem Nt {c : Config} (h : ¬ (c.cores < 1 ∨ 4 < c.cores ∨ c.lines < 1 ∨ 4 < c.lines)) : Aw c = (⟨List.replicate c.cores.toNat (Je c), List.replicate c.lines.toNat (Ft c), []⟩, 0) := by unfold Aw C0; rw [if_neg h, if_neg (by decide)]; rfl
theorem refNew {c : Config} (hs : St (L) R w) (hc : c.wf) : Calls Try.prog 6 [.agg c.cells.toArray].toArray w (Bl (fun v : Value × Value => .tuple #[.agg #[v.1, v.2, .slice none 0 0], vi (Aw c).2]) (fun v => L) (fun v => sl v.1 (Aw c).1.cores :: sl v.2 (Aw c).1.home :: sl (.slice none 0 0) (Aw c).1.frames :: R)) := by
 refine Ah Try.func6 rfl Try.ntmps6 rfl hs ?_
 clear hs
 refine ZbD ?_;intro b1 b2
 refine Ga1 ?_
 rcases (show (c.cores < 1) ∨ (¬ c.cores < 1 ∧ 4 < c.cores) ∨ (¬ c.cores < 1 ∧ ¬ 4 < c.cores ∧ c.lines < 1) ∨ (¬ c.cores < 1 ∧ ¬ 4 < c.cores ∧ ¬ c.lines < 1 ∧ 4 < c.lines) ∨ (1 ≤ c.cores ∧ c.cores ≤ 4 ∧ 1 ≤ c.lines ∧ c.lines ≤ 4) from by omega) with hc | hc | hc | hc | hc
 ·refine Zat ?_
  refine Gc15 ?_
  exact ZcO
 ·refine ZaV ?_
  refine Gc11 ?_
  exact ZcO
 ·refine Zar ?_
  refine ZE ?_
  refine E4 ?_
  refine Gc6 ?_
  exact ZcO
 ·refine Zar ?_
  refine Za0 ?_
  refine Ha ?_
  refine Gc1 ?_
  exact ZcO
 ·refine Zar ?_
  refine Zas ?_
  refine Gd1 ?_
  refine al_ (cs := [.slice none 0 0, .slice none 0 0, .slice none 0 0]) Try.zeroValue38 ?_; intro b4
  refine Za2 ?_
  refine JC.rowNil 54 Entry ?_
  refine Bf (γ := Nat × Value) (fun g => (g.1 : Int) ≤ c.lines) (fun g => row 54 g.2 (List.replicate g.1 (Ft c)) :: blk b4 38 [.slice none 0 0, g.2, .slice none 0 0] :: blk b1 23 c.cells :: blk b2 38 [.slice none 0 0, .slice none 0 0, .slice none 0 0] :: L) (fun _ => R) (fun g => [(1, bp b1 0), (2, bp b2 0), (4, bp b4 0), (25, vi c.lines), (26, vi (g.1 : Int))]) (fun g => c.lines.toNat - g.1) (0, .slice none 0 0) (by show (0 : Int) ≤ c.lines; omega) alT (fun w hs => Af hs) ?_
  rintro ⟨k, vh⟩ hk
  try simp only at hk ⊢
  refine ZA ?_
  refine cdy ?_ ?_
  ·intro ht27
   refine Gl ?_
   refine cq_ (row 54 vh (List.replicate k (Ft c)) :: blk b4 38 [.slice none 0 0, vh, .slice none 0 0] :: blk b1 23 c.cells :: blk b2 38 [.slice none 0 0, .slice none 0 0, .slice none 0 0] :: L) ?_
   refine jd_ (fun ρ S => row 54 vh (List.replicate k (Ft c)) :: blk b4 38 [.slice none 0 0, vh, .slice none 0 0] :: blk b1 23 c.cells :: blk b2 38 [.slice none 0 0, .slice none 0 0, .slice none 0 0] :: L) ?_
   refine dn4 ?_
   refine Yh (a := c.cores) (x0 := (0 : Int)) (zc := [vi 0]) Ko rfl (by decide) (fun _ => rfl) (fun _ => rfl) rfl (fun j => ⟨rfl, by unfold Ao; omega⟩) (by omega) (by omega) (fun _ _ _ _ => rfl) ?_
   refine e_pd (v := fun ρ => .agg ([vi 0, vi (-1), vi 0, vi 0, vi 0, vi 0, .bool false, vi 0, vi 0, (Gh.dec (γ := Value) (ρ 4))]).toArray) (fun ρ S R' L' w hd hs => by have h1 : (Gh.dec (γ := Value) (ρ 4)).oneCell' = true := isSlice.one (hs.fact (hd.dep (it := ⟨4, _, _, _, _⟩) (by repeat (first | exact List.Mem.head _ | refine List.Mem.tail _ ?_)) ⟨9, rfl⟩ (List.Mem.head _))); exact Eh st_54) (Ind.gh (h := fun g => Value.agg ([vi 0, vi (-1), vi 0, vi 0, vi 0, vi 0, .bool false, vi 0, vi 0, (Gh.dec (γ := Value) g)]).toArray) 4 3 rfl) (fun _ _ _ _ _ => rfl) ?_
   refine Ie ([Ft c] : List Entry) Rn rfl (fun _ => rfl) rfl (fun _ => rfl) rfl rfl (fun ρ R hd j hj => ⟨⟨_, rfl, ⟨_, rfl, hj _ (hd.dep (it := ⟨4, _, _, _, _⟩) (by repeat (first | exact List.Mem.head _ | refine List.Mem.tail _ ?_)) ⟨9, rfl⟩ (List.Mem.head _)), M4 c⟩⟩, trivial⟩) (fun _ _ _ _ _ => rfl) ?_
   refine dtl ?_; intro ρ
   refine J.conseq (L' := row 54 vh (List.replicate k (Ft c)) :: blk b4 38 [.slice none 0 0, vh, .slice none 0 0] :: blk b1 23 c.cells :: blk b2 38 [.slice none 0 0, .slice none 0 0, .slice none 0 0] :: L) (fun w hs => hs) ?_
   generalize (Gh.dec (γ := Value) (ρ 4)) = v32
   generalize (Gh.dec (γ := Value) (ρ 6)) = v34
   refine ap Rn (hb := fun w hs => by have : maxN = 16777216 := rfl; simp only [List.length_cons, List.length_nil, List.length_replicate]; omega) (k := ?_); intro v35
   refine rn1 ?_
   refine J.know (p := v35.oneCell' = true) (fun w hs => A6 (v := v35) pkk hs) (fun honev35 => ?_)
   refine sc ?_
   refine Gl ?_
   refine kp [1, 2, 3, 4, 25, 26, 27, 28, 29, 30, 31, 32, 33, 34, 35, 36, 37] ?_
   refine Zac ?_
   refine A3 (k + 1, v35) (by show ((k + 1 : Nat) : Int) ≤ c.lines; omega) (by show c.lines.toNat - (k + 1) < c.lines.toNat - k; omega) alT (fun w hs => ?_)
   try simp only
   rw [Jr]; exact Af hs
  ·intro ht27
   refine Za2 ?_
   refine JC.shut (v := vh) pkk ?_
   refine JC.know (p := vh.oneCell' = true) (fun w hs => isSlice.one (hs.fact (List.Mem.head _))) (fun honeh => ?_)
   refine JC.rowNil 57 Core ?_
   refine Bf (γ := Nat × Value) (fun g => (g.1 : Int) ≤ c.cores) (fun g => row 57 g.2 (List.replicate g.1 (Je c)) :: blk b4 38 [g.2, vh, .slice none 0 0] :: blk b1 23 c.cells :: blk b2 38 [.slice none 0 0, .slice none 0 0, .slice none 0 0] :: L) (fun _ => sl vh (List.replicate k (Ft c)) :: R) (fun g => [(1, bp b1 0), (2, bp b2 0), (4, bp b4 0), (39, vi c.cores), (40, vi (g.1 : Int))]) (fun g => c.cores.toNat - g.1) (0, .slice none 0 0) (by show (0 : Int) ≤ c.cores; omega) alT (fun w hs => Af hs) ?_
   rintro ⟨k2, vc⟩ hk2
   try simp only at hk2 ⊢
   refine ZA ?_
   refine cdy ?_ ?_
   ·intro ht41
    refine Gl ?_
    refine cq_ (row 57 vc (List.replicate k2 (Je c)) :: blk b4 38 [vc, vh, .slice none 0 0] :: blk b1 23 c.cells :: blk b2 38 [.slice none 0 0, .slice none 0 0, .slice none 0 0] :: L) ?_
    refine jd_ (fun ρ S => row 57 vc (List.replicate k2 (Je c)) :: blk b4 38 [vc, vh, .slice none 0 0] :: blk b1 23 c.cells :: blk b2 38 [.slice none 0 0, .slice none 0 0, .slice none 0 0] :: L) ?_
    refine dn4 ?_
    refine Yh (a := c.lines) (x0 := zLine) (zc := zLine.cells) W6 rfl (by decide) (fun _ => rfl) (fun _ => rfl) rfl (fun j => ⟨rfl, by unfold Line.wf Ao zLine; simp only; omega⟩) (by omega) (by omega) (fun _ _ _ _ => rfl) ?_
    refine e_pd (v := fun ρ => .agg ([(Gh.dec (γ := Value) (ρ 4)), vi 0, vi 0, vi 0]).toArray) (fun ρ S R' L' w hd hs => by have h1 : (Gh.dec (γ := Value) (ρ 4)).oneCell' = true := isSlice.one (hs.fact (hd.dep (it := ⟨4, _, _, _, _⟩) (by repeat (first | exact List.Mem.head _ | refine List.Mem.tail _ ?_)) ⟨9, rfl⟩ (List.Mem.head _))); exact Eh J0) (Ind.gh (h := fun g => Value.agg ([(Gh.dec (γ := Value) g), vi 0, vi 0, vi 0]).toArray) 4 3 rfl) (fun _ _ _ _ _ => rfl) ?_
    refine Ie ([Je c] : List Core) Ro rfl (fun _ => rfl) rfl (fun _ => rfl) rfl rfl (fun ρ R hd j hj => ⟨⟨_, rfl, ⟨_, rfl, hj _ (hd.dep (it := ⟨4, _, _, _, _⟩) (by repeat (first | exact List.Mem.head _ | refine List.Mem.tail _ ?_)) ⟨9, rfl⟩ (List.Mem.head _)), by unfold Je zOp Op.wf Ao; simp only; omega⟩⟩, trivial⟩) (fun _ _ _ _ _ => rfl) ?_
    refine dtl ?_; intro ρ
    refine J.conseq (L' := row 57 vc (List.replicate k2 (Je c)) :: blk b4 38 [vc, vh, .slice none 0 0] :: blk b1 23 c.cells :: blk b2 38 [.slice none 0 0, .slice none 0 0, .slice none 0 0] :: L) (fun w hs => hs) ?_
    generalize (Gh.dec (γ := Value) (ρ 4)) = v46
    generalize (Gh.dec (γ := Value) (ρ 6)) = v48
    refine ap Ro (hb := fun w hs => by have : maxN = 16777216 := rfl; simp only [List.length_cons, List.length_nil, List.length_replicate]; omega) (k := ?_); intro v49
    refine rn1 ?_
    refine J.know (p := v49.oneCell' = true) (fun w hs => A6 (v := v49) pkk hs) (fun honev49 => ?_)
    refine sc ?_
    refine Gl ?_
    refine kp [1, 2, 3, 4, 39, 40, 41, 42, 43, 44, 45, 46, 47, 48, 49, 50, 51] ?_
    refine Zac ?_
    refine A3 (k2 + 1, v49) (by show ((k2 + 1 : Nat) : Int) ≤ c.cores; omega) (by show c.cores.toNat - (k2 + 1) < c.cores.toNat - k2; omega) alT (fun w hs => ?_)
    try simp only
    rw [Jr]; exact Af hs
   ·intro ht41
    refine Gl ?_
    refine JC.shut (v := vc) pkk ?_
    refine JC.know (p := vc.oneCell' = true) (fun w hs => isSlice.one (hs.fact (List.Mem.head _))) (fun honec => ?_)
    refine JC.slNil (List UInt8) ?_
    refine ZC ?_
    refine s_B Try.sizeOf38 ?_
    refine Ga1 ?_
    have er : Aw c = (⟨List.replicate k2 (Je c), List.replicate k (Ft c), []⟩, 0) := by rw [Nt (by omega), show c.lines.toNat = k by omega, show c.cores.toNat = k2 by omega]
    rw [er]
    exact Gf (vc, vh) Try.isAgg38 Try.sizeOf38
theorem Ci {v : Value} {ls : List Line} {i : Nat} (e : Line) (he : e.wf) (hs : St (foc 67 v ls i e.cells :: L) R w) : St (row 67 v (ls.set i e) :: L) R w := hs.unfocus (fun j _ => ⟨rfl, he⟩)
theorem Tf {v : Value} {ls : List Line} {i : Nat} (he : (ls.getD i zLine).wf) (hs : St (foc 67 v ls i (ls.getD i zLine).cells :: L) R w) : St (row 67 v ls :: L) R w := by
 have h := Ci _ he hs
 rwa [H0] at h
theorem C8 {v : Value} {ls : List Line} {i : Nat} {l : Line} (hl : ls.getD i zLine = l) (he : l.wf) (hs : St (foc 67 v ls i [vi l.state, vi l.value, vi l.want, vi l.serial, vi l.seen, vi l.gave, vi l.given] :: L) R w) : St (row 67 v ls :: L) R w := by
 subst hl
 exact Tf he hs
theorem F3 {P : Program} {n : Nat} {Q : Exit → Act → World → Prop} {L L' : List Chunk} {R : List Fact} {al : List (Nat × Value)} {cd : Code} {vL : Value} {ls : List Line} {l : Line} {i : Int} (hp : Pick L (row 67 vL ls) L') (hl : ls.getD i.toNat zLine = l) (h0 : 0 ≤ i) (hi : i < (ls.length : Int)) (k : l.wf → EpAll vL 7 i.toNat → JC P n cd Q (foc 67 vL ls i.toNat [vi l.state, vi l.value, vi l.want, vi l.serial, vi l.seen, vi l.gave, vi l.given] :: L') R al) : JC P n cd Q L R al := by
 subst hl
 refine JC.focus0 (xs := ls) i.toNat hp (by omega) (fun hw => ?_)
 refine JC.know (p := EpAll vL 7 i.toNat) (fun w hs => U9 (α := Line) (xs := ls) .hd w hs) (fun hA => ?_)
 exact k hw hA
theorem Nq {LX : List Chunk} {R : List Fact} {w : World} {vL vo vd : Value} {bk : Nat} {q : Op} {id home : Int} {ls : List Line} {l : Line} {ms : List Msg} {line : Int} (hs : St (blk bk 98 [vL, vi q.kind, vi q.line, vi q.value, vi id, vi home, vo, vd] :: row 67 vL ls :: row 105 vo ms :: LX) R w) (hl : ls.getD line.toNat zLine = l) (hi : 0 ≤ line ∧ line < (ls.length : Int)) (hll : ls.length ≤ 100) (hn : ms.length ≤ 1000) (hid : Ao id) (hhome : Ao home) : Calls Try.prog 53 [bp bk 0, vi line].toArray w (Bl (fun v : Value => .tuple #[]) (fun v => blk bk 98 [vL, vi q.kind, vi q.line, vi q.value, vi id, vi home, v, vd] :: row 67 vL ls :: row 105 v (ms ++ [(Bz l id home line)]) :: LX) (fun v => R)) := by
 refine Za8 ?_;intro hid0 hhome0
 refine Ah Try.func53 rfl Try.ntmps53 rfl hs ?_
 clear hs
 refine Gl ?_
 refine F3 (ls := ls) (l := l) (i := line) pkk hl (by omega) (by omega) (fun hlw hA => ?_)
 have hlw0 := hlw
 unfold Line.wf Ao at hlw0
 have honeL : (ep vL 7 line.toNat 0).oneCell' = true := hA.one
 refine Aa ?_
 refine rn6 ?_
 refine ob (It (v := vL) (i := line) Kz (hl := Cd (α := Line) (xs := ls) pkk)) ?_
 refine Gb1 ?_
 refine Gb1 ?_
 refine Ga5 ?_
 refine cdy ?_ ?_
 ·intro ht17
  refine Aa ?_
  refine Ga5 ?_
  refine A8 ?_
  refine Abo ?_
  refine dtl ?_; intro ρ
  have er : (Bz l id home line) = ⟨l.want, id, home, line, l.serial, 0, l.value, false⟩ := by unfold Bz; rw [if_pos ht17]
  refine Ak Try.call61 rfl (fun w hs => Ed (vL := vL) (vd := vd) (q := q) (id := id) (home := home) (ms := ms) (kind := l.want) (line := line) (serial := l.serial) (turn := 0) (value := l.value) (LX := foc 67 vL ls line.toNat [vi l.state, vi l.value, vi l.want, vi l.serial, vi l.seen, vi l.gave, vi l.given] :: LX) (Af hs) hn (by unfold Msg.wf Ao; simp only; omega)) ?_; intro v33
  refine Gl ?_
  rw [er]
  refine A0 (.inl rfl) (fun B w hs => Gb rfl _ w) (fun w hs => ⟨v33, rfl, Af (C8 hl hlw (hs.pick pkk))⟩)
 ·intro ht17
  refine Gl ?_
  refine A8 ?_
  refine Abo ?_
  refine dtl ?_; intro ρ
  have er : (Bz l id home line) = ⟨l.want, id, home, line, l.serial, 0, 0, false⟩ := by unfold Bz; rw [if_neg ht17]
  refine Ak Try.call61 rfl (fun w hs => Ed (vL := vL) (vd := vd) (q := q) (id := id) (home := home) (ms := ms) (kind := l.want) (line := line) (serial := l.serial) (turn := 0) (value := 0) (LX := foc 67 vL ls line.toNat [vi l.state, vi l.value, vi l.want, vi l.serial, vi l.seen, vi l.gave, vi l.given] :: LX) (Af hs) hn (by unfold Msg.wf Ao; simp only; omega)) ?_; intro v33
  refine Gl ?_
  rw [er]
  refine A0 (.inl rfl) (fun B w hs => Gb rfl _ w) (fun w hs => ⟨v33, rfl, Af (C8 hl hlw (hs.pick pkk))⟩)
theorem O0 {LX : List Chunk} {R : List Fact} {w : World} {vL vo vd : Value} {bk : Nat} {q : Op} {id home : Int} {ls : List Line} {l : Line} {q0 : Op} {ms : List Msg} {want : Int} (hs : St (blk bk 98 [vL, vi q0.kind, vi q0.line, vi q0.value, vi id, vi home, vo, vd] :: row 67 vL ls :: row 105 vo ms :: LX) R w) (hl : ls.getD q.line.toNat zLine = l) (hi : 0 ≤ q.line ∧ q.line < (ls.length : Int)) (hll : ls.length ≤ 100) (hid : Ao id) (hhome : Ao home) (hn : ms.length ≤ 1000) (hser : l.serial < 65535) (hw : Ao want) : Calls Try.prog 34 [bp bk 0, .agg q.cells.toArray, vi want].toArray w (Bl (fun v : Value => .tuple #[]) (fun v => blk bk 98 [vL, vi q.kind, vi q.line, vi q.value, vi id, vi home, v, vd] :: row 67 vL (ls.set q.line.toNat ({ l with want := want, serial := l.serial + 1 })) :: row 105 v (ms ++ [Bz ({ l with want := want, serial := l.serial + 1 }) id home q.line]) :: LX) (fun v => R)) := by
 refine Za8 ?_;intro hid0 hhome0
 have hw0 := hw
 unfold Ao at hw0
 refine Ah Try.func34 rfl Try.ntmps34 rfl hs ?_
 clear hs
 refine Gm ?_
 refine bx ?_; intro b4
 refine Gl ?_
 refine Zb5 ?_;intro hlw hA hlw0 honeL
 refine ZbF ?_;intro ρ
 refine Gm ?_
 refine rn4 ?_
 refine ZJ ?_
 refine rn7 ?_
 refine ZJ ?_
 refine rn5 ?_
 refine s_N [vL, vi q.kind, vi q.line, vi q.value, vi id, vi home, vo, vd] Try.sizeOf33 ?_
 refine Gl ?_
 refine JC.conseq (L' := row 67 vL (ls.set q.line.toNat ({ l with want := want, serial := l.serial + 1 })) :: blk bk 98 [vL, vi q.kind, vi q.line, vi q.value, vi id, vi home, vo, vd] :: row 105 vo ms :: blk b4 33 q.cells :: LX) (fun w hs => Af (Ci ({ l with want := want, serial := l.serial + 1 }) (by unfold Line.wf Ao; simp only; omega) (hs.pick pkk))) ?_
 refine ZP ?_
 refine Ak Try.call53 rfl (fun w hs => Nq (vL := vL) (vd := vd) (q := q) (id := id) (home := home) (ms := ms) (line := q.line) (ls := (ls.set q.line.toNat ({ l with want := want, serial := l.serial + 1 }))) (l := { l with want := want, serial := l.serial + 1 }) (LX := LX) (Af hs) (by rw [List.getD_eq_getElem?_getD, List.getElem?_set_self (by omega)]; rfl) (by rw [List.length_set]; exact hi) (by rw [List.length_set]; exact hll) hn hid hhome) ?_; intro v34
 refine Gl ?_
 refine A0 (.inl rfl) (fun B w hs => Gb rfl _ w) (fun w hs => ⟨v34, rfl, Af hs⟩)
theorem I6 {LX : List Chunk} {R : List Fact} {w : World} {vL vo vd : Value} {bk : Nat} {q : Op} {id home : Int} {ls : List Line} {l : Line} {q0 : Op} {ds : List Done} (hs : St (blk bk 98 [vL, vi q0.kind, vi q0.line, vi q0.value, vi id, vi home, vo, vd] :: row 67 vL ls :: row 102 vd ds :: LX) R w) (hl : ls.getD q.line.toNat zLine = l) (hi : 0 ≤ q.line ∧ q.line < (ls.length : Int)) (hll : ls.length ≤ 100) (hid : Ao id) (hhome : Ao home) (hn : ds.length ≤ 1000) (hq : q.wf) (hk : 1 ≤ q.kind ∧ q.kind ≤ 4) (hval : 0 ≤ q.value ∧ q.value ≤ 255) : Calls Try.prog 35 [bp bk 0, .agg q.cells.toArray].toArray w (Bl (fun v : Value => .tuple #[]) (fun v => blk bk 98 [vL, vi 0, vi 0, vi 0, vi id, vi home, vo, v] :: row 67 vL (ls.set q.line.toNat ({ l with value := (A7 l.value q).1 })) :: row 102 v (ds ++ [(⟨id, q, (A7 l.value q).2⟩ : Done)]) :: LX) (fun v => R)) := by
 refine Za8 ?_;intro hid0 hhome0
 refine Ah Try.func35 rfl Try.ntmps35 rfl hs ?_
 clear hs
 refine Gm ?_
 refine bx ?_; intro b3
 refine Gl ?_
 refine Zb5 ?_;intro hlw hA hlw0 honeL
 refine ZbF ?_;intro ρ
 refine Gm ?_
 refine rn3 ?_
 refine Ak Try.call54 rfl (fun w hs => Aba (a := q.line + 1) hs (by omega) (by omega)) ?_; intro v19
 refine Ga1 ?_
 refine A8 ?_
 refine dn7 ?_
 refine djc (fun _ _ => It Yu (h1 := by rw [List.length_replicate]; omega)) ?_
 refine dtl ?_; intro ρ
 refine Fp (xs := List.replicate (q.line + 1).toNat 0) Try.sizeOf3 rfl rfl pkk (getD_some 0 (by rw [List.length_replicate]; omega)) (by unfold Ao; omega) ?_
 refine Gl ?_
 refine JC.shut (xs := (Jy l.value q)) (v := v19) pkk ?_
 have hml := Mn (v := l.value) hi.1
 refine ZB ?_
 refine Ak Try.call55 rfl (fun w hs => by have h := Abb (o := q) hs (List.Mem.head _); rw [tellDo hk hi.1 hval] at h; exact h) ?_; intro v31
 refine Ga7 ?_
 refine JC.open0 (xs := (dX (Jy l.value q) q)) (v := v31) q.line.toNat mm (by unfold dX; rw [List.length_set, hml]; omega) (fun hw => ?_)
 have e9 : (dX (Jy l.value q) q).getD q.line.toNat 0 = (A7 l.value q).1 := by rw [dX_at (by rw [hml]; omega), Ll hi.1]
 refine kp [0, 3, 4, 5, 6, 35, 36, 37, 38, 39, 40, 41, 42] ?_
 refine ZG ?_
 refine ob (It Yu (len := (dX (Jy l.value q) q).length) (hl := Et (.tail _ (.head _))) (h1 := by unfold dX; rw [List.length_set, hml]; omega)) ?_
 refine rn3 ?_
 refine sc ?_
 refine Gl ?_
 have hvb := V2 (o := q) hlw.2.1 hval.1 hval.2
 have hvb2 := S8 (o := q) hlw.2.1
 unfold Ao at hvb hvb2
 have e9 : (dX (Jy l.value q) q).getD q.line.toNat El0.df = (A7 l.value q).1 := e9
 rw [e9]
 refine cq_ (blk bk 98 [vL, vi q0.kind, vi q0.line, vi q0.value, vi id, vi home, vo, vd] :: row 102 vd ds :: foc 67 vL ls q.line.toNat [vi l.state, vi (A7 l.value q).1, vi l.want, vi l.serial, vi l.seen, vi l.gave, vi l.given] :: blk b3 33 q.cells :: LX) ?_
 refine jd_ (fun ρ S => blk bk 98 (bif S 16 then [vL, vi q0.kind, vi q0.line, vi q0.value, vi id, vi home, vo, (Gh.dec (γ := Value) (ρ 13))] else [vL, vi q0.kind, vi q0.line, vi q0.value, vi id, vi home, vo, vd]) :: (bif S 13 then row 102 (Gh.dec (γ := Value) (ρ 13)) (ds ++ [(⟨id, q, (A7 l.value q).2⟩ : Done)]) else row 102 vd ds) :: foc 67 vL ls q.line.toNat [vi l.state, vi (A7 l.value q).1, vi l.want, vi l.serial, vi l.seen, vi l.gave, vi l.given] :: blk b3 33 q.cells :: (LX)) ?_
 refine dn4 ?_
 refine Hv (v := vd) (fun ρ S hS hB hA => by have h16 : S 16 = false := hA 16 ⟨0, rfl⟩; simp only [h16, cond_false]; exact Dm (hc := Bd pkk (by repeat (first | exact rfl | refine Cp rfl ?_))) Try.isAgg48) (fun _ _ _ _ _ => rfl) ?_
 refine dn3 ?_
 refine Hv (v := vi id) (fun ρ S hS hB hA => by have h16 : S 16 = false := hA 16 ⟨0, rfl⟩; simp only [h16, cond_false]; exact Dm (hc := Bd pkk (by repeat (first | exact rfl | refine Cp rfl ?_))) Try.isAgg3) (fun _ _ _ _ _ => rfl) ?_
 refine dn2 ?_
 first | refine epc (fun _ _ => D5 Er) ?_ | refine epc (fun _ _ => Eh Er) ?_ | refine epp (fun _ _ => D5 Er) ?_ | refine epp (fun _ _ => Eh Er) ?_
 refine Ie ([(⟨id, q, (A7 l.value q).2⟩ : Done)] : List Done) K1 rfl (fun _ => rfl) rfl (fun _ => rfl) rfl rfl (fun ρ R hd => Mu ⟨hid, hq.1, hq.2.1, hq.2.2, by unfold Ao; simp only; omega⟩) (fun _ _ _ _ _ => rfl) ?_
 refine Ec (e := 102) (xs := ds) (ys := [(⟨id, q, (A7 l.value q).2⟩ : Done)]) (v := vd) K1 (fun _ => rfl) (fun _ => rfl) rfl (by decide) (fun ρ R hd => (hd.dep (it := ⟨12, _, _, _, _⟩) (by repeat (first | exact List.Mem.head _ | refine List.Mem.tail _ ?_)) ⟨9, rfl⟩ (List.Mem.head _))) (by have : maxN = 16777216 := rfl; simp only [List.length_cons, List.length_nil]; omega) (fun ρ g S hS hB hA => ?_) ?_
 ·exact ZcN
 refine dn2 ?_
 refine Di (T0 := 98) (f := 7) (vs := fun ρ => [vL, vi q0.kind, vi q0.line, vi q0.value, vi id, vi home, vo, vd]) (v := fun ρ => (Gh.dec (γ := Value) (ρ 13))) (fun ρ => bk) Try.sizeOf48 (fun _ => rfl) (fun _ => rfl) (fun ρ S R w L9 hB hd hs => by have h13 : S 13 = true := hB 13 ⟨9, rfl⟩; simp only [h13, cond_true] at hs; exact A6 pkk hs) (fun _ => rfl) (fun ρ g S hS hB hA => ?_) ?_
 ·exact ZcW
 refine dnl ?_; intro ρ
 refine xq_ (blk bk 98 [vL, vi q0.kind, vi q0.line, vi q0.value, vi id, vi home, vo, (Gh.dec (γ := Value) (ρ 13))] :: row 102 (Gh.dec (γ := Value) (ρ 13)) (ds ++ [(⟨id, q, (A7 l.value q).2⟩ : Done)]) :: foc 67 vL ls q.line.toNat [vi l.state, vi (A7 l.value q).1, vi l.want, vi l.serial, vi l.seen, vi l.gave, vi l.given] :: blk b3 33 q.cells :: (LX)) ?_
 generalize (Gh.dec (γ := Value) (ρ 12)) = v55
 generalize (Gh.dec (γ := Value) (ρ 13)) = v56
 refine Zad ?_
 refine ob (D5 (cs := zOp.cells) Sn) ?_
 refine rn3 ?_
 refine s_N [vL, vi 0, vi 0, vi 0, vi id, vi home, vo, v56] Try.sizeOf33 ?_
 refine Gl ?_
 refine A0 (.inl rfl) (fun B w hs => Gb rfl _ w) (fun w hs => ⟨v56, rfl, Af (Ci ({ l with value := (A7 l.value q).1 }) (by unfold Line.wf Ao; simp only; omega) (hs.pick pkk))⟩)
section
variable {ls : List Line} {q : Op} {id home : Int} {m : Msg} {l : Line}
theorem G4 (hl : ls.getD m.line.toNat zLine = l) (hi : 0 ≤ m.line ∧ m.line < (ls.length : Int)) (hk : m.kind = 5 ∨ m.kind = 6) : Ac ⟨ls, q⟩ id home m = (if Ew l m.turn then (⟨ls.set m.line.toNat (Cm l m.kind m.turn), if l.want = 3 then zOp else q⟩, [Bk 9 id home m.line m.turn l.value], if l.want = 3 then [⟨id, q, 0⟩] else []) else if m.turn = l.gave ∧ 0 < m.turn then (⟨ls, q⟩, [Bk 9 id home m.line l.gave l.given], []) else (⟨ls, q⟩, [], [])) := by
 subst hl
 unfold Ac
 rw [if_neg (by simp only; omega), if_neg (by omega), if_pos hk]; rfl
theorem H7 (hl : ls.getD m.line.toNat zLine = l) (hi : 0 ≤ m.line ∧ m.line < (ls.length : Int)) (hk : m.kind = 7) : Ac ⟨ls, q⟩ id home m = (if l.serial < m.serial then (⟨ls, q⟩, [], []) else if Ku l m then (⟨ls.set m.line.toNat (I0 l m q), zOp⟩, [Bk 10 id home m.line m.turn 0], [⟨id, q, (A7 m.value q).2⟩]) else (⟨ls, q⟩, [Bk 10 id home m.line m.turn 0], [])) := by
 subst hl
 unfold Ac
 rw [if_neg (by simp only; omega), if_neg (by omega), if_neg (by omega), if_pos hk]; rfl
end
theorem Np {LX : List Chunk} {R : List Fact} {w : World} {vL vo vd : Value} {bk : Nat} {q : Op} {id home : Int} {ls : List Line} {l : Line} {bm : Nat} {ms : List Msg} {ds : List Done} {m : Msg} (hs : St (blk bk 98 [vL, vi q.kind, vi q.line, vi q.value, vi id, vi home, vo, vd] :: row 67 vL ls :: row 105 vo ms :: row 102 vd ds :: blk bm 105 m.cells :: LX) R w) (hl : ls.getD m.line.toNat zLine = l) (hi : 0 ≤ m.line ∧ m.line < (ls.length : Int)) (hll : ls.length ≤ 100) (hm : m.wf) (hid : Ao id) (hhome : Ao home) (hn : ms.length ≤ 1000) (hnd : ds.length ≤ 1000) (hq : q.wf) (hk : m.kind = 5 ∨ m.kind = 6) : Calls Try.prog 62 [bp bk 0, bp bm 0].toArray w (Bl (fun g : Value × Value => .tuple #[]) (fun g => blk bk 98 [vL, vi (Ac ⟨ls, q⟩ id home m).1.wait.kind, vi (Ac ⟨ls, q⟩ id home m).1.wait.line, vi (Ac ⟨ls, q⟩ id home m).1.wait.value, vi id, vi home, g.1, g.2] :: row 67 vL (Ac ⟨ls, q⟩ id home m).1.lines :: row 105 g.1 (ms ++ (Ac ⟨ls, q⟩ id home m).2.1) :: row 102 g.2 (ds ++ (Ac ⟨ls, q⟩ id home m).2.2) :: blk bm 105 m.cells :: LX) (fun g => R)) := by
 have hm0 := hm
 unfold Msg.wf Ao at hm0
 refine Za8 ?_;intro hid0 hhome0
 refine Ah Try.func62 rfl Try.ntmps62 rfl hs ?_
 clear hs
 refine Gl ?_
 refine Zbd ?_;intro hlw hA hlw0 honeL
 refine dn9 ?_
 refine Zbe ?_;intro ρ
 refine kp [0, 1, 4, 15, 16, 17, 18, 19, 20, 21, 22, 23, 24, 25, 26, 27, 28, 29, 30, 31] ?_
 refine Cx 15 (.bool (decide ((m.turn = l.gave) ∧ (0 < m.turn)))) ?_ ?_
 ·rcases (show (¬ (m.turn = l.gave)) ∨ ((m.turn = l.gave) ∧ ¬ (0 < m.turn)) ∨ ((m.turn = l.gave) ∧ (0 < m.turn)) from by omega) with hm | hm | hm
  ·refine ZR ?_
   refine Zau ?_
   refine dn5 ?_
   refine djf ?_
   refine ZI ?_;intro ρ
   exact ZcI
  ·refine ZR ?_
   refine ZO ?_
   refine dn4 ?_
   refine dj (dgy ?_)
   refine dc (fun _ _ => Ai rfl rfl (Md (by omega))) ?_
   refine ZS ?_;intro ρ
   exact ZcI
  ·refine kp [0, 1, 4, 15, 16, 17, 18, 19, 20, 21, 22, 23, 24, 25, 26, 27, 28, 29, 30, 31] ?_
   refine ZR ?_
   refine ZO ?_
   refine dn4 ?_
   refine dj (dgy ?_)
   refine dc (fun _ _ => Ai rfl rfl (I7 (by omega))) ?_
   refine ZS ?_;intro ρ
   exact Zc9
 ·refine A2 ?_
  first | (refine cdx (p := ?p1) (hd := ?d1) ?e1 ?_ ?_; case e1 => exact rfl) | (refine Bg (b := ?b1) ?e1 ?_ ?_; case e1 => exact rfl)
  ·intro ht15
   refine Gl ?_
   refine A8 ?_
   refine dn13 ?_
   refine dtl ?_; intro ρ
   refine Ak Try.call61 rfl (fun w hs => Ed (vL := vL) (vd := vd) (q := q) (id := id) (home := home) (ms := ms) (kind := 9) (line := m.line) (serial := 0) (turn := l.gave) (value := l.given) (LX := foc 67 vL ls m.line.toNat [vi l.state, vi l.value, vi l.want, vi l.serial, vi l.seen, vi l.gave, vi l.given] :: row 102 vd ds :: blk bm 105 m.cells :: LX) (Af hs) hn (by unfold Msg.wf Ao; simp only; omega)) ?_; intro v142
   refine Gl ?_
   have er : (Ac ⟨ls, q⟩ id home m) = (⟨ls, q⟩, [Bk 9 id home m.line l.gave l.given], []) := by rw [G4 hl hi hk, if_neg (by unfold Ew; omega), if_pos ht15]
   rw [er, List.append_nil]
   refine A0 (.inl rfl) (fun B w hs => Gb rfl _ w) (fun w hs => ⟨(v142, vd), rfl, Af (C8 hl hlw (hs.pick pkk))⟩)
  ·intro ht15
   refine Gl ?_
   refine kp [0, 1, 4, 32, 33, 34, 35, 36, 37, 38, 39, 40, 41, 42, 43, 44, 45, 46, 47, 48, 49, 50, 51, 52, 53, 54, 55] ?_
   refine Cx 32 (.bool (decide (l.seen < m.turn ∧ (l.state = 2 ∨ l.state = 3)))) ?_ ?_
   ·rcases (show (m.turn ≤ l.seen) ∨ (l.seen < m.turn ∧ l.state = 2) ∨ (l.seen < m.turn ∧ l.state ≠ 2 ∧ l.state = 3) ∨ (l.seen < m.turn ∧ l.state ≠ 2 ∧ l.state ≠ 3) from by omega) with hm | hm | hm | hm
    ·refine ZR ?_
     refine djc (fun _ _ => Ai rfl rfl (Md (by omega))) ?_
     refine djm ?_
     refine dn12 ?_
     refine djf ?_
     refine ZI ?_;intro ρ
     exact ZcI
    ·refine ZbH ?_
     refine dj (dgy ?_)
     refine Zap ?_
     refine dj (dgy ?_)
     refine dc (fun _ _ => N3) ?_
     refine dn5 ?_
     refine dj (dgy ?_)
     refine dc (fun _ _ => D8) ?_
     refine ZS ?_;intro ρ
     exact Zc9
    ·refine kp [0, 1, 4, 32, 33, 34, 35, 36, 37, 38, 39, 40, 41, 42, 43, 44, 45, 46, 47, 48, 49, 50, 51, 52, 53, 54, 55] ?_
     refine ZbH ?_
     refine dj (dgy ?_)
     refine ZZ ?_
     refine dj (dgy ?_)
     refine dc (fun _ _ => N3) ?_
     refine dn4 ?_
     refine dj (dgy ?_)
     refine Zap ?_
     refine dj (dgy ?_)
     refine dc (fun _ _ => Ya) ?_
     refine ZS ?_;intro ρ
     exact Zc9
    ·refine ZbH ?_
     refine dj (dgy ?_)
     refine ZZ ?_
     refine dj (dgy ?_)
     refine dc (fun _ _ => N3) ?_
     refine dn4 ?_
     refine dj (dgy ?_)
     refine ZZ ?_
     refine dj (dgy ?_)
     refine dc (fun _ _ => Ya) ?_
     refine ZS ?_;intro ρ
     exact ZcI
   ·refine A2 ?_
    first | (refine cdx (p := ?p2) (hd := ?d2) ?e2 ?_ ?_; case e2 => exact rfl) | (refine Bg (b := ?b2) ?e2 ?_ ?_; case e2 => exact rfl)
    ·intro ht32
     refine Gl ?_
     refine kp [0, 1, 4, 56, 57, 58, 59, 60, 61, 62, 63, 64, 65, 66, 67, 68, 69, 70, 71, 72, 73, 74, 75, 76] ?_
     refine Zcf ?_
     refine jd_ (fun ρ S => foc 67 vL ls m.line.toNat (bif S 23 then [vi l.state, vi l.value, vi l.want, vi l.serial, vi m.turn, vi m.turn, vi l.value] else (bif S 20 then [vi l.state, vi l.value, vi l.want, vi l.serial, vi l.seen, vi m.turn, vi l.value] else (bif S 17 then [vi l.state, vi l.value, vi l.want, vi l.serial, vi l.seen, vi m.turn, vi l.given] else [vi l.state, vi l.value, vi l.want, vi l.serial, vi l.seen, vi l.gave, vi l.given]))) :: blk bk 98 [vL, vi q.kind, vi q.line, vi q.value, vi id, vi home, vo, vd] :: row 105 vo ms :: row 102 vd ds :: blk bm 105 m.cells :: (LX)) ?_
     refine dn10 ?_
     refine Jn (v := vi l.value) (fun ρ S => Dm Try.isAgg3 (hc := at_f1 (α := Line) (xs := ls) pkk rfl (by repeat (first | exact rfl | refine Cp rfl ?_)))) (fun _ _ _ _ _ => rfl) ?_
     refine dn6 ?_
     refine C9 (T0 := 67) (f := 5) (k := m.line.toNat) (sz := 7) (hv := vL) (xs := ls) (vs := fun ρ => [vi l.state, vi l.value, vi l.want, vi l.serial, vi l.seen, vi l.gave, vi l.given]) (v := fun ρ => (vi m.turn)) rfl Try.sizeOf3 (fun _ => rfl) (fun _ => rfl) (fun _ _ _ _ _ _ _ _ => rfl) (fun _ => rfl) (fun ρ g S hS hB hA => ?_) ?_
     ·have ui : upS S 17 17 = true := rfl; have u20 : upS S 17 20 = S 20 := rfl; have u23 : upS S 17 23 = S 23 := rfl; have h20 : S 20 = false := hA 20 ⟨0, rfl⟩; have h23 : S 23 = false := hA 23 ⟨0, rfl⟩
      simp only [ui, hS, u20, u23, h20, h23, cond_true, cond_false]
      exact pex
     refine dn2 ?_
     refine C9 (T0 := 67) (f := 6) (k := m.line.toNat) (sz := 7) (hv := vL) (xs := ls) (vs := fun ρ => [vi l.state, vi l.value, vi l.want, vi l.serial, vi l.seen, vi m.turn, vi l.given]) (v := fun ρ => (vi l.value)) rfl Try.sizeOf3 (fun _ => rfl) (fun _ => rfl) (fun _ _ _ _ _ _ _ _ => rfl) (fun _ => rfl) (fun ρ g S hS hB hA => ?_) ?_
     ·have ui : upS S 20 20 = true := rfl; have u17 : upS S 20 17 = S 17 := rfl; have u23 : upS S 20 23 = S 23 := rfl; have h17 : S 17 = true := hB 17 ⟨0, rfl⟩; have h23 : S 23 = false := hA 23 ⟨0, rfl⟩
      simp only [ui, hS, u17, u23, h17, h23, cond_true, cond_false]
      exact pex
     refine dn2 ?_
     refine C9 (T0 := 67) (f := 4) (k := m.line.toNat) (sz := 7) (hv := vL) (xs := ls) (vs := fun ρ => [vi l.state, vi l.value, vi l.want, vi l.serial, vi l.seen, vi m.turn, vi l.value]) (v := fun ρ => (vi m.turn)) rfl Try.sizeOf3 (fun _ => rfl) (fun _ => rfl) (fun _ _ _ _ _ _ _ _ => rfl) (fun _ => rfl) (fun ρ g S hS hB hA => ?_) ?_
     ·have ui : upS S 23 23 = true := rfl; have u17 : upS S 23 17 = S 17 := rfl; have u20 : upS S 23 20 = S 20 := rfl; have h17 : S 17 = true := hB 17 ⟨0, rfl⟩; have h20 : S 20 = true := hB 20 ⟨0, rfl⟩
      simp only [ui, hS, u17, u20, h17, h20, cond_true, cond_false]
      exact pex
     refine dnl ?_; intro ρ
     refine xq_ (foc 67 vL ls m.line.toNat [vi l.state, vi l.value, vi l.want, vi l.serial, vi m.turn, vi m.turn, vi l.value] :: blk bk 98 [vL, vi q.kind, vi q.line, vi q.value, vi id, vi home, vo, vd] :: row 105 vo ms :: row 102 vd ds :: blk bm 105 m.cells :: (LX)) ?_
     refine Gm ?_
     refine rn3 ?_
     refine ZJ ?_
     refine Ga5 ?_
     refine cdy ?_ ?_
     ·intro ht84
      refine kp [0, 1, 4, 85, 86, 87, 88, 89, 90] ?_
      refine ZG ?_
      refine Zax ?_
      refine ZJ ?_
      refine Ga5 ?_
      refine cdy ?_ ?_
      ·exact Zcu
      ·intro ht95
       refine Gl ?_
       refine A8 ?_
       refine dn13 ?_
       refine dtl ?_; intro ρ
       refine Ak Try.call61 rfl (fun w hs => Ed (vL := vL) (vd := vd) (q := q) (id := id) (home := home) (ms := ms) (kind := 9) (line := m.line) (serial := 0) (turn := m.turn) (value := l.value) (LX := foc 67 vL ls m.line.toNat [vi 0, vi 0, vi l.want, vi l.serial, vi m.turn, vi m.turn, vi l.value] :: row 102 vd ds :: blk bm 105 m.cells :: LX) (Af hs) hn (by unfold Msg.wf Ao; simp only; omega)) ?_; intro v142
       refine Gl ?_
       have ef : Cm l m.kind m.turn = { l with seen := m.turn, gave := m.turn, given := l.value, state := 0, value := 0 } := by unfold Cm; rw [if_neg ht95, if_pos ht84]
       have er : (Ac ⟨ls, q⟩ id home m) = (⟨ls.set m.line.toNat ({ l with seen := m.turn, gave := m.turn, given := l.value, state := 0, value := 0 }), q⟩, [Bk 9 id home m.line m.turn l.value], []) := by rw [G4 hl hi hk, if_pos (by unfold Ew; omega), ef, if_neg ht95, if_neg ht95]
       rw [er, List.append_nil]
       refine A0 (.inl rfl) (fun B w hs => Gb rfl _ w) (fun w hs => ⟨(v142, vd), rfl, Af (Ci ({ l with seen := m.turn, gave := m.turn, given := l.value, state := 0, value := 0 }) (by unfold Line.wf Ao; simp only; omega) (hs.pick pkk))⟩)
     ·intro ht84
      refine Gl ?_
      refine kp [0, 1, 4, 91, 92, 93, 94, 95] ?_
      refine Aa ?_
      refine Ga5 ?_
      refine cdy ?_ ?_
      ·exact Zcu
      ·intro ht95
       refine Gl ?_
       refine A8 ?_
       refine dn13 ?_
       refine dtl ?_; intro ρ
       refine Ak Try.call61 rfl (fun w hs => Ed (vL := vL) (vd := vd) (q := q) (id := id) (home := home) (ms := ms) (kind := 9) (line := m.line) (serial := 0) (turn := m.turn) (value := l.value) (LX := foc 67 vL ls m.line.toNat [vi 1, vi l.value, vi l.want, vi l.serial, vi m.turn, vi m.turn, vi l.value] :: row 102 vd ds :: blk bm 105 m.cells :: LX) (Af hs) hn (by unfold Msg.wf Ao; simp only; omega)) ?_; intro v142
       refine Gl ?_
       have ef : Cm l m.kind m.turn = { l with seen := m.turn, gave := m.turn, given := l.value, state := 1 } := by unfold Cm; rw [if_neg ht95, if_neg ht84]
       have er : (Ac ⟨ls, q⟩ id home m) = (⟨ls.set m.line.toNat ({ l with seen := m.turn, gave := m.turn, given := l.value, state := 1 }), q⟩, [Bk 9 id home m.line m.turn l.value], []) := by rw [G4 hl hi hk, if_pos (by unfold Ew; omega), ef, if_neg ht95, if_neg ht95]
       rw [er, List.append_nil]
       refine A0 (.inl rfl) (fun B w hs => Gb rfl _ w) (fun w hs => ⟨(v142, vd), rfl, Af (Ci ({ l with seen := m.turn, gave := m.turn, given := l.value, state := 1 }) (by unfold Line.wf Ao; simp only; omega) (hs.pick pkk))⟩)
    ·intro ht32
     refine Gl ?_
     have er : (Ac ⟨ls, q⟩ id home m) = (⟨ls, q⟩, [], []) := by rw [G4 hl hi hk, if_neg (by unfold Ew; omega), if_neg ht15]
     exact ZcZ
theorem Uj {LX : List Chunk} {R : List Fact} {w : World} {vL vo vd : Value} {bk : Nat} {q : Op} {id home : Int} {ls : List Line} {l : Line} {bm : Nat} {ms : List Msg} {ds : List Done} {m : Msg} (hs : St (blk bk 98 [vL, vi q.kind, vi q.line, vi q.value, vi id, vi home, vo, vd] :: row 67 vL ls :: row 105 vo ms :: row 102 vd ds :: blk bm 105 m.cells :: LX) R w) (hl : ls.getD m.line.toNat zLine = l) (hi : 0 ≤ m.line ∧ m.line < (ls.length : Int)) (hll : ls.length ≤ 100) (hm : m.wf) (hid : Ao id) (hhome : Ao home) (hn : ms.length ≤ 1000) (hnd : ds.length ≤ 1000) (hq : q.wf) (hk : m.kind = 7) (hqa : Ku l m → q.line = m.line ∧ (1 ≤ q.kind ∧ q.kind ≤ 4) ∧ 0 ≤ q.value ∧ q.value ≤ 255) : Calls Try.prog 63 [bp bk 0, bp bm 0].toArray w (Bl (fun g : Value × Value => .tuple #[]) (fun g => blk bk 98 [vL, vi (Ac ⟨ls, q⟩ id home m).1.wait.kind, vi (Ac ⟨ls, q⟩ id home m).1.wait.line, vi (Ac ⟨ls, q⟩ id home m).1.wait.value, vi id, vi home, g.1, g.2] :: row 67 vL (Ac ⟨ls, q⟩ id home m).1.lines :: row 105 g.1 (ms ++ (Ac ⟨ls, q⟩ id home m).2.1) :: row 102 g.2 (ds ++ (Ac ⟨ls, q⟩ id home m).2.2) :: blk bm 105 m.cells :: LX) (fun g => R)) := by
 have hm0 := hm
 unfold Msg.wf Ao at hm0
 refine Za8 ?_;intro hid0 hhome0
 refine Ah Try.func63 rfl Try.ntmps63 rfl hs ?_
 clear hs
 refine Gl ?_
 refine Zbd ?_;intro hlw hA hlw0 honeL
 refine dn9 ?_
 refine Zbe ?_;intro ρ
 refine A8 ?_
 refine dn9 ?_
 refine dnl ?_; intro ρ
 refine Gl ?_
 refine cdy ?_ ?_
 ·intro ht24
  refine Gl ?_
  have er : (Ac ⟨ls, q⟩ id home m) = (⟨ls, q⟩, [], []) := by rw [H7 hl hi hk, if_pos (by omega)]
  exact ZcZ
 ·intro ht24
  refine Gl ?_
  refine ZbA ?_
  refine Cx 5 (.bool (decide ((l.want = 1 ∧ m.alone = false) ∨ (l.want = 2 ∧ m.alone = true)))) ?_ ?_
  ·rcases (show (l.want = 1 ∧ m.alone = false) ∨ (l.want = 1 ∧ m.alone = true) ∨ (l.want = 2 ∧ m.alone = true) ∨ (l.want = 2 ∧ m.alone = false) ∨ (l.want ≠ 1 ∧ l.want ≠ 2) from by rcases Bool.eq_false_or_eq_true m.alone with h1 | h1 <;> simp only [h1, and_true, and_false, or_false, false_or, reduceCtorEq] <;> omega) with hm | hm | hm | hm | hm
   ·obtain ⟨hc1, hal⟩ := hm
    refine ZaE ?_
    refine ob (Dm (c := .bool false) Try.isAgg4 (hc := Bd pkk (by show some (Value.bool m.alone) = _; rw [hal]))) ?_
    refine Ga16 ?_
    exact ZcD
   ·obtain ⟨hc1, hal⟩ := hm
    refine ZaE ?_
    refine ob (Dm (c := .bool true) Try.isAgg4 (hc := Bd pkk (by show some (Value.bool m.alone) = _; rw [hal]))) ?_
    refine rn7 ?_
    refine gy ?_
    refine Az ?_
    refine Ga8 ?_
    exact Zc0
   ·obtain ⟨hc1, hal⟩ := hm
    refine ZbA ?_
    refine ZG ?_
    refine Az ?_
    refine rn12 ?_
    refine gy ?_
    refine C3 ?_
    refine ZE ?_
    refine ob (Dm (c := .bool true) Try.isAgg4 (hc := Bd pkk (by show some (Value.bool m.alone) = _; rw [hal]))) ?_
    refine Ga3 ?_
    exact ZcD
   ·obtain ⟨hc1, hal⟩ := hm
    refine ZG ?_
    refine Az ?_
    refine rn12 ?_
    refine gy ?_
    refine C3 ?_
    refine ZE ?_
    refine ob (Dm (c := .bool false) Try.isAgg4 (hc := Bd pkk (by show some (Value.bool m.alone) = _; rw [hal]))) ?_
    refine Ga3 ?_
    exact Zc0
   ·refine ZbA ?_
    refine ZG ?_
    refine Az ?_
    refine rn12 ?_
    refine gy ?_
    refine Az ?_
    refine Ga8 ?_
    exact Zc0
  ·refine A2 ?_
   refine Gl ?_
   rcases (show (m.serial = l.serial) ∨ (m.serial ≠ l.serial) from by omega) with hc | hc
   ·refine ZR ?_
    refine ZO ?_
    refine dn1 ?_
    refine ZY ?_
    refine dnl ?_; intro ρ
    refine Gl ?_
    first | (refine cdx (p := ?p2) (hd := ?d2) ?e2 ?_ ?_; case e2 => exact rfl) | (refine Bg (b := ?b2) ?e2 ?_ ?_; case e2 => exact rfl)
    ·intro ht61
     have haq : Ku l m := ⟨hc, ht61⟩
     obtain ⟨hq1, hq2, hq3⟩ := hqa haq
     refine Gl ?_
     refine kp [0, 1, 4, 62, 63, 64, 65, 66, 67, 68, 69, 70, 71, 72, 73, 74, 75, 76, 77, 78, 79, 80, 81] ?_
     refine Zcf ?_
     refine jd_ (fun ρ S => foc 67 vL ls m.line.toNat (bif S 23 then [vi 1, vi m.value, vi 0, vi l.serial, vi m.turn, vi l.gave, vi l.given] else (bif S 20 then [vi 1, vi m.value, vi 0, vi l.serial, vi l.seen, vi l.gave, vi l.given] else (bif S 17 then [vi 1, vi m.value, vi l.want, vi l.serial, vi l.seen, vi l.gave, vi l.given] else (bif S 14 then [vi 1, vi l.value, vi l.want, vi l.serial, vi l.seen, vi l.gave, vi l.given] else [vi l.state, vi l.value, vi l.want, vi l.serial, vi l.seen, vi l.gave, vi l.given])))) :: blk bk 98 [vL, vi q.kind, vi q.line, vi q.value, vi id, vi home, vo, vd] :: row 105 vo ms :: row 102 vd ds :: blk bm 105 m.cells :: (LX)) ?_
     refine dn14 ?_
     refine C9 (T0 := 67) (f := 0) (k := m.line.toNat) (sz := 7) (hv := vL) (xs := ls) (vs := fun ρ => [vi l.state, vi l.value, vi l.want, vi l.serial, vi l.seen, vi l.gave, vi l.given]) (v := fun ρ => (vi 1)) rfl Try.sizeOf3 (fun _ => rfl) (fun _ => rfl) (fun _ _ _ _ _ _ _ _ => rfl) (fun _ => rfl) (fun ρ g S hS hB hA => ?_) ?_
     ·have ui : upS S 14 14 = true := rfl; have u17 : upS S 14 17 = S 17 := rfl; have u20 : upS S 14 20 = S 20 := rfl; have u23 : upS S 14 23 = S 23 := rfl; have h17 : S 17 = false := hA 17 ⟨0, rfl⟩; have h20 : S 20 = false := hA 20 ⟨0, rfl⟩; have h23 : S 23 = false := hA 23 ⟨0, rfl⟩
      simp only [ui, hS, u17, u20, u23, h17, h20, h23, cond_true, cond_false]
      exact pex
     refine dn2 ?_
     refine C9 (T0 := 67) (f := 1) (k := m.line.toNat) (sz := 7) (hv := vL) (xs := ls) (vs := fun ρ => [vi 1, vi l.value, vi l.want, vi l.serial, vi l.seen, vi l.gave, vi l.given]) (v := fun ρ => (vi m.value)) rfl Try.sizeOf3 (fun _ => rfl) (fun _ => rfl) (fun _ _ _ _ _ _ _ _ => rfl) (fun _ => rfl) (fun ρ g S hS hB hA => ?_) ?_
     ·have ui : upS S 17 17 = true := rfl; have u14 : upS S 17 14 = S 14 := rfl; have u20 : upS S 17 20 = S 20 := rfl; have u23 : upS S 17 23 = S 23 := rfl; have h14 : S 14 = true := hB 14 ⟨0, rfl⟩; have h20 : S 20 = false := hA 20 ⟨0, rfl⟩; have h23 : S 23 = false := hA 23 ⟨0, rfl⟩
      simp only [ui, hS, u14, u20, u23, h14, h20, h23, cond_true, cond_false]
      exact pex
     refine dn2 ?_
     refine C9 (T0 := 67) (f := 2) (k := m.line.toNat) (sz := 7) (hv := vL) (xs := ls) (vs := fun ρ => [vi 1, vi m.value, vi l.want, vi l.serial, vi l.seen, vi l.gave, vi l.given]) (v := fun ρ => (vi 0)) rfl Try.sizeOf3 (fun _ => rfl) (fun _ => rfl) (fun _ _ _ _ _ _ _ _ => rfl) (fun _ => rfl) (fun ρ g S hS hB hA => ?_) ?_
     ·have ui : upS S 20 20 = true := rfl; have u14 : upS S 20 14 = S 14 := rfl; have u17 : upS S 20 17 = S 17 := rfl; have u23 : upS S 20 23 = S 23 := rfl; have h14 : S 14 = true := hB 14 ⟨0, rfl⟩; have h17 : S 17 = true := hB 17 ⟨0, rfl⟩; have h23 : S 23 = false := hA 23 ⟨0, rfl⟩
      simp only [ui, hS, u14, u17, u23, h14, h17, h23, cond_true, cond_false]
      exact pex
     refine dn2 ?_
     refine C9 (T0 := 67) (f := 4) (k := m.line.toNat) (sz := 7) (hv := vL) (xs := ls) (vs := fun ρ => [vi 1, vi m.value, vi 0, vi l.serial, vi l.seen, vi l.gave, vi l.given]) (v := fun ρ => (vi m.turn)) rfl Try.sizeOf3 (fun _ => rfl) (fun _ => rfl) (fun _ _ _ _ _ _ _ _ => rfl) (fun _ => rfl) (fun ρ g S hS hB hA => ?_) ?_
     ·have ui : upS S 23 23 = true := rfl; have u14 : upS S 23 14 = S 14 := rfl; have u17 : upS S 23 17 = S 17 := rfl; have u20 : upS S 23 20 = S 20 := rfl; have h14 : S 14 = true := hB 14 ⟨0, rfl⟩; have h17 : S 17 = true := hB 17 ⟨0, rfl⟩; have h20 : S 20 = true := hB 20 ⟨0, rfl⟩
      simp only [ui, hS, u14, u17, u20, h14, h17, h20, cond_true, cond_false]
      exact pex
     refine dnl ?_; intro ρ
     refine xq_ (foc 67 vL ls m.line.toNat [vi 1, vi m.value, vi 0, vi l.serial, vi m.turn, vi l.gave, vi l.given] :: blk bk 98 [vL, vi q.kind, vi q.line, vi q.value, vi id, vi home, vo, vd] :: row 105 vo ms :: row 102 vd ds :: blk bm 105 m.cells :: (LX)) ?_
     refine Zag ?_
     refine Bg (b := ?b3) ?e3 ?_ ?_; case e3 => exact rfl
     ·intro ht85
      refine ZP ?_
      refine sc ?_
      refine Gl ?_
      refine JC.conseq (L' := row 67 vL (ls.set m.line.toNat ({ l with state := 2, value := m.value, want := 0, seen := m.turn })) :: blk bk 98 [vL, vi q.kind, vi q.line, vi q.value, vi id, vi home, vo, vd] :: row 105 vo ms :: row 102 vd ds :: blk bm 105 m.cells :: LX) (fun w hs => Af (Ci ({ l with state := 2, value := m.value, want := 0, seen := m.turn }) (by unfold Line.wf Ao; simp only; omega) (hs.pick pkk))) ?_
      refine kp [0, 1, 89, 90, 91, 92, 93, 94] ?_
      refine Zah ?_
      refine ob (Ev 3 Try.isAgg33 Try.sizeOf33) ?_
      refine Ak Try.call35 rfl (fun w hs => I6 (vL := vL) (vd := vd) (q := q) (q0 := q) (id := id) (home := home) (ds := ds) (ls := ls.set m.line.toNat ({ l with state := 2, value := m.value, want := 0, seen := m.turn })) (l := { l with state := 2, value := m.value, want := 0, seen := m.turn }) (LX := row 105 vo ms :: blk bm 105 m.cells :: LX) (Af hs) (by rw [hq1, List.getD_eq_getElem?_getD, List.getElem?_set_self (by omega)]; rfl) (by rw [hq1, List.length_set]; exact hi) (by rw [List.length_set]; exact hll) hid hhome hnd hq hq2 hq3) ?_; intro v95
      refine J.conseq (L' := blk bk 98 [vL, vi 0, vi 0, vi 0, vi id, vi home, vo, v95] :: row 67 vL (ls.set m.line.toNat ({ l with state := 2, value := (A7 m.value q).1, want := 0, seen := m.turn })) :: row 102 v95 (ds ++ [(⟨id, q, (A7 m.value q).2⟩ : Done)]) :: row 105 vo ms :: blk bm 105 m.cells :: LX) (fun w hs => by rw [hq1, List.set_set] at hs; exact Af hs) ?_
      refine Gl ?_
      refine A8 ?_
      refine dn9 ?_
      refine dtl ?_; intro ρ
      refine Ak Try.call61 rfl (fun w hs => Ed (vL := vL) (vd := v95) (q := zOp) (id := id) (home := home) (ms := ms) (kind := 10) (line := m.line) (serial := 0) (turn := m.turn) (value := 0) (LX := row 67 vL (ls.set m.line.toNat ({ l with state := 2, value := (A7 m.value q).1, want := 0, seen := m.turn })) :: row 102 v95 (ds ++ [(⟨id, q, (A7 m.value q).2⟩ : Done)]) :: blk bm 105 m.cells :: LX) (Af hs) hn (by unfold Msg.wf Ao; simp only; omega)) ?_; intro v105
      refine Gl ?_
      have eg : I0 l m q = { l with state := 2, value := (A7 m.value q).1, want := 0, seen := m.turn } := by unfold I0; rw [ht85, if_pos rfl]
      have er : (Ac ⟨ls, q⟩ id home m) = (⟨ls.set m.line.toNat ({ l with state := 2, value := (A7 m.value q).1, want := 0, seen := m.turn }), zOp⟩, [Bk 10 id home m.line m.turn 0], [⟨id, q, (A7 m.value q).2⟩]) := by rw [H7 hl hi hk, if_neg (by omega), if_pos haq, eg]
      rw [er]
      refine A0 (.inl rfl) (fun B w hs => Gb rfl _ w) (fun w hs => ⟨(v105, v95), rfl, Af hs⟩)
     ·intro ht85
      refine Gl ?_
      refine JC.conseq (L' := row 67 vL (ls.set m.line.toNat ({ l with state := 1, value := m.value, want := 0, seen := m.turn })) :: blk bk 98 [vL, vi q.kind, vi q.line, vi q.value, vi id, vi home, vo, vd] :: row 105 vo ms :: row 102 vd ds :: blk bm 105 m.cells :: LX) (fun w hs => Af (Ci ({ l with state := 1, value := m.value, want := 0, seen := m.turn }) (by unfold Line.wf Ao; simp only; omega) (hs.pick pkk))) ?_
      refine Zah ?_
      refine ob (Ev 3 Try.isAgg33 Try.sizeOf33) ?_
      refine Ak Try.call35 rfl (fun w hs => I6 (vL := vL) (vd := vd) (q := q) (q0 := q) (id := id) (home := home) (ds := ds) (ls := ls.set m.line.toNat ({ l with state := 1, value := m.value, want := 0, seen := m.turn })) (l := { l with state := 1, value := m.value, want := 0, seen := m.turn }) (LX := row 105 vo ms :: blk bm 105 m.cells :: LX) (Af hs) (by rw [hq1, List.getD_eq_getElem?_getD, List.getElem?_set_self (by omega)]; rfl) (by rw [hq1, List.length_set]; exact hi) (by rw [List.length_set]; exact hll) hid hhome hnd hq hq2 hq3) ?_; intro v95
      refine J.conseq (L' := blk bk 98 [vL, vi 0, vi 0, vi 0, vi id, vi home, vo, v95] :: row 67 vL (ls.set m.line.toNat ({ l with state := 1, value := (A7 m.value q).1, want := 0, seen := m.turn })) :: row 102 v95 (ds ++ [(⟨id, q, (A7 m.value q).2⟩ : Done)]) :: row 105 vo ms :: blk bm 105 m.cells :: LX) (fun w hs => by rw [hq1, List.set_set] at hs; exact Af hs) ?_
      refine Gl ?_
      refine kp [0, 1, 96, 97, 98, 99, 100, 101, 102, 103, 104] ?_
      refine A8 ?_
      refine dn9 ?_
      refine dtl ?_; intro ρ
      refine Ak Try.call61 rfl (fun w hs => Ed (vL := vL) (vd := v95) (q := zOp) (id := id) (home := home) (ms := ms) (kind := 10) (line := m.line) (serial := 0) (turn := m.turn) (value := 0) (LX := row 67 vL (ls.set m.line.toNat ({ l with state := 1, value := (A7 m.value q).1, want := 0, seen := m.turn })) :: row 102 v95 (ds ++ [(⟨id, q, (A7 m.value q).2⟩ : Done)]) :: blk bm 105 m.cells :: LX) (Af hs) hn (by unfold Msg.wf Ao; simp only; omega)) ?_; intro v105
      refine Gl ?_
      have eg : I0 l m q = { l with state := 1, value := (A7 m.value q).1, want := 0, seen := m.turn } := by unfold I0; rw [ht85, if_neg (by decide)]
      have er : (Ac ⟨ls, q⟩ id home m) = (⟨ls.set m.line.toNat ({ l with state := 1, value := (A7 m.value q).1, want := 0, seen := m.turn }), zOp⟩, [Bk 10 id home m.line m.turn 0], [⟨id, q, (A7 m.value q).2⟩]) := by rw [H7 hl hi hk, if_neg (by omega), if_pos haq, eg]
      rw [er]
      refine A0 (.inl rfl) (fun B w hs => Gb rfl _ w) (fun w hs => ⟨(v105, v95), rfl, Af hs⟩)
    ·intro ht61
     refine Gl ?_
     refine ZbW ?_;intro ρ v105
     have er : (Ac ⟨ls, q⟩ id home m) = (⟨ls, q⟩, [Bk 10 id home m.line m.turn 0], []) := by rw [H7 hl hi hk, if_neg (by omega), if_neg (fun h => ht61 h.2)]
     rw [er, List.append_nil]
     refine A0 (.inl rfl) (fun B w hs => Gb rfl _ w) (fun w hs => ⟨(v105, vd), rfl, Af (C8 hl hlw (hs.pick pkk))⟩)
   ·refine ZR ?_
    refine Zau ?_
    refine dn1 ?_
    refine djf ?_
    refine dnl ?_; intro ρ
    refine Glc ?_
    refine ZbW ?_;intro ρ v105
    have er : (Ac ⟨ls, q⟩ id home m) = (⟨ls, q⟩, [Bk 10 id home m.line m.turn 0], []) := by rw [H7 hl hi hk, if_neg (by omega), if_neg (fun h => hc h.1)]
    rw [er, List.append_nil]
    refine A0 (.inl rfl) (fun B w hs => Gb rfl _ w) (fun w hs => ⟨(v105, vd), rfl, Af (C8 hl hlw (hs.pick pkk))⟩)
end Go.Proofs.Ytbigiimomnfpdaa
