/- This file proves parts of what its law needs: each part is told ahead of it. No conditions. -/
import Derived.Test.YtkgijpngobgfjaaLM2
import Derived.Test.YtkgijpngobgfjaaLM1
set_option linter.unusedVariables false
set_option linter.unusedSimpArgs false
namespace Go.Proofs.Ytkgijpngobgfjaa
open Abs
def Cn (M : List Int) : List Done → List Int → Prop
 | [], M' => M' = M
 | d :: r, M' => (1 ≤ d.op.kind ∧ d.op.kind ≤ 4) ∧ (0 ≤ d.op.line ∧ d.op.line < M.length) ∧ (0 ≤ d.op.value ∧ d.op.value ≤ 255) ∧
  d.value = (if d.op.kind = 4 then 0 else (Be (M.getD d.op.line.toNat 0) d.op).2) ∧ Cn (M.set d.op.line.toNat (Be (M.getD d.op.line.toNat 0) d.op).1) r M'
theorem Mr {v : Int} {o : Op} (hv : 0 ≤ v ∧ v ≤ 255) (ho : 0 ≤ o.value ∧ o.value ≤ 255) : 0 ≤ (Be v o).1 ∧ (Be v o).1 ≤ 255 := by
 unfold Be
 split
 ·exact hv
 ·split
  ·exact ho
  ·split
   ·simp only; omega
   ·exact hv
theorem G2 {v : Int} {o : Op} (h : o.kind = 1 ∨ o.kind = 4) : (Be v o).1 = v := by
 unfold Be
 rcases h with h | h <;> simp [h]
section
variable {n nl : Nat} {x : Chip} {M : List Int}
theorem E0 {α : Type} (l : List α) (i : Nat) (d : α) (h : i < l.length) : l.set i (l.getD i d) = l := by
 apply List.ext_getElem?
 intro j
 by_cases hj : j = i
 ·subst hj; rw [List.getElem?_set_self h, List.getD_eq_getElem?_getD, List.getElem?_eq_getElem h]; rfl
 ·rw [List.getElem?_set_ne (Ne.symm hj)]
theorem Inv.same (h : Inv n nl x M) (i : Nat) (hi : i < nl) : M.set i (M.getD i 0) = M := E0 _ _ _ (by rw [h.ml]; exact hi)
theorem Hd (h : Inv n nl x M) {p i : Nat} (hp : p < n) (hi : i < nl) {kind serial turn value : Int} {al : Bool} (hk : 1 ≤ kind ∧ kind ≤ 11) (hs : 0 ≤ serial ∧ serial ≤ 65535) (ht : 0 ≤ turn ∧ turn ≤ 65535) (hv : 0 ≤ value ∧ value ≤ 255) :
  Bn (Cz n nl) ⟨kind, p, n, i, serial, turn, value, al⟩ = 0 :=
 Tv hk (by simp only [Cz]; omega) (by simp only [Cz]; omega) hs ht hv (by simp only [Cz]; intro h; have h' := h.2 trivial; omega)
theorem L4 (h : Inv n nl x M) {p i : Nat} (hp : p < n) (hi : i < nl) {kind serial turn value : Int} {al : Bool} (hk : 1 ≤ kind ∧ kind ≤ 11) (hs : 0 ≤ serial ∧ serial ≤ 65535) (ht : 0 ≤ turn ∧ turn ≤ 65535) (hv : 0 ≤ value ∧ value ≤ 255) :
  Bn (Cz n nl) ⟨kind, n, p, i, serial, turn, value, al⟩ = 0 :=
 Tv hk (by simp only [Cz]; omega) (by simp only [Cz]; omega) hs ht hv (by simp only [Cz]; intro h; have h' := h.1 trivial; omega)
theorem Mo {p i : Nat} {kind serial turn value : Int} {al : Bool} : I5 n ⟨kind, p, n, i, serial, turn, value, al⟩ = p := by simp [I5]
theorem Q2 {p i : Nat} (hp : p < n) {kind serial turn value : Int} {al : Bool} : I5 n ⟨kind, n, p, i, serial, turn, value, al⟩ = p := by
 unfold I5
 rw [if_neg (by simp only; omega)]; simp
theorem Uw {p i : Nat} {l' : Line} {w' : Op} (h : Inv n nl x M) (hp : p < n) (hi : i < nl) {fr : Frames} : lin ⟨x.cores.set p (Ce (cor x p) i l' w'), x.home, fr⟩ i p = l' := by
 unfold lin cor
 rw [Bi _ _ _ _ _ (by rw [h.nc]; exact hp), if_pos rfl]
 show ((cor x p).lines.set _ l').getD i zLine = l'
 rw [Int.toNat_natCast, Bi _ _ _ _ _ (by rw [h.ncl p hp]; exact hi), if_pos rfl]
theorem Akp {k : Core} {i : Nat} {l' : Line} {o : Op} (hl : k.lines.length = nl) (h : CW k nl) (h0 : k.wait.kind = 0) (hi : i < nl) (ho : (1 ≤ o.kind ∧ o.kind ≤ 4) ∧ o.line = i ∧ (0 ≤ o.value ∧ o.value ≤ 255)) (hw : l'.want = F1 o.kind) : CW (Ce k i l' o) nl := by
 constructor
 ·intro h'; exact absurd h' (by show o.kind ≠ 0; omega)
 ·intro _
  refine ⟨ho.1, ?_, ho.2.2, fun j hj => ?_⟩
  ·show 0 ≤ o.line ∧ o.line < nl; omega
  ·show ((k.lines.set _ l').getD j zLine).want = if (j : Int) = o.line then _ else _
   rw [Int.toNat_natCast, Bi _ _ _ _ _ (by rw [hl]; exact hi), ho.2.1]
   by_cases hj' : j = i
   ·rw [if_pos hj', if_pos (by rw [hj'])]; exact hw
   ·rw [if_neg hj', if_neg (by omega)]; exact (h.free h0).2 j hj
theorem Ho {k : Core} {i : Nat} {l' : Line} (hl : k.lines.length = nl) (h : CW k nl) (hi : i < nl) (h0 : k.wait.kind = 0 ∨ k.wait.line = i) (hw : l'.want = 0) : CW (Ce k i l' zOp) nl := by
 constructor
 ·intro _
  refine ⟨rfl, fun j hj => ?_⟩
  show ((k.lines.set _ l').getD j zLine).want = 0
  rw [Int.toNat_natCast, Bi _ _ _ _ _ (by rw [hl]; exact hi)]
  by_cases hj' : j = i
  ·rw [if_pos hj']; exact hw
  ·rw [if_neg hj']
   by_cases h00 : k.wait.kind = 0
   ·exact (h.free h00).2 j hj
   ·have := (h.busy h00).2.2.2 j hj
    rw [this, if_neg (by omega)]
 ·intro h'; exact absurd rfl h'
theorem Pw {k : Core} {i : Nat} {l' : Line} (hl : k.lines.length = nl) (h : CW k nl) (hi : i < nl) (hw : l'.want = (k.lines.getD i zLine).want) : CW (Ce k i l' k.wait) nl := by
 have hg : ∀ j, ((Ce k i l' k.wait).lines.getD j zLine).want = (k.lines.getD j zLine).want := by
  intro j
  show ((k.lines.set _ l').getD j zLine).want = _
  rw [Int.toNat_natCast, Bi _ _ _ _ _ (by rw [hl]; exact hi)]
  by_cases hj' : j = i
  ·rw [if_pos hj', hj']; exact hw
  ·rw [if_neg hj']
 constructor
 ·intro h0
  exact ⟨(h.free h0).1, fun j hj => by rw [hg]; exact (h.free h0).2 j hj⟩
 ·intro h0
  obtain ⟨h1, h2, h3, h4⟩ := h.busy h0
  exact ⟨h1, h2, h3, fun j hj => by rw [hg]; exact h4 j hj⟩
theorem K8 {k : Core} {i : Nat} (h : CW k nl) (hi : i < nl) (hw : (k.lines.getD i zLine).want ≠ 0) : k.wait.kind ≠ 0 ∧ k.wait.line = i ∧ (k.lines.getD i zLine).want = F1 k.wait.kind := by
 have h0 : k.wait.kind ≠ 0 := fun h0 => hw ((h.free h0).2 i hi)
 have h1 := (h.busy h0).2.2.2 i hi
 by_cases he : (i : Int) = k.wait.line
 ·rw [if_pos he] at h1; exact ⟨h0, he.symm, h1⟩
 ·rw [if_neg he] at h1; exact absurd h1 hw
theorem Y6 {p : Nat} {o : Op} (h : Inv n nl x M) (hp : p < n) (hok : (Aj (cor x p) p n o).2.2.2 = 0) :
  ∃ M', Inv n nl (Cf x p (Aj (cor x p) p n o).1 (Aj (cor x p) p n o).2.1) M' ∧ Cn M (Aj (cor x p) p n o).2.2.1 M' := by
 have hcl := h.ncl p hp
 have hcw := h.cw p hp
 unfold Aj at hok ⊢
 split at hok
 ·cases hok
 split at hok
 ·cases hok
 split at hok
 ·cases hok
 rename_i k1 k2 k3
 rw [if_neg k1, if_neg k2, if_neg k3]
 obtain ⟨i, hi⟩ : ∃ i : Nat, o.line = i := ⟨o.line.toNat, by omega⟩
 have hin : i < nl := by omega
 have hlat : Bo (cor x p) o.line = lin x i p := by unfold Bo lin; rw [hi, Int.toNat_natCast]
 rw [hlat] at k3 ⊢
 have hci := h.ci i hin p hp
 have hgi := h.gi i hin
 have hw0 : (lin x i p).want = 0 := (hcw.free (by omega)).2 i hin
 have hval := h.mv i hin
 have hov : 0 ≤ o.value ∧ o.value ≤ 255 := by omega
 by_cases hd : Cl (lin x i p) o = true
 ·rw [if_pos hd]
  unfold Cf
  simp only [Int.toNat_natCast, way, hi]
  by_cases h4 : o.kind = 4
  ·have hs : (lin x i p).state ≠ 2 := by unfold Cl at hd; rw [if_pos h4] at hd; simpa using hd
   have hb : A8 (lin x i p) o = { lin x i p with state := 0, value := 0 } := by unfold A8; rw [if_pos h4, if_neg hs]
   have ht : Ek (lin x i p) o = 0 := by unfold Ek; rw [if_pos h4]
   rw [hb, ht]
   obtain ⟨c1, c2⟩ := Afd hgi hci hw0 hs
   have hI := h.core (w' := zOp) hp hin c1 (fun _ _ _ hh => hh) c2 (Ho hcl hcw hin (.inl (by omega)) hw0) hval
   refine ⟨_, hI, ?_, ?_, hov, ?_, ?_⟩
   ·show 1 ≤ o.kind ∧ o.kind ≤ 4; omega
   ·show 0 ≤ o.line ∧ o.line < M.length; rw [h.ml]; omega
   ·show (0 : Int) = _; rw [if_pos h4]
   ·show Cn _ [] _
    simp only [Cn, hi, Int.toNat_natCast]
    rw [G2 (.inr h4)]
  ·have hs : (lin x i p).state = 2 ∨ (lin x i p).state = 1 ∧ o.kind = 1 := by unfold Cl at hd; rw [if_neg h4] at hd; simpa using hd
   have hb : A8 (lin x i p) o = { lin x i p with value := (Be (lin x i p).value o).1 } := by unfold A8; rw [if_neg h4, if_pos hs]
   have ht : Ek (lin x i p) o = (Be (lin x i p).value o).2 := by unfold Ek; rw [if_neg h4]
   have hV : (lin x i p).value = M.getD i 0 := by
    rcases hs with hs | hs
    ·exact (hci.alo (.inl hs)).2
    ·exact (hci.cop hs.1).2
   rw [hb, ht]
   have hr := Mr (o := o) hci.va hov
   have hI : Inv n nl ⟨x.cores.set p (Ce (cor x p) i { lin x i p with value := (Be (lin x i p).value o).1 } zOp), x.home, x.frames⟩ (M.set i (Be (lin x i p).value o).1) := by
    rcases hs with hs | hs
    ·obtain ⟨c1, c2⟩ := Akw hgi hci hs hr
     exact h.core (w' := zOp) hp hin c1 (fun q hq hqp hh => Afc hgi hci (by omega) (by omega) hqp hh) c2 (Ho hcl hcw hin (.inl (by omega)) hw0) hr
    ·have e : (Be (lin x i p).value o).1 = (lin x i p).value := G2 (.inl hs.2)
     rw [e]
     exact h.core (w' := zOp) hp hin (by show CI _ p (lin x i p) (lin x i p).value; rw [hV]; exact hci) (fun _ _ _ hh => by rw [hV]; exact hh) (fun _ hm => hm) (Ho hcl hcw hin (.inl (by omega)) hw0) hci.va
   refine ⟨_, hI, ?_, ?_, hov, ?_, ?_⟩
   ·show 1 ≤ o.kind ∧ o.kind ≤ 4; omega
   ·show 0 ≤ o.line ∧ o.line < M.length; rw [h.ml]; omega
   ·show (Be (lin x i p).value o).2 = _; rw [if_neg h4]; simp only [hi, Int.toNat_natCast]; rw [hV]
   ·show Cn _ [] _
    simp only [Cn, hi, Int.toNat_natCast]
    rw [hV]
 ·rw [if_neg hd]
  unfold Cf
  simp only [Int.toNat_natCast, hi]
  -- it asks
  have key : ∃ l', A8 (lin x i p) o = l' ∧ CI (ab (ent x i)) p l' (M.getD i 0) ∧ (∀ m, MI (ab (ent x i)) p (lin x i p) m → MI (ab (ent x i)) p l' m) ∧ l'.want = F1 o.kind ∧ l'.serial = (lin x i p).serial + 1 := by
   by_cases h4 : o.kind = 4
   ·have hs : (lin x i p).state = 2 := by unfold Cl at hd; rw [if_pos h4] at hd; simpa using hd
    obtain ⟨c1, c2⟩ := c_put hgi hci hw0 hs (by omega)
    refine ⟨_, rfl, ?_⟩
    have hb : A8 (lin x i p) o = { lin x i p with state := 3, want := 3, serial := (lin x i p).serial + 1 } := by unfold A8; rw [if_pos h4, if_pos hs]
    rw [hb]
    exact ⟨c1, c2, by simp [F1, h4], rfl⟩
   ·have hs : ¬ ((lin x i p).state = 2 ∨ (lin x i p).state = 1 ∧ o.kind = 1) := by unfold Cl at hd; rw [if_neg h4] at hd; simpa using hd
    have hst := hci.st
    have hlv := hci.leav
    have hkk : (if o.kind = 1 then (1 : Int) else 2) = F1 o.kind := by unfold F1; split <;> first | rfl | rw [if_neg h4]
    obtain ⟨c1, c2⟩ := c_ask (k := if o.kind = 1 then 1 else 2) hgi hci hw0 (by split <;> omega) (by omega)
    refine ⟨_, rfl, ?_⟩
    have hb : A8 (lin x i p) o = { lin x i p with want := if o.kind = 1 then 1 else 2, serial := (lin x i p).serial + 1 } := by unfold A8; rw [if_neg h4, if_neg hs]
    rw [hb]
    exact ⟨c1, c2, hkk, rfl⟩
  obtain ⟨l', hb, c1, c2, c3, c4⟩ := key
  rw [hb]
  have hI := h.core (w' := o) hp hin c1 (fun _ _ _ hh => hh) c2 (Akp hcl hcw (by omega) hin ⟨by omega, hi, hov⟩ c3) hval
  rw [h.same i hin] at hI
  refine ⟨M, ?_, rfl⟩
  refine hI.way fun m hm => ?_
  rw [List.mem_singleton.1 hm]
  have hwr : 1 ≤ l'.want ∧ l'.want ≤ 3 := by rw [c3]; unfold F1; split <;> (try split) <;> omega
  refine ⟨Hd h hp hin (by omega) c1.se ⟨by omega, by omega⟩ (by have := c1.va; split <;> omega), ?_⟩
  unfold MX
  have hpe : I5 n (Cp l' p n i) = p := Mo
  rw [hpe]
  show MI (ab (ent x _)) p (lin _ _ p) _
  rw [show ((Cp l' p n i).line).toNat = i from Int.toNat_natCast i, Uw h hp hin]
  have hla := hci.la
  have e1 : (Cp l' p n i).kind = l'.want := rfl
  have e2 : (Cp l' p n i).serial = l'.serial := rfl
  have e3 : (Cp l' p n i).value = if l'.want = 3 then l'.value else 0 := rfl
  constructor <;> rw [e1] <;> (try rw [e2]) <;> (try rw [e3])
  ·intro hk; exact ⟨Int.le_refl _, fun _ => ⟨rfl, rfl⟩⟩
  ·intro hk; exact ⟨Int.le_refl _, fun _ => .inl ⟨rfl, hk, by rw [if_pos hk]⟩⟩
  all_goals intro hk; omega
theorem MX.said {p i : Nat} {l' : Line} {w' : Op} (h : Inv n nl x M) (hp : p < n) (hi : i < nl) {kind serial turn value : Int} {al : Bool} (hm : MI (ab (ent x i)) p l' ⟨kind, p, n, i, serial, turn, value, al⟩) {fr : Frames} :
  MX n ⟨x.cores.set p (Ce (cor x p) i l' w'), x.home, fr⟩ ⟨kind, p, n, i, serial, turn, value, al⟩ := by
 unfold MX
 rw [Mo]
 show MI (ab (ent x ((i : Int).toNat))) p (lin _ ((i : Int).toNat) p) _
 rw [Int.toNat_natCast, Uw h hp hi]
 exact hm
theorem MX.saidSame {p i : Nat} (hp : p < n) {kind serial turn value : Int} {al : Bool} (hm : MI (ab (ent x i)) p (lin x i p) ⟨kind, p, n, i, serial, turn, value, al⟩) : MX n x ⟨kind, p, n, i, serial, turn, value, al⟩ := by
 unfold MX
 rw [Mo]
 show MI (ab (ent x ((i : Int).toNat))) p (lin _ ((i : Int).toNat) p) _
 rw [Int.toNat_natCast]
 exact hm
theorem MX.told {p i : Nat} {e' : Entry} (h : Inv n nl x M) (hp : p < n) (hi : i < nl) {kind serial turn value : Int} {al : Bool} (hm : MI (ab e') p (lin x i p) ⟨kind, n, p, i, serial, turn, value, al⟩) {fr : Frames} :
  MX n ⟨x.cores, x.home.set i e', fr⟩ ⟨kind, n, p, i, serial, turn, value, al⟩ := by
 unfold MX
 rw [Q2 hp]
 show MI (ab ((x.home.set i e').getD ((i : Int).toNat) A5)) p (lin x ((i : Int).toNat) p) _
 rw [Int.toNat_natCast, Bi _ _ _ _ _ (by rw [h.nh]; exact hi), if_pos rfl]
 exact hm
theorem Acz {p : Nat} {m : Msg} (h : Inv n nl x M) (hp : p < n) (hd : m.dst = p) (hs : m.src = n) (hl : 0 ≤ m.line ∧ m.line < nl) (hr : (0 ≤ m.serial ∧ m.serial ≤ 65535) ∧ (0 ≤ m.turn ∧ m.turn ≤ 65535) ∧ (0 ≤ m.value ∧ m.value ≤ 255)) (hm : MX n x m) :
  ∃ M', Inv n nl (Cf x p (Ac (cor x p) p n m).1 (Ac (cor x p) p n m).2.1) M' ∧ Cn M (Ac (cor x p) p n m).2.2 M' := by
 have hcl := h.ncl p hp
 have hcw := h.cw p hp
 obtain ⟨i, hi⟩ : ∃ i : Nat, m.line = i := ⟨m.line.toNat, by omega⟩
 have hin : i < nl := by omega
 have hlat : Bo (cor x p) m.line = lin x i p := by unfold Bo lin; rw [hi, Int.toNat_natCast]
 have hci := h.ci i hin p hp
 have hgi := h.gi i hin
 have hval := h.mv i hin
 have hMI : MI (ab (ent x i)) p (lin x i p) m := by
  unfold MX at hm
  have : I5 n m = p := by unfold I5; rw [if_neg (by omega), hd]; simp
  rw [this, hi, Int.toNat_natCast] at hm
  exact hm
 have hsame : Inv n nl (Cf x p (cor x p) []) M := by
  unfold Cf
  simp only [Int.toNat_natCast, way]
  have : x.cores.set p (cor x p) = x.cores := E0 _ _ _ (by rw [h.nc]; exact hp)
  rw [this]; exact h
 have hsaid : ∀ m', Bn (Cz n nl) m' = 0 → MX n x m' → Inv n nl (Cf x p (cor x p) [m']) M := by
  intro m' h1 h2
  unfold Cf
  simp only [Int.toNat_natCast]
  have : x.cores.set p (cor x p) = x.cores := E0 _ _ _ (by rw [h.nc]; exact hp)
  rw [this]
  exact h.way fun m'' hm'' => by rw [List.mem_singleton.1 hm'']; exact ⟨h1, h2⟩
 unfold Ac
 rw [if_neg (by rw [hcl]; omega)]
 rw [hlat]
 by_cases k4 : m.kind = 4
 ·rw [if_pos k4]
  obtain ⟨c1, c2⟩ := c_inv hgi hci hMI k4
  have hwant : (C4 (lin x i p) m.turn).want = (lin x i p).want := by unfold C4; split <;> (try split) <;> rfl
  have hI := h.core (w' := (cor x p).wait) hp hin c1 (fun _ _ _ hh => hh) c2 (Pw hcl hcw hin hwant) hval
  rw [h.same i hin] at hI
  refine ⟨M, ?_, rfl⟩
  unfold Cf
  refine Zby ?_
  refine ⟨Hd h hp hin (by omega) (by omega) hr.2.1 (by omega), MX.said h hp hin ?_⟩
  have hseen : m.turn ≤ (C4 (lin x i p) m.turn).seen := by unfold C4; split <;> (try split) <;> first | exact Int.le_refl _ | omega
  constructor <;> simp only <;> intro hk <;> first | omega | exact hseen
 rw [if_neg k4]
 by_cases k5 : m.kind = 5 ∨ m.kind = 6
 ·rw [if_pos k5]
  by_cases hf : E3 (lin x i p) m.turn
  ·rw [if_pos hf]
   obtain ⟨c1, c2, c3, c4⟩ := Akz hgi hci hMI k5 hf
   by_cases hw : (lin x i p).want = 3
   ·rw [if_pos hw, if_pos hw]
    obtain ⟨w1, w2, w3⟩ := K8 hcw hin (by show (lin x i p).want ≠ 0; omega)
    have hwant : (Cv (lin x i p) m.kind m.turn).want = 0 := by unfold Cv; rw [if_pos hw]
    have hI := h.core (w' := zOp) hp hin c1 (fun _ _ _ hh => hh) c2 (Ho hcl hcw hin (.inr w2) hwant) hval
    rw [h.same i hin] at hI
    obtain ⟨b1, b2, b3, b4⟩ := hcw.busy w1
    have hk4 : (cor x p).wait.kind = 4 := by
     exact ZdE
    refine ⟨M, ?_, b1, by rw [h.ml]; exact b2, b3, by show (0 : Int) = _; rw [if_pos hk4], ?_⟩
    ·unfold Cf
     refine Zby ?_
     exact ⟨Hd h hp hin (by omega) (by omega) hr.2.1 hci.va, MX.said h hp hin (c4 _ rfl rfl rfl)⟩
    ·exact Zec
   ·rw [if_neg hw, if_neg hw]
    have hwant : (Cv (lin x i p) m.kind m.turn).want = (lin x i p).want := by unfold Cv; rw [if_neg hw]; split <;> rfl
    have hI := h.core (w' := (cor x p).wait) hp hin c1 (fun _ _ _ hh => hh) c2 (Pw hcl hcw hin hwant) hval
    rw [h.same i hin] at hI
    refine ⟨M, ?_, rfl⟩
    unfold Cf
    refine Zby ?_
    exact ⟨Hd h hp hin (by omega) (by omega) hr.2.1 hci.va, MX.said h hp hin (c4 _ rfl rfl rfl)⟩
  ·rw [if_neg hf]
   split
   ·rename_i hg
    refine ⟨M, hsaid _ ?_ ?_, rfl⟩
    ·rw [hi]; exact Hd h hp hin (by omega) (by omega) (by rw [← hg.1]; exact hr.2.1) hci.gi
    ·rw [hi]; refine MX.saidSame hp ?_
     have := hci.ga
     constructor <;> simp only <;> intro hk <;> first | omega | exact ⟨this.2.1, fun a b c => ⟨a, trivial⟩⟩
   ·exact ⟨M, hsame, rfl⟩
 rw [if_neg k5]
 by_cases k7 : m.kind = 7
 ·rw [if_pos k7]
  by_cases hse : (lin x i p).serial < m.serial
  ·rw [if_pos hse]; exact ⟨M, hsame, rfl⟩
  rw [if_neg hse]
  by_cases ha : Ls (lin x i p) m
  ·rw [if_pos ha]
   have hwne : (lin x i p).want ≠ 0 := by have := ha.2; omega
   obtain ⟨w1, w2, w3⟩ := K8 hcw hin hwne
   obtain ⟨b1, b2, b3, b4⟩ := hcw.busy w1
   have w3' : (lin x i p).want = F1 (cor x p).wait.kind := w3
   have hnk4 : (cor x p).wait.kind ≠ 4 := by
    intro e; rw [e] at w3'; simp [F1] at w3'; have := ha.2; omega
   have hload : m.alone = false → (Be m.value (cor x p).wait).1 = m.value := by
    intro hal
    have h2 := ha.2
    rw [hal] at h2
    have : (lin x i p).want = 1 := by simpa using h2
    refine G2 (.inl ?_)
    rw [this] at w3'
    unfold F1 at w3'; split at w3' <;> (try split at w3') <;> first | assumption | omega
   have hv := Mr (o := (cor x p).wait) hr.2.2 b3
   obtain ⟨c1, c2, c3, c4, c5⟩ := Aky (v := (Be m.value (cor x p).wait).1) hgi hci hMI k7 ha hv hload
   have hI := h.core (w' := zOp) hp hin c1 (fun q _ hq hh => c4 q _ hq hh) c2 (Ho hcl hcw hin (.inr w2) rfl) hv
   refine ⟨M.set i (Be m.value (cor x p).wait).1, ?_, b1, by rw [h.ml]; exact b2, b3, ?_, ?_⟩
   ·unfold Cf
    refine Zby ?_
    exact ⟨Hd h hp hin (by omega) (by omega) hr.2.1 (by omega), MX.said h hp hin (c5 _ rfl rfl)⟩
   ·show (Be m.value (cor x p).wait).2 = _
    rw [if_neg hnk4, w2, Int.toNat_natCast, c3]
   ·show Cn _ [] _
    simp only [Cn]
    rw [w2, Int.toNat_natCast, c3]
  ·rw [if_neg ha]
   refine ⟨M, hsaid _ ?_ ?_, rfl⟩
   ·rw [hi]; exact Hd h hp hin (by omega) (by omega) hr.2.1 (by omega)
   ·rw [hi]; refine MX.saidSame hp ?_
    have hg := hMI.gra k7
    have hseen : m.turn ≤ (lin x i p).seen := by
     by_cases hc : m.serial = (lin x i p).serial ∧ (lin x i p).want ≠ 0
     ·obtain ⟨g1, g2, g3, g4, g5⟩ := hg.2.1 hc.1 hc.2
      have hcur := hci.cur (by omega) g2
      exfalso
      apply ha
      refine ⟨hc.1, ?_⟩
      have hse' : (ab (ent x i)).serial = (lin x i p).serial := by have := hci.la; omega
      cases hal : m.alone with
      | true => right; have := g4.1 hal; exact ⟨by omega, rfl⟩
      | false =>
       left
       have hnot : ¬ (ab (ent x i)).alone = 1 := fun h1 => by have := g4.2 h1; rw [hal] at this; cases this
       have := hgi.al
       exact ⟨by omega, rfl⟩
     ·exact hg.2.2 (by omega)
    constructor <;> simp only <;> intro hk <;> first | omega | exact hseen
 rw [if_neg k7]
 split
 ·rename_i hk
  obtain ⟨k11, hw, hse⟩ := hk
  obtain ⟨c1, c2⟩ := Akx hgi hci hMI k11 hw hse
  obtain ⟨w1, w2, w3⟩ := K8 hcw hin (by show (lin x i p).want ≠ 0; omega)
  obtain ⟨b1, b2, b3, b4⟩ := hcw.busy w1
  have hk4 : (cor x p).wait.kind = 4 := by
   exact ZdE
  have hI := h.core (w' := zOp) hp hin c1 (fun _ _ _ hh => hh) c2 (Ho hcl hcw hin (.inr w2) rfl) hval
  rw [h.same i hin] at hI
  refine ⟨M, ?_, b1, by rw [h.ml]; exact b2, b3, by show (0 : Int) = _; rw [if_pos hk4], ?_⟩
  ·unfold Cf
   simp only [Int.toNat_natCast, hi, way]
   exact hI
  ·exact Zec
 ·exact ⟨M, hsame, rfl⟩
end
end Go.Proofs.Ytkgijpngobgfjaa
namespace Go.Proofs.Ytkgijpngobgfjaa
open Abs
theorem Akr : ∀ (s : Fin 16) (p q : Fin 4), (Gg (s.val : Int) (p.val : Int)).toNat.testBit q.val = (decide (q ≠ p) && s.val.testBit q.val) := by decide
theorem Aaj : ∀ (s : Fin 16) (p : Fin 4), 0 ≤ Gg (s.val : Int) (p.val : Int) ∧ Gg (s.val : Int) (p.val : Int) ≤ s.val := by decide
theorem Ahk : ∀ (s : Fin 16) (p q : Fin 4), (Hv (s.val : Int) (p.val : Int)).toNat.testBit q.val = (decide (q = p) || s.val.testBit q.val) := by decide
theorem Yd : ∀ (n : Fin 5) (s : Fin 16) (p : Fin 4), p.val < n.val → s.val < 2 ^ n.val → 0 ≤ Hv (s.val : Int) (p.val : Int) ∧ Hv (s.val : Int) (p.val : Int) < (2 ^ n.val : Nat) := by decide
theorem Abi : ∀ (s : Fin 16), (∀ q : Fin 4, s.val.testBit q.val = false) → s.val = 0 := by decide
theorem high (s : Int) (h : 0 ≤ s ∧ s < 16) (q : Nat) (hq : 4 ≤ q) : s.toNat.testBit q = false := by
 apply Nat.testBit_lt_two_pow
 have : 2 ^ 4 ≤ 2 ^ q := Nat.pow_le_pow_right (by omega) hq
 omega
theorem Iy (s : Int) (h : 0 ≤ s ∧ s < 16) (q : Nat) (hq : 4 ≤ q) : Cm s q = 0 := by unfold Cm; rw [high s h q hq]; rfl
theorem C6 (q : Nat) : Cm 0 q = 0 := by simp [Cm]
theorem X1 {s : Int} (h : 0 ≤ s ∧ s < 16) : ∃ f : Fin 16, (f.val : Int) = s := ⟨⟨s.toNat, by omega⟩, by simp only; omega⟩
theorem E8 {s : Int} {p : Nat} (h : 0 ≤ s ∧ s < 16) (hp : p < 4) : Cm (Gg s p) = upd (Cm s) p 0 := by
 obtain ⟨f, rfl⟩ := X1 h
 funext q
 have hr := Aaj f ⟨p, hp⟩
 simp only at hr
 by_cases hq : q < 4
 ·have := Akr f ⟨p, hp⟩ ⟨q, hq⟩
  simp only at this
  unfold Cm upd
  rw [this]
  by_cases hqp : q = p
  ·subst hqp; simp
  ·simp [hqp]
 ·rw [Iy _ (by omega) _ (by omega)]
  unfold upd
  rw [if_neg (by omega), Iy _ (by omega) _ (by omega)]
theorem R6 {s : Int} {p : Nat} (h : 0 ≤ s ∧ s < 16) (hp : p < 4) (q : Nat) : Cm (Hv s p) q = if q = p then 1 else Cm s q := by
 obtain ⟨f, rfl⟩ := X1 h
 have hr : 0 ≤ Hv (f.val : Int) (p : Int) ∧ Hv (f.val : Int) (p : Int) < 16 := Yd 4 f ⟨p, hp⟩ hp f.isLt
 by_cases hq : q < 4
 ·have := Ahk f ⟨p, hp⟩ ⟨q, hq⟩
  simp only at this
  unfold Cm
  rw [this]
  by_cases hqp : q = p
  ·subst hqp; simp
  ·simp [hqp]
 ·rw [Iy _ (by omega) _ (by omega), if_neg (by omega), Iy _ (by omega) _ (by omega)]
theorem Oi {s : Int} {p n : Nat} (hn : n ≤ 4) (h : 0 ≤ s ∧ s < (2 ^ n : Nat)) (hp : p < 4) : 0 ≤ Gg s p ∧ Gg s p < (2 ^ n : Nat) := by
 have : (2 ^ n : Nat) ≤ 2 ^ 4 := Nat.pow_le_pow_right (by omega) hn
 obtain ⟨f, rfl⟩ := X1 (s := s) (by omega)
 have hr := Aaj f ⟨p, hp⟩
 simp only at hr
 omega
theorem Afz {s : Int} {p n : Nat} (hn : n ≤ 4) (h : 0 ≤ s ∧ s < (2 ^ n : Nat)) (hp : p < n) : 0 ≤ Hv s p ∧ Hv s p < (2 ^ n : Nat) := by
 have : (2 ^ n : Nat) ≤ 2 ^ 4 := Nat.pow_le_pow_right (by omega) hn
 obtain ⟨f, rfl⟩ := X1 (s := s) (by omega)
 exact Yd ⟨n, by omega⟩ f ⟨p, by omega⟩ hp (by simp only; omega)
theorem He {s : Int} {n : Nat} (hn : n ≤ 4) (h : 0 ≤ s ∧ s < (2 ^ n : Nat)) : 0 ≤ s ∧ s < 16 := by
 have : (2 ^ n : Nat) ≤ 2 ^ 4 := Nat.pow_le_pow_right (by omega) hn
 omega
theorem Ii {s : Int} (h : 0 ≤ s ∧ s < 16) (hb : ∀ q, q < 4 → Cm s q = 0) : s = 0 := by
 obtain ⟨f, rfl⟩ := X1 h
 have := Abi f fun q => by
  have := hb q.val q.isLt
  unfold Cm at this
  simp only [Int.toNat_natCast] at this
  cases ht : f.val.testBit q.val with
  | false => rfl
  | true => simp [ht] at this
 omega
theorem R5 {s : Int} {n : Nat} (hn : n ≤ 4) (h : 0 ≤ s ∧ s < (2 ^ n : Nat)) (h0 : s ≠ 0) : ∃ q : Nat, q < n ∧ Cm s q = 1 := by
 apply Classical.byContradiction
 intro hno
 apply h0
 refine Ii (He hn h) fun q _ => ?_
 by_cases hq : q < n
 ·have : ¬ Cm s q = 1 := fun he => hno ⟨q, hq, he⟩
  unfold Cm at this ⊢
  split <;> rename_i hb
  ·rw [if_pos hb] at this; exact absurd rfl this
  ·rfl
 ·unfold Cm
  rw [Nat.testBit_lt_two_pow (show s.toNat < 2 ^ q by have : 2 ^ n ≤ 2 ^ q := Nat.pow_le_pow_right (by omega) (by omega); omega)]
  rfl
theorem H9 (s : Int) (p : Nat) : Nu s p = true ↔ Cm s p = 1 := by
 unfold Nu Cm
 rw [Int.toNat_natCast]
 cases s.toNat.testBit p <;> simp
section
variable {n nl : Nat} {x : Chip} {M : List Int}
theorem Kq (h : Inv n nl x M) {i : Nat} (hi : i < nl) : ∀ m ∈ E9 (ent x i) i n, Bn (Cz n nl) m = 0 ∧ MX n x m := by
 intro m hm
 have hg := h.gi i hi
 have hn := h.n1
 have hto : ∀ {p : Nat} {kind serial turn value : Int} {al : Bool}, p < n → MI (ab (ent x i)) p (lin x i p) ⟨kind, n, p, i, serial, turn, value, al⟩ → MX n x ⟨kind, n, p, i, serial, turn, value, al⟩ := by
  intro p kind serial turn value al hp hmi
  unfold MX
  rw [Q2 hp]
  show MI (ab (ent x ((i : Int).toNat))) p (lin x ((i : Int).toNat) p) _
  rw [Int.toNat_natCast]; exact hmi
 unfold E9 at hm
 by_cases h1 : (ent x i).phase = 1
 ·rw [if_pos h1] at hm
  rw [List.mem_singleton.1 hm]
  have hf := hg.f1 h1
  have how := hg.own
  obtain ⟨p, hp⟩ : ∃ p : Nat, (ent x i).owner = p := ⟨(ent x i).owner.toNat, by show _ = _; have := hf.1; show (ent x i).owner = _; simp only [ab] at this; omega⟩
  have hpn : p < n := by have := how.2; simp only [ab] at this; omega
  rw [hp]
  refine ⟨L4 h hpn hi (by split <;> omega) (by omega) hg.tu (by omega), hto hpn ?_⟩
  have ha : (if (ent x i).alone = true then (6 : Int) else 5) = 5 + (ab (ent x i)).alone := by simp only [ab]; split <;> rfl
  rw [ha]
  have hal := hg.al
  constructor <;> simp only <;> intro hk <;> first | omega | exact ⟨Int.le_refl _, fun _ => ⟨rfl, h1, hp, trivial⟩⟩
 rw [if_neg h1] at hm
 by_cases h2 : (ent x i).phase = 2
 ·rw [if_pos h2] at hm
  obtain ⟨q, hq, rfl⟩ := List.mem_map.1 hm
  obtain ⟨hq1, hq2⟩ := List.mem_filter.1 hq
  obtain ⟨p, rfl⟩ : ∃ p : Nat, q = p := ⟨q.toNat, by simp at hq1; omega⟩
  have hb := (H9 _ _).1 hq2
  have hpn : p < n := by
   apply Classical.byContradiction
   intro hge
   have hbit := (h.bit i hi).2
   unfold Cm at hb
   rw [Nat.testBit_lt_two_pow (show (ent x i).need.toNat < 2 ^ p by have : 2 ^ n ≤ 2 ^ p := Nat.pow_le_pow_right (by omega) (by omega); omega)] at hb
   simp at hb
  refine ⟨L4 h hpn hi (by omega) (by omega) hg.tu (by omega), hto hpn ?_⟩
  constructor <;> simp only <;> intro hk <;> first | omega | exact ⟨Int.le_refl _, fun _ => ⟨rfl, h2, hb⟩⟩
 rw [if_neg h2] at hm
 by_cases h3 : (ent x i).phase = 3
 ·rw [if_pos h3] at hm
  rw [List.mem_singleton.1 hm]
  have hw := hg.whor (by show (ent x i).phase ≠ 0; omega)
  simp only [ab] at hw
  obtain ⟨p, hp⟩ : ∃ p : Nat, (ent x i).who = p := ⟨(ent x i).who.toNat, by omega⟩
  have hpn : p < n := by omega
  have hci := h.ci i hi p hpn
  have hcur := hci.cur (by show (ent x i).phase ≠ 0; omega) hp
  rw [hp]
  refine ⟨L4 h hpn hi (by omega) hg.se hg.tu hg.va, hto hpn ?_⟩
  constructor <;> simp only <;> intro hk <;> first | omega | skip
  refine ⟨by have := hcur.1; simp only [ab] at this ⊢; omega, fun e1 e2 => ⟨h3, hp, rfl, ?_, rfl⟩, fun hn' => ?_⟩
  ·simp only [ab]; cases (ent x i).alone <;> simp
  ·rcases hcur.2 with ⟨d1, d2, d3⟩ | ⟨d1, d2, d3, d4⟩
   ·have hal := hg.al
    simp only [ab] at d1 d2 hal
    omega
   ·simp only [ab] at d3 ⊢; omega
 ·rw [if_neg h3] at hm; cases hm
theorem Sn (h : Inv n nl x M) : ∀ (k : Nat) (l : List Entry), x.home.drop k = l → ∀ m ∈ Ci n k l, Bn (Cz n nl) m = 0 ∧ MX n x m := by
 intro k l
 induction l generalizing k with
 | nil => intro _ m hm; cases hm
 | cons e l ih =>
  intro hd m hm
  have hk : k < x.home.length := by
   apply Classical.byContradiction
   intro hge
   rw [List.drop_of_length_le (by omega)] at hd; cases hd
  rw [List.drop_eq_getElem_cons hk] at hd
  injection hd with he hd
  simp only [Ci] at hm
  rcases List.mem_append.1 hm with hm | hm
  ·have : ent x k = e := by unfold ent; rw [List.getD_eq_getElem?_getD, List.getElem?_eq_getElem hk, he]; rfl
   rw [← this] at hm
   exact Kq h (by rw [← h.nh]; exact hk) m hm
  ·exact ih (k + 1) hd m (by push_cast; exact hm)
theorem Pf (h : Inv n nl x M) : Inv n nl ⟨x.cores, x.home, way x.frames (Ei x.home n)⟩ M :=
 h.way fun m hm => Sn h 0 x.home rfl m hm
theorem Abb (h : Inv n nl x M) {p i : Nat} (hp : p < n) (hi : i < nl) (hw : (lin x i p).want ≠ 0) : Bn (Cz n nl) (Cp (lin x i p) p n i) = 0 ∧ MX n x (Cp (lin x i p) p n i) := by
 have hci := h.ci i hi p hp
 have hwa := hci.wa
 refine ⟨Hd h hp hi (by omega) hci.se ⟨by omega, by omega⟩ (by have := hci.va; split <;> omega), MX.saidSame hp ?_⟩
 constructor <;> simp only <;> intro hk <;> first | exact ⟨Int.le_refl _, fun _ => ⟨trivial, trivial⟩⟩ | exact ⟨Int.le_refl _, fun _ => .inl ⟨trivial, hk, by rw [if_pos hk]⟩⟩ | omega
theorem Qm (h : Inv n nl x M) {p : Nat} (hp : p < n) : ∀ (k : Nat) (l : List Line), (cor x p).lines.drop k = l → ∀ m ∈ Bl p n k l, Bn (Cz n nl) m = 0 ∧ MX n x m := by
 intro k l
 induction l generalizing k with
 | nil => intro _ m hm; cases hm
 | cons e l ih =>
  intro hd m hm
  have hk : k < (cor x p).lines.length := by
   apply Classical.byContradiction
   intro hge
   rw [List.drop_of_length_le (by omega)] at hd; cases hd
  rw [List.drop_eq_getElem_cons hk] at hd
  injection hd with he hd
  have hlin : lin x k p = e := by unfold lin; rw [List.getD_eq_getElem?_getD, List.getElem?_eq_getElem hk, he]; rfl
  simp only [Bl] at hm
  split at hm
  ·rename_i hw
   rcases List.mem_cons.1 hm with hm | hm
   ·rw [hm, ← hlin]
    exact Abb h hp (by rw [← h.ncl p hp]; exact hk) (by rw [hlin]; exact hw)
   ·exact ih (k + 1) hd m (by push_cast; exact hm)
  ·exact ih (k + 1) hd m (by push_cast; exact hm)
theorem Ph (h : Inv n nl x M) {p : Nat} (hp : p < n) : Inv n nl ⟨x.cores, x.home, way x.frames (Eb (cor x p) p n)⟩ M :=
 h.way fun m hm => Qm h hp 0 _ rfl m hm
theorem Akk (h : Inv n nl x M) {i : Nat} (hi : i < nl) (e' : Entry) (fr : Frames) : ent ⟨x.cores, x.home.set i e', fr⟩ i = e' := by
 unfold ent
 rw [Bi _ _ _ _ _ (by rw [h.nh]; exact hi), if_pos rfl]
theorem Inv.homeSays {i : Nat} {e' : Entry} (h : Inv n nl x M) (hi : i < nl) (hI : Inv n nl ⟨x.cores, x.home.set i e', x.frames⟩ M) : Inv n nl ⟨x.cores, x.home.set i e', Go.Proofs.Ytkgijpngobgfjaa.way x.frames (E9 e' i n)⟩ M := by
 have := Kq hI hi
 rw [Akk h hi] at this
 exact hI.way this
end
end Go.Proofs.Ytkgijpngobgfjaa
namespace Go.Proofs.Ytkgijpngobgfjaa
open Abs
section
variable {n nl : Nat} {x : Chip} {M : List Int}
theorem Vr (e : Entry) : (ab e).alone = 1 ↔ e.alone = true := by simp only [ab]; cases e.alone <;> simp
theorem Sd (e : Entry) : (ab e).alone = 0 ↔ e.alone = false := by simp only [ab]; cases e.alone <;> simp
theorem Aiq {p i : Nat} {m : Msg} (h : Inv n nl x M) (hp : p < n) (hi : i < nl) (hs : m.src = p) (hms : 0 ≤ m.serial ∧ m.serial ≤ 65535) (hM : MI (ab (ent x i)) p (lin x i p) m) (hk : m.kind = 1 ∨ m.kind = 2) (h0 : (ent x i).phase = 0)
  (hl : Fd (ent x i) m.src < m.serial) (ht : (ent x i).turn < 65535) : Inv n nl ⟨x.cores, x.home.set i (Ke (ent x i) m), x.frames⟩ M := by
 refine ZaZ ?_;intro hn hb hgi
 have hlast : (ent x i).last.getD p 0 < m.serial := by unfold Fd at hl; rw [hs, Int.toNat_natCast] at hl; exact hl
 have hla := h.nla i hi
 have hlu : (fun q => ((ent x i).last.set p m.serial).getD q 0) = upd (ab (ent x i)).last p m.serial := by
  funext q; rw [Bi _ _ _ _ _ (by rw [hla]; exact hp)]; rfl
 have hclr := Oi (by omega) hb.1 (show p < 4 by omega)
 have hbc := E8 (He (by omega) hb.1) (show p < 4 by omega)
 have hal : (if (m.kind == 2) = true then (1 : Int) else 0) = m.kind - 1 := by rcases hk with hk | hk <;> simp [hk]
 unfold Ke Ct
 simp only [hs, Int.toNat_natCast]
 by_cases ho : 0 ≤ (ent x i).owner
 ·rw [if_pos ho]
  refine ZcE ?_
  exact Aiv hgi (h.ci i hi) hp hM hk hms h0 hlast ht rfl rfl rfl rfl rfl hal rfl hlu (.inl ⟨ho, rfl, fun q => C6 q⟩)
 ·rw [if_neg ho]
  by_cases hc : (m.kind == 2) = true ∧ Gg (ent x i).sharers p ≠ 0
  ·rw [if_pos hc]
   refine h.home hi (by simpa using hla) ⟨hb.1, hclr⟩ ?_
   refine Aiv hgi (h.ci i hi) hp hM hk hms h0 hlast ht rfl rfl rfl rfl rfl hal rfl hlu (.inr (.inl ⟨by simp only [ab]; omega, by simpa using hc.1, rfl, R5 (by omega) hclr hc.2, fun q => ?_⟩))
   show Cm (Gg (ent x i).sharers p) q = _
   rw [hbc]; rfl
  ·rw [if_neg hc]
   refine ZcE ?_
   refine Aiv hgi (h.ci i hi) hp hM hk hms h0 hlast ht rfl rfl rfl rfl rfl hal rfl hlu (.inr (.inr ⟨by simp only [ab]; omega, rfl, fun q => C6 q, fun hk2 q hq hqp => ?_⟩))
   have hz : Gg (ent x i).sharers p = 0 := Classical.byContradiction fun hz => hc ⟨by simp [hk2], hz⟩
   have := congrFun hbc q
   exact Zd7
theorem Aip {p i : Nat} {m : Msg} (h : Inv n nl x M) (hp : p < n) (hi : i < nl) (hs : m.src = p) (hms : 0 ≤ m.serial ∧ m.serial ≤ 65535) (hmv : 0 ≤ m.value ∧ m.value ≤ 255) (hM : MI (ab (ent x i)) p (lin x i p) m) (hk : m.kind = 3) (h0 : (ent x i).phase = 0) :
  Inv n nl ⟨x.cores, x.home.set i (Fv (ent x i) m), x.frames⟩ M ∧ m.serial ≤ (Fv (ent x i) m).last.getD p 0 := by
 have hb := h.bit i hi
 have hgi := h.gi i hi
 have hla := h.nla i hi
 have hlu : (fun q => ((ent x i).last.set p m.serial).getD q 0) = upd (ab (ent x i)).last p m.serial := by
  funext q; rw [Bi _ _ _ _ _ (by rw [hla]; exact hp)]; rfl
 have hlast : Fd (ent x i) m.src = (ent x i).last.getD p 0 := by unfold Fd; rw [hs, Int.toNat_natCast]
 unfold Fv
 simp only [hs, Int.toNat_natCast] at hlast ⊢
 rw [hlast]
 by_cases hl : (ent x i).last.getD p 0 < m.serial
 ·rw [if_pos hl]
  by_cases ho : (ent x i).owner = p
  ·rw [if_pos ho]
   refine ⟨h.home hi (by simpa using hla) hb ?_, ?_⟩
   ·exact h_put hgi (h.ci i hi) hp hM hk hmv h0 hl rfl rfl rfl rfl rfl hlu rfl rfl (.inl ⟨ho, rfl, rfl⟩)
   ·exact Zef
  ·rw [if_neg ho]
   refine ⟨h.home hi (by simpa using hla) hb ?_, ?_⟩
   ·exact h_put hgi (h.ci i hi) hp hM hk hmv h0 hl rfl rfl rfl rfl rfl hlu rfl rfl (.inr ⟨ho, rfl, rfl⟩)
   ·exact Zef
 ·rw [if_neg hl]
  have : x.home.set i (ent x i) = x.home := E0 _ _ _ (by rw [h.nh]; exact hi)
  rw [this]
  exact ⟨h, by omega⟩
theorem Adb {p i : Nat} {m : Msg} (h : Inv n nl x M) (hp : p < n) (hi : i < nl) (hs : m.src = p) (hmv : 0 ≤ m.value ∧ m.value ≤ 255) (hM : MI (ab (ent x i)) p (lin x i p) m) (hk : m.kind = 9) (h0 : (ent x i).phase = 1) (ht : m.turn = (ent x i).turn) (ho : m.src = (ent x i).owner) :
  Inv n nl ⟨x.cores, x.home.set i (Hn (ent x i) m), x.frames⟩ M := by
 refine ZaZ ?_;intro hn hb hgi
 have hla := h.nla i hi
 have hop : (ent x i).owner = p := by rw [← ho]; exact hs
 have hf := hgi.f1 h0
 have hsh0 : ∀ q, q < n → Cm (ent x i).sharers q = 0 := by
  intro q hq
  have h1 := (h.ci i hi q hq).shs
  have h2 := (h.ci i hi q hq).bits
  simp only [ab] at h1 h2 hf
  omega
 have hz : (ent x i).sharers = 0 := by
  refine Ii (He (by omega) hb.1) fun q _ => ?_
  by_cases hq : q < n
  ·exact hsh0 q hq
  ·unfold Cm
   refine Zbt ?_
   rfl
 have hpos : 0 < 2 ^ n := Nat.two_pow_pos n
 unfold Hn Ct
 simp only
 rw [if_neg (by omega)]
 have hclr0 : ∀ w : Int, Gg 0 w = 0 := by intro w; unfold Gg Nu; simp
 have hc : ¬ ((ent x i).alone = true ∧ Gg (if (ent x i).alone = true then (ent x i).sharers else Hv (ent x i).sharers (ent x i).owner) (ent x i).who ≠ 0) := by
  rintro ⟨h1, h2⟩
  rw [if_pos h1, hz, hclr0] at h2
  exact h2 rfl
 rw [if_neg hc]
 refine h.home hi hla ⟨?_, ⟨by simp only; omega, by simp only; omega⟩⟩ ?_
 ·simp only
  split
  ·exact hb.1
  ·rw [hop]; exact Afz (by omega) hb.1 hp
 ·refine h_data hgi (h.ci i hi) hp hM hk hmv h0 ht hop rfl rfl (fun q => ?_) rfl rfl rfl rfl rfl rfl (fun q => C6 q)
  show Cm (if (ent x i).alone = true then (ent x i).sharers else Hv (ent x i).sharers (ent x i).owner) q = if q = p ∧ (ab (ent x i)).alone = 0 then 1 else Cm (ent x i).sharers q
  have ha0 := Sd (ent x i)
  have hbs := R6 (He (by omega) hb.1) (show p < 4 by omega) q
  rw [hop]
  cases hal : (ent x i).alone with
  | true => rw [hal] at ha0; simp only [Bool.true_eq_false, iff_false] at ha0; simp [ha0]
  | false => rw [hal] at ha0; simp only [iff_true] at ha0; simp [ha0, hbs]
theorem Ada {p i : Nat} {m : Msg} (h : Inv n nl x M) (hp : p < n) (hi : i < nl) (hs : m.src = p) (hM : MI (ab (ent x i)) p (lin x i p) m) (hk : m.kind = 8) (h0 : (ent x i).phase = 2) (ht : m.turn = (ent x i).turn) (ho : Nu (ent x i).need m.src = true) :
  Inv n nl ⟨x.cores, x.home.set i (if (Ch (ent x i) m).need = 0 then Ct (Ch (ent x i) m) else Ch (ent x i) m), x.frames⟩ M := by
 refine ZaZ ?_;intro hn hb hgi
 have hla := h.nla i hi
 have hnd : Cm (ent x i).need p = 1 := by rw [hs] at ho; exact (H9 _ _).1 ho
 have hc1 := Oi (by omega) hb.1 (show p < 4 by omega)
 have hc2 := Oi (by omega) hb.2 (show p < 4 by omega)
 refine ZcB ?_;intro hb1 hb2 hown
 have hal := (hgi.c2 h0).1
 rw [Vr] at hal
 unfold Ch
 simp only [hs]
 by_cases hz : Gg (ent x i).need p = 0
 ·rw [if_pos hz]
  have hrest : ∀ q : Nat, q ≠ p → q < n → Cm (ent x i).need q = 0 := by
   intro q hqp hq
   have := congrFun hb2 q
   exact Zd7
  have hpw : (ent x i).who ≠ p := ((h.ci i hi p hp).ned hnd).2.1
  have hsh : ∀ q, q < n → (ent x i).who ≠ q → q ≠ p → Cm (ent x i).sharers q = 0 := by
   exact ZdO
  have hw := hgi.whor (by show (ent x i).phase ≠ 0; omega)
  simp only [ab] at hw
  obtain ⟨w, hw'⟩ : ∃ w : Nat, (ent x i).who = w := ⟨(ent x i).who.toNat, by omega⟩
  have hcc : Gg (Gg (ent x i).sharers p) (ent x i).who = 0 := by
   exact Zdl
  have hne : Ct { ent x i with need := Gg (ent x i).need p, sharers := Gg (ent x i).sharers p } = { ent x i with need := 0, sharers := Gg (ent x i).sharers p, phase := 3 } := by
   unfold Ct
   simp only
   rw [if_neg (by omega), if_neg (by rintro ⟨_, h2⟩; exact h2 hcc)]
  rw [hne]
  refine h.home hi hla ⟨hc1, ⟨by simp only; omega, by have : 0 < 2 ^ n := Nat.two_pow_pos n; simp only; omega⟩⟩ ?_
  exact Agh hgi (h.ci i hi) hp hM hk h0 ht hnd rfl rfl hb1 rfl rfl rfl rfl rfl (.inr ⟨rfl, fun q => C6 q, fun q h1 h2 => hrest q h1 h2⟩)
 ·rw [if_neg hz]
  refine h.home hi hla ⟨hc1, hc2⟩ ?_
  exact Agh hgi (h.ci i hi) hp hM hk h0 ht hnd rfl rfl hb1 rfl rfl rfl rfl rfl (.inl ⟨h0, hb2, R5 (by omega) hc2 hz⟩)
theorem Wq {p i : Nat} {m : Msg} (h : Inv n nl x M) (hp : p < n) (hi : i < nl) (hs : m.src = p) (hM : MI (ab (ent x i)) p (lin x i p) m) (hk : m.kind = 10) (h0 : (ent x i).phase = 3) (ht : m.turn = (ent x i).turn) (ho : m.src = (ent x i).who) :
  Inv n nl ⟨x.cores, x.home.set i (Ej (ent x i)), x.frames⟩ M := by
 refine ZaZ ?_;intro hn hb hgi
 have hla := h.nla i hi
 have hwp : (ent x i).who = p := by rw [← ho]; exact hs
 have hpos : 0 < 2 ^ n := Nat.two_pow_pos n
 unfold Ej
 split
 ·rename_i hal
  refine h.home hi hla ⟨⟨by simp only; omega, by simp only; omega⟩, hb.2⟩ ?_
  exact U6 hgi (h.ci i hi) hp hM hk h0 ht hwp rfl rfl rfl rfl rfl rfl rfl (fun q => rfl) (.inl ⟨(Vr _).2 hal, hwp, fun q => C6 q⟩)
 ·rename_i hal
  refine h.home hi hla ⟨by simp only; rw [hwp]; exact Afz (by omega) hb.1 hp, hb.2⟩ ?_
  refine U6 hgi (h.ci i hi) hp hM hk h0 ht hwp rfl rfl rfl rfl rfl rfl rfl (fun q => rfl) (.inr ⟨(Sd _).2 (by simpa using hal), rfl, fun q => ?_⟩)
  show Cm (Hv (ent x i).sharers (ent x i).who) q = _
  rw [hwp, R6 (He (by omega) hb.1) (by omega)]; rfl
theorem Re {p : Nat} {m : Msg} (h : Inv n nl x M) (hp : p < n) (hs : m.src = p) (hd : m.dst = n) (hl : 0 ≤ m.line ∧ m.line < nl) (hr : (0 ≤ m.serial ∧ m.serial ≤ 65535) ∧ (0 ≤ m.turn ∧ m.turn ≤ 65535) ∧ (0 ≤ m.value ∧ m.value ≤ 255)) (hm : MX n x m) :
  Inv n nl ⟨x.cores, (Am x.home n m).1, way x.frames (Am x.home n m).2⟩ M := by
 obtain ⟨i, hi⟩ : ∃ i : Nat, m.line = i := ⟨m.line.toNat, by omega⟩
 have hin : i < nl := by omega
 have hen : Ai x.home m.line = ent x i := by unfold Ai ent; rw [hi, Int.toNat_natCast]
 have hla := h.nla i hin
 have hMI : MI (ab (ent x i)) p (lin x i p) m := by
  unfold MX at hm
  have : I5 n m = p := by unfold I5; rw [if_pos hd, hs]; simp
  rw [this, hi, Int.toNat_natCast] at hm
  exact hm
 have hsame : x.home.set i (ent x i) = x.home := E0 _ _ _ (by rw [h.nh]; exact hin)
 unfold Am
 rw [hen, if_neg (by rw [h.nh, hla]; omega)]
 simp only [hi, Int.toNat_natCast]
 unfold Af
 by_cases k1 : m.kind = 1 ∨ m.kind = 2
 ·rw [if_pos k1]
  by_cases hc : (ent x i).phase ≠ 0 ∨ m.serial ≤ Fd (ent x i) m.src ∨ 65535 ≤ (ent x i).turn
  ·rw [if_pos hc]; simp only [way]; rw [hsame]; exact h
  ·rw [if_neg hc, hi]
   exact h.homeSays hin (Aiq h hp hin hs hr.1 hMI k1 (by omega) (by omega) (by omega))
 rw [if_neg k1]
 by_cases k3 : m.kind = 3
 ·rw [if_pos k3]
  by_cases hc : (ent x i).phase ≠ 0
  ·rw [if_pos hc]; simp only [way]; rw [hsame]; exact h
  ·rw [if_neg hc]
   obtain ⟨hI, hle⟩ := Aip h hp hin hs hr.1 hr.2.2 hMI k3 (by omega)
   refine hI.way fun m' hm' => ?_
   rw [List.mem_singleton.1 hm', hs, hi]
   refine ⟨L4 h hp hin (by omega) hr.1 (by omega) (by omega), MX.told h hp hin ?_⟩
   constructor <;> simp only <;> intro hk <;> first | omega | exact hle
 rw [if_neg k3]
 by_cases k9 : m.kind = 9 ∧ m.turn = (ent x i).turn ∧ (ent x i).phase = 1 ∧ m.src = (ent x i).owner
 ·rw [if_pos k9, hi]
  exact h.homeSays hin (Adb h hp hin hs hr.2.2 hMI k9.1 k9.2.2.1 k9.2.1 k9.2.2.2)
 rw [if_neg k9]
 by_cases k8 : m.kind = 8 ∧ m.turn = (ent x i).turn ∧ (ent x i).phase = 2 ∧ Nu (ent x i).need m.src = true
 ·rw [if_pos k8]
  have hI := Ada h hp hin hs hMI k8.1 k8.2.2.1 k8.2.1 k8.2.2.2
  by_cases hz : (Ch (ent x i) m).need = 0
  ·rw [if_pos hz] at hI ⊢; rw [hi]; exact h.homeSays hin hI
  ·rw [if_neg hz] at hI ⊢; exact hI
 rw [if_neg k8]
 by_cases k10 : m.kind = 10 ∧ m.turn = (ent x i).turn ∧ (ent x i).phase = 3 ∧ m.src = (ent x i).who
 ·rw [if_pos k10]
  exact Wq h hp hin hs hMI k10.1 k10.2.2.1 k10.2.1 k10.2.2.2
 ·rw [if_neg k10]; simp only [way]; rw [hsame]; exact h
theorem Aam (h : Inv n nl x M) : Aq x = Cz n nl := by unfold Aq Cz Az; rw [h.nc, h.nh]
theorem Pz {p : Nat} : Ap x p = cor x p := by unfold Ap cor; rw [Int.toNat_natCast]
theorem Rg {b : List UInt8} (h : Inv n nl x M) (hb : b.length = 12 ∧ ∀ m, Ad (Cz n nl) b = (m, 0) → MX n x m) :
  ∃ M', Inv n nl (A6 x b).1 M' ∧ Cn M (A6 x b).2 M' := by
 unfold A6
 rw [Aam h]
 have hnc : Az x = n := by unfold Az; rw [h.nc]
 rw [hnc]
 by_cases he : (Ad (Cz n nl) b).2 ≠ 0
 ·rw [if_pos he]; exact ⟨M, h, rfl⟩
 rw [if_neg he]
 have hpar : Ad (Cz n nl) b = ((Ad (Cz n nl) b).1, 0) := by
  have : (Ad (Cz n nl) b).2 = 0 := Classical.byContradiction he
  rw [← this]
 have hm := hb.2 _ hpar
 obtain ⟨w1, w2, w3, w4, w5, w6, w7⟩ := Ec (El hpar).2.2.2.2.1
 generalize (Ad (Cz n nl) b).1 = m at hm w1 w2 w3 w4 w5 w6 w7 ⊢
 simp only [Cz] at w2 w3 w7
 by_cases hd : m.dst = (n : Int)
 ·rw [if_pos hd]
  have hs : ¬ m.src = (n : Int) := fun hs => w7 ⟨fun _ => hd, fun _ => hs⟩
  obtain ⟨p, hp⟩ : ∃ p : Nat, m.src = p := ⟨m.src.toNat, by omega⟩
  exact ⟨M, Re h (by omega) hp hd w3 ⟨w4, w5, w6⟩ hm, rfl⟩
 ·rw [if_neg hd]
  have hs : m.src = (n : Int) := Classical.byContradiction fun hs => w7 ⟨fun h => absurd h hs, fun h => absurd h hd⟩
  obtain ⟨p, hp⟩ : ∃ p : Nat, m.dst = p := ⟨m.dst.toNat, by omega⟩
  rw [hp, Pz]
  exact Acz h (by omega) hp hs w3 ⟨w4, w5, w6⟩ hm
theorem H6 {s : Step} (h : Inv n nl x M) (hok : (Ag x s).2.2 = 0) : ∃ M', Inv n nl (Ag x s).1 M' ∧ Cn M (Ag x s).2.1 M' := by
 have hnc : Az x = n := by unfold Az; rw [h.nc]
 have hcf := Aam h
 unfold Ag at hok ⊢
 rw [hnc] at hok ⊢
 rw [hcf] at hok ⊢
 by_cases k1 : s.kind = 1
 ·rw [if_pos k1] at hok ⊢
  split at hok
  ·cases hok
  rename_i hnode
  rw [if_neg hnode]
  obtain ⟨p, hp⟩ : ∃ p : Nat, s.node = p := ⟨s.node.toNat, by omega⟩
  have hpn : p < n := by omega
  rw [hp, Pz] at hok ⊢
  split at hok
  ·rename_i hz; exact absurd hok hz
  rename_i hz
  rw [if_neg hz]
  exact Y6 h hpn (Classical.byContradiction hz)
 rw [if_neg k1] at hok ⊢
 by_cases k2 : s.kind = 2
 ·rw [if_pos k2] at hok ⊢
  split at hok
  ·cases hok
  rename_i hf
  rw [if_neg hf]
  exact Rg (h.erase _) (h.mi _ (H2 hf))
 rw [if_neg k2] at hok ⊢
 by_cases k3 : s.kind = 3
 ·rw [if_pos k3] at hok ⊢
  split at hok
  ·cases hok
  rename_i hf
  rw [if_neg hf]
  exact ⟨M, h.erase _, rfl⟩
 rw [if_neg k3] at hok ⊢
 by_cases k4 : s.kind = 4
 ·rw [if_pos k4] at hok ⊢
  split at hok
  ·cases hok
  rename_i hf
  rw [if_neg hf]
  exact ⟨M, h.send (h.mi _ (H2 hf)), rfl⟩
 rw [if_neg k4] at hok ⊢
 by_cases k5 : s.kind = 5
 ·rw [if_pos k5] at hok ⊢
  split at hok
  ·cases hok
  rename_i hf
  rw [if_neg hf]
  split at hok
  ·cases hok
  rename_i hq
  rw [if_neg hq]
  split at hok
  ·rename_i hz; exact absurd hok hz
  rename_i hz
  rw [if_neg hz]
  have hf' : ¬ (s.n < 0 ∨ (x.frames.length : Int) ≤ s.n) := hf
  unfold By at hz ⊢
  rw [if_neg hf'] at hz ⊢
  split at hz
  ·exact absurd (show (3 : Int) ≠ 0 by decide) hz
  rename_i hbit
  rw [if_neg hbit]
  exact ⟨M, h.spoil hf' (Classical.byContradiction hq) (by omega) (by omega), rfl⟩
 rw [if_neg k5] at hok ⊢
 by_cases k6 : s.kind = 6
 ·rw [if_pos k6] at hok ⊢
  split at hok
  ·cases hok
  rename_i hnode
  rw [if_neg hnode]
  by_cases hh : s.node = (n : Int)
  ·rw [if_pos hh, hh]; exact ⟨M, Pf h, rfl⟩
  ·rw [if_neg hh]
   obtain ⟨p, hp⟩ : ∃ p : Nat, s.node = p := ⟨s.node.toNat, by omega⟩
   rw [hp, Pz]
   exact ⟨M, Ph h (by omega), rfl⟩
 ·rw [if_neg k6] at hok; cases hok
end
end Go.Proofs.Ytkgijpngobgfjaa
namespace Go.Proofs.Ytkgijpngobgfjaa
open Abs
section
variable {n nl : Nat} {x : Chip} {M : List Int}
theorem Cy {α : Type} (k i : Nat) (a d : α) (h : i < k) : (List.replicate k a).getD i d = a := by
 rw [List.getD_eq_getElem?_getD, List.getElem?_replicate, if_pos h]; rfl
theorem Fn {α : Type} (k i : Nat) (a : α) : (List.replicate k a).getD i a = a := by
 rw [List.getD_eq_getElem?_getD, List.getElem?_replicate]; split <;> rfl
def Bb (n nl : Nat) : Chip := ⟨List.replicate n ⟨List.replicate nl zLine, zOp⟩, List.replicate nl { A5 with last := List.replicate n 0 }, []⟩
theorem Pe (hn : 1 ≤ n ∧ n ≤ 4) (hl : 1 ≤ nl ∧ nl ≤ 4) : Inv n nl (Bb n nl) (List.replicate nl 0) := by
 have hcor : ∀ p, p < n → cor (Bb n nl) p = ⟨List.replicate nl zLine, zOp⟩ := fun p hp => Cy _ _ _ _ hp
 have hlin : ∀ i p, i < nl → p < n → lin (Bb n nl) i p = zLine := by
  intro i p hi hp; unfold lin; rw [hcor p hp]; exact Cy _ _ _ _ hi
 have hent : ∀ i, i < nl → ent (Bb n nl) i = { A5 with last := List.replicate n 0 } := fun i hi => Cy _ _ _ _ hi
 have hpos : 0 < 2 ^ n := Nat.two_pow_pos n
 have hM : ∀ i, (List.replicate nl (0 : Int)).getD i 0 = 0 := fun i => Fn _ _ _
 refine ⟨hn, hl, by simp [Bb], by simp [Bb], ?_, ?_, by simp, ?_, ?_, ?_, ?_, ?_, by simp [Bb], ?_⟩
 ·intro p hp; rw [hcor p hp]; simp
 ·intro i hi; rw [hent i hi]; simp
 ·intro i hi; rw [hM]; omega
 ·intro i hi; rw [hent i hi]; simp only [A5]; omega
 ·intro i hi; rw [hent i hi]
  have h1 : ∀ q, Cm 0 q = 0 := fun q => C6 q
  constructor <;> simp only [ab, A5] <;> first | omega | (intro h; omega) | simp
 ·intro i hi p hp
  rw [hent i hi, hlin i p hi hp, hM]
  have h1 : Cm 0 p = 0 := C6 p
  have h2 : (List.replicate n (0 : Int)).getD p 0 = 0 := Fn _ _ _
  constructor <;> simp only [ab, A5, zLine] <;> (try rw [h1]) <;> (try rw [h2]) <;> first | omega | simp
 ·intro p hp
  rw [hcor p hp]
  constructor
  ·intro _; exact ⟨rfl, fun i hi => by rw [Cy _ _ _ _ hi]; rfl⟩
  ·intro h; exact absurd rfl h
 ·intro b hb; cases hb
theorem Om {c : Config} (h : (A2 c).2 = 0) : ∃ n nl : Nat, (1 ≤ n ∧ n ≤ 4) ∧ (1 ≤ nl ∧ nl ≤ 4) ∧ c = Cz n nl ∧ A2 c = (Bb n nl, 0) := by
 unfold A2 at h ⊢
 split at h
 ·cases h
 rename_i hc
 have hc0 : Bw c = 0 := Classical.byContradiction hc
 unfold Bw at hc0
 split at hc0
 ·cases hc0
 rename_i hr
 refine ⟨c.cores.toNat, c.lines.toNat, by omega, by omega, ?_, ?_⟩
 ·unfold Cz; cases c; simp only [Config.mk.injEq]; simp only at hr; omega
 ·rw [if_neg hc]; rfl
theorem E4 {M M' M'' : List Int} : ∀ {a b : List Done}, Cn M a M' → Cn M' b M'' → Cn M (a ++ b) M''
 | [], b, h1, h2 => by rw [show M' = M from h1] at h2; exact h2
 | d :: a, b, ⟨h1, h2, h3, h4, h5⟩, h6 => ⟨h1, h2, h3, h4, E4 h5 h6⟩
theorem Fu : ∀ (l : List Step) {x : Chip} {M : List Int}, Inv n nl x M → ∃ M', Inv n nl (Bu x l).1 M' ∧ Cn M (Bu x l).2 M'
 | [], x, M, h => ⟨M, h, rfl⟩
 | s :: r, x, M, h => by
  simp only [Bu]
  split
  ·rename_i hok
   obtain ⟨M1, h1, d1⟩ := H6 h hok
   obtain ⟨M2, h2, d2⟩ := Fu r h1
   exact ⟨M2, h2, E4 d1 d2⟩
  ·exact Fu r h
end
set_option maxHeartbeats 1000000
set_option maxRecDepth 8000
variable {L : List Chunk} {R : List Fact} {w : World}
theorem Adl {α : Type} {l : List α} {d : α} {P : α → Prop} (h : ∀ i, i < l.length → P (l.getD i d)) : ∀ x ∈ l, P x := by
 intro x hx
 obtain ⟨i, hi, rfl⟩ := List.getElem_of_mem hx
 have := h i hi
 rwa [List.getD_eq_getElem?_getD, List.getElem?_eq_getElem hi] at this
section
variable {n nl : Nat} {x : Chip} {M : List Int}
open Abs
theorem Inv.kb (h : Inv n nl x M) {p : Nat} (hp : p < n) : KB (cor x p) := by
 have h1 := h.ncl p hp
 have h2 := h.l1
 refine ⟨by omega, fun i hi => (h.ci i (by omega) p hp).va, by rw [h1]; exact h.cw p hp⟩
theorem Inv.eb (h : Inv n nl x M) {i : Nat} (hi : i < nl) : EB (ent x i) := by
 have hg := h.gi i hi
 have hb := h.bit i hi
 have hn := h.n1
 have b1 := He hn.2 hb.1
 have b2 := He hn.2 hb.2
 have w : 0 ≤ (ent x i).who ∧ (ent x i).who < 4 := by
  by_cases h0 : (ent x i).phase = 0
  ·have := (hg.idle h0).1; simp only [ab] at this; omega
  ·have := hg.whor h0; simp only [ab] at this; omega
 have o := hg.own; have ph := hg.ph; have tu := hg.tu; have va := hg.va; have se := hg.se
 simp only [ab] at o ph tu va se
 unfold EB Entry.wf An
 omega
theorem Inv.ebd (h : Inv n nl x M) {i : Nat} (hi : i < nl) : ((ent x i).turn ≤ 65535) ∧ (0 ≤ (ent x i).serial ∧ (ent x i).serial ≤ 65535) ∧ (0 ≤ (ent x i).value ∧ (ent x i).value ≤ 255) := by
 have hg := h.gi i hi
 exact ⟨hg.tu.2, hg.se, hg.va⟩
def LB (l : Line) : Prop := (0 ≤ l.value ∧ l.value ≤ 255) ∧ (0 ≤ l.want ∧ l.want ≤ 3) ∧ (0 ≤ l.serial ∧ l.serial ≤ 65535) ∧ (0 ≤ l.gave ∧ l.gave ≤ 65535) ∧ (0 ≤ l.given ∧ l.given ≤ 255) ∧ (0 ≤ l.seen ∧ l.seen ≤ 65535) ∧ (0 ≤ l.state ∧ l.state ≤ 3)
theorem Inv.lb (h : Inv n nl x M) {i p : Nat} (hi : i < nl) (hp : p < n) : LB (lin x i p) := by
 have hc := h.ci i hi p hp
 have ht := (h.gi i hi).tu
 have h1 := hc.ga
 exact ⟨hc.va, hc.wa, hc.se, by omega, hc.gi, by omega, hc.st⟩
end
theorem Agz {l : Line} (h : LB l) {id home i : Int} (h1 : 0 ≤ id ∧ id ≤ 15) (h2 : 0 ≤ home ∧ home ≤ 15) (h3 : 0 ≤ i ∧ i ≤ 255) : MsgIn (Cp l id home i) := by
 unfold Cp MsgIn; unfold LB at h; simp only; split <;> omega
theorem L5 {kind id home i t v : Int} (h1 : 0 ≤ id ∧ id ≤ 15) (h2 : 0 ≤ home ∧ home ≤ 15) (h3 : 0 ≤ i ∧ i ≤ 255) (hk : 0 ≤ kind ∧ kind ≤ 255) (ht : 0 ≤ t ∧ t ≤ 65535) (hv : 0 ≤ v ∧ v ≤ 255) : MsgIn (Ba kind id home i t v) := by
 unfold Ba MsgIn; simp only; omega
theorem Afj {c : Core} {id home : Int} {o : Op} (h1 : 0 ≤ id ∧ id ≤ 15) (h2 : 0 ≤ home ∧ home ≤ 15) (hl : c.lines.length ≤ 4) (hb : ∀ i, i < c.lines.length → LB (c.lines.getD i zLine)) : ∀ m ∈ (Aj c id home o).2.1, MsgIn m := by
 unfold Aj
 split
 ·intro m hm; cases hm
 split
 ·intro m hm; cases hm
 split
 ·intro m hm; cases hm
 rename_i k1 k2 k3
 split
 ·intro m hm; cases hm
 ·intro m hm
  rw [List.mem_singleton.1 hm]
  have hL : LB (Bo c o.line) := hb o.line.toNat (by omega)
  refine Agz ?_ h1 h2 (by omega)
  unfold LB at hL ⊢
  unfold A8
  split
  ·split <;> simp only <;> omega
  split
  ·exfalso
   rename_i h3 h4 h5
   apply h3
   unfold Cl
   rw [if_neg h4]
   simp; omega
  ·split <;> simp only <;> omega
theorem Aiu {c : Core} {id home : Int} {m : Msg} (h1 : 0 ≤ id ∧ id ≤ 15) (h2 : 0 ≤ home ∧ home ≤ 15) (hl : c.lines.length ≤ 4) (hb : ∀ i, i < c.lines.length → LB (c.lines.getD i zLine)) (ht : 0 ≤ m.turn ∧ m.turn ≤ 65535) : ∀ a ∈ (Ac c id home m).2.1, MsgIn a := by
 unfold Ac
 split
 ·exact ZdF
 rename_i k1
 have hL : LB (Bo c m.line) := hb m.line.toNat (by omega)
 have h3 : 0 ≤ m.line ∧ m.line ≤ 255 := by omega
 unfold LB at hL
 split
 ·exact Zdt
 split
 ·split
  ·exact Zdt
  split
  ·intro a ha; rw [List.mem_singleton.1 ha]; exact L5 h1 h2 h3 (by omega) (by omega) (by omega)
  ·exact ZdF
 split
 ·split
  ·exact ZdF
  split
  ·exact Zdt
  ·exact Zdt
 split
 ·exact ZdF
 ·exact ZdF
theorem says_in {e : Entry} {i id : Int} (he : EB e) (ht : e.turn ≤ 65535) (hs : 0 ≤ e.serial ∧ e.serial ≤ 65535) (hv : 0 ≤ e.value ∧ e.value ≤ 255) (hp : e.phase = 1 → 0 ≤ e.owner) (hi : 0 ≤ i ∧ i ≤ 255) (hd : 0 ≤ id ∧ id ≤ 15) : ∀ a ∈ E9 e i id, MsgIn a := by
 unfold E9
 unfold EB at he
 split
 ·rename_i h1
  have := hp h1
  intro a ha; rw [List.mem_singleton.1 ha]; unfold MsgIn; simp only; split <;> omega
 split
 ·intro a ha
  obtain ⟨p, hp, rfl⟩ := List.mem_map.1 ha
  have h4 := (List.mem_filter.1 hp).1
  have : 0 ≤ p ∧ p ≤ 3 := by
   simp only [List.mem_cons, List.not_mem_nil, or_false] at h4; omega
  unfold MsgIn; simp only; omega
 split
 ·exact Zeu
 ·exact ZdF
theorem Pc {e : Entry} : (Ct e).phase = 1 → 0 ≤ (Ct e).owner := by
 unfold Ct; split
 ·intro _; assumption
 split
 ·intro h; simp at h
 ·intro h; simp at h
theorem Kw (e : Entry) : (Ct e).turn = e.turn ∧ (Ct e).serial = e.serial ∧ (Ct e).value = e.value ∧ (Ct e).owner = e.owner ∧ (Ct e).last = e.last := by
 unfold Ct; split
 ·simp
 split <;> simp
theorem S7 {l : List Entry} {id : Int} {m : Msg} (hd : 0 ≤ id ∧ id ≤ 15) (hl : l.length ≤ 4) (hb : ∀ i, i < l.length → EB (l.getD i A5) ∧ (l.getD i A5).turn ≤ 65535 ∧ (0 ≤ (l.getD i A5).serial ∧ (l.getD i A5).serial ≤ 65535) ∧ (0 ≤ (l.getD i A5).value ∧ (l.getD i A5).value ≤ 255) ∧ (l.getD i A5).last.length ≤ 4)
  (hs : 0 ≤ m.serial ∧ m.serial ≤ 65535) (hv : 0 ≤ m.value ∧ m.value ≤ 255) : ∀ a ∈ (Am l id m).2, MsgIn a := by
 unfold Am
 split
 ·exact ZdF
 rename_i k
 obtain ⟨h1, h2, h3, h4, h5⟩ := hb m.line.toNat (by omega)
 change EB (Ai l m.line) at h1
 change (Ai l m.line).turn ≤ 65535 at h2
 change 0 ≤ (Ai l m.line).serial ∧ (Ai l m.line).serial ≤ 65535 at h3
 change 0 ≤ (Ai l m.line).value ∧ (Ai l m.line).value ≤ 255 at h4
 change (Ai l m.line).last.length ≤ 4 at h5
 have hi : 0 ≤ m.line ∧ m.line ≤ 255 := by omega
 have hE := h1
 unfold EB Entry.wf An at hE
 simp only
 generalize Ai l m.line = e at h1 h2 h3 h4 h5 hE k
 unfold Af
 split
 ·split
  ·exact ZdF
  ·rename_i k2
   have hX : EB { e with last := e.last.set m.src.toNat m.serial, who := m.src, serial := m.serial, alone := m.kind == 2, turn := e.turn + 1 } := by unfold EB Entry.wf An; simp only; omega
   have hr := Kw { e with last := e.last.set m.src.toNat m.serial, who := m.src, serial := m.serial, alone := m.kind == 2, turn := e.turn + 1 }
   simp only at hr
   unfold Ke
   exact says_in (Gv hX) (by rw [hr.1]; omega) (by rw [hr.2.1]; exact hs) (by rw [hr.2.2.1]; exact h4) Pc hi hd
 split
 ·split
  ·exact ZdF
  ·exact Zeu
 split
 ·rename_i k3
  have hs4 : 0 ≤ (if e.alone = true then e.sharers else Hv e.sharers e.owner) ∧ (if e.alone = true then e.sharers else Hv e.sharers e.owner) < 16 := by
   split
   ·omega
   ·obtain ⟨_, _, r, _⟩ := E7 hE.2.1.1 hE.2.1.2 (show 0 ≤ e.owner by omega) hE.2.2.2.2.1.2; exact r
  have hX : EB { e with value := m.value, sharers := if e.alone then e.sharers else Hv e.sharers e.owner, owner := -1 } := by
   exact ZdU
  have hr := Kw { e with value := m.value, sharers := if e.alone then e.sharers else Hv e.sharers e.owner, owner := -1 }
  simp only at hr
  unfold Hn
  exact says_in (Gv hX) (by rw [hr.1]; exact h2) (by rw [hr.2.1]; exact h3) (by rw [hr.2.2.1]; exact hv) Pc hi hd
 split
 ·split
  ·have c1 := (E7 hE.2.1.1 hE.2.1.2 (show 0 ≤ m.src by omega) (show m.src < 4 by omega)).2.2.2
   have c2 := (E7 hE.2.2.1.1 hE.2.2.1.2 (show 0 ≤ m.src by omega) (show m.src < 4 by omega)).2.2.2
   have hX : EB (Ch e m) := by
    unfold Ch EB Entry.wf An; simp only; omega
   have hr := Kw (Ch e m)
   exact says_in (Gv hX) (by rw [hr.1]; exact h2) (by rw [hr.2.1]; exact h3) (by rw [hr.2.2.1]; exact h4) Pc hi hd
  ·exact ZdF
 split
 ·exact ZdF
 ·exact ZdF
theorem Ty {id home : Int} (h1 : 0 ≤ id ∧ id ≤ 15) (h2 : 0 ≤ home ∧ home ≤ 15) : ∀ (l : List Line) (i : Int), 0 ≤ i → i + l.length ≤ 256 → (∀ x ∈ l, LB x) → ∀ a ∈ Bl id home i l, MsgIn a
 | [], _, _, _, _ => fun a ha => by cases ha
 | x :: l, i, h0, hn, hb => by
  intro a ha
  simp only [List.length_cons] at hn
  have ih := Ty h1 h2 l (i + 1) (by omega) (by omega) (fun y hy => hb y (.tail _ hy))
  simp only [Bl] at ha
  split at ha
  ·rcases List.mem_cons.1 ha with e | e
   ·rw [e]; exact Agz (hb x (.head _)) h1 h2 (by omega)
   ·exact ih a e
  ·exact ih a ha
theorem N7 : ∀ (a b : List Msg) (f : Frames), way f (a ++ b) = way (way f a) b
 | [], _, _ => rfl
 | _ :: a, b, _ => N7 a b _
theorem J3 (id : Int) : ∀ (l : List Entry) (i : Int) (x : Entry), Ci id i (l ++ [x]) = Ci id i l ++ E9 x (i + l.length) id
 | [], i, x => by simp [Ci]
 | a :: l, i, x => by
  have ih := J3 id l (i + 1) x
  have e : i + 1 + (l.length : Int) = i + ((a :: l).length : Int) := by simp only [List.length_cons]; omega
  rw [e] at ih
  simp only [List.cons_append, Ci, ih, List.append_assoc]
theorem Io {α : Type} {l : List α} {i : Nat} {d : α} : l.set i (l.getD i d) = l := by
 by_cases h : i < l.length
 ·rw [List.getD_eq_getElem?_getD, List.getElem?_eq_getElem h]; exact List.set_getElem_self h
 ·exact List.set_eq_of_length_le (by omega)
theorem q_mx {P : Program} {n : Nat} {L : List Chunk} {R : List Fact} {al : List (Nat × Value)} {d : Nat} {x : Operand} {T ty : TypeId} {pos : String} {aft : Array Edge} {a : Int} (hx : ev n al x = some (vi a)) (h0 : 0 ≤ a) : Au P n al L R ⟨some d, .call { callee := .builtin .max, args := #[x, .const (.int .i64 0)], argTypes := #[T, T] }, ty, pos, aft, none⟩ (vi a) :=
 ⟨rfl, fun ρ w h _ => by
  have hx' := h x (by simp [Op.operands, Call.operands]) _ hx
  have hc' := h (.const (.int .i64 0)) (by simp [Op.operands, Call.operands]) _ rfl
  simp [execOp, resolve, invoke, builtin, hx', hc', Builtin.max_, Builtin.max2, show ¬ (a < 0) from by omega]⟩
theorem Akh {a : Int} (hs : St (L) R w) (h0 : 0 ≤ a) (h1 : a ≤ 16777216) : Calls Try.prog 66 [vi a].toArray w (Cd (fun v : Value => v) (fun v => row 3 v (List.replicate a.toNat (0 : Int)) :: L) (fun v => R)) := by
 refine Ah Try.func66 rfl Try.ntmps66 rfl hs ?_
 clear hs
 refine Zam ?_
 refine ob (q_mx (a := a) rfl h0) ?_
 refine Ue (α := Int) (x0 := 0) (zc := [vi 0]) Hm rfl (by decide) rfl rfl rfl (fun j => ⟨rfl, by unfold An; omega⟩) h0 h1 ?_; intro v5
 refine Ga1 ?_
 exact Bq v5
theorem Aki {v0 : Value} {m : List Int} {o : Op} (hs : St (L) R w) (h0 : sl v0 m ∈ R) : Calls Try.prog 67 [v0, .agg o.cells.toArray].toArray w (Cd (fun v : Value => .tuple #[v, vi (Bj m o).2.1, vi (Bj m o).2.2]) (fun v => L) (fun v => sl v (Bj m o).1 :: R)) := by
 have hlen := Bx h0 hs
 refine Ah Try.func67 rfl Try.ntmps67 rfl hs ?_
 clear hs
 refine Gm ?_
 refine bx ?_; intro b3
 refine Ga3 ?_
 rcases (show (o.kind < 1) ∨ (¬ o.kind < 1 ∧ 4 < o.kind) ∨ (1 ≤ o.kind ∧ o.kind ≤ 4) from by omega) with hc | hc | hc
 ·refine Zad ?_
  refine Gd6 ?_
  exact Zed
 ·refine ZS ?_
  refine Ft ?_
  refine Gd2 ?_
  exact Zed
 ·refine ZS ?_
  refine De ?_
  refine Gc2 ?_
  rcases (show (o.line < 0) ∨ (0 ≤ o.line ∧ (m.length : Int) ≤ o.line) ∨ (0 ≤ o.line ∧ o.line < (m.length : Int) ∧ o.value < 0) ∨ (0 ≤ o.line ∧ o.line < (m.length : Int) ∧ 255 < o.value) ∨ (0 ≤ o.line ∧ o.line < (m.length : Int) ∧ 0 ≤ o.value ∧ o.value ≤ 255) from by omega) with hc | hc | hc | hc | hc
  ·refine Zad ?_
   refine Gc18 ?_
   exact Zd0
  ·refine ZA ?_
   refine A3 ?_
   refine ZQ ?_
   refine J8 ?_
   refine Gc12 ?_
   exact Zd0
  ·refine ZA ?_
   refine Zbd ?_
   refine ZE ?_
   refine Dt ?_
   refine Gc7 ?_
   exact Zd0
  ·refine ZaY ?_
   refine Ft ?_
   refine Gc2 ?_
   exact Zd0
  ·refine ZaY ?_
   refine De ?_
   refine Gc2 ?_
   refine JC.rowNil 3 Int ?_
   refine kp [0, 3, 4, 5, 6, 7, 39, 40] ?_
   refine ZC ?_
   refine ap Hm (hb := fun w hs => by have := Bx h0 hs; have : maxN = 16777216 := rfl; simp; omega) (k := ?_); intro v40
   refine Ga1 ?_
   refine JC.open0 (xs := m) (v := v0) o.line.toNat mm (by omega) (fun hw => ?_)
   have hw9 : An (m.getD o.line.toNat 0) := hw
   refine Aa ?_
   refine Gb6 ?_
   refine Ga2 ?_
   rcases (show (o.kind = 1) ∨ (o.kind = 2) ∨ (o.kind = 3) ∨ (o.kind = 4) from by omega) with hc | hc | hc | hc
   ·refine Aa ?_
    refine C8 ?_
    refine Gd1 ?_
    refine Ga5 ?_
    have er : Bj m o = (m, m.getD o.line.toNat 0, 0) := by unfold Bj; rw [if_neg (by omega), if_neg (by omega), opv1 hc]; exact congrArg (·, _) Io
    exact Zdz
   ·refine Aa ?_
    refine ZG ?_
    refine C8 ?_
    refine Gd1 ?_
    refine rn6 ?_
    refine Gz (xs := m) Try.sizeOf3 rfl rfl pkk (getD_some 0 (by omega)) (by unfold An at hw9 ⊢; omega) ?_
    refine Gm ?_
    refine Ga4 ?_
    have er : Bj m o = ((m.set o.line.toNat o.value), 0, 0) := by unfold Bj; rw [if_neg (by omega), if_neg (by omega), opv2 hc]
    exact Zdz
   ·refine Aa ?_
    refine ZaN ?_
    refine Gd1 ?_
    refine rn6 ?_
    refine ob (Fz (a := m.getD o.line.toNat 0) (b := o.value) Agw) ?_
    refine ob (Fz (b := 255) Afo) ?_
    rw [N6]
    refine rn1 ?_
    refine Gz (xs := m) Try.sizeOf3 rfl rfl pkk (getD_some 0 (by omega)) (by unfold An at hw9 ⊢; omega) ?_
    refine Za9 ?_
    have er : Bj m o = ((m.set o.line.toNat ((m.getD o.line.toNat 0 + o.value) % 256)), m.getD o.line.toNat 0, 0) := by unfold Bj; rw [if_neg (by omega), if_neg (by omega), opv3 hc]
    exact Zdz
   ·refine Aa ?_
    refine ZG ?_
    refine ZG ?_
    refine ZG ?_
    refine Ga4 ?_
    have er : Bj m o = (m, 0, 0) := by unfold Bj; rw [if_neg (by omega), if_neg (by omega), opv4 hc]; exact congrArg (·, _) Io
    exact Zdz
theorem Xi {v0 : Value} {xs : List Line} (hs : St (L) R w) (h0 : sl v0 xs ∈ R) : Calls Try.prog 64 [v0].toArray w (Cd (fun v : Value => v) (fun v => row 52 v xs :: L) (fun v => R)) := by
 refine Ah Try.func64 rfl Try.ntmps64 rfl hs ?_
 clear hs
 refine Zam ?_
 refine ob (Acc Try.underlying53 (Fc h0)) ?_
 refine Gl ?_
 refine Cc (b := ?b1) ?e1 ?_ ?_; case e1 => exact rfl
 ·intro ht4
  refine JC.nilOf ht4 h0 (fun hx => ?_)
  refine ZB ?_
  exact Bq (.slice none 0 0) (hs := fun w hs => by rw [hx]; exact Ae (hs.rowNil 52 Line))
 ·intro ht4
  refine Gm ?_
  refine liO ([] : List Line) Akj rfl (fun j h => Uc) ?_; intro v5
  refine rn1 ?_
  refine ap Akj (hb := fun w hs => by have := Bx h0 hs; have : maxN = 16777216 := rfl; simp; omega) (k := ?_); intro v7
  refine Ga1 ?_
  exact Bq v7
theorem Aak {v0 : Value} {xs : List Int} (hs : St (L) R w) (h0 : sl v0 xs ∈ R) : Calls Try.prog 62 [v0].toArray w (Cd (fun v : Value => v) (fun v => row 3 v xs :: L) (fun v => R)) := by
 refine Ah Try.func62 rfl Try.ntmps62 rfl hs ?_
 clear hs
 refine Zam ?_
 refine ob (Acc Try.underlying57 (Fc h0)) ?_
 refine Gl ?_
 refine Cc (b := ?b1) ?e1 ?_ ?_; case e1 => exact rfl
 ·intro ht4
  refine JC.nilOf ht4 h0 (fun hx => ?_)
  refine ZB ?_
  exact Bq (.slice none 0 0) (hs := fun w hs => by rw [hx]; exact Ae (hs.rowNil 3 Int))
 ·intro ht4
  refine Gm ?_
  refine liO ([] : List Int) Hm rfl (fun j h => Uc) ?_; intro v5
  refine rn1 ?_
  refine ap Hm (hb := fun w hs => by have := Bx h0 hs; have : maxN = 16777216 := rfl; simp; omega) (k := ?_); intro v7
  refine Ga1 ?_
  exact Bq v7
def pr (p : Prop) : Fact := ⟨fun _ => p, fun _ _ _ h => h⟩
theorem St.pr {p : Prop} (h : p) (hs : St L R w) : St L (pr p :: R) w := by
 obtain ⟨m, j, hd, hm, hj, hst, hr⟩ := hs
 exact ⟨m, j, hd, hm, hj, hst, fun q hq => by
  rcases List.mem_cons.1 hq with e | e
  ·rw [e]; exact h
  ·exact hr q e⟩
theorem G0 {p : Prop} (hm : pr p ∈ R) (hs : St L R w) : p := hs.fact hm
theorem Ix {P : Program} {γ δ : Type} {f : FuncId} {args : Array Value} {w : World} {val : γ → Value} {val2 : δ → Value} {L : γ → List Chunk} {R : γ → List Fact} {L2 : δ → List Chunk} {R2 : δ → List Fact} (h : Calls P f args w (Cd val L R)) (hk : ∀ g w', St (L g) (R g) w' → ∃ d, val g = val2 d ∧ St (L2 d) (R2 d) w') : Calls P f args w (Cd val2 L2 R2) := by
 refine h.mono ?_
 rintro e w' ⟨g, rfl, hs'⟩
 obtain ⟨d, h1, h2⟩ := hk g w' hs'
 exact ⟨d, by rw [h1], h2⟩
structure EV where
 e : Entry
 u : Value
instance instEncEV : Enc EV where
 sz := 10
 rd x cs _ := cs = x.e.cells x.u ∧ x.e.wf ∧ x.u.oneCell' = true
 mono _ _ _ _ _ h := h
 len x cs _ h := by rw [h.1]; rfl
 one x cs _ h := by have := h.2.2; rw [h.1]; simp [Entry.cells, Value.oneCell'] at this ⊢; exact this
def I7 (x : EV) : Chunk := row 3 x.u x.e.last
def Acv (x : EV) : Fact := sl x.u x.e.last
theorem Ky {L : List Chunk} {w : World} : ∀ (l : List EV) {R : List Fact}, St (l.map I7 ++ L) R w → St L (l.map Acv ++ R) w
 | [], _, hs => hs
 | x :: l, R, hs => by
  have h1 : St (row 3 x.u x.e.last :: (l.map I7 ++ L)) R w := hs
  have h2 := Ky l h1.shut
  exact h2.sub .refl (fun f hf => by
   simp only [List.map_cons, List.cons_append, List.mem_append, List.mem_cons] at hf ⊢
   rcases hf with e | e | e
   ·exact .inr (.inl e)
   ·exact .inl e
   ·exact .inr (.inr e))
theorem Yn {α : Type} : ∀ (l : List α) (i : Nat) (hi : i < l.length), l.Perm (l[i] :: l.eraseIdx i)
 | x :: l, 0, _ => .refl _
 | x :: l, i + 1, hi => ((Yn l i (by simpa using hi)).cons x).trans (.swap ..)
theorem Acs {l : List EV} {i : Nat} (hi : i < l.length) (hs : St (l.map I7 ++ L) R w) : St (I7 l[i] :: ((l.eraseIdx i).map I7 ++ L)) R w := by
 refine hs.perm ?_
 have h := (Yn l i hi).map I7
 exact h.append_right L
theorem We {T : TypeId} {v : Value} {l : List EV} {i : Nat} (hi : i < l.length) (hf : ∀ (k : Nat) x, k ≠ i → l[k]? = some x → Acv x ∈ R) (hs : St (row T v l :: L) R w) : St (foc T v (l.map EV.e) i (Entry.cells l[i].u l[i].e) :: L) R w := by
 obtain ⟨m, j, hd, hm, hj, ⟨m1, m2, hd', h1, h2, hc, hst⟩, hr⟩ := hs
 obtain ⟨rs, r1, r2, r3⟩ := Jg hc
 have hir : i < rs.length := by rw [r2]; exact hi
 refine ⟨m, j, hd, hm, hj, ⟨m1, m2, hd', h1, h2, ⟨rs, r1, by rw [r2]; simp, ⟨rs[i], List.getElem?_eq_getElem hir, ?_⟩, fun k e r hk he hkr => ?_⟩, hst⟩, hr⟩
 ·exact (r3 i l[i] rs[i] (List.getElem?_eq_getElem hi) (List.getElem?_eq_getElem hir)).1
 ·rw [List.getElem?_map] at he
  obtain ⟨x, hx, hxe⟩ := Option.map_eq_some_iff.1 he
  have h3 := r3 k x r hx hkr
  refine ⟨x.u, ?_, ?_, ?_⟩
  ·rw [← hxe]; exact h3.1
  ·rw [← hxe]; exact hr _ (hf k x hk hx)
  ·rw [← hxe]; exact h3.2.1
theorem Wf {T : TypeId} {v : Value} {l : List EV} (hf : ∀ x ∈ l, Acv x ∈ R) (hs : St (row T v l :: L) R w) : St (row T v (l.map EV.e) :: L) R w := by
 obtain ⟨m, j, hd, hm, hj, ⟨m1, m2, hd', h1, h2, hc, hst⟩, hr⟩ := hs
 obtain ⟨rs, r1, r2, r3⟩ := Jg hc
 refine ⟨m, j, hd, hm, hj, ⟨m1, m2, hd', h1, h2, O8 (xs := l.map EV.e) (rs := rs) r1 (by rw [r2]; simp) (fun k e r he hkr => ?_), hst⟩, hr⟩
 exact Zdp
theorem Nc {v : Value} {l : List EV} (hs : St (row 84 v l :: (l.map I7 ++ L)) R w) : St L (sl v (l.map EV.e) :: R) w := by
 have h1 : St (l.map I7 ++ (row 84 v l :: L)) R w := hs.perm List.perm_middle.symm
 have h2 := Wf (fun x hx => List.mem_append.2 (.inl (List.mem_map.2 ⟨x, hx, rfl⟩))) (Ky l h1)
 exact h2.shut.sub .refl (fun f hf => by
  rcases List.mem_cons.1 hf with e | e
  ·exact List.mem_cons.2 (.inl e)
  ·exact List.mem_cons.2 (.inr (List.mem_append.2 (.inr e))))
theorem Jq {v : Value} {l : List EV} {es : List Entry} (i : Nat) (he : l.map EV.e = es) (hi : i < es.length) (hs : St (row 84 v l :: (l.map I7 ++ L)) R w) : ∃ u, (es.getD i A5).wf ∧ u.oneCell' = true ∧ St (foc 84 v es i (Entry.cells u (es.getD i A5)) :: row 3 u (es.getD i A5).last :: L) R w := by
 subst he
 have hil : i < l.length := by simpa using hi
 have e1 : (l.map EV.e).getD i A5 = l[i].e := by rw [List.getD_eq_getElem?_getD, List.getElem?_map, List.getElem?_eq_getElem hil]; rfl
 refine ⟨l[i].u, ?_⟩
 rw [e1]
 have hw : l[i].e.wf ∧ l[i].u.oneCell' = true := by
  obtain ⟨m, j, hd, hm, hj, ⟨m1, m2, hd', h1, h2, hc, hst⟩, hr⟩ := hs
  obtain ⟨rs, r1, r2, r3⟩ := Jg hc
  exact (r3 i l[i] rs[i] (List.getElem?_eq_getElem hil) (List.getElem?_eq_getElem (by rw [r2]; exact hil))).2
 refine ⟨hw.1, hw.2, ?_⟩
 have h1 : St (l.map I7 ++ (row 84 v l :: L)) R w := hs.perm List.perm_middle.symm
 have h2 := Acs hil h1
 have h3 : St ((l.eraseIdx i).map I7 ++ (I7 l[i] :: row 84 v l :: L)) R w := h2.perm List.perm_middle.symm
 have h4 := Ky _ h3
 have h5 : St (row 84 v l :: I7 l[i] :: L) ((l.eraseIdx i).map Acv ++ R) w := h4.perm (.swap ..)
 have h6 := We hil (fun k x hk hx => List.mem_append.2 (.inl (List.mem_map.2 ⟨x, ?_, rfl⟩))) h5
 ·exact h6.sub .refl (fun f hf => List.mem_append.2 (.inr hf))
 ·obtain ⟨hkl, hkx⟩ := List.getElem?_eq_some_iff.1 hx
  rw [← hkx]
  exact List.mem_eraseIdx_iff_getElem.2 ⟨k, hkl, hk, rfl⟩
theorem Hh {v0 : Value} {l : List Entry} (hs : St (L) R w) (h0 : sl v0 l ∈ R) : Calls Try.prog 46 [v0].toArray w (Cd (fun g : Value × List EV => g.1) (fun g => row 84 g.1 g.2 :: (g.2.map I7 ++ L)) (fun g => pr (g.2.map EV.e = l) :: R)) := by
 have hlen := Bx h0 hs
 refine Ah Try.func46 rfl Try.ntmps46 rfl hs ?_
 clear hs
 refine ZM ?_
 refine Zah ?_
 refine JC.rowNil 84 EV ?_
 refine Bs (γ := Nat × Value × List EV) (fun g => g.1 ≤ l.length ∧ g.2.2.map EV.e = l.take g.1) (fun g => row 84 g.2.1 g.2.2 :: (g.2.2.map I7 ++ L)) (fun _ => R) (fun g => [(3, g.2.1), (6, v0), (7, vi (l.length : Int)), (8, vi (g.1 : Int))]) (fun g => l.length - g.1) (0, .slice none 0 0, []) ⟨Nat.zero_le _, by simp⟩ alT (fun w hs => hs) ?_
 rintro ⟨k, vs, xs⟩ ⟨hk, hx⟩
 try simp only at hk hx ⊢
 have hxl : xs.length = k := by
  have := congrArg List.length hx
  simp at this; omega
 refine ZB ?_
 refine cdy ?_ ?_
 ·intro ht9
  refine Gl ?_
  refine JC.open1 (xs := l) (v := v0) k mm (by omega) (fun hwE u => ?_)
  refine JC.know (p := u.oneCell' = true) (fun w hs => isSlice.one (hs.fact (.tail _ (.head _)))) (fun honeu => ?_)
  refine ZA ?_
  refine al_ (cs := zEC) Try.zeroValue84 ?_; intro b5
  refine s_B (cs := Entry.cells u (l.getD k A5)) Try.sizeOf84 ?_
  refine ZK ?_
  refine Ak Try.call62 rfl (fun w hs => Aak (xs := (l.getD k A5).last) hs mm) ?_; intro v14
  refine J.know (p := v14.oneCell' = true) (fun w hs => Bm .hd hs) (fun honev => ?_)
  refine rn1 ?_
  refine sc ?_
  refine ZK ?_
  refine li (α := EV) [⟨(l.getD k A5), v14⟩] Aej rfl (fun j hj => ⟨⟨_, rfl, rfl, hwE, honev⟩, trivial⟩) ?_; intro v18
  refine ap Aej (hb := fun w hs => by have : maxN = 16777216 := rfl; simp only [List.length_cons, List.length_nil]; omega) (k := ?_); intro v19
  refine ZH ?_
  refine A7 (k + 1, v19, xs ++ [⟨(l.getD k A5), v14⟩]) ⟨by show k + 1 ≤ l.length; omega, by rw [List.map_append, hx, Hu A5 (by omega)]; rfl⟩ (by show l.length - (k + 1) < l.length - k; omega) alT (fun w hs => ?_)
  try simp only
  have h9 : St (row 84 v19 (xs ++ [⟨(l.getD k A5), v14⟩]) :: row 3 v14 (l.getD k A5).last :: (xs.map I7 ++ L)) R w := Ae hs
  refine h9.perm (.cons _ ?_)
  rw [List.map_append, List.append_assoc]
  exact List.perm_middle.symm
 ·intro ht9
  refine ZD ?_
  have hkl : k = l.length := by omega
  rw [hkl, List.take_length] at hx
  exact Bq (vs, xs) (hs := fun w hs => St.pr hx (Ae hs))
theorem U1 {v0 : Value} {l : List Entry} (hs : St (L) R w) (h0 : sl v0 l ∈ R) : Calls Try.prog 46 [v0].toArray w (Cd (fun v : Value => v) (fun _ => L) (fun v => sl v l :: R)) :=
 Ix (Hh hs h0) (fun g w' hs' => ⟨g.1, rfl, by
  have h1 : g.2.map EV.e = l := G0 (.head _) hs'
  have h2 := Nc hs'
  rw [h1] at h2
  exact h2.sub .refl (fun f hf => by
   rcases List.mem_cons.1 hf with e | e
   ·exact List.mem_cons.2 (.inl e)
   ·exact List.mem_cons.2 (.inr (.tail _ e)))⟩)
def Jw (s : Int) : Int := if s = 0 then 0 else if s < 2 then 1 else if s < 4 then 2 else if s < 8 then 3 else 4
theorem q_ixS {P : Program} {n : Nat} {L : List Chunk} {R : List Fact} {al : List (Nat × Value)} {d : Nat} {x y : Operand} {T ty : TypeId} {pos : String} {aft : Array Edge} {s : ByteArray} {k : IntKind} {i : Int} {b : UInt8} (ht : P.underlying T = some .string) (hx : ev n al x = some (.string s)) (hy : ev n al y = some (.int k i)) (h0 : 0 ≤ i) (hb : s[i.toNat]? = some b) : Au P n al L R ⟨some d, .index T x y, ty, pos, aft, none⟩ (vb b) :=
 ⟨rfl, fun ρ w h _ => by
  show (Instr.index T (ρ x) (ρ y) >>= fun v => Pure.pure (Next.value v)).run P w = _
  rw [h x (by simp [Op.operands]) _ hx, h y (by simp [Op.operands]) _ hy]
  simp [Instr.index, asIntOf, Dd ht, h0, hb]⟩
theorem len64 {s : Int} (hs : St (L) R w) (h0 : 0 ≤ s) (h1 : s < 16) : Calls Try.prog 82 [.int .u64 s].toArray w (Cd (fun _ : Unit => vi (Jw s)) (fun _ => L) (fun _ => R)) := by
 refine Ah Try.func82 rfl Try.ntmps82 rfl hs ?_
 clear hs
 refine Zam ?_
 refine D6 ?_
 refine Za1 ?_
 refine D6 ?_
 refine Za1 ?_
 refine D6 ?_
 refine Gmc ?_
 refine rn2 ?_
 refine ob (Aw (v := .int .u8 s) Try.underlying151 Try.underlying5 rfl (by rcases (show s = 0 ∨ s = 1 ∨ s = 2 ∨ s = 3 ∨ s = 4 ∨ s = 5 ∨ s = 6 ∨ s = 7 ∨ s = 8 ∨ s = 9 ∨ s = 10 ∨ s = 11 ∨ s = 12 ∨ s = 13 ∨ s = 14 ∨ s = 15 by omega) with h | h | h | h | h | h | h | h | h | h | h | h | h | h | h | h <;> subst h <;> rfl)) ?_
 refine ob (q_ixS (b := u8 (Jw s)) Try.underlying9 rfl rfl h0 (by rcases (show s = 0 ∨ s = 1 ∨ s = 2 ∨ s = 3 ∨ s = 4 ∨ s = 5 ∨ s = 6 ∨ s = 7 ∨ s = 8 ∨ s = 9 ∨ s = 10 ∨ s = 11 ∨ s = 12 ∨ s = 13 ∨ s = 14 ∨ s = 15 by omega) with h | h | h | h | h | h | h | h | h | h | h | h | h | h | h | h <;> subst h <;> kernel_rfl)) ?_
 refine ob (Aw (v := vi (Jw s)) Try.underlying5 Try.underlying3 rfl (by rcases (show s = 0 ∨ s = 1 ∨ s = 2 ∨ s = 3 ∨ s = 4 ∨ s = 5 ∨ s = 6 ∨ s = 7 ∨ s = 8 ∨ s = 9 ∨ s = 10 ∨ s = 11 ∨ s = 12 ∨ s = 13 ∨ s = 14 ∨ s = 15 by omega) with h | h | h | h | h | h | h | h | h | h | h | h | h | h | h | h <;> subst h <;> rfl)) ?_
 refine ob (Sr (a := 0) (b := Jw s) (by exact rfl) (by exact rfl) (by unfold Jw; omega) (by unfold Jw; omega)) ?_
 rw [Int.zero_add]
 refine Ga1 ?_
 exact Bq ()
theorem Ale {s : Int} (hs : St (L) R w) (h0 : 0 ≤ s) (h1 : s < 16) : Calls Try.prog 80 [.int .u64 s].toArray w (Cd (fun _ : Unit => vi (Jw s)) (fun _ => L) (fun _ => R)) := by
 refine Ah Try.func80 rfl Try.ntmps80 rfl hs ?_
 clear hs
 refine Gm ?_
 refine Zax ?_
 refine Ak Try.call82 rfl (fun w hs => len64 hs h0 h1) ?_; intro _
 refine Ga1 ?_
 exact Bq ()
section
variable {P : Program} {n : Nat} {Q : Exit → Act → World → Prop} {Sh : Rho → (Nat → Bool) → List Chunk} {R0 : List Fact} {al0 : List (Nat × Value)}
variable {ops : Array Oper} {i : Nat} {rest : List Oper} {its : List Item} {d : Nat} {x y : Operand} {T ty : TypeId} {pos : String} {aft : Array Edge}
theorem Zu {γ : Type} [Gh γ] {val : γ → Value} {F : γ → List Fact} {C : γ → List Chunk} {f : FuncId} {args : List Operand} {ts : Array TypeId} {vs : Rho → List Value} (hf : ∀ args w, (callFunc f args).run P w = .ok (.enter f args) w)
  (ha : ∀ ρ, evL n (Ed its al0 ρ) args = some (vs ρ)) (hc : ∀ ρ L' R' w, Deps ops R0 its i ρ R' → St L' R' w → Calls P f (vs ρ).toArray w (Cd val (fun g => C g ++ L') (fun g => F g ++ R'))) (hSh : Km ops Sh i)
  (k : DJ P n ops Q Sh R0 al0 (i + 1) rest (⟨i, some d, fun ρ => val (Gh.dec (ρ i)), fun ρ => F (Gh.dec (ρ i)), fun ρ => C (Gh.dec (ρ i))⟩ :: its)) :
  DJ P n ops Q Sh R0 al0 i (⟨some d, .call { callee := .value (.func f), args := args.toArray, argTypes := ts }, ty, pos, aft, none⟩ :: rest) its :=
 Akm (C := C) rfl rfl hSh (fun ρ S a L' R' w K h hK => by
  unfold Oper.wp
  rw [Kc hf rfl, Oper.upon_enter, List.map_toArray, Hb h.agree (fun x hx => by simp [Op.operands, Call.operands, hx]) (ha ρ)]
  refine (hc ρ _ _ w ⟨h.base, h.deps⟩ h.st).mono ?_
  rintro e w' ⟨g, rfl, hs'⟩
  exact hK g w' hs') k
end
theorem Gt {u : Value} {c : Core} (hs : St (L) R w) (hu : sl u c.lines ∈ R) : Calls Try.prog 48 [.agg (c.cells u).toArray].toArray w (Cd (fun v : Value => .agg (Core.cells v c).toArray) (fun v => row 52 v c.lines :: L) (fun v => R)) := by
 have hone0 : u.oneCell' = true := isSlice.one (hs.fact hu)
 refine Ah Try.func48 rfl Try.ntmps48 rfl hs ?_
 clear hs
 refine Gm ?_
 refine bx ?_; intro b1
 refine al_ (cs := [.slice none 0 0, vi 0, vi 0, vi 0]) Try.zeroValue55 ?_; intro b2
 refine Gl ?_
 refine cq_ (blk b2 55 [.slice none 0 0, vi 0, vi 0, vi 0] :: blk b1 55 (c.cells u) :: L) ?_
 refine jd_ (fun ρ S => blk b2 55 (bif S 6 then [(Gh.dec (γ := Value) (ρ 2)), vi c.wait.kind, vi c.wait.line, vi c.wait.value] else [.slice none 0 0, vi 0, vi 0, vi 0]) :: blk b1 55 (c.cells u) :: L) ?_
 refine dn2 ?_
 refine Zu (γ := Value) (val := fun v => v) (F := fun v => [pr (v.oneCell' = true)]) (C := fun v => [row 52 v c.lines]) Try.call64 (fun _ => rfl) (fun ρ L R w hd hs => Ix (Xi (xs := c.lines) hs (hd.base mm)) (fun v w hs => ⟨v, rfl, St.pr (Bm .hd hs) hs⟩)) (fun ρ g S hS hA => by have u6 : upS S 2 6 = S 6 := rfl; have h6 : S 6 = false := hA 6 ⟨0, rfl⟩; simp only [u6, h6, cond_false]) ?_
 refine dn2 ?_
 refine e_pd (v := fun ρ => .agg ([(Gh.dec (γ := Value) (ρ 2)), vi c.wait.kind, vi c.wait.line, vi c.wait.value]).toArray) (fun ρ S R' L' w hd hs => by have h1 : ((Gh.dec (γ := Value) (ρ 2))).oneCell' = true := hs.fact (hd.dep (it := ⟨2, _, _, _, _⟩) (by repeat (first | exact List.Mem.head _ | refine List.Mem.tail _ ?_)) ⟨9, rfl⟩ (List.Mem.head _)); exact Fs Nx) (Ind.gh (h := fun g => Value.agg ([(Gh.dec (γ := Value) g), vi c.wait.kind, vi c.wait.line, vi c.wait.value]).toArray) 2 3 rfl) (fun _ _ _ _ _ => rfl) ?_
 refine es_ 55 0 [] [] (fun ρ => b2) (fun ρ => [.slice none 0 0, vi 0, vi 0, vi 0]) (fun ρ => [(Gh.dec (γ := Value) (ρ 2)), vi c.wait.kind, vi c.wait.line, vi c.wait.value]) Try.sizeOf55 (h1 := (fun ρ R w L' hd hs => Dl (hs.fact (hd.dep (it := ⟨2, _, _, _, _⟩) (by repeat (first | exact List.Mem.head _ | refine List.Mem.tail _ ?_)) ⟨9, rfl⟩ (List.Mem.head _)) : ((Gh.dec (γ := Value) (ρ 2))).oneCell' = true) (by repeat (first | exact H1 | refine Dl rfl ?_)))) ?_
 refine dnl ?_; intro ρ
 refine JX.conseq (L' := row 52 (Gh.dec (γ := Value) (ρ 2)) c.lines :: blk b2 55 [(Gh.dec (γ := Value) (ρ 2)), vi c.wait.kind, vi c.wait.line, vi c.wait.value] :: blk b1 55 (c.cells u) :: L) (fun w hs => Ae hs) ?_
 generalize (Gh.dec (γ := Value) (ρ 2)) = v5
 refine Gl ?_
 exact Wg v5 Try.isAgg55 Try.sizeOf55
theorem E5 {LX : List Chunk} {R : List Fact} {w : World} {vL vo vd : Value} {bk : Nat} {q : Op} {id home : Int} {ms : List Msg} {kind line serial turn value : Int} (hs : St (blk bk 110 [vL, vi q.kind, vi q.line, vi q.value, vi id, vi home, vo, vd] :: row 115 vo ms :: LX) R w) (hn : ms.length ≤ 1000) (hwf : (⟨kind, id, home, line, serial, turn, value, false⟩ : Msg).wf) : Calls Try.prog 73 [bp bk 0, vi kind, vi line, vi serial, vi turn, vi value].toArray w (Cd (fun v : Value => .tuple #[]) (fun v => blk bk 110 [vL, vi q.kind, vi q.line, vi q.value, vi id, vi home, v, vd] :: row 115 v (ms ++ [(⟨kind, id, home, line, serial, turn, value, false⟩ : Msg)]) :: LX) (fun v => R)) := by
 refine Ah Try.func73 rfl Try.ntmps73 rfl hs ?_
 clear hs
 refine cq_ (blk bk 110 [vL, vi q.kind, vi q.line, vi q.value, vi id, vi home, vo, vd] :: row 115 vo ms :: LX) ?_
 refine jd_ (fun ρ S => blk bk 110 (bif S 23 then [vL, vi q.kind, vi q.line, vi q.value, vi id, vi home, (Gh.dec (γ := Value) (ρ 20)), vd] else [vL, vi q.kind, vi q.line, vi q.value, vi id, vi home, vo, vd]) :: (bif S 20 then row 115 (Gh.dec (γ := Value) (ρ 20)) (ms ++ [(⟨kind, id, home, line, serial, turn, value, false⟩ : Msg)]) else row 115 vo ms) :: (LX)) ?_
 refine dn4 ?_
 refine Jr (v := vo) (fun ρ S hS hB hA => by have h23 : S 23 = false := hA 23 ⟨0, rfl⟩; simp only [h23, cond_false]; exact D8 (hc := Bt pkk (by repeat (first | exact rfl | refine Da rfl ?_))) Try.isAgg90) (fun _ _ _ _ _ => rfl) ?_
 refine dn4 ?_
 refine Jr (v := vi id) (fun ρ S hS hB hA => by have h23 : S 23 = false := hA 23 ⟨0, rfl⟩; simp only [h23, cond_false]; exact D8 (hc := Bt pkk (by repeat (first | exact rfl | refine Da rfl ?_))) Try.isAgg3) (fun _ _ _ _ _ => rfl) ?_
 refine dn3 ?_
 refine Jr (v := vi home) (fun ρ S hS hB hA => by have h23 : S 23 = false := hA 23 ⟨0, rfl⟩; simp only [h23, cond_false]; exact D8 (hc := Bt pkk (by repeat (first | exact rfl | refine Da rfl ?_))) Try.isAgg3) (fun _ _ _ _ _ => rfl) ?_
 refine dn4 ?_
 first | refine epc (fun _ _ => Fg C7) ?_ | refine epc (fun _ _ => Fs C7) ?_ | refine epp (fun _ _ => Fg C7) ?_ | refine epp (fun _ _ => Fs C7) ?_
 refine Lr ([(⟨kind, id, home, line, serial, turn, value, false⟩ : Msg)] : List Msg) Nf rfl (fun _ => rfl) rfl (fun _ => rfl) rfl rfl (fun ρ R hd => Yj hwf) (fun _ _ _ _ _ => rfl) ?_
 refine Eo (e := 115) (xs := ms) (ys := [(⟨kind, id, home, line, serial, turn, value, false⟩ : Msg)]) (v := vo) Nf (fun _ => rfl) (fun _ => rfl) rfl (by decide) (fun ρ R hd => (hd.dep (it := ⟨19, _, _, _, _⟩) (by repeat (first | exact List.Mem.head _ | refine List.Mem.tail _ ?_)) ⟨9, rfl⟩ (List.Mem.head _))) (by have : maxN = 16777216 := rfl; simp only [List.length_cons, List.length_nil]; omega) (fun ρ g S hS hB hA => ?_) ?_
 ·have ui : upS S 20 20 = true := rfl; have u23 : upS S 20 23 = S 23 := rfl; have h23 : S 23 = false := hA 23 ⟨0, rfl⟩; have rs : (Gh.dec (γ := Value) (Rho.set ρ 20 (Gh.enc g) 20)) = g := rfl
  simp only [ui, hS, u23, h23, rs, cond_true, cond_false]
  exact pex
 refine dn2 ?_
 refine D3 (T0 := 110) (f := 6) (vs := fun ρ => [vL, vi q.kind, vi q.line, vi q.value, vi id, vi home, vo, vd]) (v := fun ρ => (Gh.dec (γ := Value) (ρ 20))) (fun ρ => bk) Try.sizeOf90 (fun _ => rfl) (fun _ => rfl) (fun ρ S R w L9 hB hd hs => by have h20 : S 20 = true := hB 20 ⟨9, rfl⟩; simp only [h20, cond_true] at hs; exact Bm pkk hs) (fun _ => rfl) (fun ρ g S hS hB hA => ?_) ?_
 ·have ui : upS S 23 23 = true := rfl; have u20 : upS S 23 20 = S 20 := rfl; have r20 : Rho.set ρ 23 g 20 = ρ 20 := rfl
  simp only [ui, hS, u20, r20, cond_true, cond_false]
  exact pex
 refine dnl ?_; intro ρ
 refine xq_ (blk bk 110 [vL, vi q.kind, vi q.line, vi q.value, vi id, vi home, (Gh.dec (γ := Value) (ρ 20)), vd] :: row 115 (Gh.dec (γ := Value) (ρ 20)) (ms ++ [(⟨kind, id, home, line, serial, turn, value, false⟩ : Msg)]) :: (LX)) ?_
 generalize (Gh.dec (γ := Value) (ρ 19)) = v31
 generalize (Gh.dec (γ := Value) (ρ 20)) = v32
 refine A1 (.inl rfl) (fun B w hs => Gf rfl _ w) (fun w hs => ⟨v32, rfl, Ae hs⟩)
theorem Lw {P : Program} {n : Nat} {Q : Exit → Act → World → Prop} {L : List Chunk} {R : List Fact} {al : List (Nat × Value)} {cd : Code} {v : Value} {x : Chip} (p : Nat) (hm : sl v x.cores ∈ R) (hp : p < x.cores.length) (k : (cor x p).wait.wf → ∀ u, u.oneCell' = true → JC P n cd Q L (cF v 4 p (Core.cells u (cor x p)) :: sl u (cor x p).lines :: R) al) : JC P n cd Q L R al :=
 JC.open1 p hm hp fun hw u => JC.know (p := u.oneCell' = true) (fun w hs => isSlice.one (hs.fact (.tail _ (.head _)))) (k hw u)
theorem Um {P : Program} {n : Nat} {Q : Exit → Act → World → Prop} {L : List Chunk} {R : List Fact} {al : List (Nat × Value)} {cd : Code} {v : Value} {x : Chip} (i : Nat) (hm : sl v x.home ∈ R) (hi : i < x.home.length) (k : (ent x i).wf → ∀ u, u.oneCell' = true → JC P n cd Q L (cF v 10 i (Entry.cells u (ent x i)) :: sl u (ent x i).last :: R) al) : JC P n cd Q L R al :=
 JC.open1 i hm hi fun hw u => JC.know (p := u.oneCell' = true) (fun w hs => isSlice.one (hs.fact (.tail _ (.head _)))) (k hw u)
theorem Acg {P : Program} {n : Nat} {Q : Exit → Act → World → Prop} {L : List Chunk} {R : List Fact} {al : List (Nat × Value)} {cd : Code} {u : Value} {x : Chip} {p : Nat} (i : Nat) (hm : sl u (cor x p).lines ∈ R) (hi : i < (cor x p).lines.length) (k : (lin x i p).wf → JC P n cd Q L (cF u 7 i (lin x i p).cells :: R) al) : JC P n cd Q L R al := JC.open0 i hm hi k
section
variable {P : Program} {n : Nat} {Q : Exit → Act → World → Prop} {Sh : Rho → (Nat → Bool) → List Chunk} {R0 : List Fact} {al0 : List (Nat × Value)}
variable {ops : Array Oper} {i : Nat} {rest : List Oper} {its : List Item} {d : Nat} {x y : Operand} {T ty : TypeId} {pos : String} {aft : Array Edge}
theorem Zv {α : Type} [Enc α] {t e : TypeId} {d sz bytes : Nat} {z : Value} {xs : List α} {ys : Rho → List α} {v : Value} {u : Rho → Value} (he : ElemOf P t e sz z bytes) (hx : ∀ ρ, ev n (Ed its al0 ρ) x = some v) (hy : ∀ ρ, ev n (Ed its al0 ρ) y = some (u ρ)) (hsz : Enc.sz α = sz) (hpos : 0 < sz)
  (hm : ∀ ρ R', Deps ops R0 its i ρ R' → sl (u ρ) (ys ρ) ∈ R') (hb : ∀ ρ, xs.length + (ys ρ).length ≤ maxN)
  (hSh : ∀ ρ (g : Value) S, S i = false → (∀ j, Bef ops j i → S j = true) → (∀ j, Bef ops i j → S j = false) → ∃ L1, (Sh ρ S).Perm (row e v xs :: L1) ∧ (Sh (Rho.set ρ i (Gh.enc g)) (upS S i)).Perm (row e g (xs ++ ys ρ) :: L1))
  (k : DJ P n ops Q Sh R0 al0 (i + 1) rest (⟨i, some d, fun ρ => (Gh.dec (ρ i) : Value), fun _ => [], fun _ => []⟩ :: its)) :
  DJ P n ops Q Sh R0 al0 i (⟨some d, .call { callee := .builtin .append, args := #[x, y], argTypes := #[t, t] }, ty, pos, aft, none⟩ :: rest) its := by
 refine dj ⟨⟨i, some d, fun ρ => (Gh.dec (ρ i) : Value), fun _ => [], fun _ => []⟩, rfl, rfl, Ind.self (h := fun g => (Gh.dec g : Value)), Ind.const _, Ind.const _, ?_, k⟩
 intro ρ S a L' R' w K hS hbef haft hag hdep hbase hst hK
 rw [if_pos (by simp [Region.wanted])]
 left
 unfold Oper.wp
 obtain ⟨L1, p1, _⟩ := hSh ρ undef S hS hbef haft
 have hs' : St (row e v xs :: (L1 ++ L')) R' w := hst.perm (p1.append_right L')
 obtain ⟨v', w', h1, h2⟩ := Lb (ty := ty) he hsz hpos hs' (hm ρ R' ⟨hbase, hdep⟩) (hb ρ)
 have hx' := Cs hag (by simp [Op.operands, Call.operands]) (hx ρ)
 have hy' := Cs hag (by simp [Op.operands, Call.operands]) (hy ρ)
 rw [Gc (w' := w') (v := v') (by rw [hx', hy']; exact h1), Oper.upon_value]
 obtain ⟨L2, q1, q2⟩ := hSh ρ v' S hS hbef haft
 have e2 : (Rho.set ρ i (Gh.enc v')) i = Gh.enc v' := by simp [Rho.set]
 have h3 := h2
 have hL : L1.Perm L2 := (List.perm_cons _).1 (p1.symm.trans q1)
 have := hK (Gh.enc v') w' ((h3.perm ((hL.append_right L').cons _)).perm (by
  refine List.Perm.trans ?_ (q2.symm.append_right L')
  exact List.Perm.refl _))
 simp only [e2, Gh.ok] at this
 exact this
theorem e_litR {α : Type} [Enc α] {t el : TypeId} {sz bytes len : Nat} {z : Value} {parts : List (Nat × Operand)} {vs : Rho → List Value} (xs : Rho → List α) (he : ElemOf P t el sz z bytes) (hsz : Enc.sz α = sz)
  (ha : ∀ ρ, evL n (Ed its al0 ρ) (parts.map (·.2)) = some (vs ρ)) (hidx : parts.map (·.1) = List.range' 0 len) (hlv : ∀ ρ, (vs ρ).length = len) (hsmall : Nat.ble (len * sz) 1000 = true) (hsm2 : Nat.ble len 1000 = true)
  (hrd : ∀ ρ R', Deps ops R0 its i ρ R' → ∀ j, (∀ q ∈ R', q.p j) → RdV (xs ρ) (vs ρ) j) (hxi : Ind ops i xs) (hxs : ∀ ρ g, xs (Rho.set ρ i g) = xs ρ) (hSh : Km ops Sh i)
  (k : DJ P n ops Q Sh R0 al0 (i + 1) rest (⟨i, some d, fun ρ => (Gh.dec (ρ i) : Value), fun ρ => [sl (Gh.dec (ρ i) : Value) (xs ρ)], fun _ => []⟩ :: its)) :
  DJ P n ops Q Sh R0 al0 i (⟨some d, .buildSlice t len parts.toArray, ty, pos, aft, none⟩ :: rest) its := by
 refine dj ⟨⟨i, some d, fun ρ => (Gh.dec (ρ i) : Value), fun ρ => [sl (Gh.dec (ρ i) : Value) (xs ρ)], fun _ => []⟩, rfl, rfl, Ind.self (h := fun g => (Gh.dec g : Value)), (fun q g ρ hq hn => ?_), Ind.const _, ?_, k⟩
 ·show [sl (Gh.dec ((Rho.set ρ q g) i) : Value) (xs (Rho.set ρ q g))] = [sl (Gh.dec (ρ i) : Value) (xs ρ)]
  rw [hxi q g ρ hq hn]; simp [Rho.set, Ne.symm hq]
 intro ρ S ac L' R' w K hS hbef haft hag hdep hbase hst hK
 rw [if_pos (by simp [Region.wanted])]
 left
 obtain ⟨j, hj, hrj⟩ := hst.ex
 have hrd' := hrd ρ R' ⟨hbase, hdep⟩
 obtain ⟨h1, h2, h3⟩ := (hrd' j hrj).list
 have hlen := hlv ρ
 have hb := Nat.le_of_ble_eq_true hsmall
 have hb2 := Nat.le_of_ble_eq_true hsm2
 have hrun := Gp (vs := vs ρ) he (fun v hv => by rw [h2 v hv, hsz]) (by rw [hlen]; exact hb) w
 have e : (execOp ac.eval ⟨some d, .buildSlice t len parts.toArray, ty, pos, aft, none⟩).run P w = .ok (.value (.slice (some ⟨w.heap.size, 0, none⟩) len len)) (w.alloc (.cells ((vs ρ).flatMap fun v => v.cells.toList).toArray el)) := by
  show (Instr.buildSlice t len (parts.toArray.map fun (i, x) => (i, ac.eval x)) >>= fun v => Pure.pure (Next.value v)).run P w = _
  have hp : (parts.toArray.map fun (i, x) => (i, ac.eval x)) = ((parts.map (·.1)).zip (vs ρ)).toArray := by
   rw [← Hb hag (fun x hx => by simpa [Op.operands] using hx) (ha ρ)]
   simp only [List.map_toArray, List.map_map, List.zip_map', Function.comp_def]
  rw [hp, hidx, Sem.run_bind, ← hlen, hrun]; rfl
 unfold Oper.wp
 rw [e, Oper.upon_value]
 obtain ⟨m, j', hd, hmw, hjw, hst', hr⟩ := hst
 have hnew : St (row el (.slice (some ⟨w.heap.size, 0, none⟩) len len) (xs ρ) :: (Sh ρ S ++ L')) R' (w.alloc (.cells ((vs ρ).flatMap fun v => v.cells.toList).toArray el)) := by
  obtain ⟨g1, g2, g3⟩ := (hrd' j' hr).list
  have hcl : ((vs ρ).flatMap fun v => v.cells.toList).length = len * sz := by rw [g3.len, g1, hlen, hsz]
  exact St.newC hd hmw hjw hst' hr rfl rfl rfl ⟨by rw [g1, hlen]; have : maxN = 16777216 := rfl; omega, .inr ⟨w.heap.size, len, _, _, by rw [g1, hlen], Em _ _, by rw [g1, hlen]; exact Nat.le_refl _, by unfold maxLen; omega, by rw [hsz]; simpa using hcl, rfl, by
   rw [g1, hlen, hsz, ← hcl, List.toList_toArray, List.take_length]; exact g3⟩⟩
 have e2 : (Rho.set ρ i (Gh.enc (Value.slice (some ⟨w.heap.size, 0, none⟩) len len))) i = Gh.enc (Value.slice (some ⟨w.heap.size, 0, none⟩) len len) := by simp [Rho.set]
 have := hK (Gh.enc (Value.slice (some ⟨w.heap.size, 0, none⟩) len len)) (w.alloc (.cells ((vs ρ).flatMap fun v => v.cells.toList).toArray el))
 simp only [e2, Gh.ok, hxs, hSh ρ _ S hS haft] at this
 exact this hnew.shut
end
structure KV where
 c : Core
 u : Value
instance instEncKV : Enc KV where
 sz := 4
 rd x cs _ := cs = x.c.cells x.u ∧ x.c.wait.wf ∧ x.u.oneCell' = true
 mono _ _ _ _ _ h := h
 len x cs _ h := by rw [h.1]; rfl
 one x cs _ h := by have := h.2.2; rw [h.1]; simp [Core.cells] at this ⊢; refine ⟨this, ?_⟩; simp [Value.oneCell']
def Abh (x : KV) : Chunk := row 52 x.u x.c.lines
def linF (x : KV) : Fact := sl x.u x.c.lines
theorem Q9 {L : List Chunk} {w : World} : ∀ (l : List KV) {R : List Fact}, St (l.map Abh ++ L) R w → St L (l.map linF ++ R) w
 | [], _, hs => hs
 | x :: l, R, hs => by
  have h1 : St (row 52 x.u x.c.lines :: (l.map Abh ++ L)) R w := hs
  have h2 := Q9 l h1.shut
  exact h2.sub .refl (fun f hf => by
   simp only [List.map_cons, List.cons_append, List.mem_append, List.mem_cons] at hf ⊢
   rcases hf with e | e | e
   ·exact .inr (.inl e)
   ·exact .inl e
   ·exact .inr (.inr e))
theorem Wd {T : TypeId} {v : Value} {l : List KV} (hf : ∀ x ∈ l, linF x ∈ R) (hs : St (row T v l :: L) R w) : St (row T v (l.map KV.c) :: L) R w := by
 obtain ⟨m, j, hd, hm, hj, ⟨m1, m2, hd', h1, h2, hc, hst⟩, hr⟩ := hs
 obtain ⟨rs, r1, r2, r3⟩ := Jg hc
 refine ⟨m, j, hd, hm, hj, ⟨m1, m2, hd', h1, h2, O8 (xs := l.map KV.c) (rs := rs) r1 (by rw [r2]; simp) (fun k e r he hkr => ?_), hst⟩, hr⟩
 exact Zdp
theorem Aku {cv hv fv : Value} {x : Chip} (hs : St (L) R w) (hcv : sl cv x.cores ∈ R) (hhv : sl hv x.home ∈ R) (hfv : sl fv x.frames ∈ R) (hn4 : x.cores.length ≤ 1000) : Calls Try.prog 35 [.agg #[cv, hv, fv]].toArray w (Cd (fun g : Value × Value × Value × List KV => .agg #[g.1, g.2.1, g.2.2.1]) (fun g => row 55 g.1 g.2.2.2 :: (g.2.2.2.map Abh ++ L)) (fun g => pr (g.2.2.2.map KV.c = x.cores) :: sl g.2.2.1 x.frames :: sl g.2.1 x.home :: R)) := by
 refine Zba ?_;intro honec honeh honef
 refine Ah Try.func35 rfl Try.ntmps35 rfl hs ?_
 clear hs
 refine Zbw ?_;intro b1 b2
 refine Gl ?_
 refine cq_ (blk b2 27 [.slice none 0 0, .slice none 0 0, .slice none 0 0] :: blk b1 27 [cv, hv, fv] :: L) ?_
 refine jd_ (fun ρ S => blk b2 27 [.slice none 0 0, .slice none 0 0, .slice none 0 0] :: blk b1 27 [cv, hv, fv] :: ((bif S 7 then [blk (Gh.dec (γ := Nat) (ρ 7)) 27 (bif S 8 then [.slice none 0 0, (Gh.dec (γ := Value) (ρ 2)), (Gh.dec (γ := Value) (ρ 5))] else [.slice none 0 0, .slice none 0 0, .slice none 0 0])] else []) ++ (L))) ?_
 refine dn2 ?_
 refine G8 (γ := Value) (val := fun v => v) (F := fun v => [sl v x.home]) Try.call46 (fun _ => rfl) (fun ρ L R w hd hs => U1 (l := x.home) hs (hd.base mm)) (fun ρ g S hS hA => by have u7 : upS S 2 7 = S 7 := rfl; have u8 : upS S 2 8 = S 8 := rfl; have r5 : Rho.set ρ 2 g 5 = ρ 5 := rfl; have r7 : Rho.set ρ 2 g 7 = ρ 7 := rfl; have h8 : S 8 = false := hA 8 ⟨0, rfl⟩; simp only [u7, u8, r5, r7, h8, cond_false]) ?_
 refine dn2 ?_
 refine G8 (γ := Value) (val := fun v => v) (F := fun v => [sl v x.frames]) Try.call47 (fun _ => rfl) (fun ρ L R w hd hs => frz (Ut (l := x.frames) hs (hd.base mm))) (fun ρ g S hS hA => by have u7 : upS S 5 7 = S 7 := rfl; have u8 : upS S 5 8 = S 8 := rfl; have r2 : Rho.set ρ 5 g 2 = ρ 2 := rfl; have r7 : Rho.set ρ 5 g 7 = ρ 7 := rfl; have h8 : S 8 = false := hA 8 ⟨0, rfl⟩; simp only [u7, u8, r2, r7, h8, cond_false]) ?_
 refine e_pd (v := fun ρ => .agg ([.slice none 0 0, (Gh.dec (γ := Value) (ρ 2)), (Gh.dec (γ := Value) (ρ 5))]).toArray) (fun ρ S R' L' w hd hs => by have h1 : ((Gh.dec (γ := Value) (ρ 2))).oneCell' = true := isSlice.one (hs.fact (hd.dep (it := ⟨2, _, _, _, _⟩) (by repeat (first | exact List.Mem.head _ | refine List.Mem.tail _ ?_)) ⟨9, rfl⟩ (List.Mem.head _))); have h2 : ((Gh.dec (γ := Value) (ρ 5))).oneCell' = true := isSlice.one (hs.fact (hd.dep (it := ⟨5, _, _, _, _⟩) (by repeat (first | exact List.Mem.head _ | refine List.Mem.tail _ ?_)) ⟨9, rfl⟩ (List.Mem.head _))); exact Fs I3) (Ind.gh2 (h := fun g g' => Value.agg ([.slice none 0 0, (Gh.dec (γ := Value) g), (Gh.dec (γ := Value) g')]).toArray) 2 5 3 rfl rfl) (fun _ _ _ _ _ => rfl) ?_
 refine Ng (cs := [.slice none 0 0, .slice none 0 0, .slice none 0 0]) Try.zeroValue27 rfl (fun ρ b S hS hA => ?_) ?_
 ·have ui : upS S 7 7 = true := rfl; have u8 : upS S 7 8 = S 8 := rfl; have r2 : Rho.set ρ 7 (Gh.enc b) 2 = ρ 2 := rfl; have r5 : Rho.set ρ 7 (Gh.enc b) 5 = ρ 5 := rfl; have h8 : S 8 = false := hA 8 ⟨0, rfl⟩; have rs : (Gh.dec (γ := Nat) (Rho.set ρ 7 (Gh.enc b) 7)) = b := rfl
  simp only [ui, hS, u8, r2, r5, h8, rs, cond_true, cond_false, List.nil_append]
  exact Zdk
 refine es_ 27 0 [7] [] (fun ρ => (Gh.dec (γ := Nat) (ρ 7))) (fun ρ => [.slice none 0 0, .slice none 0 0, .slice none 0 0]) (fun ρ => [.slice none 0 0, (Gh.dec (γ := Value) (ρ 2)), (Gh.dec (γ := Value) (ρ 5))]) Try.sizeOf27 (h1 := (fun ρ R w L' hd hs => Dl rfl (Dl (isSlice.one (hs.fact (hd.dep (it := ⟨2, _, _, _, _⟩) (by repeat (first | exact List.Mem.head _ | refine List.Mem.tail _ ?_)) ⟨9, rfl⟩ (List.Mem.head _)))) (Dl (isSlice.one (hs.fact (hd.dep (it := ⟨5, _, _, _, _⟩) (by repeat (first | exact List.Mem.head _ | refine List.Mem.tail _ ?_)) ⟨9, rfl⟩ (List.Mem.head _)))) H1)))) ?_
 refine dnl ?_; intro ρ
 refine xq_ (blk b2 27 [.slice none 0 0, .slice none 0 0, .slice none 0 0] :: blk b1 27 [cv, hv, fv] :: (blk (Gh.dec (γ := Nat) (ρ 7)) 27 [.slice none 0 0, (Gh.dec (γ := Value) (ρ 2)), (Gh.dec (γ := Value) (ρ 5))] :: L)) ?_
 generalize (Gh.dec (γ := Value) (ρ 2)) = v8
 generalize (Gh.dec (γ := Value) (ρ 5)) = v11
 generalize (Gh.dec (γ := Nat) (ρ 7)) = b3
 refine Gm ?_
 refine Ga4 ?_
 refine JC.rowNil 55 KV ?_
 refine Bs (γ := Nat × Value × List KV) (fun g => g.1 ≤ x.cores.length ∧ g.2.2.map KV.c = x.cores.take g.1) (fun g => row 55 g.2.1 g.2.2 :: blk b3 27 [g.2.1, v8, v11] :: blk b2 27 [.slice none 0 0, .slice none 0 0, .slice none 0 0] :: blk b1 27 [cv, hv, fv] :: (g.2.2.map Abh ++ L)) (fun _ => sl v11 x.frames :: sl v8 x.home :: R) (fun g => [(2, bp b2 0), (3, bp b3 0), (14, cv), (15, vi (x.cores.length : Int)), (16, vi (g.1 : Int))]) (fun g => x.cores.length - g.1) (0, .slice none 0 0, []) ⟨Nat.zero_le _, by simp⟩ alT (fun w hs => Ae hs) ?_
 rintro ⟨k, vs, xs⟩ ⟨hk, hxc⟩
 try simp only at hk hxc ⊢
 have hxl : xs.length = k := by
  have := congrArg List.length hxc
  simp at this; omega
 refine ZB ?_
 refine cdy ?_ ?_
 ·intro ht17
  refine Gl ?_
  refine Lw k (v := cv) mm (by omega) (fun hwp up honep => ?_)
  refine ZA ?_
  refine al_ (cs := [.slice none 0 0, vi 0, vi 0, vi 0]) Try.zeroValue55 ?_; intro b5
  refine s_B (cs := Core.cells up (cor x k)) Try.sizeOf55 ?_
  refine Gl ?_
  refine cq_ (blk b3 27 [vs, v8, v11] :: row 55 vs xs :: blk b5 55 (Core.cells up (cor x k)) :: blk b2 27 [.slice none 0 0, .slice none 0 0, .slice none 0 0] :: blk b1 27 [cv, hv, fv] :: (xs.map Abh ++ L)) ?_
  refine jd_ (fun ρ S => blk b3 27 (bif S 7 then [(Gh.dec (γ := Value) (ρ 5)), v8, v11] else [vs, v8, v11]) :: (bif S 5 then row 55 (Gh.dec (γ := Value) (ρ 5)) (xs ++ [(⟨cor x k, (Gh.dec (γ := Value) (ρ 3))⟩ : KV)]) else row 55 vs xs) :: blk b5 55 (Core.cells up (cor x k)) :: blk b2 27 [.slice none 0 0, .slice none 0 0, .slice none 0 0] :: blk b1 27 [cv, hv, fv] :: ((xs.map Abh ++ L))) ?_
  refine dn1 ?_
  refine Jr (v := vs) (fun ρ S hS hB hA => by have h7 : S 7 = false := hA 7 ⟨0, rfl⟩; simp only [h7, cond_false]; exact D8 (hc := Bt pkk (by repeat (first | exact rfl | refine Da rfl ?_))) Try.isAgg23) (fun _ _ _ _ _ => rfl) ?_
  refine dn1 ?_
  refine Zu (γ := Value) (val := fun v => .agg (Core.cells v (cor x k)).toArray) (F := fun v => [pr (v.oneCell' = true)]) (C := fun v => [row 52 v (cor x k).lines]) Try.call48 (fun _ => rfl) (fun ρ L R w hd hs => Ix (Gt (u := up) (c := cor x k) hs (hd.base mm)) (fun v w hs => ⟨v, rfl, St.pr (Bm .hd hs) hs⟩)) (fun ρ g S hS hA => by have u5 : upS S 3 5 = S 5 := rfl; have u7 : upS S 3 7 = S 7 := rfl; have r5 : Rho.set ρ 3 g 5 = ρ 5 := rfl; have h5 : S 5 = false := hA 5 ⟨0, rfl⟩; simp only [u5, u7, r5, h5, cond_false]) ?_
  refine e_litR (fun ρ => [(⟨cor x k, (Gh.dec (γ := Value) (ρ 3))⟩ : KV)]) Aek rfl (fun _ => rfl) rfl (fun _ => rfl) rfl rfl (fun ρ R hd j hj => ⟨⟨_, rfl, rfl, hwp, hj (pr (((Gh.dec (γ := Value) (ρ 3))).oneCell' = true)) (hd.dep (it := ⟨3, _, _, _, _⟩) (by repeat (first | exact List.Mem.head _ | refine List.Mem.tail _ ?_)) ⟨9, rfl⟩ (List.Mem.head _))⟩, trivial⟩) (Ind.gh (h := fun g => [(⟨cor x k, Gh.dec (γ := Value) g⟩ : KV)]) 3 0 rfl) (fun _ _ => rfl) (fun _ _ _ _ _ => rfl) ?_
  refine Zv (e := 55) (xs := xs) (ys := fun ρ => [(⟨cor x k, (Gh.dec (γ := Value) (ρ 3))⟩ : KV)]) (v := vs) Aek (fun _ => rfl) (fun _ => rfl) rfl (by decide) (fun ρ R hd => (hd.dep (it := ⟨4, _, _, _, _⟩) (by repeat (first | exact List.Mem.head _ | refine List.Mem.tail _ ?_)) ⟨9, rfl⟩ (List.Mem.head _))) (fun _ => by have : maxN = 16777216 := rfl; simp only [List.length_cons, List.length_nil]; omega) (fun ρ g S hS hB hA => ?_) ?_
  ·have ui : upS S 5 5 = true := rfl; have u7 : upS S 5 7 = S 7 := rfl; have r3 : Rho.set ρ 5 (Gh.enc g) 3 = ρ 3 := rfl; have h7 : S 7 = false := hA 7 ⟨0, rfl⟩; have rs : (Gh.dec (γ := Value) (Rho.set ρ 5 (Gh.enc g) 5)) = g := rfl
   simp only [ui, hS, u7, r3, h7, rs, cond_true, cond_false]
   exact pex
  refine dn1 ?_
  refine D3 (T0 := 27) (f := 0) (vs := fun ρ => [vs, v8, v11]) (v := fun ρ => (Gh.dec (γ := Value) (ρ 5))) (fun ρ => b3) Try.sizeOf23 (fun _ => rfl) (fun _ => rfl) (fun ρ S R w L9 hB hd hs => by have h5 : S 5 = true := hB 5 ⟨9, rfl⟩; simp only [h5, cond_true] at hs; exact Bm pkk hs) (fun _ => rfl) (fun ρ g S hS hB hA => ?_) ?_
  ·have ui : upS S 7 7 = true := rfl; have u5 : upS S 7 5 = S 5 := rfl; have r3 : Rho.set ρ 7 g 3 = ρ 3 := rfl; have r5 : Rho.set ρ 7 g 5 = ρ 5 := rfl
   simp only [ui, hS, u5, r3, r5, cond_true, cond_false]
   exact pex
  refine dnl ?_; intro ρ
  refine JX.conseq (L' := row 52 (Gh.dec (γ := Value) (ρ 3)) (cor x k).lines :: blk b3 27 [(Gh.dec (γ := Value) (ρ 5)), v8, v11] :: row 55 (Gh.dec (γ := Value) (ρ 5)) (xs ++ [(⟨cor x k, (Gh.dec (γ := Value) (ρ 3))⟩ : KV)]) :: blk b5 55 (Core.cells up (cor x k)) :: blk b2 27 [.slice none 0 0, .slice none 0 0, .slice none 0 0] :: blk b1 27 [cv, hv, fv] :: ((xs.map Abh ++ L))) (fun w hs => Ae hs) ?_
  generalize (Gh.dec (γ := Value) (ρ 3)) = v23
  generalize (Gh.dec (γ := Value) (ρ 4)) = v24
  generalize (Gh.dec (γ := Value) (ρ 5)) = v25
  refine ZD ?_
  refine A7 (k + 1, v25, xs ++ [⟨cor x k, v23⟩]) ⟨by show k + 1 ≤ x.cores.length; omega, by rw [List.map_append, hxc, Hu Fa (by omega)]; rfl⟩ (by show x.cores.length - (k + 1) < x.cores.length - k; omega) alT (fun w hs => ?_)
  try simp only
  have h9 : St (row 55 v25 (xs ++ [⟨cor x k, v23⟩]) :: blk b3 27 [v25, v8, v11] :: blk b2 27 [.slice none 0 0, .slice none 0 0, .slice none 0 0] :: blk b1 27 [cv, hv, fv] :: row 52 v23 (cor x k).lines :: (xs.map Abh ++ L)) (sl v11 x.frames :: sl v8 x.home :: R) w := Ae hs
  refine h9.perm (.cons _ (.cons _ (.cons _ (.cons _ ?_))))
  rw [List.map_append, List.append_assoc]
  exact List.perm_middle.symm
 ·intro ht17
  refine Gl ?_
  refine JC.know (p := vs.oneCell' = true) (fun w hs => Bm .hd hs) (fun hone5 => ?_)
  refine JC.know (p := v8.oneCell' = true ∧ v11.oneCell' = true) (fun w hs => ⟨isSlice.one (hs.fact (.tail _ (.head _))), isSlice.one (hs.fact (.head _))⟩) (fun h12 => ?_)
  obtain ⟨hone1, hone2⟩ := h12
  refine ZC ?_
  refine s_B (cs := [vs, v8, v11]) Try.sizeOf27 ?_
  refine Gl ?_
  have hkl : k = x.cores.length := by omega
  rw [hkl, List.take_length] at hxc
  exact Wg (vs, v8, v11, xs) Try.isAgg27 Try.sizeOf27 (hs := fun w hs => St.pr hxc (Ae hs))
theorem Gq {v0 : Value} {b : List UInt8} (hs : St L R w) (h0 : sl v0 b ∈ R) : Calls Try.prog 68 [v0].toArray w (Cd (fun _ : Unit => vi (L7 b)) (fun _ => L) (fun _ => R)) := by
 have hlen := Bx h0 hs
 refine Ah Try.func68 rfl Try.ntmps68 rfl hs ?_
 clear hs
 repeat refine Dh ?_
 refine Aa ?_
 refine Zab ?_
 repeat refine Dh ?_
 refine Aa ?_
 refine Zab ?_
 repeat refine Dh ?_
 refine ZT ?_
 refine r_len Try.underlying94 rfl (by first | exact Ev pkk | exact Fc mm) ?_
 refine Ee rfl ?_
 refine Zay ?_
 repeat refine Dh ?_
 refine Gk ?_
 refine Bs (γ := Nat) (fun k => k ≤ b.length) (fun _ => L) (fun _ => R) (fun k => [(0, v0), (6, v0), (7, vi (b.length : Int)), (8, vi (k : Int)), (3, vi ((Nw b k).toNat : Int))]) (fun k => b.length - k) 0 (by omega) ⟨rfl, rfl, rfl, rfl, rfl, trivial⟩ (fun w hs => hs) ?_
 intro k hk
 repeat refine Dh ?_
 refine Aa ?_
 refine J5 rfl rfl P4 ?_
 refine Zay ?_
 repeat refine Dh ?_
 refine Cc rfl (fun ht9 => ?_) (fun ht9 => ?_)
 ·
  try simp only [decide_eq_true_eq, decide_eq_false_iff_not, beq_iff_eq, bne_iff_ne, beq_eq_false_iff_ne, bne_eq_false_iff_eq, Int.not_lt, Int.not_le, Bool.not_eq_true, ne_eq, Bool.not_eq_eq_eq_not, Bool.not_true, Bool.not_false] at ht9
  refine H5 ?_
  refine Bc ?_
  repeat refine Dh ?_
  refine Gk ?_
  repeat refine Dh ?_
  refine Aa ?_
  first | refine Lh Es rfl rfl (by first | exact Ev pkk | exact Fc mm) (by first | assumption | omega | (simp only [List.length_nil, List.length_cons, List.length_append, List.length_take, List.length_drop, List.length_set, List.length_replicate]; omega)) ?_ | refine Jj Es rfl rfl (by first | exact Ev pkk | exact Fc mm) (by first | assumption | omega | (simp only [List.length_nil, List.length_cons, List.length_append, List.length_take, List.length_drop, List.length_set, List.length_replicate]; omega)) (by first | assumption | omega | (simp only [List.length_nil, List.length_cons, List.length_append, List.length_take, List.length_drop, List.length_set, List.length_replicate]; omega)) ?_
  first | refine Sq Try.isAgg5 rfl (Bt pkk (by exact rfl)) ?_ | refine Sq Try.isAgg5 rfl (Oo pkk (by first | assumption | omega | (simp only [List.length_nil, List.length_cons, List.length_append, List.length_take, List.length_drop, List.length_set, List.length_replicate]; omega))) ?_ | refine Sq Try.isAgg5 rfl (Vq mm (by first | assumption | omega | (simp only [List.length_nil, List.length_cons, List.length_append, List.length_take, List.length_drop, List.length_set, List.length_replicate]; omega))) ?_
  refine Zab ?_
  repeat refine Dh ?_
  refine ZT ?_
  refine Ee rfl ?_
  refine r_p (Aw Try.underlying5 Try.underlying3 rfl (Bz _)) rfl ?_
  refine Sp rfl rfl (Aas (s := 8) (by omega) (by have := (b.getD k 0).toNat_lt; omega)) ?_
  refine J5 rfl rfl (Ags (lt63 _) (by have := (b.getD k 0).toNat_lt; omega)) ?_
  refine Zab ?_
  repeat refine Dh ?_
  refine ZT ?_
  refine Zay ?_
  refine Gk ?_
  refine Bs (γ := Nat) (fun j => j ≤ 8) (fun _ => L) (fun _ => R) (fun j => [(0, v0), (6, v0), (7, vi (b.length : Int)), (8, vi (k : Int)), (17, vi (j : Int)), (3, vi ((Jt j (Nw b k ^^^ (Fl (b.getD k 0) <<< 8))).toNat : Int))]) (fun j => 8 - j) 0 (by omega) ⟨rfl, rfl, rfl, rfl, rfl, congrArg (fun z : Nat => some (vi (z : Int))) (crc_in _ _), trivial⟩ (fun w hs => hs) ?_
  intro j hj
  generalize hx : Jt j (Nw b k ^^^ (Fl (b.getD k 0) <<< 8)) = x
  have hcb : Jt (j + 1) (Nw b k ^^^ (Fl (b.getD k 0) <<< 8)) = Jc x := by rw [← hx]; rfl
  repeat refine Dh ?_
  refine Aa ?_
  refine J5 rfl rfl P4 ?_
  refine Zay ?_
  repeat refine Dh ?_
  refine Cc rfl (fun ht18 => ?_) (fun ht18 => ?_)
  ·
   try simp only [decide_eq_true_eq, decide_eq_false_iff_not, beq_iff_eq, bne_iff_ne, beq_eq_false_iff_ne, bne_eq_false_iff_eq, Int.not_lt, Int.not_le, Bool.not_eq_true, ne_eq, Bool.not_eq_eq_eq_not, Bool.not_true, Bool.not_false] at ht18
   refine H5 ?_
   refine Bc ?_
   repeat refine Dh ?_
   refine Gk ?_
   repeat refine Dh ?_
   refine ZT ?_
   refine J5 rfl rfl (Aau (b := 32768) (lt63 _) (by omega)) ?_
   refine J5 rfl rfl Afl ?_
   refine Zay ?_
   repeat refine Dh ?_
   refine Cc rfl (fun ht21 => ?_) (fun ht21 => ?_)
   ·
    try simp only [decide_eq_true_eq, decide_eq_false_iff_not, beq_iff_eq, bne_iff_ne, beq_eq_false_iff_ne, bne_eq_false_iff_eq, Int.not_lt, Int.not_le, Bool.not_eq_true, ne_eq, Bool.not_eq_eq_eq_not, Bool.not_true, Bool.not_false] at ht21
    replace ht21 : x.toNat &&& 32768 ≠ 0 := by intro h; apply ht21; rw [h]; rfl
    refine ZT ?_
    refine Sp rfl rfl (Aas (s := 1) (by omega) (by have := x.isLt; omega)) ?_
    refine J5 rfl rfl (Ags (b := 4129) (by have := x.isLt; omega) (by omega)) ?_
    refine Zab ?_
    refine ZT ?_
    refine J5 rfl rfl (Aau (b := 65535) (Tu (by have := x.isLt; omega) (by omega)) (by omega)) ?_
    refine Dz rfl ?_
    refine J.nil ?_
    refine ZbS ?_
    refine A7 (j + 1) (by omega) (by omega) ⟨rfl, rfl, rfl, rfl, rfl, ?_, trivial⟩ (fun w hs => hs)
    rw [hcb]; exact congrArg (fun z : Nat => some (vi (z : Int))) (crc_hi x ht21)
   ·
    try simp only [decide_eq_true_eq, decide_eq_false_iff_not, beq_iff_eq, bne_iff_ne, beq_eq_false_iff_ne, bne_eq_false_iff_eq, Int.not_lt, Int.not_le, Bool.not_eq_true, ne_eq, Bool.not_eq_eq_eq_not, Bool.not_true, Bool.not_false] at ht21
    replace ht21 : x.toNat &&& 32768 = 0 := by omega
    refine ZT ?_
    refine Sp rfl rfl (Aas (s := 1) (by omega) (by have := x.isLt; omega)) ?_
    refine Zab ?_
    refine ZT ?_
    refine J5 rfl rfl (Aau (b := 65535) (by have := x.isLt; omega) (by omega)) ?_
    refine Dz rfl ?_
    refine J.nil ?_
    refine ZbS ?_
    refine A7 (j + 1) (by omega) (by omega) ⟨rfl, rfl, rfl, rfl, rfl, ?_, trivial⟩ (fun w hs => hs)
    rw [hcb]; exact congrArg (fun z : Nat => some (vi (z : Int))) (crc_lo x ht21)
  ·
   try simp only [decide_eq_true_eq, decide_eq_false_iff_not, beq_iff_eq, bne_iff_ne, beq_eq_false_iff_ne, bne_eq_false_iff_eq, Int.not_lt, Int.not_le, Bool.not_eq_true, ne_eq, Bool.not_eq_eq_eq_not, Bool.not_true, Bool.not_false] at ht18
   refine Kz ?_
   repeat (first | refine Fh ?_ | refine H4 rfl ?_)
   refine Fi ?_
   refine ZbS ?_
   refine A7 (k + 1) (by omega) (by omega) ⟨rfl, rfl, rfl, rfl, ?_, trivial⟩ (fun w hs => hs)
   have h8 : j = 8 := by omega
   subst h8
   rw [Vy (by omega), ← hx]; rfl
 ·
  try simp only [decide_eq_true_eq, decide_eq_false_iff_not, beq_iff_eq, bne_iff_ne, beq_eq_false_iff_ne, bne_eq_false_iff_eq, Int.not_lt, Int.not_le, Bool.not_eq_true, ne_eq, Bool.not_eq_eq_eq_not, Bool.not_true, Bool.not_false] at ht9
  refine Kz ?_
  repeat (first | refine Fh ?_ | refine H4 rfl ?_)
  refine Fi ?_
  refine Bc ?_
  repeat refine Dh ?_
  refine ZT ?_
  refine Zab ?_
  refine Lk ?_
  repeat (first | refine Ey ?_ | refine D9 ?_)
  have hkl : k = b.length := by omega
  subst hkl
  rw [sum_vi]
  refine A1 (.inr rfl) (fun B w _ => res1 rfl rfl B w) (fun w hs => ⟨(), ?_, Ae hs⟩)
  rfl
theorem Lp {P : Program} {n : Nat} {Q : Exit → Act → World → Prop} {L : List Chunk} {R : List Fact} {al : List (Nat × Value)} {c : Code} {v : Value} {b : List UInt8} (i : Nat) (hm : sl v b ∈ R) (hi : i < b.length) (k : JC P n c Q L (cF v 1 i [vb (b.getD i 0)] :: R) al) : JC P n c Q L R al := JC.open0 (xs := b) i hm hi (fun _ => k)
theorem Pick.perm {L L' : List Chunk} {c : Chunk} (h : Pick L c L') : L.Perm (c :: L') := by
 induction h with
 | hd => exact .refl _
 | tl _ ih => exact (ih.cons _).trans (.swap ..)
theorem b_subE {P : Program} {T : TypeId} {a b r : Int} (h : a - b = r) (h1 : -9223372036854775808 ≤ r) (h2 : r ≤ 9223372036854775807) (w : World) : (binOp .sub T (vi a) (vi b)).run P w = .ok (vi r) w := by subst h; exact b_sub h1 h2 w
theorem Dg {L1 : List Chunk} {n : Int} {c : Config} {b2 : Nat} (hs : St (L) R w) (hp : Pick L (blk b2 34 c.cells) L1) : Calls Try.prog 78 [vi n, bp b2 0].toArray w (Cd (fun _ : Unit => .bool (decide (0 ≤ n ∧ n ≤ c.cores))) (fun _ => L) (fun _ => R)) := by
 refine Ah Try.func78 rfl Try.ntmps78 rfl hs ?_
 clear hs
 refine ZB ?_
 refine JC.pick hp ?_
 rcases (show (n < 0) ∨ (0 ≤ n ∧ n ≤ c.cores) ∨ (0 ≤ n ∧ c.cores < n) from by omega) with hc | hc | hc
 ·refine ZC ?_
  refine D6 ?_
  refine Ga7 ?_
  exact Zdm
 ·refine ZC ?_
  refine J8 ?_
  refine ZE ?_
  refine oleqT ?_
  refine Ga2 ?_
  exact Zdm
 ·refine ZC ?_
  refine J8 ?_
  refine ZE ?_
  refine oleqF ?_
  refine Ga2 ?_
  exact Zdm
theorem Adm {c : Config} {m : Msg} (hs : St (L) R w) : Calls Try.prog 69 [.agg c.cells.toArray, .agg m.cells.toArray].toArray w (Cd (fun _ : Unit => vi (Bn c m)) (fun _ => L) (fun _ => R)) := by
 refine Ah Try.func69 rfl Try.ntmps69 rfl hs ?_
 clear hs
 refine Gm ?_
 refine bx ?_; intro b2
 refine bx ?_; intro b3
 refine Gb1 ?_
 refine Wj (vs := [bp b2 0]) rfl ?_
 refine Ga1 ?_
 refine kp [2, 3, 4, 5, 7, 8, 9, 10, 11, 12, 13, 14, 15] ?_
 refine Dn 7 (.bool (decide ((m.kind < 1) ∨ (11 < m.kind)))) ?_ ?_
 ·rcases (show ((m.kind < 1)) ∨ (¬ (m.kind < 1) ∧ (11 < m.kind)) ∨ (¬ (m.kind < 1) ∧ ¬ (11 < m.kind)) from by omega) with hm | hm | hm
  ·refine Zad ?_
   exact ZdY
  ·refine ZS ?_
   refine Ft ?_
   refine Ga2 ?_
   exact ZcO
  ·refine ZS ?_
   refine De ?_
   refine Ga2 ?_
   exact Zdb
 ·refine Bc ?_
  first | (refine cdx (p := ?p1) (hd := ?d1) ?e1 ?_ ?_; case e1 => exact rfl) | (refine Cc (b := ?b1) ?e1 ?_ ?_; case e1 => exact rfl)
  ·intro ht7
   refine ZB ?_
   have er : Bn c m = 1 := by unfold Bn; rw [if_pos (by omega)]
   exact Zdr
  ·intro ht7
   refine Gl ?_
   refine Zci ?_
   refine Dn 16 (.bool (decide (m.src < 0 ∨ c.cores < m.src ∨ m.dst < 0 ∨ c.cores < m.dst ∨ m.line < 0 ∨ c.lines ≤ m.line ∨ m.serial < 0 ∨ 65535 < m.serial ∨ m.turn < 0 ∨ 65535 < m.turn ∨ m.value < 0 ∨ 255 < m.value))) ?_ ?_
   ·rcases (show ((¬ (0 ≤ m.src ∧ m.src ≤ c.cores))) ∨ ((0 ≤ m.src ∧ m.src ≤ c.cores) ∧ (¬ (0 ≤ m.dst ∧ m.dst ≤ c.cores))) ∨ ((0 ≤ m.src ∧ m.src ≤ c.cores) ∧ (0 ≤ m.dst ∧ m.dst ≤ c.cores) ∧ (m.line < 0)) ∨ ((0 ≤ m.src ∧ m.src ≤ c.cores) ∧ (0 ≤ m.dst ∧ m.dst ≤ c.cores) ∧ ¬ (m.line < 0) ∧ (c.lines ≤ m.line)) ∨ ((0 ≤ m.src ∧ m.src ≤ c.cores) ∧ (0 ≤ m.dst ∧ m.dst ≤ c.cores) ∧ ¬ (m.line < 0) ∧ ¬ (c.lines ≤ m.line) ∧ (m.serial < 0)) ∨ ((0 ≤ m.src ∧ m.src ≤ c.cores) ∧ (0 ≤ m.dst ∧ m.dst ≤ c.cores) ∧ ¬ (m.line < 0) ∧ ¬ (c.lines ≤ m.line) ∧ ¬ (m.serial < 0) ∧ (65535 < m.serial)) ∨ ((0 ≤ m.src ∧ m.src ≤ c.cores) ∧ (0 ≤ m.dst ∧ m.dst ≤ c.cores) ∧ ¬ (m.line < 0) ∧ ¬ (c.lines ≤ m.line) ∧ ¬ (m.serial < 0) ∧ ¬ (65535 < m.serial) ∧ (m.turn < 0)) ∨ ((0 ≤ m.src ∧ m.src ≤ c.cores) ∧ (0 ≤ m.dst ∧ m.dst ≤ c.cores) ∧ ¬ (m.line < 0) ∧ ¬ (c.lines ≤ m.line) ∧ ¬ (m.serial < 0) ∧ ¬ (65535 < m.serial) ∧ ¬ (m.turn < 0) ∧ (65535 < m.turn)) ∨ ((0 ≤ m.src ∧ m.src ≤ c.cores) ∧ (0 ≤ m.dst ∧ m.dst ≤ c.cores) ∧ ¬ (m.line < 0) ∧ ¬ (c.lines ≤ m.line) ∧ ¬ (m.serial < 0) ∧ ¬ (65535 < m.serial) ∧ ¬ (m.turn < 0) ∧ ¬ (65535 < m.turn) ∧ (m.value < 0)) ∨ ((0 ≤ m.src ∧ m.src ≤ c.cores) ∧ (0 ≤ m.dst ∧ m.dst ≤ c.cores) ∧ ¬ (m.line < 0) ∧ ¬ (c.lines ≤ m.line) ∧ ¬ (m.serial < 0) ∧ ¬ (65535 < m.serial) ∧ ¬ (m.turn < 0) ∧ ¬ (65535 < m.turn) ∧ ¬ (m.value < 0) ∧ (255 < m.value)) ∨ ((0 ≤ m.src ∧ m.src ≤ c.cores) ∧ (0 ≤ m.dst ∧ m.dst ≤ c.cores) ∧ ¬ (m.line < 0) ∧ ¬ (c.lines ≤ m.line) ∧ ¬ (m.serial < 0) ∧ ¬ (65535 < m.serial) ∧ ¬ (m.turn < 0) ∧ ¬ (65535 < m.turn) ∧ ¬ (m.value < 0) ∧ ¬ (255 < m.value)) from by grind) with hm | hm | hm | hm | hm | hm | hm | hm | hm | hm | hm
    ·refine ZL ?_
     refine C2 (γ := Unit) (val := fun _ => .bool (decide (0 ≤ m.src ∧ m.src ≤ c.cores))) (caps := [bp b2 0]) (vs := [vi m.src]) rfl Try.call78 rfl (fun w hs => Dg hs pkk) ?_; intro _
     refine ob (Agd rfl (decide_eq_false (by omega))) ?_
     refine rn32 ?_
     refine Ga18 ?_
     refine Ao ?_ (fun w hs => hs)
     exact meT
    ·refine Zan ?_
     refine C2 (γ := Unit) (val := fun _ => .bool (decide (0 ≤ m.src ∧ m.src ≤ c.cores))) (caps := [bp b2 0]) (vs := [vi m.src]) rfl Try.call78 rfl (fun w hs => Dg hs pkk) ?_; intro _
     refine ZO ?_
     refine C2 (γ := Unit) (val := fun _ => .bool (decide (0 ≤ m.dst ∧ m.dst ≤ c.cores))) (caps := [bp b2 0]) (vs := [vi m.dst]) rfl Try.call78 rfl (fun w hs => Dg hs pkk) ?_; intro _
     refine gy ?_
     refine ob (Agd rfl (decide_eq_false (by omega))) ?_
     refine rn32 ?_
     refine Ga12 ?_
     refine Ao ?_ (fun w hs => hs)
     exact meT
    ·refine Zan ?_
     refine C2 (γ := Unit) (val := fun _ => .bool (decide (0 ≤ m.src ∧ m.src ≤ c.cores))) (caps := [bp b2 0]) (vs := [vi m.src]) rfl Try.call78 rfl (fun w hs => Dg hs pkk) ?_; intro _
     refine ZO ?_
     refine C2 (γ := Unit) (val := fun _ => .bool (decide (0 ≤ m.dst ∧ m.dst ≤ c.cores))) (caps := [bp b2 0]) (vs := [vi m.dst]) rfl Try.call78 rfl (fun w hs => Dg hs pkk) ?_; intro _
     refine gy ?_
     refine ZO ?_
     refine Dt ?_
     refine rn32 ?_
     refine Ga7 ?_
     refine Ao ?_ (fun w hs => hs)
     exact meT
    ·refine Zan ?_
     refine C2 (γ := Unit) (val := fun _ => .bool (decide (0 ≤ m.src ∧ m.src ≤ c.cores))) (caps := [bp b2 0]) (vs := [vi m.src]) rfl Try.call78 rfl (fun w hs => Dg hs pkk) ?_; intro _
     refine ZO ?_
     refine C2 (γ := Unit) (val := fun _ => .bool (decide (0 ≤ m.dst ∧ m.dst ≤ c.cores))) (caps := [bp b2 0]) (vs := [vi m.dst]) rfl Try.call78 rfl (fun w hs => Dg hs pkk) ?_; intro _
     refine gy ?_
     refine ZO ?_
     refine Zb1 ?_
     refine Ga32 ?_
     refine Ao ?_ (fun w hs => hs)
     exact meT
    ·refine Zan ?_
     refine C2 (γ := Unit) (val := fun _ => .bool (decide (0 ≤ m.src ∧ m.src ≤ c.cores))) (caps := [bp b2 0]) (vs := [vi m.src]) rfl Try.call78 rfl (fun w hs => Dg hs pkk) ?_; intro _
     refine ZO ?_
     refine C2 (γ := Unit) (val := fun _ => .bool (decide (0 ≤ m.dst ∧ m.dst ≤ c.cores))) (caps := [bp b2 0]) (vs := [vi m.dst]) rfl Try.call78 rfl (fun w hs => Dg hs pkk) ?_; intro _
     refine gy ?_
     refine ZO ?_
     refine Zap ?_
     refine ZE ?_
     refine Dt ?_
     refine Ga27 ?_
     refine Ao ?_ (fun w hs => hs)
     exact meT
    ·refine Zan ?_
     refine C2 (γ := Unit) (val := fun _ => .bool (decide (0 ≤ m.src ∧ m.src ≤ c.cores))) (caps := [bp b2 0]) (vs := [vi m.src]) rfl Try.call78 rfl (fun w hs => Dg hs pkk) ?_; intro _
     refine ZO ?_
     refine C2 (γ := Unit) (val := fun _ => .bool (decide (0 ≤ m.dst ∧ m.dst ≤ c.cores))) (caps := [bp b2 0]) (vs := [vi m.dst]) rfl Try.call78 rfl (fun w hs => Dg hs pkk) ?_; intro _
     refine gy ?_
     refine ZO ?_
     refine Zap ?_
     refine ZX ?_
     refine Ft ?_
     refine Ga22 ?_
     refine Ao ?_ (fun w hs => hs)
     exact meT
    ·refine Zan ?_
     refine C2 (γ := Unit) (val := fun _ => .bool (decide (0 ≤ m.src ∧ m.src ≤ c.cores))) (caps := [bp b2 0]) (vs := [vi m.src]) rfl Try.call78 rfl (fun w hs => Dg hs pkk) ?_; intro _
     refine ZO ?_
     refine C2 (γ := Unit) (val := fun _ => .bool (decide (0 ≤ m.dst ∧ m.dst ≤ c.cores))) (caps := [bp b2 0]) (vs := [vi m.dst]) rfl Try.call78 rfl (fun w hs => Dg hs pkk) ?_; intro _
     refine Zbf ?_
     refine ZE ?_
     refine Dt ?_
     refine Ga17 ?_
     refine Ao ?_ (fun w hs => hs)
     exact meT
    ·refine Zan ?_
     refine C2 (γ := Unit) (val := fun _ => .bool (decide (0 ≤ m.src ∧ m.src ≤ c.cores))) (caps := [bp b2 0]) (vs := [vi m.src]) rfl Try.call78 rfl (fun w hs => Dg hs pkk) ?_; intro _
     refine ZO ?_
     refine C2 (γ := Unit) (val := fun _ => .bool (decide (0 ≤ m.dst ∧ m.dst ≤ c.cores))) (caps := [bp b2 0]) (vs := [vi m.dst]) rfl Try.call78 rfl (fun w hs => Dg hs pkk) ?_; intro _
     refine Zbf ?_
     refine ZX ?_
     refine Ft ?_
     refine Ga12 ?_
     refine Ao ?_ (fun w hs => hs)
     exact meT
    ·refine Zan ?_
     refine C2 (γ := Unit) (val := fun _ => .bool (decide (0 ≤ m.src ∧ m.src ≤ c.cores))) (caps := [bp b2 0]) (vs := [vi m.src]) rfl Try.call78 rfl (fun w hs => Dg hs pkk) ?_; intro _
     refine ZO ?_
     refine C2 (γ := Unit) (val := fun _ => .bool (decide (0 ≤ m.dst ∧ m.dst ≤ c.cores))) (caps := [bp b2 0]) (vs := [vi m.dst]) rfl Try.call78 rfl (fun w hs => Dg hs pkk) ?_; intro _
     refine Zbf ?_
     refine ZX ?_
     refine De ?_
     refine ZE ?_
     refine Dt ?_
     refine Ga7 ?_
     refine Ao ?_ (fun w hs => hs)
     exact meT
    ·refine Zan ?_
     refine C2 (γ := Unit) (val := fun _ => .bool (decide (0 ≤ m.src ∧ m.src ≤ c.cores))) (caps := [bp b2 0]) (vs := [vi m.src]) rfl Try.call78 rfl (fun w hs => Dg hs pkk) ?_; intro _
     refine ZO ?_
     refine C2 (γ := Unit) (val := fun _ => .bool (decide (0 ≤ m.dst ∧ m.dst ≤ c.cores))) (caps := [bp b2 0]) (vs := [vi m.dst]) rfl Try.call78 rfl (fun w hs => Dg hs pkk) ?_; intro _
     refine Zbf ?_
     refine ZX ?_
     refine De ?_
     refine ZX ?_
     refine Ft ?_
     refine Ga2 ?_
     refine Ao ?_ (fun w hs => hs)
     exact meT
    ·refine Zan ?_
     refine C2 (γ := Unit) (val := fun _ => .bool (decide (0 ≤ m.src ∧ m.src ≤ c.cores))) (caps := [bp b2 0]) (vs := [vi m.src]) rfl Try.call78 rfl (fun w hs => Dg hs pkk) ?_; intro _
     refine ZO ?_
     refine C2 (γ := Unit) (val := fun _ => .bool (decide (0 ≤ m.dst ∧ m.dst ≤ c.cores))) (caps := [bp b2 0]) (vs := [vi m.dst]) rfl Try.call78 rfl (fun w hs => Dg hs pkk) ?_; intro _
     refine Zbf ?_
     refine ZX ?_
     refine De ?_
     refine ZX ?_
     refine De ?_
     refine Ga2 ?_
     refine Ao ?_ (fun w hs => hs)
     exact meF
   ·refine Bc ?_
    first | (refine cdx (p := ?p2) (hd := ?d2) ?e2 ?_ ?_; case e2 => exact rfl) | (refine Cc (b := ?b2) ?e2 ?_ ?_; case e2 => exact rfl)
    ·intro ht16
     refine Gl ?_
     refine kp [2, 3, 4] ?_
     refine Aa ?_
     refine Ga1 ?_
     have er : Bn c m = 3 := by unfold Bn; rw [if_neg (by omega), if_pos ht16]
     exact Zdr
    ·intro ht16
     refine Gl ?_
     refine kp [2, 3, 4, 71, 72, 73, 74, 75, 76, 77, 78, 79, 80, 81, 82] ?_
     refine Aa ?_
     refine rn10 ?_
     refine ob (p_bool rfl rfl (Afn Try.underlying4)) ?_
     refine Ga1 ?_
     refine Cc (b := ?b3) ?e3 ?_ ?_; case e3 => exact rfl
     ·intro ht71
      refine ZB ?_
      have er : Bn c m = 6 := by unfold Bn; rw [if_neg (by omega), if_neg ht16, if_pos (decide_eq_decide.1 (beq_iff_eq.1 ht71))]
      exact Zdr
     ·intro ht71
      refine ZB ?_
      have er : Bn c m = 0 := by unfold Bn; rw [if_neg (by omega), if_neg ht16, if_neg (fun h => by rw [beq_iff_eq.2 (decide_eq_decide.2 h)] at ht71; cases ht71)]
      exact Zdr
theorem Vc {v1 : Value} {b : List UInt8} {c : Config} (hs : St (L) R w) (h1 : sl v1 b ∈ R) : Calls Try.prog 54 [.agg c.cells.toArray, v1].toArray w (Cd (fun _ : Unit => .tuple #[.agg (Ad c b).1.cells.toArray, vi (Ad c b).2]) (fun _ => L) (fun _ => R)) := by
 have hlen := Bx h1 hs
 have B : ∀ i, (b.getD i 0).toNat < 256 := fun i => (b.getD i 0).toNat_lt
 refine Ah Try.func54 rfl Try.ntmps54 rfl hs ?_
 clear hs
 refine Gm ?_
 refine bx ?_; intro b2
 refine al_ (cs := zMsg.cells) Try.zeroValue115 ?_; intro b4
 refine Zah ?_
 refine cdy ?_ ?_
 ·intro ht11
  refine Gm ?_
  refine Zbz ?_
  have er : Ad c b = (zMsg, 2) := by
   unfold Ad
   rw [if_pos (by omega)]
  exact ZdJ
 ·intro ht11
  refine Gl ?_
  have B0 := B 0; have B1 := B 1; have B2 := B 2; have B3 := B 3; have B4 := B 4; have B5 := B 5; have B6 := B 6; have B7 := B 7; have B8 := B 8; have B9 := B 9; have B10 := B 10; have B11 := B 11
  refine ZA ?_
  refine ob (Al rfl rfl (b_subE (r := ((10 : Nat) : Int)) (by omega) (by omega) (by omega))) ?_
  refine Ga1 ?_
  refine Lp (v := v1) (b := b) 10 mm (by omega) ?_
  refine Lp (v := v1) (b := b) 11 mm (by omega) ?_
  refine Zas ?_
  refine dj ?_
  refine Vn (α := UInt8) (xs := b) (lo := 0) (hi := 10) Es (fun _ => rfl) mm (fun _ => rfl) (fun _ => rfl) (by omega) (by omega) (fun _ _ _ _ => rfl) ?_
  refine dj ?_
  refine Agp (γ := Unit) (val := fun _ => vi (L7 (b.take 10))) (F := fun _ => []) (C := fun _ => []) Try.call68 (fun _ => rfl) (fun _ _ _ _ => rfl) (fun ρ L R w hd hs => Gq hs (hd.dep (it := ⟨2, _, _, _, _⟩) (by repeat (first | exact List.Mem.head _ | refine List.Mem.tail _ ?_)) ⟨9, rfl⟩ (List.Mem.head _))) ?_
  refine dn2 ?_
  refine djc (fun _ _ => Gb (i := 10) Es) ?_
  refine dj ?_
  first | refine dc (fun _ _ => D8 Try.isAgg5) ?_ | refine dp (fun _ _ => D8 Try.isAgg5) ?_
  refine dj ?_
  first | refine dc (fun _ _ => Aw Try.underlying5 Try.underlying3 rfl (Bz _)) ?_ | refine dp (fun _ _ => Aw Try.underlying5 Try.underlying3 rfl (Bz _)) ?_
  refine djc (fun _ _ => Al rfl rfl (P3 (by omega) (by omega))) ?_
  refine dn2 ?_
  refine dj ?_
  refine dc (fun _ _ => Al rfl rfl (v := vi ((11 : Nat) : Int)) (Agx (a := 10) (b := 1) (by omega))) ?_
  refine djc (fun _ _ => Gb (i := 11) Es) ?_
  refine dj ?_
  first | refine dc (fun _ _ => D8 Try.isAgg5) ?_ | refine dp (fun _ _ => D8 Try.isAgg5) ?_
  refine dj ?_
  first | refine dc (fun _ _ => Aw Try.underlying5 Try.underlying3 rfl (Bz _)) ?_ | refine dp (fun _ _ => Aw Try.underlying5 Try.underlying3 rfl (Bz _)) ?_
  refine djc (fun _ _ => Al rfl rfl (Ti (by omega) (by omega) (by omega) (by omega))) ?_
  refine dj ?_
  first | refine dc (fun _ _ => Fz Xo) ?_ | refine dp (fun _ _ => Fz Xo) ?_
  refine dnl ?_; intro ρ
  refine Gl ?_
  refine cdy ?_ ?_
  ·intro ht33
   refine Gm ?_
   refine Zbz ?_
   have er : Ad c b = (zMsg, 7) := by
    unfold Ad
    rw [if_neg (by omega), if_pos (by show L7 (b.take 10) ≠ _; unfold at8; omega)]
   exact ZdJ
  ·intro ht33
   refine Gl ?_
   refine Lp (v := v1) (b := b) 8 mm (by omega) ?_
   refine Lp (v := v1) (b := b) 9 mm (by omega) ?_
   refine ZC ?_
   refine ob (Gb (i := 8) Es) ?_
   refine rn3 ?_
   refine jgx (t := 39) (p := ?p3) (hd := ?d3) ?e3 ?_ ?_; case e3 => exact rfl
   ·intro ht39
    refine Gc5 ?_
    exact Zdn
   ·intro ht39
    refine rn1 ?_
    refine gy ?_
    refine ob (Gb (i := 9) Es) ?_
    refine Ga3 ?_
    refine cdy ?_ ?_
    ·intro ht44
     refine Gl ?_
     exact Zdn
    ·intro ht44
     refine Gl ?_
     refine Lp (v := v1) (b := b) 0 mm (by omega) ?_
     refine Lp (v := v1) (b := b) 1 mm (by omega) ?_
     refine Lp (v := v1) (b := b) 2 mm (by omega) ?_
     refine Lp (v := v1) (b := b) 3 mm (by omega) ?_
     refine Lp (v := v1) (b := b) 4 mm (by omega) ?_
     refine Lp (v := v1) (b := b) 5 mm (by omega) ?_
     refine Lp (v := v1) (b := b) 6 mm (by omega) ?_
     refine Lp (v := v1) (b := b) 7 mm (by omega) ?_
     refine kp [1, 2, 4, 5, 7, 46, 47, 48, 49, 50, 51, 52, 53, 54, 55, 56, 57, 58, 59, 60, 61, 62, 63, 64, 65, 66, 67, 68, 69, 70, 71, 72, 73, 74, 75, 76, 77, 78, 79, 80, 81, 82, 83, 84, 85, 86, 87, 88, 89, 90, 91, 92] ?_
     refine cq_ (blk b4 115 zMsg.cells :: blk b2 34 c.cells :: L) ?_
     refine jd_ (fun ρ S => blk b4 115 zMsg.cells :: blk b2 34 c.cells :: ((bif S 47 then [blk (Gh.dec (γ := Nat) (ρ 47)) 115 (bif S 48 then (I6 b).cells else zMsg.cells)] else []) ++ (L))) ?_
     refine dn1 ?_
     first | refine epc (fun _ _ => Gb (i := 0) Es) ?_ | refine epp (fun _ _ => Gb (i := 0) Es) ?_
     first | refine epc (fun _ _ => D8 Try.isAgg5) ?_ | refine epp (fun _ _ => D8 Try.isAgg5) ?_
     first | refine epc (fun _ _ => Aw Try.underlying5 Try.underlying3 rfl (Bz _)) ?_ | refine epp (fun _ _ => Aw Try.underlying5 Try.underlying3 rfl (Bz _)) ?_
     refine dn1 ?_
     first | refine epc (fun _ _ => Gb (i := 1) Es) ?_ | refine epp (fun _ _ => Gb (i := 1) Es) ?_
     first | refine epc (fun _ _ => D8 Try.isAgg5) ?_ | refine epp (fun _ _ => D8 Try.isAgg5) ?_
     refine epc (fun _ _ => Al rfl rfl Alf) ?_
     refine epc (fun _ _ => Aw Try.underlying5 Try.underlying3 rfl (Xh _)) ?_
     refine dn1 ?_
     first | refine epc (fun _ _ => Gb (i := 1) Es) ?_ | refine epp (fun _ _ => Gb (i := 1) Es) ?_
     first | refine epc (fun _ _ => D8 Try.isAgg5) ?_ | refine epp (fun _ _ => D8 Try.isAgg5) ?_
     refine epc (fun _ _ => Al rfl rfl Afp) ?_
     refine epc (fun _ _ => Aw Try.underlying5 Try.underlying3 rfl (Xg _)) ?_
     refine dn1 ?_
     first | refine epc (fun _ _ => Gb (i := 2) Es) ?_ | refine epp (fun _ _ => Gb (i := 2) Es) ?_
     first | refine epc (fun _ _ => D8 Try.isAgg5) ?_ | refine epp (fun _ _ => D8 Try.isAgg5) ?_
     first | refine epc (fun _ _ => Aw Try.underlying5 Try.underlying3 rfl (Bz _)) ?_ | refine epp (fun _ _ => Aw Try.underlying5 Try.underlying3 rfl (Bz _)) ?_
     refine dn1 ?_
     first | refine epc (fun _ _ => Gb (i := 3) Es) ?_ | refine epp (fun _ _ => Gb (i := 3) Es) ?_
     first | refine epc (fun _ _ => D8 Try.isAgg5) ?_ | refine epp (fun _ _ => D8 Try.isAgg5) ?_
     first | refine epc (fun _ _ => Aw Try.underlying5 Try.underlying3 rfl (Bz _)) ?_ | refine epp (fun _ _ => Aw Try.underlying5 Try.underlying3 rfl (Bz _)) ?_
     refine epc (fun _ _ => Al rfl rfl (P3 (by omega) (by omega))) ?_
     refine dn1 ?_
     first | refine epc (fun _ _ => Gb (i := 4) Es) ?_ | refine epp (fun _ _ => Gb (i := 4) Es) ?_
     first | refine epc (fun _ _ => D8 Try.isAgg5) ?_ | refine epp (fun _ _ => D8 Try.isAgg5) ?_
     first | refine epc (fun _ _ => Aw Try.underlying5 Try.underlying3 rfl (Bz _)) ?_ | refine epp (fun _ _ => Aw Try.underlying5 Try.underlying3 rfl (Bz _)) ?_
     refine epc (fun _ _ => Al rfl rfl (Ti (by omega) (by omega) (by omega) (by omega))) ?_
     refine dn1 ?_
     first | refine epc (fun _ _ => Gb (i := 5) Es) ?_ | refine epp (fun _ _ => Gb (i := 5) Es) ?_
     first | refine epc (fun _ _ => D8 Try.isAgg5) ?_ | refine epp (fun _ _ => D8 Try.isAgg5) ?_
     first | refine epc (fun _ _ => Aw Try.underlying5 Try.underlying3 rfl (Bz _)) ?_ | refine epp (fun _ _ => Aw Try.underlying5 Try.underlying3 rfl (Bz _)) ?_
     refine epc (fun _ _ => Al rfl rfl (P3 (by omega) (by omega))) ?_
     refine dn1 ?_
     first | refine epc (fun _ _ => Gb (i := 6) Es) ?_ | refine epp (fun _ _ => Gb (i := 6) Es) ?_
     first | refine epc (fun _ _ => D8 Try.isAgg5) ?_ | refine epp (fun _ _ => D8 Try.isAgg5) ?_
     first | refine epc (fun _ _ => Aw Try.underlying5 Try.underlying3 rfl (Bz _)) ?_ | refine epp (fun _ _ => Aw Try.underlying5 Try.underlying3 rfl (Bz _)) ?_
     refine epc (fun _ _ => Al rfl rfl (Ti (by omega) (by omega) (by omega) (by omega))) ?_
     refine dn1 ?_
     first | refine epc (fun _ _ => Gb (i := 7) Es) ?_ | refine epp (fun _ _ => Gb (i := 7) Es) ?_
     first | refine epc (fun _ _ => D8 Try.isAgg5) ?_ | refine epp (fun _ _ => D8 Try.isAgg5) ?_
     first | refine epc (fun _ _ => Aw Try.underlying5 Try.underlying3 rfl (Bz _)) ?_ | refine epp (fun _ _ => Aw Try.underlying5 Try.underlying3 rfl (Bz _)) ?_
     refine dn1 ?_
     first | refine epc (fun _ _ => Gb (i := 8) Es) ?_ | refine epp (fun _ _ => Gb (i := 8) Es) ?_
     first | refine epc (fun _ _ => D8 Try.isAgg5) ?_ | refine epp (fun _ _ => D8 Try.isAgg5) ?_
     first | refine epc (fun _ _ => Fz Xq) ?_ | refine epp (fun _ _ => Fz Xq) ?_
     first | refine epc (fun _ _ => Fg C7) ?_ | refine epc (fun _ _ => Fs C7) ?_ | refine epp (fun _ _ => Fg C7) ?_ | refine epp (fun _ _ => Fs C7) ?_
     refine Ng (cs := zMsg.cells) Try.zeroValue115 rfl (fun ρ b S hS hA => ?_) ?_
     ·have ui : upS S 47 47 = true := rfl; have u48 : upS S 47 48 = S 48 := rfl; have h48 : S 48 = false := hA 48 ⟨0, rfl⟩; have rs : (Gh.dec (γ := Nat) (Rho.set ρ 47 (Gh.enc b) 47)) = b := rfl
      simp only [ui, hS, u48, h48, rs, cond_true, cond_false, List.nil_append]
      exact Zdk
     refine es_ 115 0 [47] [] (fun ρ => (Gh.dec (γ := Nat) (ρ 47))) (fun ρ => zMsg.cells) (fun ρ => (I6 b).cells) Try.sizeOf115 ?_
     refine dnl ?_; intro ρ
     refine xq_ (blk b4 115 zMsg.cells :: blk b2 34 c.cells :: (blk (Gh.dec (γ := Nat) (ρ 47)) 115 (I6 b).cells :: L)) ?_
     generalize (Gh.dec (γ := Nat) (ρ 47)) = b7
     refine Gl ?_
     refine kp [2, 4, 5, 7, 8, 93, 94, 95] ?_
     refine ZA ?_
     refine Ak Try.call69 rfl (fun w hs => Adm (c := c) (m := I6 b) hs) ?_; intro _
     refine ZH ?_
     refine cdy ?_ ?_
     ·intro ht97
      refine Gm ?_
      refine ob (Fg (cs := zMsg.cells) C7) ?_
      refine rn1 ?_
      refine s_B Try.sizeOf115 ?_
      refine Ga1 ?_
      have er : Ad c b = (zMsg, Bn c (I6 b)) := by
       unfold Ad
       rw [if_neg (by omega), if_neg (by show ¬ L7 (b.take 10) ≠ _; unfold at8; omega), if_neg (by unfold at8; omega), if_pos (by omega)]
      exact ZdJ
     ·intro ht97
      refine ZJ ?_
      refine s_B Try.sizeOf115 ?_
      refine Ga1 ?_
      have er : Ad c b = (I6 b, 0) := by
       unfold Ad
       rw [if_neg (by omega), if_neg (by show ¬ L7 (b.take 10) ≠ _; unfold at8; omega), if_neg (by unfold at8; omega), if_neg (by omega)]
      exact ZdJ
theorem M6 {v0 : Value} {b : List UInt8} {bit : Int} (hs : St L R w) (h0 : sl v0 b ∈ R) (hbit : An bit) : Calls Try.prog 76 [v0, vi bit].toArray w (Cd (fun v : Value => v) (fun _ => L) (fun v => sl v (Ew b bit) :: R)) := by
 have hlen := Bx h0 hs
 have hbit' := hbit
 unfold An at hbit'
 refine Ah Try.func76 rfl Try.ntmps76 rfl hs ?_
 clear hs
 repeat refine Dh ?_
 refine Aa ?_
 refine Zab ?_
 repeat refine Dh ?_
 refine ZT ?_
 refine J.rowNil 5 UInt8 ?_
 refine Uf Pq rfl rfl rfl (by decide) .hd h0 (fun w hs => by have : maxN = 16777216 := rfl; simp; omega) ?_; intro v7
 rw [List.nil_append]
 refine Zab ?_
 repeat refine Dh ?_
 refine ZT ?_
 refine J5 rfl rfl Tn ?_
 refine Ee rfl ?_
 refine S5 (t := 10) (b := ?b1) ?e1 ?_ ?_
 case e1 => exact rfl
 ·
  intro ht10
  try simp only [decide_eq_true_eq, decide_eq_false_iff_not, beq_iff_eq, bne_iff_ne, beq_eq_false_iff_ne, bne_eq_false_iff_eq, Int.not_lt, Int.not_le, Bool.not_eq_true, ne_eq, Bool.not_eq_eq_eq_not, Bool.not_true, Bool.not_false] at ht10
  refine J.guardYes ?_ ?_
  ·exact rfl
  refine Ee rfl ?_
  refine J.guardYes ?_ ?_
  ·exact rfl
  refine Ee rfl ?_
  refine J.guardYes ?_ ?_
  ·exact rfl
  refine r_len Try.underlying94 rfl (by first | exact Ev pkk | exact Fc mm) ?_
  refine J.guardYes ?_ ?_
  ·exact rfl
  refine J5 rfl rfl (Afm (by omega) (by omega)) ?_
  refine J.guardYes ?_ ?_
  ·exact rfl
  refine J5 rfl rfl P4 ?_
  refine Aht rfl rfl ?_
  refine Zay ?_
  repeat refine Dh ?_
  refine Cc rfl (fun ht16 => ?_) (fun ht16 => ?_)
  ·
   try simp only [decide_eq_true_eq, decide_eq_false_iff_not, beq_iff_eq, bne_iff_ne, beq_eq_false_iff_ne, bne_eq_false_iff_eq, Int.not_lt, Int.not_le, Bool.not_eq_true, ne_eq, Bool.not_eq_eq_eq_not, Bool.not_true, Bool.not_false] at ht16
   obtain ⟨q, rfl⟩ : ∃ q : Nat, bit = (q : Int) := ⟨bit.toNat, by omega⟩
   have hq : q / 8 < b.length := by omega
   have hq8 : q % 8 < 8 := by omega
   refine S4 Aif (by kernel_rfl) (by kernel_rfl) (fun _ _ => _) (fun _ => rfl) ?_
   refine dj ?_
   refine ZbL ?_
   refine ZbL ?_
   refine d_pc (fun _ _ => Al rfl rfl (Vp (b := 8) (by omega) (by decide))) rfl (fun _ _ _ _ => rfl) ?_
   refine dj ?_
   first | refine d_pc (fun _ _ => Hz Es rfl rfl (by first | exact Ev pkk | exact Fc mm) (by first | assumption | omega | (simp only [List.length_nil, List.length_cons, List.length_append, List.length_take, List.length_drop, List.length_set, List.length_replicate]; omega))) rfl (fun _ _ _ _ => rfl) ?_ | refine d_indexAddr Es (fun _ => rfl) (fun _ => rfl) (fun _ _ => (by first | exact Ev pkk | exact Fc mm)) (by first | assumption | omega | (simp only [List.length_nil, List.length_cons, List.length_append, List.length_take, List.length_drop, List.length_set, List.length_replicate]; omega)) (by first | assumption | omega | (simp only [List.length_nil, List.length_cons, List.length_append, List.length_take, List.length_drop, List.length_set, List.length_replicate]; omega)) (fun _ _ _ _ => rfl) ?_
   refine dj ?_
   first | refine Tb Try.isAgg5 (fun _ => rfl) (fun _ _ => Bt pkk (by exact rfl)) (fun _ _ _ _ => rfl) ?_ | refine Tb Try.isAgg5 (fun _ => rfl) (fun _ _ => Oo pkk (by first | assumption | omega | (simp only [List.length_nil, List.length_cons, List.length_append, List.length_take, List.length_drop, List.length_set, List.length_replicate]; omega))) (fun _ _ _ _ => rfl) ?_ | refine Tb Try.isAgg5 (fun _ => rfl) (fun _ _ => Vq mm (by first | assumption | omega | (simp only [List.length_nil, List.length_cons, List.length_append, List.length_take, List.length_drop, List.length_set, List.length_replicate]; omega))) (fun _ _ _ _ => rfl) ?_
   refine dj ?_
   refine ZbL ?_
   refine d_pc (fun _ _ => Al rfl rfl (Ij (b := 8) (by decide) (by decide))) rfl (fun _ _ _ _ => rfl) ?_
   refine dj ?_
   refine d_pc (fun _ _ => Al rfl rfl (b_shl8 (x := 1) (by omega) (by omega))) rfl (fun _ _ _ _ => rfl) ?_
   refine dj ?_
   first | refine d_pc (fun _ _ => Al rfl rfl Agt) rfl (fun _ _ _ _ => rfl) ?_ | refine d_p (fun _ _ => Al rfl rfl Agt) rfl (by first | exact Ind.const _ | exact fun _ _ _ _ _ => rfl | exact Ind.self | exact Ind.gh _ 3 rfl) (fun _ _ _ _ => rfl) ?_
   refine Z2 (by kernel_rfl) ?_; intro ρ; simp only [F3, facts, Ed, List.append_nil, List.nil_append, List.cons_append]
   first | refine Lh Es rfl rfl (by first | exact Ev pkk | exact Fc mm) (by first | assumption | omega | (simp only [List.length_nil, List.length_cons, List.length_append, List.length_take, List.length_drop, List.length_set, List.length_replicate]; omega)) ?_ | refine Jj Es rfl rfl (by first | exact Ev pkk | exact Fc mm) (by first | assumption | omega | (simp only [List.length_nil, List.length_cons, List.length_append, List.length_take, List.length_drop, List.length_set, List.length_replicate]; omega)) (by first | assumption | omega | (simp only [List.length_nil, List.length_cons, List.length_append, List.length_take, List.length_drop, List.length_set, List.length_replicate]; omega)) ?_
   refine Iq (α := UInt8) (f := 0) (e' := b.getD (q / 8) 0 ^^^ ((1 : UInt8) <<< UInt8.ofNat (q % 8))) Try.sizeOf5 rfl rfl rfl rfl (by intro u hu; cases List.mem_singleton.1 hu; rfl) pkk (getD_some 0 hq) (fun ds m hr => by rw [show ds = [vb _] from hr]; exact Nat.le_refl _) (fun j _ ds hr => by rw [show ds = [vb _] from hr]; show [vb (b.getD (q / 8) 0 ^^^ u8 (((1 : UInt8).toNat : Int) * 2 ^ (((q % 8 : Nat) : Int)).toNat))] = [vb _]; rw [Int.toNat_natCast, Aih ⟨q % 8, hq8⟩]) ?_
   refine Zay ?_
   repeat refine Dh ?_
   refine ZT ?_
   refine Zab ?_
   refine Lk ?_
   repeat (first | refine Ey ?_ | refine D9 ?_)
   have e1 : ((q : Int) / 8).toNat = q / 8 := by omega
   have e2 : ((q : Int) % 8).toNat = q % 8 := by omega
   have ht : Ew b (q : Int) = b.set (q / 8) (b.getD (q / 8) 0 ^^^ ((1 : UInt8) <<< UInt8.ofNat (q % 8))) := by unfold Ew; rw [if_pos (by omega), e1, e2]
   refine A1 (.inr rfl) (fun B w hs => res1 rfl rfl B w) (fun w hs => ?_)
   refine ⟨v7, rfl, ?_⟩
   rw [ht]
   exact (St.shut (hs.pick pkk)).sub (by repeat (first | exact .refl | exact .nil | refine .cons pkk ?_ | refine .drop ?_)) (by repeat (first | exact FSub.refl | exact FSub.nil | refine FSub.cons (by first | assumption | (repeat (first | assumption | exact List.Mem.head _ | refine .tail _ ?_))) ?_ | refine FSub.drop ?_))
  ·
   try simp only [decide_eq_true_eq, decide_eq_false_iff_not, beq_iff_eq, bne_iff_ne, beq_eq_false_iff_ne, bne_eq_false_iff_eq, Int.not_lt, Int.not_le, Bool.not_eq_true, ne_eq, Bool.not_eq_eq_eq_not, Bool.not_true, Bool.not_false] at ht16
   refine H5 ?_
   refine Bc ?_
   repeat refine Dh ?_
   refine ZT ?_
   refine Zab ?_
   refine Lk ?_
   repeat (first | refine Ey ?_ | refine D9 ?_)
   have ht : Ew b bit = b := by unfold Ew; rw [if_neg (by omega)]
   refine A1 (.inr rfl) (fun B w hs => res1 rfl rfl B w) (fun w hs => ?_)
   refine ⟨v7, rfl, ?_⟩
   rw [ht]
   exact (St.shut (hs.pick pkk)).sub (by repeat (first | exact .refl | exact .nil | refine .cons pkk ?_ | refine .drop ?_)) (by repeat (first | exact FSub.refl | exact FSub.nil | refine FSub.cons (by first | assumption | (repeat (first | assumption | exact List.Mem.head _ | refine .tail _ ?_))) ?_ | refine FSub.drop ?_))
 ·
  intro ht10
  try simp only [decide_eq_true_eq, decide_eq_false_iff_not, beq_iff_eq, bne_iff_ne, beq_eq_false_iff_ne, bne_eq_false_iff_eq, Int.not_lt, Int.not_le, Bool.not_eq_true, ne_eq, Bool.not_eq_eq_eq_not, Bool.not_true, Bool.not_false] at ht10
  refine J.guardNo ?_ ?_
  ·exact rfl
  refine J.guardNo ?_ ?_
  ·exact rfl
  refine J.guardNo ?_ ?_
  ·exact rfl
  refine J.guardNo ?_ ?_
  ·exact rfl
  refine J.guardNo ?_ ?_
  ·exact rfl
  refine Ahu rfl rfl ?_
  refine Zay ?_
  repeat refine Dh ?_
  refine Uz rfl ?_
  refine H5 ?_
  refine Bc ?_
  repeat refine Dh ?_
  refine ZT ?_
  refine Zab ?_
  refine Lk ?_
  repeat (first | refine Ey ?_ | refine D9 ?_)
  have ht : Ew b bit = b := by unfold Ew; rw [if_neg (by omega)]
  refine A1 (.inr rfl) (fun B w hs => res1 rfl rfl B w) (fun w hs => ?_)
  refine ⟨v7, rfl, ?_⟩
  rw [ht]
  exact (St.shut (hs.pick pkk)).sub (by repeat (first | exact .refl | exact .nil | refine .cons pkk ?_ | refine .drop ?_)) (by repeat (first | exact FSub.refl | exact FSub.nil | refine FSub.cons (by first | assumption | (repeat (first | assumption | exact List.Mem.head _ | refine .tail _ ?_))) ?_ | refine FSub.drop ?_))
theorem Ta {α : Type} {l : List α} {i : Nat} : l.eraseIdx i = l.take i ++ l.drop (i + 1) := List.eraseIdx_eq_take_drop_succ ..
theorem RdL.erase {α : Type} [Enc α] {m : Mem} {xs : List α} {cs : List Value} {i : Nat} (hz : Enc.sz α = 1) (hi : i < xs.length) (h : RdL xs cs m) : RdL (xs.eraseIdx i) (cs.take i ++ cs.drop (i + 1)) m := by
 have h1 : xs = xs.take i ++ xs.drop i := (List.take_append_drop i xs).symm
 rw [h1] at h
 obtain ⟨a, b, e1, e2, e3⟩ := RdL.split h
 have la : a.length = i := by rw [e2.len, hz, List.length_take]; omega
 rw [List.drop_eq_getElem_cons hi] at e3
 obtain ⟨c1, c2, g1, g2, g3⟩ := e3
 have lc : c1.length = 1 := by rw [Enc.len _ _ _ g2, hz]
 rw [Ta]
 have ea : cs.take i = a := by rw [e1, ← la]; simp
 have eb : cs.drop (i + 1) = c2 := by
  rw [e1, g1, ← la, List.drop_append, show a.length + 1 - a.length = 1 by omega, List.drop_append, lc]
  simp [List.drop_of_length_le, lc]
 rw [ea, eb]
 exact RdL.append g3 e2
theorem S3 {L : List Chunk} {R : List Fact} {a : Addr} {k c : Nat} : D4 L R (.slice (some a) k c) k := fun w _ => ⟨some a, c, rfl, fun _ => ⟨a, rfl⟩⟩
theorem Acf {P : Program} {n : Nat} {L : List Chunk} {R : List Fact} {al : List (Nat × Value)} {d : Nat} {x p q r : Operand} {T ty : TypeId} {pos : String} {aft : Array Edge} {e : TypeId} {sz len cap lo hi mx : Nat} {a : Addr} (ht : C5 P T e sz) (hx : ev n al x = some (.slice (some a) len cap)) (h1 : ev n al p = some (vi (lo : Int))) (h2 : ev n al q = some (vi (hi : Int))) (h3 : ev n al r = some (vi (mx : Int))) (l1 : lo ≤ hi) (l2 : hi ≤ mx) (l3 : mx ≤ cap) :
  Au P n al L R ⟨some d, .slice T x (some p) (some q) (some r), ty, pos, aft, none⟩ (.slice (if mx = lo then some a else some (a.add (lo * sz))) (hi - lo) (mx - lo)) :=
 ⟨rfl, fun ρ w h hs => by
  show (Instr.sliceAt T (ρ x) (some (ρ p)) (some (ρ q)) (some (ρ r)) >>= fun v => Pure.pure (Next.value v)).run P w = _
  rw [h x (by simp [Op.operands]) _ hx, h p (by simp [Op.operands]) _ h1, h q (by simp [Op.operands]) _ h2, h r (by simp [Op.operands]) _ h3, Sem.run_bind]
  have : (Instr.sliceAt T (.slice (some a) len cap) (some (vi (lo : Int))) (some (vi (hi : Int))) (some (vi (mx : Int)))).run P w = .ok (.slice (if mx = lo then some a else some (a.add (lo * sz))) (hi - lo) (mx - lo)) w := by
   have e1 : (0 : Int) ≤ (lo : Int) ∧ (lo : Int) ≤ (hi : Int) := by omega
   have e2 : (0 : Int) ≤ (hi : Int) ∧ (hi : Int) ≤ (mx : Int) := by omega
   have e3 : (0 : Int) ≤ (mx : Int) ∧ (mx : Int) ≤ (cap : Int) := by omega
   simp [Instr.sliceAt, Instr.slice, Instr.sliceBounds, Instr.sliceBound, Dd ht.1, ht.2, asIntOf, e1, e2, e3, l1, l2, l3]
  rw [this]; rfl⟩
theorem Yt {v0 : Value} {l : Frames} {i : Nat} (hs : St (row 94 v0 l :: L) R w) (hi : i < l.length) : Calls Try.prog 53 [v0, vi (i : Int), vi ((i + 1 : Nat) : Int)].toArray w (Cd (fun v : Value => v) (fun v => row 94 v (l.eraseIdx i) :: L) (fun v => R)) := by
 have hlen := Ahl (L := row 94 v0 l :: L) .hd hs
 have hne : l ≠ [] := by intro h; rw [h] at hi; simp at hi
 obtain ⟨g, cap, cs, rfl, hcap, hml, hN, hcl, hs, h1⟩ := Ahn hne hs
 have hz : Enc.sz (List UInt8) = 1 := rfl
 rw [hz, Nat.mul_one] at hcl hs h1
 have fin : ∀ (w : World), St (blk g 94 ((cs.take i ++ (cs.drop (i + 1)).take (l.length - (i + 1)) ++ cs.drop (i + (l.length - (i + 1)))).take (i + (l.length - (i + 1))) ++ [.slice none 0 0] ++ (cs.take i ++ (cs.drop (i + 1)).take (l.length - (i + 1)) ++ cs.drop (i + (l.length - (i + 1)))).drop (i + (l.length - (i + 1)) + 1)) :: L) (rdL l (cs.take l.length) :: R) w →
    ∃ u, Value.slice (some ⟨g, 0, none⟩) (i + (l.length - (i + 1))) cap = u ∧ St (row 94 u (l.eraseIdx i) :: L) R w := by
   intro w hs
   have he : (l.eraseIdx i).length = i + (l.length - (i + 1)) := by rw [List.length_eraseIdx, if_pos hi]; omega
   have hA : (cs.take i ++ (cs.drop (i + 1)).take (l.length - (i + 1))).length = i + (l.length - (i + 1)) := by simp; omega
   refine ⟨_, rfl, ?_⟩
   have := Ald (T := 94) (g := g) (cap := cap) (xs := l.eraseIdx i) (by omega) (by omega) hml (by rw [hz, Nat.mul_one]; simp only [List.length_append, List.length_take, List.length_drop, List.length_cons, List.length_nil]; omega) (fun j hj => ?_) hs
   ·rw [he] at this; exact Ae this
   ·have hr : RdL l (cs.take l.length) j := hj _ (List.Mem.head _)
    have hr2 := hr.erase hz hi
    rw [he, hz, Nat.mul_one]
    have : ((cs.take i ++ (cs.drop (i + 1)).take (l.length - (i + 1)) ++ cs.drop (i + (l.length - (i + 1)))).take (i + (l.length - (i + 1))) ++ [Value.slice none 0 0] ++ (cs.take i ++ (cs.drop (i + 1)).take (l.length - (i + 1)) ++ cs.drop (i + (l.length - (i + 1)))).drop (i + (l.length - (i + 1)) + 1)).take (i + (l.length - (i + 1))) = (cs.take l.length).take i ++ (cs.take l.length).drop (i + 1) := by
     rw [List.append_assoc, List.take_append_of_le_length (by simp; omega), List.take_take, Nat.min_self, List.take_append_of_le_length (by rw [hA]; exact Nat.le_refl _), List.take_of_length_le (by rw [hA]; exact Nat.le_refl _), List.take_take, Nat.min_eq_left (by omega), List.drop_take]
    rw [this]; exact hr2
 refine Ah Try.func53 rfl Try.ntmps53 rfl hs ?_
 clear hs
 refine ZM ?_
 refine rn4 ?_
 refine ob (Qy (hl := S3) Try.underlying25) ?_
 refine ob (Acf (a := ⟨g, 0, none⟩) Qs (lo := i) (hi := i + 1) (mx := l.length) rfl rfl rfl rfl (by omega) (by omega) hcap) ?_
 refine ZK ?_
 refine A4 ?_
 refine Za1 ?_
 refine ob (Qy (hl := S3) Try.underlying25) ?_
 refine Ga1 ?_
 refine Zas ?_
 refine djc (fun _ _ => q_sl0 (hi := i) Qs rfl rfl (by omega)) ?_
 refine dn2 ?_
 refine djc (fun _ _ => q_slN (lo := i + 1) (hi := l.length) Qs rfl rfl rfl (by omega) (by omega)) ?_
 refine dtl ?_; intro ρ
 refine ap_in (j := i + 1) (cs := cs) W9 rfl rfl (fun hm => by rw [if_neg (by omega)]; unfold Addr.add; simp) .hd hcl (by omega) (by omega) (fun u hu => h1 u (by rw [← List.drop_take] at hu; exact List.mem_of_mem_drop hu)) ?_
 refine Gb1 ?_
 refine rn2 ?_
 refine ob (Qy (hl := S3) Try.underlying25) ?_
 refine rn1 ?_
 refine ob (q_slN (lo := i + (l.length - (i + 1))) (hi := l.length) Qs rfl rfl rfl (by omega) (by omega)) ?_
 refine clr (o := i + (l.length - (i + 1))) (c2 := cap - (i + (l.length - (i + 1)))) (z := .slice none 0 0) W9 Try.zeroValue94 rfl rfl ?_ .hd ?_ ?_
 ·refine congrArg some ?_; rw [if_neg (by omega), show l.length - (i + (l.length - (i + 1))) = 1 by omega]; rw [Ik]; simp
 ·simp only [List.length_append, List.length_take, List.length_drop]; omega
 intro cs_ hcs_; subst hcs_
 refine ZD ?_
 refine A1 (.inr rfl) (fun B w hs => res1 rfl rfl B w) (fun w hs => fin w hs)
theorem Ach {P : Program} {n : Nat} {Q : Exit → Act → World → Prop} {L : List Chunk} {R : List Fact} {al : List (Nat × Value)} {c : Code} {v : Value} {l : List Entry} (i : Nat) (hm : sl v l ∈ R) (hi : i < l.length) (k : (l.getD i A5).wf → ∀ u, JC P n c Q L (cF v 10 i (Entry.cells u (l.getD i A5)) :: sl u (l.getD i A5).last :: R) al) : JC P n c Q L R al := JC.open1 i hm hi k
def Q4 (c : Config) : Entry := { A5 with last := List.replicate c.cores.toNat 0 }
theorem T9 {α : Type} (k : Nat) (a : α) : List.replicate (k + 1) a = List.replicate k a ++ [a] := List.replicate_succ' ..
theorem Yr (c : Config) : (Q4 c).wf := by unfold Q4 A5 Entry.wf An; simp only; omega
theorem C9 {v : Value} {ls : List Line} {i : Nat} (e : Line) (he : e.wf) (hs : St (foc 52 v ls i e.cells :: L) R w) : St (row 52 v (ls.set i e) :: L) R w := hs.unfocus (fun j _ => ⟨rfl, he⟩)
theorem Yy {v : Value} {ls : List Line} {i : Nat} (he : (ls.getD i zLine).wf) (hs : St (foc 52 v ls i (ls.getD i zLine).cells :: L) R w) : St (row 52 v ls :: L) R w := by
 have h := C9 _ he hs
 rwa [Io] at h
theorem D1 {v : Value} {ls : List Line} {i : Nat} {l : Line} (hl : ls.getD i zLine = l) (he : l.wf) (hs : St (foc 52 v ls i [vi l.state, vi l.value, vi l.want, vi l.serial, vi l.seen, vi l.gave, vi l.given] :: L) R w) : St (row 52 v ls :: L) R w := by
 subst hl
 exact Yy he hs
theorem Hj {P : Program} {n : Nat} {Q : Exit → Act → World → Prop} {L L' : List Chunk} {R : List Fact} {al : List (Nat × Value)} {cd : Code} {vL : Value} {ls : List Line} {l : Line} {i : Int} (hp : Pick L (row 52 vL ls) L') (hl : ls.getD i.toNat zLine = l) (h0 : 0 ≤ i) (hi : i < (ls.length : Int)) (k : l.wf → EpAll vL 7 i.toNat → JC P n cd Q (foc 52 vL ls i.toNat [vi l.state, vi l.value, vi l.want, vi l.serial, vi l.seen, vi l.gave, vi l.given] :: L') R al) : JC P n cd Q L R al := by
 subst hl
 refine JC.focus0 (xs := ls) i.toNat hp (by omega) (fun hw => ?_)
 refine JC.know (p := EpAll vL 7 i.toNat) (fun w hs => Abg (α := Line) (xs := ls) .hd w hs) (fun hA => ?_)
 exact k hw hA
theorem R3 {LX : List Chunk} {R : List Fact} {w : World} {vL vo vd : Value} {bk : Nat} {q : Op} {id home : Int} {ls : List Line} {l : Line} {ms : List Msg} {line : Int} (hs : St (blk bk 110 [vL, vi q.kind, vi q.line, vi q.value, vi id, vi home, vo, vd] :: row 52 vL ls :: row 115 vo ms :: LX) R w) (hl : ls.getD line.toNat zLine = l) (hi : 0 ≤ line ∧ line < (ls.length : Int)) (hll : ls.length ≤ 100) (hn : ms.length ≤ 1000) (hid : An id) (hhome : An home) : Calls Try.prog 65 [bp bk 0, vi line].toArray w (Cd (fun v : Value => .tuple #[]) (fun v => blk bk 110 [vL, vi q.kind, vi q.line, vi q.value, vi id, vi home, v, vd] :: row 52 vL ls :: row 115 v (ms ++ [(Cp l id home line)]) :: LX) (fun v => R)) := by
 refine ZaH ?_;intro hid0 hhome0
 refine Ah Try.func65 rfl Try.ntmps65 rfl hs ?_
 clear hs
 refine Gl ?_
 refine Hj (ls := ls) (l := l) (i := line) pkk hl (by omega) (by omega) (fun hlw hA => ?_)
 have hlw0 := hlw
 unfold Line.wf An at hlw0
 have honeL : (ep vL 7 line.toNat 0).oneCell' = true := hA.one
 refine ZaA ?_
 refine ob (Ks (v := vL) (i := line) Lo (hl := C3 (α := Line) (xs := ls) pkk)) ?_
 refine Gb1 ?_
 refine Gb1 ?_
 refine Ga5 ?_
 refine cdy ?_ ?_
 ·intro ht17
  refine Aa ?_
  refine Ga5 ?_
  refine Bv ?_
  refine dn11 ?_
  refine dtl ?_; intro ρ
  have er : (Cp l id home line) = ⟨l.want, id, home, line, l.serial, 0, l.value, false⟩ := by unfold Cp; rw [if_pos ht17]
  refine Ak Try.call73 rfl (fun w hs => E5 (vL := vL) (vd := vd) (q := q) (id := id) (home := home) (ms := ms) (kind := l.want) (line := line) (serial := l.serial) (turn := 0) (value := l.value) (LX := foc 52 vL ls line.toNat [vi l.state, vi l.value, vi l.want, vi l.serial, vi l.seen, vi l.gave, vi l.given] :: LX) (Ae hs) hn (by unfold Msg.wf An; simp only; omega)) ?_; intro v33
  refine Gl ?_
  rw [er]
  refine A1 (.inl rfl) (fun B w hs => Gf rfl _ w) (fun w hs => ⟨v33, rfl, Ae (D1 hl hlw (hs.pick pkk))⟩)
 ·intro ht17
  refine Gl ?_
  refine Bv ?_
  refine dn11 ?_
  refine dtl ?_; intro ρ
  have er : (Cp l id home line) = ⟨l.want, id, home, line, l.serial, 0, 0, false⟩ := by unfold Cp; rw [if_neg ht17]
  refine Ak Try.call73 rfl (fun w hs => E5 (vL := vL) (vd := vd) (q := q) (id := id) (home := home) (ms := ms) (kind := l.want) (line := line) (serial := l.serial) (turn := 0) (value := 0) (LX := foc 52 vL ls line.toNat [vi l.state, vi l.value, vi l.want, vi l.serial, vi l.seen, vi l.gave, vi l.given] :: LX) (Ae hs) hn (by unfold Msg.wf An; simp only; omega)) ?_; intro v33
  refine Gl ?_
  rw [er]
  refine A1 (.inl rfl) (fun B w hs => Gf rfl _ w) (fun w hs => ⟨v33, rfl, Ae (D1 hl hlw (hs.pick pkk))⟩)
theorem Td {LX : List Chunk} {R : List Fact} {w : World} {vL vo vd : Value} {bk : Nat} {q : Op} {id home : Int} {ls : List Line} {l : Line} {q0 : Op} {ms : List Msg} {want : Int} (hs : St (blk bk 110 [vL, vi q0.kind, vi q0.line, vi q0.value, vi id, vi home, vo, vd] :: row 52 vL ls :: row 115 vo ms :: LX) R w) (hl : ls.getD q.line.toNat zLine = l) (hi : 0 ≤ q.line ∧ q.line < (ls.length : Int)) (hll : ls.length ≤ 100) (hid : An id) (hhome : An home) (hn : ms.length ≤ 1000) (hser : l.serial < 65535) (hw : An want) : Calls Try.prog 49 [bp bk 0, .agg q.cells.toArray, vi want].toArray w (Cd (fun v : Value => .tuple #[]) (fun v => blk bk 110 [vL, vi q.kind, vi q.line, vi q.value, vi id, vi home, v, vd] :: row 52 vL (ls.set q.line.toNat ({ l with want := want, serial := l.serial + 1 })) :: row 115 v (ms ++ [Cp ({ l with want := want, serial := l.serial + 1 }) id home q.line]) :: LX) (fun v => R)) := by
 refine ZaH ?_;intro hid0 hhome0
 have hw0 := hw
 unfold An at hw0
 refine Ah Try.func49 rfl Try.ntmps49 rfl hs ?_
 clear hs
 refine Gm ?_
 refine bx ?_; intro b4
 refine Gl ?_
 refine ZbM ?_;intro hlw hA hlw0 honeL
 refine ZbU ?_;intro ρ
 refine Gm ?_
 refine rn4 ?_
 refine sc ?_
 refine Gm ?_
 refine rn7 ?_
 refine sc ?_
 refine Gm ?_
 refine rn5 ?_
 refine s_N [vL, vi q.kind, vi q.line, vi q.value, vi id, vi home, vo, vd] Try.sizeOf36 ?_
 refine Gl ?_
 refine JC.conseq (L' := row 52 vL (ls.set q.line.toNat ({ l with want := want, serial := l.serial + 1 })) :: blk bk 110 [vL, vi q.kind, vi q.line, vi q.value, vi id, vi home, vo, vd] :: row 115 vo ms :: blk b4 36 q.cells :: LX) (fun w hs => Ae (C9 ({ l with want := want, serial := l.serial + 1 }) (by unfold Line.wf An; simp only; omega) (hs.pick pkk))) ?_
 refine ZL ?_
 refine Ak Try.call65 rfl (fun w hs => R3 (vL := vL) (vd := vd) (q := q) (id := id) (home := home) (ms := ms) (line := q.line) (ls := (ls.set q.line.toNat ({ l with want := want, serial := l.serial + 1 }))) (l := { l with want := want, serial := l.serial + 1 }) (LX := LX) (Ae hs) (by rw [List.getD_eq_getElem?_getD, List.getElem?_set_self (by omega)]; rfl) (by rw [List.length_set]; exact hi) (by rw [List.length_set]; exact hll) hn hid hhome) ?_; intro v34
 refine Gl ?_
 refine A1 (.inl rfl) (fun B w hs => Gf rfl _ w) (fun w hs => ⟨v34, rfl, Ae hs⟩)
theorem K9 {LX : List Chunk} {R : List Fact} {w : World} {vL vo vd : Value} {bk : Nat} {q : Op} {id home : Int} {ls : List Line} {l : Line} {q0 : Op} {ds : List Done} (hs : St (blk bk 110 [vL, vi q0.kind, vi q0.line, vi q0.value, vi id, vi home, vo, vd] :: row 52 vL ls :: row 50 vd ds :: LX) R w) (hl : ls.getD q.line.toNat zLine = l) (hi : 0 ≤ q.line ∧ q.line < (ls.length : Int)) (hll : ls.length ≤ 100) (hid : An id) (hhome : An home) (hn : ds.length ≤ 1000) (hq : q.wf) (hk : 1 ≤ q.kind ∧ q.kind ≤ 4) (hval : 0 ≤ q.value ∧ q.value ≤ 255) : Calls Try.prog 50 [bp bk 0, .agg q.cells.toArray].toArray w (Cd (fun v : Value => .tuple #[]) (fun v => blk bk 110 [vL, vi 0, vi 0, vi 0, vi id, vi home, vo, v] :: row 52 vL (ls.set q.line.toNat ({ l with value := (Be l.value q).1 })) :: row 50 v (ds ++ [(⟨id, q, (Be l.value q).2⟩ : Done)]) :: LX) (fun v => R)) := by
 refine ZaH ?_;intro hid0 hhome0
 refine Ah Try.func50 rfl Try.ntmps50 rfl hs ?_
 clear hs
 refine Gm ?_
 refine bx ?_; intro b3
 refine Gl ?_
 refine ZbM ?_;intro hlw hA hlw0 honeL
 refine ZbU ?_;intro ρ
 refine Gm ?_
 refine rn3 ?_
 refine Ak Try.call66 rfl (fun w hs => Akh (a := q.line + 1) hs (by omega) (by omega)) ?_; intro v19
 refine Ga1 ?_
 refine Bv ?_
 refine dn7 ?_
 refine djc (fun _ _ => Ks Ahi (h1 := by rw [List.length_replicate]; omega)) ?_
 refine dtl ?_; intro ρ
 refine Gz (xs := List.replicate (q.line + 1).toNat 0) Try.sizeOf3 rfl rfl pkk (getD_some 0 (by rw [List.length_replicate]; omega)) (by unfold An; omega) ?_
 refine Gl ?_
 refine JC.shut (xs := (L6 l.value q)) (v := v19) pkk ?_
 have hml := Qn (v := l.value) hi.1
 refine ZA ?_
 refine Ak Try.call67 rfl (fun w hs => by have h := Aki (o := q) hs (List.Mem.head _); rw [tellDo hk hi.1 hval] at h; exact h) ?_; intro v31
 refine Ga7 ?_
 refine JC.open0 (xs := (dX (L6 l.value q) q)) (v := v31) q.line.toNat mm (by unfold dX; rw [List.length_set, hml]; omega) (fun hw => ?_)
 have e9 : (dX (L6 l.value q) q).getD q.line.toNat 0 = (Be l.value q).1 := by rw [dX_at (by rw [hml]; omega), Oz hi.1]
 refine kp [0, 3, 4, 5, 6, 35, 36, 37, 38, 39, 40, 41, 42] ?_
 refine ZI ?_
 refine ob (Ks Ahi (len := (dX (L6 l.value q) q).length) (hl := Fc (.tail _ (.head _))) (h1 := by unfold dX; rw [List.length_set, hml]; omega)) ?_
 refine rn3 ?_
 refine sc ?_
 refine Gl ?_
 have hvb := Acj (o := q) hlw.2.1 hval.1 hval.2
 have hvb2 := Yq (o := q) hlw.2.1
 unfold An at hvb hvb2
 have e9 : (dX (L6 l.value q) q).getD q.line.toNat El0.df = (Be l.value q).1 := e9
 rw [e9]
 refine cq_ (blk bk 110 [vL, vi q0.kind, vi q0.line, vi q0.value, vi id, vi home, vo, vd] :: row 50 vd ds :: foc 52 vL ls q.line.toNat [vi l.state, vi (Be l.value q).1, vi l.want, vi l.serial, vi l.seen, vi l.gave, vi l.given] :: blk b3 36 q.cells :: LX) ?_
 refine jd_ (fun ρ S => blk bk 110 (bif S 16 then [vL, vi q0.kind, vi q0.line, vi q0.value, vi id, vi home, vo, (Gh.dec (γ := Value) (ρ 13))] else [vL, vi q0.kind, vi q0.line, vi q0.value, vi id, vi home, vo, vd]) :: (bif S 13 then row 50 (Gh.dec (γ := Value) (ρ 13)) (ds ++ [(⟨id, q, (Be l.value q).2⟩ : Done)]) else row 50 vd ds) :: foc 52 vL ls q.line.toNat [vi l.state, vi (Be l.value q).1, vi l.want, vi l.serial, vi l.seen, vi l.gave, vi l.given] :: blk b3 36 q.cells :: (LX)) ?_
 refine dn4 ?_
 refine Jr (v := vd) (fun ρ S hS hB hA => by have h16 : S 16 = false := hA 16 ⟨0, rfl⟩; simp only [h16, cond_false]; exact D8 (hc := Bt pkk (by repeat (first | exact rfl | refine Da rfl ?_))) Try.isAgg29) (fun _ _ _ _ _ => rfl) ?_
 refine dn3 ?_
 refine Jr (v := vi id) (fun ρ S hS hB hA => by have h16 : S 16 = false := hA 16 ⟨0, rfl⟩; simp only [h16, cond_false]; exact D8 (hc := Bt pkk (by repeat (first | exact rfl | refine Da rfl ?_))) Try.isAgg3) (fun _ _ _ _ _ => rfl) ?_
 refine dn2 ?_
 first | refine epc (fun _ _ => Fg Hy) ?_ | refine epc (fun _ _ => Fs Hy) ?_ | refine epp (fun _ _ => Fg Hy) ?_ | refine epp (fun _ _ => Fs Hy) ?_
 refine Lr ([(⟨id, q, (Be l.value q).2⟩ : Done)] : List Done) G7 rfl (fun _ => rfl) rfl (fun _ => rfl) rfl rfl (fun ρ R hd => Ml ⟨hid, hq.1, hq.2.1, hq.2.2, by unfold An; simp only; omega⟩) (fun _ _ _ _ _ => rfl) ?_
 refine Eo (e := 50) (xs := ds) (ys := [(⟨id, q, (Be l.value q).2⟩ : Done)]) (v := vd) G7 (fun _ => rfl) (fun _ => rfl) rfl (by decide) (fun ρ R hd => (hd.dep (it := ⟨12, _, _, _, _⟩) (by repeat (first | exact List.Mem.head _ | refine List.Mem.tail _ ?_)) ⟨9, rfl⟩ (List.Mem.head _))) (by have : maxN = 16777216 := rfl; simp only [List.length_cons, List.length_nil]; omega) (fun ρ g S hS hB hA => ?_) ?_
 ·exact Zdq
 refine dn2 ?_
 refine D3 (T0 := 110) (f := 7) (vs := fun ρ => [vL, vi q0.kind, vi q0.line, vi q0.value, vi id, vi home, vo, vd]) (v := fun ρ => (Gh.dec (γ := Value) (ρ 13))) (fun ρ => bk) Try.sizeOf29 (fun _ => rfl) (fun _ => rfl) (fun ρ S R w L9 hB hd hs => by have h13 : S 13 = true := hB 13 ⟨9, rfl⟩; simp only [h13, cond_true] at hs; exact Bm pkk hs) (fun _ => rfl) (fun ρ g S hS hB hA => ?_) ?_
 ·exact Zd1
 refine dnl ?_; intro ρ
 refine xq_ (blk bk 110 [vL, vi q0.kind, vi q0.line, vi q0.value, vi id, vi home, vo, (Gh.dec (γ := Value) (ρ 13))] :: row 50 (Gh.dec (γ := Value) (ρ 13)) (ds ++ [(⟨id, q, (Be l.value q).2⟩ : Done)]) :: foc 52 vL ls q.line.toNat [vi l.state, vi (Be l.value q).1, vi l.want, vi l.serial, vi l.seen, vi l.gave, vi l.given] :: blk b3 36 q.cells :: (LX)) ?_
 generalize (Gh.dec (γ := Value) (ρ 12)) = v55
 generalize (Gh.dec (γ := Value) (ρ 13)) = v56
 refine ZJ ?_
 refine ob (Fg (cs := zOp.cells) X7) ?_
 refine rn3 ?_
 refine s_N [vL, vi 0, vi 0, vi 0, vi id, vi home, vo, v56] Try.sizeOf36 ?_
 refine Gl ?_
 refine A1 (.inl rfl) (fun B w hs => Gf rfl _ w) (fun w hs => ⟨v56, rfl, Ae (C9 ({ l with value := (Be l.value q).1 }) (by unfold Line.wf An; simp only; omega) (hs.pick pkk))⟩)
section
variable {ls : List Line} {q : Op} {id home : Int} {m : Msg} {l : Line}
theorem Iu (hl : ls.getD m.line.toNat zLine = l) (hi : 0 ≤ m.line ∧ m.line < (ls.length : Int)) (hk : m.kind = 5 ∨ m.kind = 6) : Ac ⟨ls, q⟩ id home m = (if E3 l m.turn then (⟨ls.set m.line.toNat (Cv l m.kind m.turn), if l.want = 3 then zOp else q⟩, [Ba 9 id home m.line m.turn l.value], if l.want = 3 then [⟨id, q, 0⟩] else []) else if m.turn = l.gave ∧ 0 < m.turn then (⟨ls, q⟩, [Ba 9 id home m.line l.gave l.given], []) else (⟨ls, q⟩, [], [])) := by
 subst hl
 unfold Ac
 rw [if_neg (by simp only; omega), if_neg (by omega), if_pos hk]; rfl
theorem Kb (hl : ls.getD m.line.toNat zLine = l) (hi : 0 ≤ m.line ∧ m.line < (ls.length : Int)) (hk : m.kind = 7) : Ac ⟨ls, q⟩ id home m = (if l.serial < m.serial then (⟨ls, q⟩, [], []) else if Ls l m then (⟨ls.set m.line.toNat (Ic l m q), zOp⟩, [Ba 10 id home m.line m.turn 0], [⟨id, q, (Be m.value q).2⟩]) else (⟨ls, q⟩, [Ba 10 id home m.line m.turn 0], [])) := by
 subst hl
 unfold Ac
 rw [if_neg (by simp only; omega), if_neg (by omega), if_neg (by omega), if_pos hk]; rfl
end
theorem Rz {LX : List Chunk} {R : List Fact} {w : World} {vL vo vd : Value} {bk : Nat} {q : Op} {id home : Int} {ls : List Line} {l : Line} {bm : Nat} {ms : List Msg} {ds : List Done} {m : Msg} (hs : St (blk bk 110 [vL, vi q.kind, vi q.line, vi q.value, vi id, vi home, vo, vd] :: row 52 vL ls :: row 115 vo ms :: row 50 vd ds :: blk bm 115 m.cells :: LX) R w) (hl : ls.getD m.line.toNat zLine = l) (hi : 0 ≤ m.line ∧ m.line < (ls.length : Int)) (hll : ls.length ≤ 100) (hm : m.wf) (hid : An id) (hhome : An home) (hn : ms.length ≤ 1000) (hnd : ds.length ≤ 1000) (hq : q.wf) (hk : m.kind = 5 ∨ m.kind = 6) : Calls Try.prog 74 [bp bk 0, bp bm 0].toArray w (Cd (fun g : Value × Value => .tuple #[]) (fun g => blk bk 110 [vL, vi (Ac ⟨ls, q⟩ id home m).1.wait.kind, vi (Ac ⟨ls, q⟩ id home m).1.wait.line, vi (Ac ⟨ls, q⟩ id home m).1.wait.value, vi id, vi home, g.1, g.2] :: row 52 vL (Ac ⟨ls, q⟩ id home m).1.lines :: row 115 g.1 (ms ++ (Ac ⟨ls, q⟩ id home m).2.1) :: row 50 g.2 (ds ++ (Ac ⟨ls, q⟩ id home m).2.2) :: blk bm 115 m.cells :: LX) (fun g => R)) := by
 have hm0 := hm
 unfold Msg.wf An at hm0
 refine ZaH ?_;intro hid0 hhome0
 refine Ah Try.func74 rfl Try.ntmps74 rfl hs ?_
 clear hs
 refine Gl ?_
 refine Zbq ?_;intro hlw hA hlw0 honeL
 refine dn9 ?_
 refine Zbr ?_;intro ρ
 refine kp [0, 1, 4, 15, 16, 17, 18, 19, 20, 21, 22, 23, 24, 25, 26, 27, 28, 29, 30, 31] ?_
 refine Dn 15 (.bool (decide ((m.turn = l.gave) ∧ (0 < m.turn)))) ?_ ?_
 ·rcases (show (¬ (m.turn = l.gave)) ∨ ((m.turn = l.gave) ∧ ¬ (0 < m.turn)) ∨ ((m.turn = l.gave) ∧ (0 < m.turn)) from by omega) with hm | hm | hm
  ·refine ZU ?_
   refine ZaB ?_
   refine djm ?_
   refine dn5 ?_
   refine djf ?_
   refine Zae ?_;intro ρ
   exact Zdb
  ·refine ZU ?_
   refine Zat ?_
   refine djm ?_
   refine dn4 ?_
   refine dj (dgy ?_)
   refine dc (fun _ _ => Al rfl rfl (Tl (by omega))) ?_
   refine Zar ?_;intro ρ
   exact Zdb
  ·refine kp [0, 1, 4, 15, 16, 17, 18, 19, 20, 21, 22, 23, 24, 25, 26, 27, 28, 29, 30, 31] ?_
   refine ZU ?_
   refine Zat ?_
   refine djm ?_
   refine dn4 ?_
   refine dj (dgy ?_)
   refine dc (fun _ _ => Al rfl rfl (La (by omega))) ?_
   refine Zar ?_;intro ρ
   exact ZcO
 ·refine Bc ?_
  first | (refine cdx (p := ?p1) (hd := ?d1) ?e1 ?_ ?_; case e1 => exact rfl) | (refine Cc (b := ?b1) ?e1 ?_ ?_; case e1 => exact rfl)
  ·intro ht15
   refine Gl ?_
   refine Bv ?_
   refine dn13 ?_
   refine dtl ?_; intro ρ
   refine Ak Try.call73 rfl (fun w hs => E5 (vL := vL) (vd := vd) (q := q) (id := id) (home := home) (ms := ms) (kind := 9) (line := m.line) (serial := 0) (turn := l.gave) (value := l.given) (LX := foc 52 vL ls m.line.toNat [vi l.state, vi l.value, vi l.want, vi l.serial, vi l.seen, vi l.gave, vi l.given] :: row 50 vd ds :: blk bm 115 m.cells :: LX) (Ae hs) hn (by unfold Msg.wf An; simp only; omega)) ?_; intro v142
   refine Gl ?_
   have er : (Ac ⟨ls, q⟩ id home m) = (⟨ls, q⟩, [Ba 9 id home m.line l.gave l.given], []) := by rw [Iu hl hi hk, if_neg (by unfold E3; omega), if_pos ht15]
   rw [er, List.append_nil]
   refine A1 (.inl rfl) (fun B w hs => Gf rfl _ w) (fun w hs => ⟨(v142, vd), rfl, Ae (D1 hl hlw (hs.pick pkk))⟩)
  ·intro ht15
   refine Gl ?_
   refine kp [0, 1, 4, 32, 33, 34, 35, 36, 37, 38, 39, 40, 41, 42, 43, 44, 45, 46, 47, 48, 49, 50, 51, 52, 53, 54, 55] ?_
   refine Dn 32 (.bool (decide (l.seen < m.turn ∧ (l.state = 2 ∨ l.state = 3)))) ?_ ?_
   ·rcases (show (m.turn ≤ l.seen) ∨ (l.seen < m.turn ∧ l.state = 2) ∨ (l.seen < m.turn ∧ l.state ≠ 2 ∧ l.state = 3) ∨ (l.seen < m.turn ∧ l.state ≠ 2 ∧ l.state ≠ 3) from by omega) with hm | hm | hm | hm
    ·refine ZU ?_
     refine djc (fun _ _ => Al rfl rfl (Tl (by omega))) ?_
     refine djm ?_
     refine dn12 ?_
     refine djf ?_
     refine Zae ?_;intro ρ
     exact Zdb
    ·refine ZbX ?_
     refine dj (dgy ?_)
     refine ZaQ ?_
     refine dj (dgy ?_)
     refine dc (fun _ _ => Ug) ?_
     refine dn5 ?_
     refine dj (dgy ?_)
     refine dc (fun _ _ => Fx) ?_
     refine Zar ?_;intro ρ
     exact ZcO
    ·refine kp [0, 1, 4, 32, 33, 34, 35, 36, 37, 38, 39, 40, 41, 42, 43, 44, 45, 46, 47, 48, 49, 50, 51, 52, 53, 54, 55] ?_
     refine ZbX ?_
     refine dj (dgy ?_)
     refine Zaz ?_
     refine dj (dgy ?_)
     refine dc (fun _ _ => Ug) ?_
     refine dn4 ?_
     refine dj (dgy ?_)
     refine ZaQ ?_
     refine dj (dgy ?_)
     refine dc (fun _ _ => Ahx) ?_
     refine Zar ?_;intro ρ
     exact ZcO
    ·refine ZbX ?_
     refine dj (dgy ?_)
     refine Zaz ?_
     refine dj (dgy ?_)
     refine dc (fun _ _ => Ug) ?_
     refine dn4 ?_
     refine dj (dgy ?_)
     refine Zaz ?_
     refine dj (dgy ?_)
     refine dc (fun _ _ => Ahx) ?_
     refine Zar ?_;intro ρ
     exact Zdb
   ·refine Bc ?_
    first | (refine cdx (p := ?p2) (hd := ?d2) ?e2 ?_ ?_; case e2 => exact rfl) | (refine Cc (b := ?b2) ?e2 ?_ ?_; case e2 => exact rfl)
    ·intro ht32
     refine Gl ?_
     refine kp [0, 1, 4, 56, 57, 58, 59, 60, 61, 62, 63, 64, 65, 66, 67, 68, 69, 70, 71, 72, 73, 74, 75, 76] ?_
     refine Zcu ?_
     refine jd_ (fun ρ S => foc 52 vL ls m.line.toNat (bif S 23 then [vi l.state, vi l.value, vi l.want, vi l.serial, vi m.turn, vi m.turn, vi l.value] else (bif S 20 then [vi l.state, vi l.value, vi l.want, vi l.serial, vi l.seen, vi m.turn, vi l.value] else (bif S 17 then [vi l.state, vi l.value, vi l.want, vi l.serial, vi l.seen, vi m.turn, vi l.given] else [vi l.state, vi l.value, vi l.want, vi l.serial, vi l.seen, vi l.gave, vi l.given]))) :: blk bk 110 [vL, vi q.kind, vi q.line, vi q.value, vi id, vi home, vo, vd] :: row 115 vo ms :: row 50 vd ds :: blk bm 115 m.cells :: (LX)) ?_
     refine dn10 ?_
     refine K7 (v := vi l.value) (fun ρ S => D8 Try.isAgg3 (hc := at_f1 (α := Line) (xs := ls) pkk rfl (by repeat (first | exact rfl | refine Da rfl ?_)))) (fun _ _ _ _ _ => rfl) ?_
     refine dn6 ?_
     refine D2 (T0 := 52) (f := 5) (k := m.line.toNat) (sz := 7) (hv := vL) (xs := ls) (vs := fun ρ => [vi l.state, vi l.value, vi l.want, vi l.serial, vi l.seen, vi l.gave, vi l.given]) (v := fun ρ => (vi m.turn)) rfl Try.sizeOf3 (fun _ => rfl) (fun _ => rfl) (fun _ _ _ _ _ _ _ _ => rfl) (fun _ => rfl) (fun ρ g S hS hB hA => ?_) ?_
     ·have ui : upS S 17 17 = true := rfl; have u20 : upS S 17 20 = S 20 := rfl; have u23 : upS S 17 23 = S 23 := rfl; have h20 : S 20 = false := hA 20 ⟨0, rfl⟩; have h23 : S 23 = false := hA 23 ⟨0, rfl⟩
      simp only [ui, hS, u20, u23, h20, h23, cond_true, cond_false]
      exact pex
     refine dn2 ?_
     refine D2 (T0 := 52) (f := 6) (k := m.line.toNat) (sz := 7) (hv := vL) (xs := ls) (vs := fun ρ => [vi l.state, vi l.value, vi l.want, vi l.serial, vi l.seen, vi m.turn, vi l.given]) (v := fun ρ => (vi l.value)) rfl Try.sizeOf3 (fun _ => rfl) (fun _ => rfl) (fun _ _ _ _ _ _ _ _ => rfl) (fun _ => rfl) (fun ρ g S hS hB hA => ?_) ?_
     ·have ui : upS S 20 20 = true := rfl; have u17 : upS S 20 17 = S 17 := rfl; have u23 : upS S 20 23 = S 23 := rfl; have h17 : S 17 = true := hB 17 ⟨0, rfl⟩; have h23 : S 23 = false := hA 23 ⟨0, rfl⟩
      simp only [ui, hS, u17, u23, h17, h23, cond_true, cond_false]
      exact pex
     refine dn2 ?_
     refine D2 (T0 := 52) (f := 4) (k := m.line.toNat) (sz := 7) (hv := vL) (xs := ls) (vs := fun ρ => [vi l.state, vi l.value, vi l.want, vi l.serial, vi l.seen, vi m.turn, vi l.value]) (v := fun ρ => (vi m.turn)) rfl Try.sizeOf3 (fun _ => rfl) (fun _ => rfl) (fun _ _ _ _ _ _ _ _ => rfl) (fun _ => rfl) (fun ρ g S hS hB hA => ?_) ?_
     ·have ui : upS S 23 23 = true := rfl; have u17 : upS S 23 17 = S 17 := rfl; have u20 : upS S 23 20 = S 20 := rfl; have h17 : S 17 = true := hB 17 ⟨0, rfl⟩; have h20 : S 20 = true := hB 20 ⟨0, rfl⟩
      simp only [ui, hS, u17, u20, h17, h20, cond_true, cond_false]
      exact pex
     refine dnl ?_; intro ρ
     refine xq_ (foc 52 vL ls m.line.toNat [vi l.state, vi l.value, vi l.want, vi l.serial, vi m.turn, vi m.turn, vi l.value] :: blk bk 110 [vL, vi q.kind, vi q.line, vi q.value, vi id, vi home, vo, vd] :: row 115 vo ms :: row 50 vd ds :: blk bm 115 m.cells :: (LX)) ?_
     refine Gm ?_
     refine rn3 ?_
     refine sc ?_
     refine Za9 ?_
     refine cdy ?_ ?_
     ·intro ht84
      refine kp [0, 1, 4, 85, 86, 87, 88, 89, 90] ?_
      refine ZI ?_
      refine sc ?_
      refine ZW ?_
      refine Za9 ?_
      refine cdy ?_ ?_
      ·exact ZcM
      ·intro ht95
       refine Gl ?_
       refine Bv ?_
       refine dn13 ?_
       refine dtl ?_; intro ρ
       refine Ak Try.call73 rfl (fun w hs => E5 (vL := vL) (vd := vd) (q := q) (id := id) (home := home) (ms := ms) (kind := 9) (line := m.line) (serial := 0) (turn := m.turn) (value := l.value) (LX := foc 52 vL ls m.line.toNat [vi 0, vi 0, vi l.want, vi l.serial, vi m.turn, vi m.turn, vi l.value] :: row 50 vd ds :: blk bm 115 m.cells :: LX) (Ae hs) hn (by unfold Msg.wf An; simp only; omega)) ?_; intro v142
       refine Gl ?_
       have ef : Cv l m.kind m.turn = { l with seen := m.turn, gave := m.turn, given := l.value, state := 0, value := 0 } := by unfold Cv; rw [if_neg ht95, if_pos ht84]
       have er : (Ac ⟨ls, q⟩ id home m) = (⟨ls.set m.line.toNat ({ l with seen := m.turn, gave := m.turn, given := l.value, state := 0, value := 0 }), q⟩, [Ba 9 id home m.line m.turn l.value], []) := by rw [Iu hl hi hk, if_pos (by unfold E3; omega), ef, if_neg ht95, if_neg ht95]
       rw [er, List.append_nil]
       refine A1 (.inl rfl) (fun B w hs => Gf rfl _ w) (fun w hs => ⟨(v142, vd), rfl, Ae (C9 ({ l with seen := m.turn, gave := m.turn, given := l.value, state := 0, value := 0 }) (by unfold Line.wf An; simp only; omega) (hs.pick pkk))⟩)
     ·intro ht84
      refine Gl ?_
      refine kp [0, 1, 4, 91, 92, 93, 94, 95] ?_
      refine Aa ?_
      refine Ga5 ?_
      refine cdy ?_ ?_
      ·exact ZcM
      ·intro ht95
       refine Gl ?_
       refine Bv ?_
       refine dn13 ?_
       refine dtl ?_; intro ρ
       refine Ak Try.call73 rfl (fun w hs => E5 (vL := vL) (vd := vd) (q := q) (id := id) (home := home) (ms := ms) (kind := 9) (line := m.line) (serial := 0) (turn := m.turn) (value := l.value) (LX := foc 52 vL ls m.line.toNat [vi 1, vi l.value, vi l.want, vi l.serial, vi m.turn, vi m.turn, vi l.value] :: row 50 vd ds :: blk bm 115 m.cells :: LX) (Ae hs) hn (by unfold Msg.wf An; simp only; omega)) ?_; intro v142
       refine Gl ?_
       have ef : Cv l m.kind m.turn = { l with seen := m.turn, gave := m.turn, given := l.value, state := 1 } := by unfold Cv; rw [if_neg ht95, if_neg ht84]
       have er : (Ac ⟨ls, q⟩ id home m) = (⟨ls.set m.line.toNat ({ l with seen := m.turn, gave := m.turn, given := l.value, state := 1 }), q⟩, [Ba 9 id home m.line m.turn l.value], []) := by rw [Iu hl hi hk, if_pos (by unfold E3; omega), ef, if_neg ht95, if_neg ht95]
       rw [er, List.append_nil]
       refine A1 (.inl rfl) (fun B w hs => Gf rfl _ w) (fun w hs => ⟨(v142, vd), rfl, Ae (C9 ({ l with seen := m.turn, gave := m.turn, given := l.value, state := 1 }) (by unfold Line.wf An; simp only; omega) (hs.pick pkk))⟩)
    ·intro ht32
     refine Gl ?_
     have er : (Ac ⟨ls, q⟩ id home m) = (⟨ls, q⟩, [], []) := by rw [Iu hl hi hk, if_neg (by unfold E3; omega), if_neg ht15]
     exact Zd8
theorem Aai {LX : List Chunk} {R : List Fact} {w : World} {vL vo vd : Value} {bk : Nat} {q : Op} {id home : Int} {ls : List Line} {l : Line} {bm : Nat} {ms : List Msg} {ds : List Done} {m : Msg} (hs : St (blk bk 110 [vL, vi q.kind, vi q.line, vi q.value, vi id, vi home, vo, vd] :: row 52 vL ls :: row 115 vo ms :: row 50 vd ds :: blk bm 115 m.cells :: LX) R w) (hl : ls.getD m.line.toNat zLine = l) (hi : 0 ≤ m.line ∧ m.line < (ls.length : Int)) (hll : ls.length ≤ 100) (hm : m.wf) (hid : An id) (hhome : An home) (hn : ms.length ≤ 1000) (hnd : ds.length ≤ 1000) (hq : q.wf) (hk : m.kind = 7) (hqa : Ls l m → q.line = m.line ∧ (1 ≤ q.kind ∧ q.kind ≤ 4) ∧ 0 ≤ q.value ∧ q.value ≤ 255) : Calls Try.prog 75 [bp bk 0, bp bm 0].toArray w (Cd (fun g : Value × Value => .tuple #[]) (fun g => blk bk 110 [vL, vi (Ac ⟨ls, q⟩ id home m).1.wait.kind, vi (Ac ⟨ls, q⟩ id home m).1.wait.line, vi (Ac ⟨ls, q⟩ id home m).1.wait.value, vi id, vi home, g.1, g.2] :: row 52 vL (Ac ⟨ls, q⟩ id home m).1.lines :: row 115 g.1 (ms ++ (Ac ⟨ls, q⟩ id home m).2.1) :: row 50 g.2 (ds ++ (Ac ⟨ls, q⟩ id home m).2.2) :: blk bm 115 m.cells :: LX) (fun g => R)) := by
 have hm0 := hm
 unfold Msg.wf An at hm0
 refine ZaH ?_;intro hid0 hhome0
 refine Ah Try.func75 rfl Try.ntmps75 rfl hs ?_
 clear hs
 refine Gl ?_
 refine Zbq ?_;intro hlw hA hlw0 honeL
 refine dn9 ?_
 refine Zbr ?_;intro ρ
 refine Bv ?_
 refine dn9 ?_
 refine dnl ?_; intro ρ
 refine Gl ?_
 refine cdy ?_ ?_
 ·intro ht24
  refine Gl ?_
  have er : (Ac ⟨ls, q⟩ id home m) = (⟨ls, q⟩, [], []) := by rw [Kb hl hi hk, if_pos (by omega)]
  exact Zd8
 ·intro ht24
  refine Gl ?_
  refine ZbR ?_
  refine Dn 5 (.bool (decide ((l.want = 1 ∧ m.alone = false) ∨ (l.want = 2 ∧ m.alone = true)))) ?_ ?_
  ·rcases (show (l.want = 1 ∧ m.alone = false) ∨ (l.want = 1 ∧ m.alone = true) ∨ (l.want = 2 ∧ m.alone = true) ∨ (l.want = 2 ∧ m.alone = false) ∨ (l.want ≠ 1 ∧ l.want ≠ 2) from by rcases Bool.eq_false_or_eq_true m.alone with h1 | h1 <;> simp only [h1, and_true, and_false, or_false, false_or, reduceCtorEq] <;> omega) with hm | hm | hm | hm | hm
   ·obtain ⟨hc1, hal⟩ := hm
    refine ZI ?_
    refine ZcA ?_
    refine Ga16 ?_
    exact Zde
   ·obtain ⟨hc1, hal⟩ := hm
    refine ZI ?_
    refine ZcC ?_
    refine Za8 ?_
    refine A4 ?_
    refine Ga8 ?_
    exact ZcU
   ·obtain ⟨hc1, hal⟩ := hm
    refine ZbR ?_
    refine ZI ?_
    refine A4 ?_
    refine rn12 ?_
    refine gy ?_
    refine ZcC ?_
    refine Ga3 ?_
    exact Zde
   ·obtain ⟨hc1, hal⟩ := hm
    refine ZI ?_
    refine A4 ?_
    refine rn12 ?_
    refine gy ?_
    refine ZcA ?_
    refine Ga3 ?_
    exact ZcU
   ·refine ZbR ?_
    refine ZI ?_
    refine A4 ?_
    refine rn12 ?_
    refine gy ?_
    refine A4 ?_
    refine Ga8 ?_
    exact ZcU
  ·refine Bc ?_
   refine Gl ?_
   rcases (show (m.serial = l.serial) ∨ (m.serial ≠ l.serial) from by omega) with hc | hc
   ·refine ZU ?_
    refine ZaF ?_
    refine Zag ?_
    refine dnl ?_; intro ρ
    refine Gl ?_
    first | (refine cdx (p := ?p2) (hd := ?d2) ?e2 ?_ ?_; case e2 => exact rfl) | (refine Cc (b := ?b2) ?e2 ?_ ?_; case e2 => exact rfl)
    ·intro ht61
     have haq : Ls l m := ⟨hc, ht61⟩
     obtain ⟨hq1, hq2, hq3⟩ := hqa haq
     refine Gl ?_
     refine kp [0, 1, 4, 62, 63, 64, 65, 66, 67, 68, 69, 70, 71, 72, 73, 74, 75, 76, 77, 78, 79, 80, 81] ?_
     refine Zcu ?_
     refine jd_ (fun ρ S => foc 52 vL ls m.line.toNat (bif S 23 then [vi 1, vi m.value, vi 0, vi l.serial, vi m.turn, vi l.gave, vi l.given] else (bif S 20 then [vi 1, vi m.value, vi 0, vi l.serial, vi l.seen, vi l.gave, vi l.given] else (bif S 17 then [vi 1, vi m.value, vi l.want, vi l.serial, vi l.seen, vi l.gave, vi l.given] else (bif S 14 then [vi 1, vi l.value, vi l.want, vi l.serial, vi l.seen, vi l.gave, vi l.given] else [vi l.state, vi l.value, vi l.want, vi l.serial, vi l.seen, vi l.gave, vi l.given])))) :: blk bk 110 [vL, vi q.kind, vi q.line, vi q.value, vi id, vi home, vo, vd] :: row 115 vo ms :: row 50 vd ds :: blk bm 115 m.cells :: (LX)) ?_
     refine dn14 ?_
     refine D2 (T0 := 52) (f := 0) (k := m.line.toNat) (sz := 7) (hv := vL) (xs := ls) (vs := fun ρ => [vi l.state, vi l.value, vi l.want, vi l.serial, vi l.seen, vi l.gave, vi l.given]) (v := fun ρ => (vi 1)) rfl Try.sizeOf3 (fun _ => rfl) (fun _ => rfl) (fun _ _ _ _ _ _ _ _ => rfl) (fun _ => rfl) (fun ρ g S hS hB hA => ?_) ?_
     ·have ui : upS S 14 14 = true := rfl; have u17 : upS S 14 17 = S 17 := rfl; have u20 : upS S 14 20 = S 20 := rfl; have u23 : upS S 14 23 = S 23 := rfl; have h17 : S 17 = false := hA 17 ⟨0, rfl⟩; have h20 : S 20 = false := hA 20 ⟨0, rfl⟩; have h23 : S 23 = false := hA 23 ⟨0, rfl⟩
      simp only [ui, hS, u17, u20, u23, h17, h20, h23, cond_true, cond_false]
      exact pex
     refine dn2 ?_
     refine D2 (T0 := 52) (f := 1) (k := m.line.toNat) (sz := 7) (hv := vL) (xs := ls) (vs := fun ρ => [vi 1, vi l.value, vi l.want, vi l.serial, vi l.seen, vi l.gave, vi l.given]) (v := fun ρ => (vi m.value)) rfl Try.sizeOf3 (fun _ => rfl) (fun _ => rfl) (fun _ _ _ _ _ _ _ _ => rfl) (fun _ => rfl) (fun ρ g S hS hB hA => ?_) ?_
     ·have ui : upS S 17 17 = true := rfl; have u14 : upS S 17 14 = S 14 := rfl; have u20 : upS S 17 20 = S 20 := rfl; have u23 : upS S 17 23 = S 23 := rfl; have h14 : S 14 = true := hB 14 ⟨0, rfl⟩; have h20 : S 20 = false := hA 20 ⟨0, rfl⟩; have h23 : S 23 = false := hA 23 ⟨0, rfl⟩
      simp only [ui, hS, u14, u20, u23, h14, h20, h23, cond_true, cond_false]
      exact pex
     refine dn2 ?_
     refine D2 (T0 := 52) (f := 2) (k := m.line.toNat) (sz := 7) (hv := vL) (xs := ls) (vs := fun ρ => [vi 1, vi m.value, vi l.want, vi l.serial, vi l.seen, vi l.gave, vi l.given]) (v := fun ρ => (vi 0)) rfl Try.sizeOf3 (fun _ => rfl) (fun _ => rfl) (fun _ _ _ _ _ _ _ _ => rfl) (fun _ => rfl) (fun ρ g S hS hB hA => ?_) ?_
     ·have ui : upS S 20 20 = true := rfl; have u14 : upS S 20 14 = S 14 := rfl; have u17 : upS S 20 17 = S 17 := rfl; have u23 : upS S 20 23 = S 23 := rfl; have h14 : S 14 = true := hB 14 ⟨0, rfl⟩; have h17 : S 17 = true := hB 17 ⟨0, rfl⟩; have h23 : S 23 = false := hA 23 ⟨0, rfl⟩
      simp only [ui, hS, u14, u17, u23, h14, h17, h23, cond_true, cond_false]
      exact pex
     refine dn2 ?_
     refine D2 (T0 := 52) (f := 4) (k := m.line.toNat) (sz := 7) (hv := vL) (xs := ls) (vs := fun ρ => [vi 1, vi m.value, vi 0, vi l.serial, vi l.seen, vi l.gave, vi l.given]) (v := fun ρ => (vi m.turn)) rfl Try.sizeOf3 (fun _ => rfl) (fun _ => rfl) (fun _ _ _ _ _ _ _ _ => rfl) (fun _ => rfl) (fun ρ g S hS hB hA => ?_) ?_
     ·have ui : upS S 23 23 = true := rfl; have u14 : upS S 23 14 = S 14 := rfl; have u17 : upS S 23 17 = S 17 := rfl; have u20 : upS S 23 20 = S 20 := rfl; have h14 : S 14 = true := hB 14 ⟨0, rfl⟩; have h17 : S 17 = true := hB 17 ⟨0, rfl⟩; have h20 : S 20 = true := hB 20 ⟨0, rfl⟩
      simp only [ui, hS, u14, u17, u20, h14, h17, h20, cond_true, cond_false]
      exact pex
     refine dnl ?_; intro ρ
     refine xq_ (foc 52 vL ls m.line.toNat [vi 1, vi m.value, vi 0, vi l.serial, vi m.turn, vi l.gave, vi l.given] :: blk bk 110 [vL, vi q.kind, vi q.line, vi q.value, vi id, vi home, vo, vd] :: row 115 vo ms :: row 50 vd ds :: blk bm 115 m.cells :: (LX)) ?_
     refine Gm ?_
     refine Ga4 ?_
     refine Cc (b := ?b3) ?e3 ?_ ?_; case e3 => exact rfl
     ·intro ht85
      refine ZL ?_
      refine sc ?_
      refine Gl ?_
      refine JC.conseq (L' := row 52 vL (ls.set m.line.toNat ({ l with state := 2, value := m.value, want := 0, seen := m.turn })) :: blk bk 110 [vL, vi q.kind, vi q.line, vi q.value, vi id, vi home, vo, vd] :: row 115 vo ms :: row 50 vd ds :: blk bm 115 m.cells :: LX) (fun w hs => Ae (C9 ({ l with state := 2, value := m.value, want := 0, seen := m.turn }) (by unfold Line.wf An; simp only; omega) (hs.pick pkk))) ?_
      refine kp [0, 1, 89, 90, 91, 92, 93, 94] ?_
      refine Zal ?_
      refine ob (Fr 3 Try.isAgg36 Try.sizeOf36) ?_
      refine Ak Try.call50 rfl (fun w hs => K9 (vL := vL) (vd := vd) (q := q) (q0 := q) (id := id) (home := home) (ds := ds) (ls := ls.set m.line.toNat ({ l with state := 2, value := m.value, want := 0, seen := m.turn })) (l := { l with state := 2, value := m.value, want := 0, seen := m.turn }) (LX := row 115 vo ms :: blk bm 115 m.cells :: LX) (Ae hs) (by rw [hq1, List.getD_eq_getElem?_getD, List.getElem?_set_self (by omega)]; rfl) (by rw [hq1, List.length_set]; exact hi) (by rw [List.length_set]; exact hll) hid hhome hnd hq hq2 hq3) ?_; intro v95
      refine J.conseq (L' := blk bk 110 [vL, vi 0, vi 0, vi 0, vi id, vi home, vo, v95] :: row 52 vL (ls.set m.line.toNat ({ l with state := 2, value := (Be m.value q).1, want := 0, seen := m.turn })) :: row 50 v95 (ds ++ [(⟨id, q, (Be m.value q).2⟩ : Done)]) :: row 115 vo ms :: blk bm 115 m.cells :: LX) (fun w hs => by rw [hq1, List.set_set] at hs; exact Ae hs) ?_
      refine Gl ?_
      refine Bv ?_
      refine dn9 ?_
      refine dtl ?_; intro ρ
      refine Ak Try.call73 rfl (fun w hs => E5 (vL := vL) (vd := v95) (q := zOp) (id := id) (home := home) (ms := ms) (kind := 10) (line := m.line) (serial := 0) (turn := m.turn) (value := 0) (LX := row 52 vL (ls.set m.line.toNat ({ l with state := 2, value := (Be m.value q).1, want := 0, seen := m.turn })) :: row 50 v95 (ds ++ [(⟨id, q, (Be m.value q).2⟩ : Done)]) :: blk bm 115 m.cells :: LX) (Ae hs) hn (by unfold Msg.wf An; simp only; omega)) ?_; intro v105
      refine Gl ?_
      have eg : Ic l m q = { l with state := 2, value := (Be m.value q).1, want := 0, seen := m.turn } := by unfold Ic; rw [ht85, if_pos rfl]
      have er : (Ac ⟨ls, q⟩ id home m) = (⟨ls.set m.line.toNat ({ l with state := 2, value := (Be m.value q).1, want := 0, seen := m.turn }), zOp⟩, [Ba 10 id home m.line m.turn 0], [⟨id, q, (Be m.value q).2⟩]) := by rw [Kb hl hi hk, if_neg (by omega), if_pos haq, eg]
      rw [er]
      refine A1 (.inl rfl) (fun B w hs => Gf rfl _ w) (fun w hs => ⟨(v105, v95), rfl, Ae hs⟩)
     ·intro ht85
      refine Gl ?_
      refine JC.conseq (L' := row 52 vL (ls.set m.line.toNat ({ l with state := 1, value := m.value, want := 0, seen := m.turn })) :: blk bk 110 [vL, vi q.kind, vi q.line, vi q.value, vi id, vi home, vo, vd] :: row 115 vo ms :: row 50 vd ds :: blk bm 115 m.cells :: LX) (fun w hs => Ae (C9 ({ l with state := 1, value := m.value, want := 0, seen := m.turn }) (by unfold Line.wf An; simp only; omega) (hs.pick pkk))) ?_
      refine Zal ?_
      refine ob (Fr 3 Try.isAgg36 Try.sizeOf36) ?_
      refine Ak Try.call50 rfl (fun w hs => K9 (vL := vL) (vd := vd) (q := q) (q0 := q) (id := id) (home := home) (ds := ds) (ls := ls.set m.line.toNat ({ l with state := 1, value := m.value, want := 0, seen := m.turn })) (l := { l with state := 1, value := m.value, want := 0, seen := m.turn }) (LX := row 115 vo ms :: blk bm 115 m.cells :: LX) (Ae hs) (by rw [hq1, List.getD_eq_getElem?_getD, List.getElem?_set_self (by omega)]; rfl) (by rw [hq1, List.length_set]; exact hi) (by rw [List.length_set]; exact hll) hid hhome hnd hq hq2 hq3) ?_; intro v95
      refine J.conseq (L' := blk bk 110 [vL, vi 0, vi 0, vi 0, vi id, vi home, vo, v95] :: row 52 vL (ls.set m.line.toNat ({ l with state := 1, value := (Be m.value q).1, want := 0, seen := m.turn })) :: row 50 v95 (ds ++ [(⟨id, q, (Be m.value q).2⟩ : Done)]) :: row 115 vo ms :: blk bm 115 m.cells :: LX) (fun w hs => by rw [hq1, List.set_set] at hs; exact Ae hs) ?_
      refine Gl ?_
      refine kp [0, 1, 96, 97, 98, 99, 100, 101, 102, 103, 104] ?_
      refine Bv ?_
      refine dn9 ?_
      refine dtl ?_; intro ρ
      refine Ak Try.call73 rfl (fun w hs => E5 (vL := vL) (vd := v95) (q := zOp) (id := id) (home := home) (ms := ms) (kind := 10) (line := m.line) (serial := 0) (turn := m.turn) (value := 0) (LX := row 52 vL (ls.set m.line.toNat ({ l with state := 1, value := (Be m.value q).1, want := 0, seen := m.turn })) :: row 50 v95 (ds ++ [(⟨id, q, (Be m.value q).2⟩ : Done)]) :: blk bm 115 m.cells :: LX) (Ae hs) hn (by unfold Msg.wf An; simp only; omega)) ?_; intro v105
      refine Gl ?_
      have eg : Ic l m q = { l with state := 1, value := (Be m.value q).1, want := 0, seen := m.turn } := by unfold Ic; rw [ht85, if_neg (by decide)]
      have er : (Ac ⟨ls, q⟩ id home m) = (⟨ls.set m.line.toNat ({ l with state := 1, value := (Be m.value q).1, want := 0, seen := m.turn }), zOp⟩, [Ba 10 id home m.line m.turn 0], [⟨id, q, (Be m.value q).2⟩]) := by rw [Kb hl hi hk, if_neg (by omega), if_pos haq, eg]
      rw [er]
      refine A1 (.inl rfl) (fun B w hs => Gf rfl _ w) (fun w hs => ⟨(v105, v95), rfl, Ae hs⟩)
    ·intro ht61
     refine Gl ?_
     refine Zcm ?_;intro ρ v105
     have er : (Ac ⟨ls, q⟩ id home m) = (⟨ls, q⟩, [Ba 10 id home m.line m.turn 0], []) := by rw [Kb hl hi hk, if_neg (by omega), if_neg (fun h => ht61 h.2)]
     rw [er, List.append_nil]
     refine A1 (.inl rfl) (fun B w hs => Gf rfl _ w) (fun w hs => ⟨(v105, vd), rfl, Ae (D1 hl hlw (hs.pick pkk))⟩)
   ·refine ZU ?_
    refine ZaB ?_
    refine djm ?_
    refine dn1 ?_
    refine djf ?_
    refine dnl ?_; intro ρ
    refine Glc ?_
    refine Zcm ?_;intro ρ v105
    have er : (Ac ⟨ls, q⟩ id home m) = (⟨ls, q⟩, [Ba 10 id home m.line m.turn 0], []) := by rw [Kb hl hi hk, if_neg (by omega), if_neg (fun h => hc h.1)]
    rw [er, List.append_nil]
    refine A1 (.inl rfl) (fun B w hs => Gf rfl _ w) (fun w hs => ⟨(v105, vd), rfl, Ae (D1 hl hlw (hs.pick pkk))⟩)
section
variable {ls : List Line} {q : Op} {id home : Int} {m : Msg} {l : Line}
theorem Pj (hl : ls.getD m.line.toNat zLine = l) (hi : 0 ≤ m.line ∧ m.line < (ls.length : Int)) (hk : m.kind = 4) : Ac ⟨ls, q⟩ id home m = (⟨ls.set m.line.toNat (C4 l m.turn), q⟩, [Ba 8 id home m.line m.turn 0], []) := by
 subst hl
 unfold Ac
 rw [if_neg (by simp only; omega), if_pos hk]; rfl
theorem Ri (hl : ls.getD m.line.toNat zLine = l) (hi : 0 ≤ m.line ∧ m.line < (ls.length : Int)) (hk : m.kind = 11) : Ac ⟨ls, q⟩ id home m = (if l.want = 3 ∧ m.serial = l.serial then (⟨ls.set m.line.toNat { l with state := 0, value := 0, want := 0 }, zOp⟩, [], [⟨id, q, 0⟩]) else (⟨ls, q⟩, [], [])) := by
 subst hl
 unfold Ac
 rw [if_neg (by simp only; omega), if_neg (by omega), if_neg (by omega), if_neg (by omega)]
 by_cases h : (ls.getD m.line.toNat zLine).want = 3 ∧ m.serial = (ls.getD m.line.toNat zLine).serial
 ·rw [if_pos h, if_pos ⟨hk, h⟩]; rfl
 ·rw [if_neg h, if_neg (fun g => h g.2)]
theorem Adh (hi : 0 ≤ m.line ∧ m.line < (ls.length : Int)) (hk : m.kind ≠ 4 ∧ m.kind ≠ 5 ∧ m.kind ≠ 6 ∧ m.kind ≠ 7 ∧ m.kind ≠ 11) : Ac ⟨ls, q⟩ id home m = (⟨ls, q⟩, [], []) := by
 unfold Ac
 rw [if_neg (by simp only; omega), if_neg (by omega), if_neg (by omega), if_neg (by omega), if_neg (by omega)]
end
structure KH (c : Core) : Prop where
 n : c.lines.length ≤ 4
 w : CW c c.lines.length
theorem KB.kh {c : Core} (h : KB c) : KH c := ⟨h.n, h.w⟩
theorem KH.wline {c : Core} (h : KH c) (i : Int) (h0 : 0 ≤ i) (hi : i.toNat < c.lines.length) (hw : (Bo c i).want ≠ 0) : c.wait.line = i ∧ (1 ≤ c.wait.kind ∧ c.wait.kind ≤ 4) ∧ 0 ≤ c.wait.value ∧ c.wait.value ≤ 255 := by
 have hb := h.w.busy (fun h0 => hw ((h.w.free h0).2 i.toNat hi))
 have h1 := hb.2.2.2 i.toNat hi
 by_cases e : (i.toNat : Int) = c.wait.line
 ·exact ⟨by omega, hb.1, hb.2.2.1⟩
 ·rw [if_neg e] at h1; exact absurd h1 hw
theorem KH.wwf {c : Core} (h : KH c) : c.wait.wf := by
 by_cases h0 : c.wait.kind = 0
 ·rw [(h.w.free h0).1]; unfold Op.wf An; decide
 ·have hb := h.w.busy h0
  have := h.n
  unfold Op.wf An; omega
theorem Adg (c : Core) (id home : Int) (m : Msg) : (Ac c id home m).1.lines.length = c.lines.length := by
 unfold Ac
 repeat' split
 all_goals first | rfl | exact List.length_set
theorem KH.hear {c : Core} (h : KH c) (id home : Int) (m : Msg) : KH (Ac c id home m).1 := by
 have n' := Adg c id home m
 refine ⟨by rw [n']; exact h.n, ?_⟩
 rw [n']; clear n'
 by_cases o : m.line < 0 ∨ (c.lines.length : Int) ≤ m.line
 ·unfold Ac; rw [if_pos o]; exact h.w
 obtain ⟨i, hi⟩ := Int.eq_ofNat_of_zero_le (show 0 ≤ m.line by omega)
 have hil : i < c.lines.length := by omega
 have hz : (Bo c m.line).want ≠ 0 → c.wait.line = (i : Int) := fun hw => by rw [(h.wline m.line (by omega) (by omega) hw).1, hi]
 have hla : Bo c m.line = c.lines.getD i zLine := by unfold Bo; rw [hi]; rfl
 unfold Ac; rw [if_neg o]
 generalize Bo c m.line = l at hz hla
 rw [hi]
 split
 ·refine Pw rfl h.w hil ?_
  rw [← hla]; unfold C4; split <;> (try split) <;> rfl
 split
 ·split
  ·by_cases e : l.want = 3
   ·rw [if_pos e]
    refine Ho rfl h.w hil (.inr (hz (by omega))) ?_
    unfold Cv; rw [if_pos e]
   ·rw [if_neg e]
    refine Pw rfl h.w hil ?_
    rw [← hla]; unfold Cv; rw [if_neg e]; split <;> rfl
  split <;> exact h.w
 split
 ·split
  ·exact h.w
  split
  ·rename_i a
   exact Ho rfl h.w hil (.inr (hz (by unfold Ls at a; omega))) rfl
  ·exact h.w
 split
 ·rename_i a
  exact Ho rfl h.w hil (.inr (hz (by omega))) rfl
 ·exact h.w
theorem open_l {P : Program} {n : Nat} {Q : Exit → Act → World → Prop} {L : List Chunk} {R : List Fact} {al : List (Nat × Value)} {cd : Code} {v : Value} {ls : List Line} {l : Line} {i : Int} (hl : ls.getD i.toNat zLine = l) (hm : sl v ls ∈ R) (h0 : 0 ≤ i) (hi : i < (ls.length : Int)) (k : l.wf → JC P n cd Q L (cF v 7 i.toNat l.cells :: R) al) : JC P n cd Q L R al := by
 subst hl
 exact JC.open0 (xs := ls) i.toNat hm (by omega) k
theorem Aah {u : Value} {ls : List Line} {q : Op} {l : Line} {id home : Int} {m : Msg} (hs : St (L) R w) (hu : sl u ls ∈ R) (hk : KH ⟨ls, q⟩) (hid : An id) (hhome : An home) (hm : m.wf) (hl : ls.getD m.line.toNat zLine = l) (hg : m.line < 0 ∨ (ls.length : Int) ≤ m.line) : Calls Try.prog 57 [.agg (Core.cells u ⟨ls, q⟩).toArray, vi id, vi home, .agg m.cells.toArray].toArray w (Cd (fun v : Value × Value × Value => .tuple #[.agg (Core.cells v.1 (Ac ⟨ls, q⟩ id home m).1).toArray, v.2.1, v.2.2]) (fun v => L) (fun v => sl v.1 (Ac ⟨ls, q⟩ id home m).1.lines :: sl v.2.1 (Ac ⟨ls, q⟩ id home m).2.1 :: sl v.2.2 (Ac ⟨ls, q⟩ id home m).2.2 :: R)) := by
 refine ZaI ?_;intro hlen hone0 hn4 hm0 hid0 hhome0
 clear hs
 refine Zbj ?_;intro b4 b7 b8 vL honeV b18
 rcases (show (m.line < 0) ∨ (¬ m.line < 0 ∧ (ls.length : Int) ≤ m.line) from by omega) with hc | hc
 ·refine Zad ?_
  refine Gc8 ?_
  refine Zc0 ?_;intro er
  exact Zdy
 ·refine ZA ?_
  refine Zb1 ?_
  refine Gc1 ?_
  refine Zc0 ?_;intro er
  exact Zdy
theorem Aag {u : Value} {ls : List Line} {q : Op} {l : Line} {id home : Int} {m : Msg} (hs : St (L) R w) (hu : sl u ls ∈ R) (hk : KH ⟨ls, q⟩) (hid : An id) (hhome : An home) (hm : m.wf) (hl : ls.getD m.line.toNat zLine = l) (hg : 0 ≤ m.line ∧ m.line < (ls.length : Int) ∧ m.kind = 4) : Calls Try.prog 57 [.agg (Core.cells u ⟨ls, q⟩).toArray, vi id, vi home, .agg m.cells.toArray].toArray w (Cd (fun v : Value × Value × Value => .tuple #[.agg (Core.cells v.1 (Ac ⟨ls, q⟩ id home m).1).toArray, v.2.1, v.2.2]) (fun v => L) (fun v => sl v.1 (Ac ⟨ls, q⟩ id home m).1.lines :: sl v.2.1 (Ac ⟨ls, q⟩ id home m).2.1 :: sl v.2.2 (Ac ⟨ls, q⟩ id home m).2.2 :: R)) := by
 refine ZaI ?_;intro hlen hone0 hn4 hm0 hid0 hhome0
 clear hs
 refine Zbj ?_;intro b4 b7 b8 vL honeV b18
 refine ZA ?_
 refine Zap ?_
 refine Gc1 ?_
 refine Zbq ?_;intro hlw hA hlw0 honeL
 refine dn7 ?_
 refine Zbr ?_;intro ρ
 refine ZbI ?_
 refine C8 ?_
 refine Gc1 ?_
 refine Bv ?_
 refine dn7 ?_
 refine dnl ?_; intro ρ
 refine Gl ?_
 refine cdy ?_ ?_
 ·intro ht52
  refine Gm ?_
  refine rn5 ?_
  refine sc ?_
  refine Za9 ?_
  refine cdy ?_ ?_
  ·intro ht62
   refine ZI ?_
   refine sc ?_
   refine ZW ?_
   refine Gl ?_
   refine ZV ?_
   refine Zal ?_
   refine Ak Try.call73 rfl (fun w hs => E5 (vL := vL) (vd := .slice none 0 0) (q := q) (id := id) (home := home) (ms := []) (kind := 8) (line := m.line) (serial := 0) (turn := m.turn) (value := 0) (LX := foc 52 vL ls m.line.toNat [vi 0, vi 0, vi l.want, vi l.serial, vi m.turn, vi l.gave, vi l.given] :: blk b8 55 [.slice none 0 0, vi 0, vi 0, vi 0] :: L) (Ae hs) (by simp) (by unfold Msg.wf An; simp only; omega)) ?_; intro v74
   refine Gl ?_
   refine JC.conseq (L' := row 52 vL (ls.set m.line.toNat ({ l with seen := m.turn, state := 0, value := 0 })) :: blk b18 110 [vL, vi q.kind, vi q.line, vi q.value, vi id, vi home, v74, .slice none 0 0] :: row 115 v74 [Ba 8 id home m.line m.turn 0] :: blk b8 55 [.slice none 0 0, vi 0, vi 0, vi 0] :: L) (fun w hs => Ae (C9 ({ l with seen := m.turn, state := 0, value := 0 }) (by unfold Line.wf An; simp only; omega) (hs.pick pkk))) ?_
   refine JC.shut (v := vL) (xs := (ls.set m.line.toNat ({ l with seen := m.turn, state := 0, value := 0 }))) .hd ?_
   refine ZbZ ?_
   refine Zcb ?_
   refine Zb6 ?_;intro ρ
   have eh : C4 l m.turn = { l with seen := m.turn, state := 0, value := 0 } := by unfold C4; rw [if_pos (by omega), if_pos (by omega)]
   have er : (Ac ⟨ls, q⟩ id home m) = (⟨ls.set m.line.toNat ({ l with seen := m.turn, state := 0, value := 0 }), q⟩, [Ba 8 id home m.line m.turn 0], []) := by rw [Pj hl (by omega) (by omega), eh]
   exact ZdG
  ·intro ht62
   refine Gl ?_
   refine ZV ?_
   refine Zal ?_
   refine Ak Try.call73 rfl (fun w hs => E5 (vL := vL) (vd := .slice none 0 0) (q := q) (id := id) (home := home) (ms := []) (kind := 8) (line := m.line) (serial := 0) (turn := m.turn) (value := 0) (LX := foc 52 vL ls m.line.toNat [vi l.state, vi l.value, vi l.want, vi l.serial, vi m.turn, vi l.gave, vi l.given] :: blk b8 55 [.slice none 0 0, vi 0, vi 0, vi 0] :: L) (Ae hs) (by simp) (by unfold Msg.wf An; simp only; omega)) ?_; intro v74
   refine Gl ?_
   refine JC.conseq (L' := row 52 vL (ls.set m.line.toNat ({ l with seen := m.turn })) :: blk b18 110 [vL, vi q.kind, vi q.line, vi q.value, vi id, vi home, v74, .slice none 0 0] :: row 115 v74 [Ba 8 id home m.line m.turn 0] :: blk b8 55 [.slice none 0 0, vi 0, vi 0, vi 0] :: L) (fun w hs => Ae (C9 ({ l with seen := m.turn }) (by unfold Line.wf An; simp only; omega) (hs.pick pkk))) ?_
   refine JC.shut (v := vL) (xs := (ls.set m.line.toNat ({ l with seen := m.turn }))) .hd ?_
   refine ZbZ ?_
   refine Zb6 ?_;intro ρ
   have eh : C4 l m.turn = { l with seen := m.turn } := by unfold C4; rw [if_pos (by omega), if_neg (by omega)]
   have er : (Ac ⟨ls, q⟩ id home m) = (⟨ls.set m.line.toNat ({ l with seen := m.turn }), q⟩, [Ba 8 id home m.line m.turn 0], []) := by rw [Pj hl (by omega) (by omega), eh]
   exact ZdG
 ·intro ht52
  refine Gl ?_
  refine ZV ?_
  refine Zal ?_
  refine Ak Try.call73 rfl (fun w hs => E5 (vL := vL) (vd := .slice none 0 0) (q := q) (id := id) (home := home) (ms := []) (kind := 8) (line := m.line) (serial := 0) (turn := m.turn) (value := 0) (LX := foc 52 vL ls m.line.toNat [vi l.state, vi l.value, vi l.want, vi l.serial, vi l.seen, vi l.gave, vi l.given] :: blk b8 55 [.slice none 0 0, vi 0, vi 0, vi 0] :: L) (Ae hs) (by simp) (by unfold Msg.wf An; simp only; omega)) ?_; intro v74
  refine Gl ?_
  refine JC.conseq (L' := row 52 vL ls :: blk b18 110 [vL, vi q.kind, vi q.line, vi q.value, vi id, vi home, v74, .slice none 0 0] :: row 115 v74 [Ba 8 id home m.line m.turn 0] :: blk b8 55 [.slice none 0 0, vi 0, vi 0, vi 0] :: L) (fun w hs => Ae (D1 hl hlw (hs.pick pkk))) ?_
  refine JC.shut (v := vL) (xs := ls) .hd ?_
  refine ZbZ ?_
  refine Zb6 ?_;intro ρ
  have eh : C4 l m.turn = l := by unfold C4; rw [if_neg (by omega)]
  have er : (Ac ⟨ls, q⟩ id home m) = (⟨ls, q⟩, [Ba 8 id home m.line m.turn 0], []) := by rw [Pj hl (by omega) (by omega), eh, ← hl, Io]
  exact ZdG
theorem Aaf {u : Value} {ls : List Line} {q : Op} {l : Line} {id home : Int} {m : Msg} (hs : St (L) R w) (hu : sl u ls ∈ R) (hk : KH ⟨ls, q⟩) (hid : An id) (hhome : An home) (hm : m.wf) (hl : ls.getD m.line.toNat zLine = l) (hg : 0 ≤ m.line ∧ m.line < (ls.length : Int) ∧ m.kind = 5) : Calls Try.prog 57 [.agg (Core.cells u ⟨ls, q⟩).toArray, vi id, vi home, .agg m.cells.toArray].toArray w (Cd (fun v : Value × Value × Value => .tuple #[.agg (Core.cells v.1 (Ac ⟨ls, q⟩ id home m).1).toArray, v.2.1, v.2.2]) (fun v => L) (fun v => sl v.1 (Ac ⟨ls, q⟩ id home m).1.lines :: sl v.2.1 (Ac ⟨ls, q⟩ id home m).2.1 :: sl v.2.2 (Ac ⟨ls, q⟩ id home m).2.2 :: R)) := by
 refine ZaI ?_;intro hlen hone0 hn4 hm0 hid0 hhome0
 clear hs
 refine Zbv ?_;intro b4 b7 b8 vL honeV b18 ρ
 exact ZcP
theorem Aae {u : Value} {ls : List Line} {q : Op} {l : Line} {id home : Int} {m : Msg} (hs : St (L) R w) (hu : sl u ls ∈ R) (hk : KH ⟨ls, q⟩) (hid : An id) (hhome : An home) (hm : m.wf) (hl : ls.getD m.line.toNat zLine = l) (hg : 0 ≤ m.line ∧ m.line < (ls.length : Int) ∧ m.kind = 6) : Calls Try.prog 57 [.agg (Core.cells u ⟨ls, q⟩).toArray, vi id, vi home, .agg m.cells.toArray].toArray w (Cd (fun v : Value × Value × Value => .tuple #[.agg (Core.cells v.1 (Ac ⟨ls, q⟩ id home m).1).toArray, v.2.1, v.2.2]) (fun v => L) (fun v => sl v.1 (Ac ⟨ls, q⟩ id home m).1.lines :: sl v.2.1 (Ac ⟨ls, q⟩ id home m).2.1 :: sl v.2.2 (Ac ⟨ls, q⟩ id home m).2.2 :: R)) := by
 refine ZaI ?_;intro hlen hone0 hn4 hm0 hid0 hhome0
 clear hs
 refine Zbv ?_;intro b4 b7 b8 vL honeV b18 ρ
 refine ZG ?_
 exact ZcP
theorem Aad {u : Value} {ls : List Line} {q : Op} {l : Line} {id home : Int} {m : Msg} (hs : St (L) R w) (hu : sl u ls ∈ R) (hk : KH ⟨ls, q⟩) (hid : An id) (hhome : An home) (hm : m.wf) (hl : ls.getD m.line.toNat zLine = l) (hg : 0 ≤ m.line ∧ m.line < (ls.length : Int) ∧ m.kind = 7) : Calls Try.prog 57 [.agg (Core.cells u ⟨ls, q⟩).toArray, vi id, vi home, .agg m.cells.toArray].toArray w (Cd (fun v : Value × Value × Value => .tuple #[.agg (Core.cells v.1 (Ac ⟨ls, q⟩ id home m).1).toArray, v.2.1, v.2.2]) (fun v => L) (fun v => sl v.1 (Ac ⟨ls, q⟩ id home m).1.lines :: sl v.2.1 (Ac ⟨ls, q⟩ id home m).2.1 :: sl v.2.2 (Ac ⟨ls, q⟩ id home m).2.2 :: R)) := by
 refine ZaI ?_;intro hlen hone0 hn4 hm0 hid0 hhome0
 clear hs
 refine Zbv ?_;intro b4 b7 b8 vL honeV b18 ρ
 refine ZaN ?_
 refine Gc1 ?_
 refine ZV ?_
 refine Zai ?_
 have hkd : m.kind = 7 := by omega
 have hqa : Ls l m → q.line = m.line ∧ (1 ≤ q.kind ∧ q.kind ≤ 4) ∧ 0 ≤ q.value ∧ q.value ≤ 255 := fun ha => by
  have hw : (Bo ⟨ls, q⟩ m.line).want ≠ 0 := by
   show (ls.getD m.line.toNat zLine).want ≠ 0
   rw [hl]; unfold Ls at ha; omega
  exact hk.wline m.line (by omega) (show m.line.toNat < ls.length by omega) hw
 refine ZC ?_
 refine Ak Try.call75 rfl (fun w hs => Aai (vL := vL) (vo := .slice none 0 0) (vd := .slice none 0 0) (bk := b18) (bm := b7) (q := q) (id := id) (home := home) (ls := ls) (l := l) (ms := []) (ds := []) (m := m) (LX := blk b8 55 [.slice none 0 0, vi 0, vi 0, vi 0] :: L) (Ae hs) hl (by omega) (by omega) hm hid hhome (by simp) (by simp) hk.wwf hkd hqa) ?_; intro ⟨g1, g2⟩
 refine J.conseq (L' := blk b18 110 [vL, vi (Ac ⟨ls, q⟩ id home m).1.wait.kind, vi (Ac ⟨ls, q⟩ id home m).1.wait.line, vi (Ac ⟨ls, q⟩ id home m).1.wait.value, vi id, vi home, g1, g2] :: row 52 vL (Ac ⟨ls, q⟩ id home m).1.lines :: row 115 g1 (Ac ⟨ls, q⟩ id home m).2.1 :: row 50 g2 (Ac ⟨ls, q⟩ id home m).2.2 :: blk b8 55 [.slice none 0 0, vi 0, vi 0, vi 0] :: L) (fun w hs => by rw [List.nil_append, List.nil_append] at hs; exact Ae hs) ?_
 refine Zb3 ?_;intro ρ
 exact Eu (vL, g1, g2) Try.isAgg55 Try.sizeOf55
theorem Xe {u : Value} {ls : List Line} {q : Op} {l : Line} {id home : Int} {m : Msg} (hs : St (L) R w) (hu : sl u ls ∈ R) (hk : KH ⟨ls, q⟩) (hid : An id) (hhome : An home) (hm : m.wf) (hl : ls.getD m.line.toNat zLine = l) (hg : 0 ≤ m.line ∧ m.line < (ls.length : Int) ∧ m.kind = 11) : Calls Try.prog 57 [.agg (Core.cells u ⟨ls, q⟩).toArray, vi id, vi home, .agg m.cells.toArray].toArray w (Cd (fun v : Value × Value × Value => .tuple #[.agg (Core.cells v.1 (Ac ⟨ls, q⟩ id home m).1).toArray, v.2.1, v.2.2]) (fun v => L) (fun v => sl v.1 (Ac ⟨ls, q⟩ id home m).1.lines :: sl v.2.1 (Ac ⟨ls, q⟩ id home m).2.1 :: sl v.2.2 (Ac ⟨ls, q⟩ id home m).2.2 :: R)) := by
 refine ZaI ?_;intro hlen hone0 hn4 hm0 hid0 hhome0
 clear hs
 refine Zbj ?_;intro b4 b7 b8 vL honeV b18
 refine ZA ?_
 refine Zap ?_
 refine Gc1 ?_
 refine Zbq ?_;intro hlw hA hlw0 honeL
 refine dn7 ?_
 refine Zbr ?_;intro ρ
 refine ZbI ?_
 refine ZG ?_
 refine ZG ?_
 refine ZaN ?_
 refine Gc1 ?_
 refine kp [1, 7, 8, 9, 10, 11, 12, 86, 87, 88, 89, 90, 91, 92, 93, 94, 95, 96, 97, 98, 99] ?_
 refine Dn 99 (.bool (decide ((l.want = 3) ∧ (m.serial = l.serial)))) ?_ ?_
 ·rcases (show (¬ (l.want = 3)) ∨ ((l.want = 3) ∧ ¬ (m.serial = l.serial)) ∨ ((l.want = 3) ∧ (m.serial = l.serial)) from by omega) with hm | hm | hm
  ·refine Bv ?_
   refine dn4 ?_
   refine ZaB ?_
   refine djm ?_
   refine dn7 ?_
   refine djf ?_
   refine dnl ?_; intro ρ
   refine Ao ?_ (fun w hs => hs)
   exact meF
  ·refine Bv ?_
   refine dn4 ?_
   refine Zat ?_
   refine djm ?_
   refine dn6 ?_
   refine dj (dgy ?_)
   refine Zaz ?_
   refine Zag ?_
   refine dnl ?_; intro ρ
   refine Ao ?_ (fun w hs => hs)
   exact meF
  ·refine Bv ?_
   refine dn4 ?_
   refine Zat ?_
   refine djm ?_
   refine dn6 ?_
   refine dj (dgy ?_)
   refine ZaQ ?_
   refine Zag ?_
   refine dnl ?_; intro ρ
   refine Ao ?_ (fun w hs => hs)
   exact meT
 ·refine Bc ?_
  first | (refine cdx (p := ?p1) (hd := ?d1) ?e1 ?_ ?_; case e1 => exact rfl) | (refine Cc (b := ?b1) ?e1 ?_ ?_; case e1 => exact rfl)
  ·intro ht99
   refine Gl ?_
   refine kp [1, 8, 9, 10, 11, 12, 100, 101, 102, 103, 104, 105, 106, 107, 108] ?_
   refine Zal ?_
   refine sc ?_
   refine ZW ?_
   refine ZW ?_
   refine Gl ?_
   refine Zai ?_
   have hwq := hk.wwf
   refine cq_ (blk b18 110 [vL, vi q.kind, vi q.line, vi q.value, vi id, vi home, .slice none 0 0, .slice none 0 0] :: row 50 (.slice none 0 0) [] :: foc 52 vL ls m.line.toNat [vi 0, vi 0, vi 0, vi l.serial, vi l.seen, vi l.gave, vi l.given] :: blk b8 55 [.slice none 0 0, vi 0, vi 0, vi 0] :: L) ?_
   refine jd_ (fun ρ S => blk b18 110 (bif S 16 then [vL, vi q.kind, vi q.line, vi q.value, vi id, vi home, .slice none 0 0, (Gh.dec (γ := Value) (ρ 13))] else [vL, vi q.kind, vi q.line, vi q.value, vi id, vi home, .slice none 0 0, .slice none 0 0]) :: (bif S 13 then row 50 (Gh.dec (γ := Value) (ρ 13)) ([] ++ [(⟨id, q, 0⟩ : Done)]) else row 50 (.slice none 0 0) []) :: foc 52 vL ls m.line.toNat [vi 0, vi 0, vi 0, vi l.serial, vi l.seen, vi l.gave, vi l.given] :: blk b8 55 [.slice none 0 0, vi 0, vi 0, vi 0] :: L) ?_
   refine dn4 ?_
   refine Jr (v := .slice none 0 0) (fun ρ S hS hB hA => by have h16 : S 16 = false := hA 16 ⟨0, rfl⟩; simp only [h16, cond_false]; exact D8 (hc := Bt pkk (by repeat (first | exact rfl | refine Da rfl ?_))) Try.isAgg29) (fun _ _ _ _ _ => rfl) ?_
   refine dn5 ?_
   refine Jr (v := .agg q.cells.toArray) (fun ρ S hS hB hA => by have h16 : S 16 = false := hA 16 ⟨9, rfl⟩; simp only [h16, cond_false]; exact Fr (b := b18) (f := 1) (vs := [vL, vi q.kind, vi q.line, vi q.value, vi id, vi home, .slice none 0 0, .slice none 0 0]) 3 Try.isAgg36 Try.sizeOf36) (fun _ _ _ _ _ => rfl) ?_
   first | refine epc (fun _ _ => Fg Hy) ?_ | refine epc (fun _ _ => Fs Hy) ?_ | refine epp (fun _ _ => Fg Hy) ?_ | refine epp (fun _ _ => Fs Hy) ?_
   refine Lr ([(⟨id, q, 0⟩ : Done)] : List Done) G7 rfl (fun _ => rfl) rfl (fun _ => rfl) rfl rfl (fun ρ R hd => Ml ⟨hid, hwq.1, hwq.2.1, hwq.2.2, by unfold An; simp only; omega⟩) (fun _ _ _ _ _ => rfl) ?_
   refine Eo (e := 50) (xs := []) (ys := [(⟨id, q, 0⟩ : Done)]) (v := (.slice none 0 0)) G7 (fun _ => rfl) (fun _ => rfl) rfl (by decide) (fun ρ R hd => (hd.dep (it := ⟨12, _, _, _, _⟩) (by repeat (first | exact List.Mem.head _ | refine List.Mem.tail _ ?_)) ⟨9, rfl⟩ (List.Mem.head _))) (by have : maxN = 16777216 := rfl; simp only [List.length_cons, List.length_nil]; omega) (fun ρ g S hS hB hA => ?_) ?_
   ·exact Zdq
   refine dn2 ?_
   refine D3 (T0 := 110) (f := 7) (vs := fun ρ => [vL, vi q.kind, vi q.line, vi q.value, vi id, vi home, .slice none 0 0, .slice none 0 0]) (v := fun ρ => (Gh.dec (γ := Value) (ρ 13))) (fun ρ => b18) Try.sizeOf29 (fun _ => rfl) (fun _ => rfl) (fun ρ S R w L9 hB hd hs => by have h13 : S 13 = true := hB 13 ⟨9, rfl⟩; simp only [h13, cond_true] at hs; exact Bm pkk hs) (fun _ => rfl) (fun ρ g S hS hB hA => ?_) ?_
   ·exact Zd1
   refine dnl ?_; intro ρ
   refine xq_ (blk b18 110 [vL, vi q.kind, vi q.line, vi q.value, vi id, vi home, .slice none 0 0, (Gh.dec (γ := Value) (ρ 13))] :: row 50 (Gh.dec (γ := Value) (ρ 13)) [(⟨id, q, 0⟩ : Done)] :: foc 52 vL ls m.line.toNat [vi 0, vi 0, vi 0, vi l.serial, vi l.seen, vi l.gave, vi l.given] :: blk b8 55 [.slice none 0 0, vi 0, vi 0, vi 0] :: L) ?_
   generalize (Gh.dec (γ := Value) (ρ 12)) = v121
   generalize (Gh.dec (γ := Value) (ρ 13)) = v122
   refine ZJ ?_
   refine ob (Fg (cs := zOp.cells) X7) ?_
   refine rn3 ?_
   refine s_N [vL, vi 0, vi 0, vi 0, vi id, vi home, .slice none 0 0, v122] Try.sizeOf36 ?_
   refine Gl ?_
   refine JC.conseq (L' := row 52 vL (ls.set m.line.toNat ({ l with state := 0, value := 0, want := 0 })) :: blk b18 110 [vL, vi 0, vi 0, vi 0, vi id, vi home, .slice none 0 0, v122] :: row 50 v122 [(⟨id, q, 0⟩ : Done)] :: blk b8 55 [.slice none 0 0, vi 0, vi 0, vi 0] :: L) (fun w hs => Ae (C9 ({ l with state := 0, value := 0, want := 0 }) (by unfold Line.wf An; simp only; omega) (hs.pick pkk))) ?_
   refine JC.shut (v := vL) (xs := (ls.set m.line.toNat ({ l with state := 0, value := 0, want := 0 }))) .hd ?_
   refine JC.slNil Msg ?_
   refine JC.shut (v := v122) (xs := [(⟨id, q, 0⟩ : Done)]) pkk ?_
   refine Zcb ?_
   refine cq_ (blk b8 55 [.slice none 0 0, vi 0, vi 0, vi 0] :: blk b18 110 [vL, vi 0, vi 0, vi 0, vi id, vi home, .slice none 0 0, v122] :: L) ?_
   refine jd_ (fun ρ S => blk b8 55 (bif S 12 then [vL, vi 0, vi 0, vi 0] else [.slice none 0 0, vi 0, vi 0, vi 0]) :: blk b18 110 [vL, vi 0, vi 0, vi 0, vi id, vi home, .slice none 0 0, v122] :: L) ?_
   refine dn3 ?_
   refine K7 (v := .agg ([vL, vi 0, vi 0, vi 0]).toArray) (fun _ _ => Fr (b := b18) (f := 0) (vs := [vL, vi 0, vi 0, vi 0, vi id, vi home, .slice none 0 0, v122]) 4 Try.isAgg55 Try.sizeOf55) (fun _ _ _ _ _ => rfl) ?_
   refine Zc7 ?_
   refine dn2 ?_
   refine dnl ?_; intro ρ
   refine xq_ (blk b8 55 [vL, vi 0, vi 0, vi 0] :: blk b18 110 [vL, vi 0, vi 0, vi 0, vi id, vi home, .slice none 0 0, v122] :: L) ?_
   refine Gl ?_
   have er : (Ac ⟨ls, q⟩ id home m) = (⟨ls.set m.line.toNat ({ l with state := 0, value := 0, want := 0 }), zOp⟩, [], [⟨id, q, 0⟩]) := by rw [Ri hl (by omega) (by omega), if_pos ht99]
   rw [er]
   exact Eu (vL, .slice none 0 0, v122) Try.isAgg55 Try.sizeOf55
  ·intro ht99
   refine Gl ?_
   refine JC.conseq (L' := row 52 vL ls :: blk b18 110 [vL, vi q.kind, vi q.line, vi q.value, vi id, vi home, .slice none 0 0, .slice none 0 0] :: blk b8 55 [.slice none 0 0, vi 0, vi 0, vi 0] :: L) (fun w hs => Ae (D1 hl hlw (hs.pick pkk))) ?_
   refine ZbQ ?_
   refine Zcb ?_
   refine Zck ?_;intro ρ
   have er : (Ac ⟨ls, q⟩ id home m) = (⟨ls, q⟩, [], []) := by rw [Ri hl (by omega) (by omega), if_neg ht99]
   rw [er]
   exact Zdy
theorem Aac {u : Value} {ls : List Line} {q : Op} {l : Line} {id home : Int} {m : Msg} (hs : St (L) R w) (hu : sl u ls ∈ R) (hk : KH ⟨ls, q⟩) (hid : An id) (hhome : An home) (hm : m.wf) (hl : ls.getD m.line.toNat zLine = l) (hg : 0 ≤ m.line ∧ m.line < (ls.length : Int) ∧ m.kind ≠ 4 ∧ m.kind ≠ 5 ∧ m.kind ≠ 6 ∧ m.kind ≠ 7 ∧ m.kind ≠ 11) : Calls Try.prog 57 [.agg (Core.cells u ⟨ls, q⟩).toArray, vi id, vi home, .agg m.cells.toArray].toArray w (Cd (fun v : Value × Value × Value => .tuple #[.agg (Core.cells v.1 (Ac ⟨ls, q⟩ id home m).1).toArray, v.2.1, v.2.2]) (fun v => L) (fun v => sl v.1 (Ac ⟨ls, q⟩ id home m).1.lines :: sl v.2.1 (Ac ⟨ls, q⟩ id home m).2.1 :: sl v.2.2 (Ac ⟨ls, q⟩ id home m).2.2 :: R)) := by
 refine ZaI ?_;intro hlen hone0 hn4 hm0 hid0 hhome0
 clear hs
 refine Zbv ?_;intro b4 b7 b8 vL honeV b18 ρ
 refine ZG ?_
 refine ZG ?_
 refine ZG ?_
 refine A4 ?_
 refine Gc1 ?_
 refine cq_ (row 52 vL ls :: blk b18 110 [vL, vi q.kind, vi q.line, vi q.value, vi id, vi home, .slice none 0 0, .slice none 0 0] :: blk b8 55 [.slice none 0 0, vi 0, vi 0, vi 0] :: L) ?_
 refine ZbQ ?_
 refine Zck ?_;intro ρ
 have er : (Ac ⟨ls, q⟩ id home m) = (⟨ls, q⟩, [], []) := Adh (by omega) (by omega)
 rw [er]
 exact Zdy
theorem Aab {u : Value} {c : Core} {id home : Int} {m : Msg} (hs : St (L) R w) (hu : sl u c.lines ∈ R) (hk : KH c) (hid : An id) (hhome : An home) (hm : m.wf) : Calls Try.prog 57 [.agg (c.cells u).toArray, vi id, vi home, .agg m.cells.toArray].toArray w (Cd (fun v : Value × Value × Value => .tuple #[.agg (Core.cells v.1 (Ac c id home m).1).toArray, v.2.1, v.2.2]) (fun v => L) (fun v => sl v.1 (Ac c id home m).1.lines :: sl v.2.1 (Ac c id home m).2.1 :: sl v.2.2 (Ac c id home m).2.2 :: R)) := by
 obtain ⟨ls, q⟩ := c
 by_cases h : 0 ≤ m.line ∧ m.line < (ls.length : Int)
 ·by_cases h4 : m.kind = 4
  ·exact Aag hs hu hk hid hhome hm rfl (by omega)
  by_cases h5 : m.kind = 5
  ·exact Aaf hs hu hk hid hhome hm rfl (by omega)
  by_cases h6 : m.kind = 6
  ·exact Aae hs hu hk hid hhome hm rfl (by omega)
  by_cases h7 : m.kind = 7
  ·exact Aad hs hu hk hid hhome hm rfl (by omega)
  by_cases h11 : m.kind = 11
  ·exact Xe hs hu hk hid hhome hm rfl (by omega)
  exact Aac hs hu hk hid hhome hm rfl (by omega)
 ·exact Aah hs hu hk hid hhome hm rfl (by omega)
section
variable {ls : List Line} {q q0 : Op} {id home : Int} {l : Line}
theorem beg_1 (h : q.kind < 1 ∨ 4 < q.kind) : Aj ⟨ls, q0⟩ id home q = (Fa, [], [], 1) := by unfold Aj; rw [if_pos h]
theorem Afk (h1 : 1 ≤ q.kind ∧ q.kind ≤ 4) (h : q.line < 0 ∨ (ls.length : Int) ≤ q.line ∨ q.value < 0 ∨ 255 < q.value) : Aj ⟨ls, q0⟩ id home q = (Fa, [], [], 3) := by
 unfold Aj; rw [if_neg (by omega), if_pos h]
theorem beg_8 (hl : ls.getD q.line.toNat zLine = l) (h1 : 1 ≤ q.kind ∧ q.kind ≤ 4) (h2 : 0 ≤ q.line ∧ q.line < (ls.length : Int)) (h3 : 0 ≤ q.value ∧ q.value ≤ 255) (h : q0.kind ≠ 0 ∨ 65535 ≤ l.serial) : Aj ⟨ls, q0⟩ id home q = (Fa, [], [], 8) := by
 subst hl
 unfold Aj; rw [if_neg (by omega), if_neg (by simp only; omega), if_pos (show (⟨ls, q0⟩ : Core).wait.kind ≠ 0 ∨ 65535 ≤ (Bo ⟨ls, q0⟩ q.line).serial from h)]
theorem R9 (hl : ls.getD q.line.toNat zLine = l) (h1 : 1 ≤ q.kind ∧ q.kind ≤ 4) (h2 : 0 ≤ q.line ∧ q.line < (ls.length : Int)) (h3 : 0 ≤ q.value ∧ q.value ≤ 255) (h4 : q0.kind = 0) (h5 : l.serial < 65535) : Aj ⟨ls, q0⟩ id home q = (if Cl l q then (⟨ls.set q.line.toNat (A8 l q), zOp⟩, [], [⟨id, q, Ek l q⟩], 0) else (⟨ls.set q.line.toNat (A8 l q), q⟩, [Cp (A8 l q) id home q.line], [], 0)) := by
 subst hl
 unfold Aj; rw [if_neg (by omega), if_neg (by simp only; omega), if_neg (fun h => by rcases h with h | h; exact h h4; exact absurd h (by show ¬ 65535 ≤ (ls.getD q.line.toNat zLine).serial; omega))]; rfl
end
theorem Xf {u : Value} {c : Core} {id home : Int} {q : Op} (hs : St (L) R w) (hu : sl u c.lines ∈ R) (hk : KB c) (hid : An id) (hhome : An home) (hq : q.wf) : Calls Try.prog 36 [.agg (c.cells u).toArray, vi id, vi home, .agg q.cells.toArray].toArray w (Cd (fun v : Value × Value × Value => .tuple #[.agg (Core.cells v.1 (Aj c id home q).1).toArray, v.2.1, v.2.2, vi (Aj c id home q).2.2.2]) (fun v => L) (fun v => sl v.1 (Aj c id home q).1.lines :: sl v.2.1 (Aj c id home q).2.1 :: sl v.2.2 (Aj c id home q).2.2.1 :: R)) := by
 obtain ⟨ls, q0⟩ := c
 have hu : sl u ls ∈ R := hu
 obtain ⟨l, hl⟩ : ∃ l, ls.getD q.line.toNat zLine = l := ⟨_, rfl⟩
 have hlen := Bx hu hs
 have hone0 : u.oneCell' = true := isSlice.one (hs.fact hu)
 have hn4 : ls.length ≤ 4 := hk.n
 refine ZaH ?_;intro hid0 hhome0
 refine Ah Try.func36 rfl Try.ntmps36 rfl hs ?_
 clear hs
 refine Gm ?_
 refine bx ?_; intro b4
 refine bx ?_; intro b7
 refine al_ (cs := [.slice none 0 0, vi 0, vi 0, vi 0]) Try.zeroValue55 ?_; intro b8
 refine Ga3 ?_
 refine cq_ (blk b4 55 [u, vi q0.kind, vi q0.line, vi q0.value] :: blk b7 36 q.cells :: blk b8 55 [.slice none 0 0, vi 0, vi 0, vi 0] :: L) ?_
 rcases (show (q.kind < 1) ∨ (¬ q.kind < 1 ∧ 4 < q.kind) ∨ (1 ≤ q.kind ∧ q.kind ≤ 4) from by omega) with hc | hc | hc
 ·refine Zad ?_
  refine Gc6 ?_
  exact ZdS
 ·refine ZS ?_
  refine Ft ?_
  refine Gc2 ?_
  exact ZdS
 ·refine ZS ?_
  refine De ?_
  refine Gc2 ?_
  rcases (show (q.line < 0) ∨ (0 ≤ q.line ∧ (ls.length : Int) ≤ q.line) ∨ (0 ≤ q.line ∧ q.line < (ls.length : Int) ∧ q.value < 0) ∨ (0 ≤ q.line ∧ q.line < (ls.length : Int) ∧ 255 < q.value) ∨ (0 ≤ q.line ∧ q.line < (ls.length : Int) ∧ 0 ≤ q.value ∧ q.value ≤ 255) from by omega) with hc | hc | hc | hc | hc
  ·refine Zad ?_
   refine Gc19 ?_
   exact Zee
  ·refine ZA ?_
   refine Zb1 ?_
   refine Gc12 ?_
   exact Zee
  ·refine ZA ?_
   refine Zap ?_
   refine ZE ?_
   refine Dt ?_
   refine Gc7 ?_
   exact Zee
  ·refine ZA ?_
   refine Zap ?_
   refine ZX ?_
   refine Ft ?_
   refine Gc2 ?_
   exact Zee
  ·refine ZA ?_
   refine Zap ?_
   refine ZX ?_
   refine De ?_
   refine Gc2 ?_
   refine open_l (v := u) hl mm (by omega) (by omega) (fun hlw1 => ?_)
   rcases (show (q0.kind ≠ 0) ∨ (q0.kind = 0 ∧ 65535 ≤ l.serial) ∨ (q0.kind = 0 ∧ l.serial < 65535) from by omega) with hc | hc | hc
   ·refine ZbV ?_
    refine Aic ?_
    refine Gc11 ?_
    exact ZdC
   ·refine ZbV ?_
    refine Ms ?_
    refine rn8 ?_
    refine gy ?_
    refine J8 ?_
    refine Gc2 ?_
    exact ZdC
   ·have hc5 := hc
    refine ZbV ?_
    refine Ms ?_
    refine rn8 ?_
    refine gy ?_
    refine D6 ?_
    refine Gd2 ?_
    refine rn1 ?_
    refine Ak Try.call48 rfl (fun w hs => Gt (u := u) (c := ⟨ls, q0⟩) hs mm) ?_; intro vL
    refine J.know (p := vL.oneCell' = true) (fun w hs => Bm .hd hs) (fun honeV => ?_)
    refine rn3 ?_
    refine bx ?_; intro b68
    refine Ga1 ?_
    refine cq_ (row 52 vL ls :: blk b68 110 [vL, vi q0.kind, vi q0.line, vi q0.value, vi id, vi home, .slice none 0 0, .slice none 0 0] :: blk b8 55 [.slice none 0 0, vi 0, vi 0, vi 0] :: blk b7 36 q.cells :: L) ?_
    refine ZbM ?_;intro hlw hA hlw0 honeL
    have hz : q0 = zOp := (hk.w.free hc5.1).1
    refine ZbU ?_;intro ρ
    refine Gl ?_
    refine kp [1, 7, 8, 9, 10, 11, 12, 13, 80, 81, 82, 83, 84, 85, 86, 87, 88, 89, 90] ?_
    refine Dn 80 (.bool (decide ((q.kind = 4) ∧ (l.state = 2)))) ?_ ?_
    ·rcases (show (¬ (q.kind = 4)) ∨ ((q.kind = 4) ∧ ¬ (l.state = 2)) ∨ ((q.kind = 4) ∧ (l.state = 2)) from by omega) with hm | hm | hm
     ·refine ZA ?_
      refine A4 ?_
      refine Ga8 ?_
      exact Zdb
     ·refine ZA ?_
      refine C8 ?_
      refine ZQ ?_
      refine A4 ?_
      refine Ga2 ?_
      exact Zdb
     ·refine ZA ?_
      refine C8 ?_
      refine ZQ ?_
      refine C8 ?_
      refine Ga2 ?_
      exact ZcO
    ·refine Bc ?_
     first | (refine cdx (p := ?p1) (hd := ?d1) ?e1 ?_ ?_; case e1 => exact rfl) | (refine Cc (b := ?b1) ?e1 ?_ ?_; case e1 => exact rfl)
     ·intro ht80
      refine Gl ?_
      refine kp [1, 7, 8, 9, 10, 11, 12, 13, 91, 92, 93] ?_
      refine ZL ?_
      refine sc ?_
      refine Gl ?_
      refine JC.conseq (L' := row 52 vL (ls.set q.line.toNat ({ l with state := 3 })) :: blk b68 110 [vL, vi q0.kind, vi q0.line, vi q0.value, vi id, vi home, .slice none 0 0, .slice none 0 0] :: blk b8 55 [.slice none 0 0, vi 0, vi 0, vi 0] :: blk b7 36 q.cells :: L) (fun w hs => Ae (C9 ({ l with state := 3 }) (by unfold Line.wf An; simp only; omega) (hs.pick pkk))) ?_
      refine ZV ?_
      refine ZA ?_
      refine Ak Try.call49 rfl (fun w hs => Td (vL := vL) (vo := .slice none 0 0) (vd := .slice none 0 0) (q := q) (q0 := q0) (id := id) (home := home) (ls := (ls.set q.line.toNat ({ l with state := 3 }))) (l := { l with state := 3 }) (ms := []) (want := 3) (bk := b68) (LX := blk b8 55 [.slice none 0 0, vi 0, vi 0, vi 0] :: blk b7 36 q.cells :: L) (Ae hs) (by rw [List.getD_eq_getElem?_getD, List.getElem?_set_self (by omega)]; rfl) (by rw [List.length_set]; omega) (by rw [List.length_set]; omega) hid hhome (by simp) (by first | omega | (simp only; omega)) (by unfold An; omega)) ?_; intro v96
      refine J.conseq (L' := row 52 vL (ls.set q.line.toNat ({ l with state := 3, want := 3, serial := l.serial + 1 })) :: blk b68 110 [vL, vi q.kind, vi q.line, vi q.value, vi id, vi home, v96, .slice none 0 0] :: row 115 v96 [Cp ({ l with state := 3, want := 3, serial := l.serial + 1 }) id home q.line] :: blk b8 55 [.slice none 0 0, vi 0, vi 0, vi 0] :: L) (fun w hs => by rw [List.nil_append, List.set_set] at hs; exact Ae hs) ?_
      refine Gl ?_
      refine cq_ (row 52 vL (ls.set q.line.toNat ({ l with state := 3, want := 3, serial := l.serial + 1 })) :: blk b68 110 [vL, vi q.kind, vi q.line, vi q.value, vi id, vi home, v96, .slice none 0 0] :: row 115 v96 [Cp ({ l with state := 3, want := 3, serial := l.serial + 1 }) id home q.line] :: blk b8 55 [.slice none 0 0, vi 0, vi 0, vi 0] :: L) ?_
      refine JC.shut (v := vL) (xs := (ls.set q.line.toNat ({ l with state := 3, want := 3, serial := l.serial + 1 }))) .hd ?_
      refine JC.shut (v := v96) (xs := [Cp ({ l with state := 3, want := 3, serial := l.serial + 1 }) id home q.line]) pkk ?_
      refine Zaa ?_
      refine cq_ (blk b8 55 [.slice none 0 0, vi 0, vi 0, vi 0] :: blk b68 110 [vL, vi q.kind, vi q.line, vi q.value, vi id, vi home, v96, .slice none 0 0] :: L) ?_
      refine jd_ (fun ρ S => blk b8 55 (bif S 12 then [vL, vi q.kind, vi q.line, vi q.value] else [.slice none 0 0, vi 0, vi 0, vi 0]) :: blk b68 110 [vL, vi q.kind, vi q.line, vi q.value, vi id, vi home, v96, .slice none 0 0] :: L) ?_
      refine dn3 ?_
      refine K7 (v := .agg ([vL, vi q.kind, vi q.line, vi q.value]).toArray) (fun _ _ => Fr (b := b68) (f := 0) (vs := [vL, vi q.kind, vi q.line, vi q.value, vi id, vi home, v96, .slice none 0 0]) 4 Try.isAgg55 Try.sizeOf55) (fun _ _ _ _ _ => rfl) ?_
      refine Zbb ?_
      refine dn3 ?_
      refine dnl ?_; intro ρ
      refine xq_ (blk b8 55 [vL, vi q.kind, vi q.line, vi q.value] :: blk b68 110 [vL, vi q.kind, vi q.line, vi q.value, vi id, vi home, v96, .slice none 0 0] :: L) ?_
      refine Gl ?_
      have eb : A8 l q = { l with state := 3, want := 3, serial := l.serial + 1 } := by unfold A8; rw [if_pos (by omega), if_pos (by omega)]
      have ed : Cl l q = false := by unfold Cl; split <;> simp <;> omega
      have er : (Aj ⟨ls, q0⟩ id home q) = (⟨ls.set q.line.toNat ({ l with state := 3, want := 3, serial := l.serial + 1 }), q⟩, [Cp ({ l with state := 3, want := 3, serial := l.serial + 1 }) id home q.line], [], 0) := by rw [R9 hl (by omega) (by omega) (by omega) (by omega) (by omega), ed, if_neg (by decide), eb]
      rw [er]
      exact I4 (vL, v96, .slice none 0 0) Try.isAgg55 Try.sizeOf55
     ·intro ht80
      refine Gl ?_
      refine kp [1, 7, 8, 9, 10, 11, 12, 13, 97, 98, 99, 100] ?_
      refine Aa ?_
      refine Ga4 ?_
      refine cdy ?_ ?_
      ·intro ht97
       refine Gm ?_
       refine rn4 ?_
       refine sc ?_
       refine ZW ?_
       refine Gl ?_
       refine Zai ?_
       refine cq_ (blk b68 110 [vL, vi q0.kind, vi q0.line, vi q0.value, vi id, vi home, .slice none 0 0, .slice none 0 0] :: row 50 (.slice none 0 0) [] :: foc 52 vL ls q.line.toNat [vi 0, vi 0, vi l.want, vi l.serial, vi l.seen, vi l.gave, vi l.given] :: blk b8 55 [.slice none 0 0, vi 0, vi 0, vi 0] :: blk b7 36 q.cells :: L) ?_
       refine jd_ (fun ρ S => blk b68 110 (bif S 12 then [vL, vi q0.kind, vi q0.line, vi q0.value, vi id, vi home, .slice none 0 0, (Gh.dec (γ := Value) (ρ 9))] else [vL, vi q0.kind, vi q0.line, vi q0.value, vi id, vi home, .slice none 0 0, .slice none 0 0]) :: (bif S 9 then row 50 (Gh.dec (γ := Value) (ρ 9)) ([] ++ [(⟨id, q, 0⟩ : Done)]) else row 50 (.slice none 0 0) []) :: foc 52 vL ls q.line.toNat [vi 0, vi 0, vi l.want, vi l.serial, vi l.seen, vi l.gave, vi l.given] :: blk b8 55 [.slice none 0 0, vi 0, vi 0, vi 0] :: blk b7 36 q.cells :: L) ?_
       refine dn4 ?_
       refine Jr (v := .slice none 0 0) (fun ρ S hS hB hA => by have h12 : S 12 = false := hA 12 ⟨0, rfl⟩; simp only [h12, cond_false]; exact D8 (hc := Bt pkk (by repeat (first | exact rfl | refine Da rfl ?_))) Try.isAgg29) (fun _ _ _ _ _ => rfl) ?_
       refine dn3 ?_
       refine ZbG ?_
       refine Eo (e := 50) (xs := []) (ys := [(⟨id, q, 0⟩ : Done)]) (v := (.slice none 0 0)) G7 (fun _ => rfl) (fun _ => rfl) rfl (by decide) (fun ρ R hd => (hd.dep (it := ⟨8, _, _, _, _⟩) (by repeat (first | exact List.Mem.head _ | refine List.Mem.tail _ ?_)) ⟨9, rfl⟩ (List.Mem.head _))) (by have : maxN = 16777216 := rfl; simp only [List.length_cons, List.length_nil]; omega) (fun ρ g S hS hB hA => ?_) ?_
       ·have ui : upS S 9 9 = true := rfl; have u12 : upS S 9 12 = S 12 := rfl; have h12 : S 12 = false := hA 12 ⟨0, rfl⟩; have rs : (Gh.dec (γ := Value) (Rho.set ρ 9 (Gh.enc g) 9)) = g := rfl
        simp only [ui, hS, u12, h12, rs, cond_true, cond_false]
        exact pex
       refine dn2 ?_
       refine D3 (T0 := 110) (f := 7) (vs := fun ρ => [vL, vi q0.kind, vi q0.line, vi q0.value, vi id, vi home, .slice none 0 0, .slice none 0 0]) (v := fun ρ => (Gh.dec (γ := Value) (ρ 9))) (fun ρ => b68) Try.sizeOf29 (fun _ => rfl) (fun _ => rfl) (fun ρ S R w L9 hB hd hs => by have h9 : S 9 = true := hB 9 ⟨9, rfl⟩; simp only [h9, cond_true] at hs; exact Bm pkk hs) (fun _ => rfl) (fun ρ g S hS hB hA => ?_) ?_
       ·have ui : upS S 12 12 = true := rfl; have u9 : upS S 12 9 = S 9 := rfl; have r9 : Rho.set ρ 12 g 9 = ρ 9 := rfl
        simp only [ui, hS, u9, r9, cond_true, cond_false]
        exact pex
       refine dnl ?_; intro ρ
       refine xq_ (blk b68 110 [vL, vi q0.kind, vi q0.line, vi q0.value, vi id, vi home, .slice none 0 0, (Gh.dec (γ := Value) (ρ 9))] :: row 50 (Gh.dec (γ := Value) (ρ 9)) [(⟨id, q, 0⟩ : Done)] :: foc 52 vL ls q.line.toNat [vi 0, vi 0, vi l.want, vi l.serial, vi l.seen, vi l.gave, vi l.given] :: blk b8 55 [.slice none 0 0, vi 0, vi 0, vi 0] :: blk b7 36 q.cells :: L) ?_
       generalize (Gh.dec (γ := Value) (ρ 8)) = v115
       generalize (Gh.dec (γ := Value) (ρ 9)) = v116
       refine Gl ?_
       refine JC.conseq (L' := row 52 vL (ls.set q.line.toNat ({ l with state := 0, value := 0 })) :: blk b68 110 [vL, vi q0.kind, vi q0.line, vi q0.value, vi id, vi home, .slice none 0 0, v116] :: row 50 v116 [(⟨id, q, 0⟩ : Done)] :: blk b8 55 [.slice none 0 0, vi 0, vi 0, vi 0] :: L) (fun w hs => Ae (C9 ({ l with state := 0, value := 0 }) (by unfold Line.wf An; simp only; omega) (hs.pick pkk))) ?_
       refine JC.shut (v := vL) (xs := (ls.set q.line.toNat ({ l with state := 0, value := 0 }))) .hd ?_
       refine JC.slNil Msg ?_
       refine JC.shut (v := v116) (xs := [(⟨id, q, 0⟩ : Done)]) pkk ?_
       refine cq_ (blk b8 55 [.slice none 0 0, vi 0, vi 0, vi 0] :: blk b68 110 [vL, vi q0.kind, vi q0.line, vi q0.value, vi id, vi home, .slice none 0 0, v116] :: L) ?_
       refine jd_ (fun ρ S => blk b8 55 (bif S 12 then [vL, vi q0.kind, vi q0.line, vi q0.value] else [.slice none 0 0, vi 0, vi 0, vi 0]) :: blk b68 110 [vL, vi q0.kind, vi q0.line, vi q0.value, vi id, vi home, .slice none 0 0, v116] :: L) ?_
       refine dn3 ?_
       refine K7 (v := .agg ([vL, vi q0.kind, vi q0.line, vi q0.value]).toArray) (fun _ _ => Fr (b := b68) (f := 0) (vs := [vL, vi q0.kind, vi q0.line, vi q0.value, vi id, vi home, .slice none 0 0, v116]) 4 Try.isAgg55 Try.sizeOf55) (fun _ _ _ _ _ => rfl) ?_
       refine dn8 ?_
       refine es_ 55 0 [] [] (fun ρ => b8) (fun ρ => [.slice none 0 0, vi 0, vi 0, vi 0]) (fun ρ => [vL, vi q0.kind, vi q0.line, vi q0.value]) Try.sizeOf55 ?_
       refine dn3 ?_
       refine dnl ?_; intro ρ
       refine xq_ (blk b8 55 [vL, vi q0.kind, vi q0.line, vi q0.value] :: blk b68 110 [vL, vi q0.kind, vi q0.line, vi q0.value, vi id, vi home, .slice none 0 0, v116] :: L) ?_
       refine Gl ?_
       have eb : A8 l q = { l with state := 0, value := 0 } := by unfold A8; rw [if_pos (by omega), if_neg (by omega)]
       have ed : Cl l q = true := by unfold Cl; split <;> simp <;> omega
       have et : Ek l q = 0 := by unfold Ek; rw [if_pos (by omega)]
       have er : (Aj ⟨ls, q0⟩ id home q) = (⟨ls.set q.line.toNat ({ l with state := 0, value := 0 }), q0⟩, [], [(⟨id, q, 0⟩ : Done)], 0) := by rw [R9 hl (by omega) (by omega) (by omega) (by omega) (by omega), ed, if_pos rfl, eb, et, hz]
       rw [er]
       exact I4 (vL, .slice none 0 0, v116) Try.isAgg55 Try.sizeOf55
      ·intro ht97
       refine Gl ?_
       refine ZcJ ?_
       refine Dn 119 (.bool (decide (l.state = 2 ∨ (l.state = 1 ∧ q.kind = 1)))) ?_ ?_
       ·rcases (show (l.state = 2) ∨ (l.state = 1 ∧ q.kind = 1) ∨ (l.state = 1 ∧ q.kind ≠ 1) ∨ (l.state ≠ 1 ∧ l.state ≠ 2) from by omega) with hm | hm | hm | hm
        ·refine ZI ?_
         refine C8 ?_
         refine Ga13 ?_
         exact ZcO
        ·refine ZI ?_
         refine A4 ?_
         refine ZQ ?_
         refine C8 ?_
         refine ZF ?_
         refine C8 ?_
         refine Ga3 ?_
         exact ZcO
        ·refine ZcJ ?_
         refine ZI ?_
         refine A4 ?_
         refine ZQ ?_
         refine C8 ?_
         refine ZF ?_
         refine A4 ?_
         refine Ga3 ?_
         exact Zdb
        ·refine ZI ?_
         refine A4 ?_
         refine ZQ ?_
         refine A4 ?_
         refine Ga7 ?_
         exact Zdb
       ·refine Bc ?_
        first | (refine cdx (p := ?p3) (hd := ?d3) ?e3 ?_ ?_; case e3 => exact rfl) | (refine Cc (b := ?b3) ?e3 ?_ ?_; case e3 => exact rfl)
        ·intro ht119
         refine ZbF ?_
         refine Zai ?_
         refine kp [7, 8, 9, 10, 11, 12, 137, 138] ?_
         refine ZA ?_
         refine Ak Try.call50 rfl (fun w hs => K9 (vL := vL) (vo := .slice none 0 0) (vd := .slice none 0 0) (q := q) (q0 := q0) (id := id) (home := home) (ls := ls) (l := l) (ds := []) (bk := b68) (LX := blk b8 55 [.slice none 0 0, vi 0, vi 0, vi 0] :: blk b7 36 q.cells :: L) (Ae hs) hl (by omega) (by omega) hid hhome (by simp) hq (by omega) (by omega)) ?_; intro v139
         refine J.conseq (L' := row 52 vL (ls.set q.line.toNat ({ l with value := (Be l.value q).1 })) :: blk b68 110 [vL, vi 0, vi 0, vi 0, vi id, vi home, .slice none 0 0, v139] :: row 50 v139 [(⟨id, q, (Be l.value q).2⟩ : Done)] :: blk b8 55 [.slice none 0 0, vi 0, vi 0, vi 0] :: L) (fun w hs => by rw [List.nil_append] at hs; exact Ae hs) ?_
         refine Gl ?_
         refine cq_ (row 52 vL (ls.set q.line.toNat ({ l with value := (Be l.value q).1 })) :: blk b68 110 [vL, vi 0, vi 0, vi 0, vi id, vi home, .slice none 0 0, v139] :: row 50 v139 [(⟨id, q, (Be l.value q).2⟩ : Done)] :: blk b8 55 [.slice none 0 0, vi 0, vi 0, vi 0] :: L) ?_
         refine JC.shut (v := vL) (xs := (ls.set q.line.toNat ({ l with value := (Be l.value q).1 }))) .hd ?_
         refine JC.slNil Msg ?_
         refine JC.shut (v := v139) (xs := [(⟨id, q, (Be l.value q).2⟩ : Done)]) pkk ?_
         refine cq_ (blk b8 55 [.slice none 0 0, vi 0, vi 0, vi 0] :: blk b68 110 [vL, vi 0, vi 0, vi 0, vi id, vi home, .slice none 0 0, v139] :: L) ?_
         refine jd_ (fun ρ S => blk b8 55 (bif S 12 then [vL, vi 0, vi 0, vi 0] else [.slice none 0 0, vi 0, vi 0, vi 0]) :: blk b68 110 [vL, vi 0, vi 0, vi 0, vi id, vi home, .slice none 0 0, v139] :: L) ?_
         refine dn3 ?_
         refine K7 (v := .agg ([vL, vi 0, vi 0, vi 0]).toArray) (fun _ _ => Fr (b := b68) (f := 0) (vs := [vL, vi 0, vi 0, vi 0, vi id, vi home, .slice none 0 0, v139]) 4 Try.isAgg55 Try.sizeOf55) (fun _ _ _ _ _ => rfl) ?_
         refine Zc7 ?_
         refine dn3 ?_
         refine dnl ?_; intro ρ
         refine xq_ (blk b8 55 [vL, vi 0, vi 0, vi 0] :: blk b68 110 [vL, vi 0, vi 0, vi 0, vi id, vi home, .slice none 0 0, v139] :: L) ?_
         refine Gl ?_
         have eb : A8 l q = { l with value := (Be l.value q).1 } := by unfold A8; rw [if_neg (by omega), if_pos (by omega)]
         have ed : Cl l q = true := by unfold Cl; split <;> simp <;> omega
         have et : Ek l q = (Be l.value q).2 := by unfold Ek; rw [if_neg (by omega)]
         have er : (Aj ⟨ls, q0⟩ id home q) = (⟨ls.set q.line.toNat ({ l with value := (Be l.value q).1 }), zOp⟩, [], [(⟨id, q, (Be l.value q).2⟩ : Done)], 0) := by rw [R9 hl (by omega) (by omega) (by omega) (by omega) (by omega), ed, if_pos rfl, eb, et]
         rw [er]
         exact I4 (vL, .slice none 0 0, v139) Try.isAgg55 Try.sizeOf55
        ·intro ht119
         refine Gl ?_
         refine kp [7, 8, 9, 10, 11, 12, 140, 141, 142, 143] ?_
         refine Aa ?_
         refine Ga4 ?_
         refine cdy ?_ ?_
         ·intro ht140
          refine ZbF ?_
          refine ZV ?_
          refine ZA ?_
          refine Ak Try.call49 rfl (fun w hs => Td (vL := vL) (vo := .slice none 0 0) (vd := .slice none 0 0) (q := q) (q0 := q0) (id := id) (home := home) (ls := ls) (l := l) (ms := []) (want := 1) (bk := b68) (LX := blk b8 55 [.slice none 0 0, vi 0, vi 0, vi 0] :: blk b7 36 q.cells :: L) (Ae hs) hl (by omega) (by omega) hid hhome (by simp) (by first | omega | (simp only; omega)) (by unfold An; omega)) ?_; intro v146
          refine J.conseq (L' := row 52 vL (ls.set q.line.toNat ({ l with want := 1, serial := l.serial + 1 })) :: blk b68 110 [vL, vi q.kind, vi q.line, vi q.value, vi id, vi home, v146, .slice none 0 0] :: row 115 v146 [Cp ({ l with want := 1, serial := l.serial + 1 }) id home q.line] :: blk b8 55 [.slice none 0 0, vi 0, vi 0, vi 0] :: L) (fun w hs => by rw [List.nil_append] at hs; exact Ae hs) ?_
          refine Gl ?_
          refine cq_ (row 52 vL (ls.set q.line.toNat ({ l with want := 1, serial := l.serial + 1 })) :: blk b68 110 [vL, vi q.kind, vi q.line, vi q.value, vi id, vi home, v146, .slice none 0 0] :: row 115 v146 [Cp ({ l with want := 1, serial := l.serial + 1 }) id home q.line] :: blk b8 55 [.slice none 0 0, vi 0, vi 0, vi 0] :: L) ?_
          refine JC.shut (v := vL) (xs := (ls.set q.line.toNat ({ l with want := 1, serial := l.serial + 1 }))) .hd ?_
          refine JC.shut (v := v146) (xs := [Cp ({ l with want := 1, serial := l.serial + 1 }) id home q.line]) pkk ?_
          refine Zaa ?_
          refine cq_ (blk b8 55 [.slice none 0 0, vi 0, vi 0, vi 0] :: blk b68 110 [vL, vi q.kind, vi q.line, vi q.value, vi id, vi home, v146, .slice none 0 0] :: L) ?_
          refine jd_ (fun ρ S => blk b8 55 (bif S 12 then [vL, vi q.kind, vi q.line, vi q.value] else [.slice none 0 0, vi 0, vi 0, vi 0]) :: blk b68 110 [vL, vi q.kind, vi q.line, vi q.value, vi id, vi home, v146, .slice none 0 0] :: L) ?_
          refine dn3 ?_
          refine K7 (v := .agg ([vL, vi q.kind, vi q.line, vi q.value]).toArray) (fun _ _ => Fr (b := b68) (f := 0) (vs := [vL, vi q.kind, vi q.line, vi q.value, vi id, vi home, v146, .slice none 0 0]) 4 Try.isAgg55 Try.sizeOf55) (fun _ _ _ _ _ => rfl) ?_
          refine Zbb ?_
          refine dn3 ?_
          refine dnl ?_; intro ρ
          refine xq_ (blk b8 55 [vL, vi q.kind, vi q.line, vi q.value] :: blk b68 110 [vL, vi q.kind, vi q.line, vi q.value, vi id, vi home, v146, .slice none 0 0] :: L) ?_
          refine Gl ?_
          have eb : A8 l q = { l with want := 1, serial := l.serial + 1 } := by unfold A8; rw [if_neg (by omega), if_neg (by omega), if_pos (by omega)]
          have ed : Cl l q = false := by unfold Cl; split <;> simp <;> omega
          have er : (Aj ⟨ls, q0⟩ id home q) = (⟨ls.set q.line.toNat ({ l with want := 1, serial := l.serial + 1 }), q⟩, [Cp ({ l with want := 1, serial := l.serial + 1 }) id home q.line], [], 0) := by rw [R9 hl (by omega) (by omega) (by omega) (by omega) (by omega), ed, if_neg (by decide), eb]
          rw [er]
          exact I4 (vL, v146, .slice none 0 0) Try.isAgg55 Try.sizeOf55
         ·intro ht140
          refine ZbF ?_
          refine ZV ?_
          refine ZA ?_
          refine Ak Try.call49 rfl (fun w hs => Td (vL := vL) (vo := .slice none 0 0) (vd := .slice none 0 0) (q := q) (q0 := q0) (id := id) (home := home) (ls := ls) (l := l) (ms := []) (want := 2) (bk := b68) (LX := blk b8 55 [.slice none 0 0, vi 0, vi 0, vi 0] :: blk b7 36 q.cells :: L) (Ae hs) hl (by omega) (by omega) hid hhome (by simp) (by first | omega | (simp only; omega)) (by unfold An; omega)) ?_; intro v79
          refine J.conseq (L' := row 52 vL (ls.set q.line.toNat ({ l with want := 2, serial := l.serial + 1 })) :: blk b68 110 [vL, vi q.kind, vi q.line, vi q.value, vi id, vi home, v79, .slice none 0 0] :: row 115 v79 [Cp ({ l with want := 2, serial := l.serial + 1 }) id home q.line] :: blk b8 55 [.slice none 0 0, vi 0, vi 0, vi 0] :: L) (fun w hs => by rw [List.nil_append] at hs; exact Ae hs) ?_
          refine Gl ?_
          refine cq_ (row 52 vL (ls.set q.line.toNat ({ l with want := 2, serial := l.serial + 1 })) :: blk b68 110 [vL, vi q.kind, vi q.line, vi q.value, vi id, vi home, v79, .slice none 0 0] :: row 115 v79 [Cp ({ l with want := 2, serial := l.serial + 1 }) id home q.line] :: blk b8 55 [.slice none 0 0, vi 0, vi 0, vi 0] :: L) ?_
          refine JC.shut (v := vL) (xs := (ls.set q.line.toNat ({ l with want := 2, serial := l.serial + 1 }))) .hd ?_
          refine JC.shut (v := v79) (xs := [Cp ({ l with want := 2, serial := l.serial + 1 }) id home q.line]) pkk ?_
          refine Zaa ?_
          refine cq_ (blk b8 55 [.slice none 0 0, vi 0, vi 0, vi 0] :: blk b68 110 [vL, vi q.kind, vi q.line, vi q.value, vi id, vi home, v79, .slice none 0 0] :: L) ?_
          refine jd_ (fun ρ S => blk b8 55 (bif S 12 then [vL, vi q.kind, vi q.line, vi q.value] else [.slice none 0 0, vi 0, vi 0, vi 0]) :: blk b68 110 [vL, vi q.kind, vi q.line, vi q.value, vi id, vi home, v79, .slice none 0 0] :: L) ?_
          refine dn3 ?_
          refine K7 (v := .agg ([vL, vi q.kind, vi q.line, vi q.value]).toArray) (fun _ _ => Fr (b := b68) (f := 0) (vs := [vL, vi q.kind, vi q.line, vi q.value, vi id, vi home, v79, .slice none 0 0]) 4 Try.isAgg55 Try.sizeOf55) (fun _ _ _ _ _ => rfl) ?_
          refine Zbb ?_
          refine dn3 ?_
          refine dnl ?_; intro ρ
          refine xq_ (blk b8 55 [vL, vi q.kind, vi q.line, vi q.value] :: blk b68 110 [vL, vi q.kind, vi q.line, vi q.value, vi id, vi home, v79, .slice none 0 0] :: L) ?_
          refine Gl ?_
          have eb : A8 l q = { l with want := 2, serial := l.serial + 1 } := by unfold A8; rw [if_neg (by omega), if_neg (by omega), if_neg (by omega)]
          have ed : Cl l q = false := by unfold Cl; split <;> simp <;> omega
          have er : (Aj ⟨ls, q0⟩ id home q) = (⟨ls.set q.line.toNat ({ l with want := 2, serial := l.serial + 1 }), q⟩, [Cp ({ l with want := 2, serial := l.serial + 1 }) id home q.line], [], 0) := by rw [R9 hl (by omega) (by omega) (by omega) (by omega) (by omega), ed, if_neg (by decide), eb]
          rw [er]
          exact I4 (vL, v79, .slice none 0 0) Try.isAgg55 Try.sizeOf55
theorem Xd {u : Value} {c : Core} {id home : Int} (hs : St (L) R w) (hu : sl u c.lines ∈ R) (hn4 : c.lines.length ≤ 100) (hid : An id) (hhome : An home) : Calls Try.prog 60 [.agg (c.cells u).toArray, vi id, vi home].toArray w (Cd (fun v : Value => v) (fun v => L) (fun v => sl v (Eb c id home) :: R)) := by
 obtain ⟨ls, q⟩ := c
 have hu : sl u ls ∈ R := hu
 have hn4 : ls.length ≤ 100 := hn4
 have hone0 : u.oneCell' = true := isSlice.one (hs.fact hu)
 refine Ah Try.func60 rfl Try.ntmps60 rfl hs ?_
 clear hs
 refine Gm ?_
 refine bx ?_; intro b3
 refine Za0 ?_
 refine Zch ?_;intro vL honeV
 refine bx ?_; intro b14
 refine Ga1 ?_
 refine cq_ (row 52 vL ls :: blk b14 110 [vL, vi q.kind, vi q.line, vi q.value, vi id, vi home, .slice none 0 0, .slice none 0 0] :: L) ?_
 refine Aa ?_
 refine Ga7 ?_
 refine ZV ?_
 refine Bs (γ := Nat × Value) (fun g => g.1 ≤ ls.length) (fun g => blk b14 110 [vL, vi q.kind, vi q.line, vi q.value, vi id, vi home, g.2, .slice none 0 0] :: row 52 vL ls :: row 115 g.2 (Bl id home 0 (ls.take g.1)) :: L) (fun _ => R) (fun g => [(7, bp b14 0), (20, vi (ls.length : Int)), (21, vi (g.1 : Int))]) (fun g => ls.length - g.1) (0, .slice none 0 0) (Nat.zero_le _) alT (fun w hs => Ae hs) ?_
 rintro ⟨k, vs⟩ hk9
 try simp only at hk9 ⊢
 have htl := Ql id home (ls.take k) 0
 rw [List.length_take] at htl
 refine ZB ?_
 refine cdy ?_ ?_
 ·intro ht22
  refine ZD ?_
  obtain ⟨l, hl⟩ : ∃ l, ls.getD ((k : Int)).toNat zLine = l := ⟨_, rfl⟩
  refine Hj (ls := ls) (l := l) (i := (k : Int)) pkk hl (by omega) (by omega) (fun hlw hA => ?_)
  have hlw0 := hlw
  unfold Line.wf An at hlw0
  have honeL : (ep vL 7 (k : Int).toNat 0).oneCell' = true := hA.one
  refine ZaA ?_
  refine ob (Ks (v := vL) (i := (k : Int)) Lo (hl := C3 (α := Line) (xs := ls) pkk)) ?_
  refine Ga3 ?_
  refine cdy ?_ ?_
  ·intro ht33
   refine JC.conseq (L' := row 52 vL ls :: blk b14 110 [vL, vi q.kind, vi q.line, vi q.value, vi id, vi home, vs, .slice none 0 0] :: row 115 vs (Bl id home 0 (ls.take k)) :: L) (fun w hs => Ae (D1 hl hlw (hs.pick pkk))) ?_
   refine ZA ?_
   refine Ak Try.call65 rfl (fun w hs => R3 (vL := vL) (vd := .slice none 0 0) (q := q) (id := id) (home := home) (ms := Bl id home 0 (ls.take k)) (line := (k : Int)) (ls := ls) (l := l) (LX := L) (Ae hs) hl (by omega) (by omega) (by omega) hid hhome) ?_; intro v36
   refine Gl ?_
   refine kp [6, 7, 8, 20, 21, 22, 23, 24, 25, 26, 27, 28, 29, 30, 31, 32, 33, 34, 35, 37] ?_
   refine Zaq ?_
   refine A7 (k + 1, v36) (by show k + 1 ≤ ls.length; omega) (by show ls.length - (k + 1) < ls.length - k; omega) alT (fun w hs => ?_)
   try simp only
   rw [Hu zLine (by omega), Kn, show ls.getD k zLine = l from hl, if_pos ht33, List.length_take, Nat.min_eq_left (by omega), Int.zero_add]
   exact Ae hs
  ·intro ht33
   refine ZD ?_
   refine A7 (k + 1, vs) (by show k + 1 ≤ ls.length; omega) (by show ls.length - (k + 1) < ls.length - k; omega) alT (fun w hs => ?_)
   try simp only
   rw [Hu zLine (by omega), Kn, show ls.getD k zLine = l from hl, if_neg ht33, List.append_nil]
   exact Ae (D1 hl hlw (hs.pick pkk))
 ·intro ht22
  refine Gl ?_
  refine JC.shut (v := vs) (xs := Bl id home 0 (ls.take k)) pkk ?_
  refine Aa ?_
  refine Ga5 ?_
  have hkl : k = ls.length := by omega
  rw [show Eb ⟨ls, q⟩ id home = Bl id home 0 (ls.take k) from by rw [hkl, List.take_length]; rfl]
  exact Bq vs
theorem Aen {lines : Int} (hs : St (L) R w) (hl : 0 ≤ lines ∧ lines ≤ 4) : Calls Try.prog 34 [vi lines].toArray w (Cd (fun v : Value => .agg (Core.cells v (Dw lines)).toArray) (fun v => L) (fun v => sl v (Dw lines).lines :: R)) := by
 refine Ah Try.func34 rfl Try.ntmps34 rfl hs ?_
 clear hs
 refine Gm ?_
 refine al_ (cs := [.slice none 0 0, vi 0, vi 0, vi 0]) Try.zeroValue55 ?_; intro b2
 refine ZJ ?_
 refine ob (q_mx (a := lines) rfl (by omega)) ?_
 refine Ue (α := Line) (x0 := zLine) (zc := zLine.cells) Akj rfl (by decide) rfl rfl rfl (fun j => ⟨rfl, by unfold Line.wf An; decide⟩) (by omega) (by omega) ?_; intro v5
 refine J.shut .hd ?_
 refine J.know (p := v5.oneCell' = true) (fun w hs => isSlice.one (hs.fact (.head _))) (fun honev5 => ?_)
 refine rn1 ?_
 refine s_B (cs := [v5, vi 0, vi 0, vi 0]) Try.sizeOf55 ?_
 refine Gl ?_
 exact Wg v5 Try.isAgg55 Try.sizeOf55
section
variable {P : Program} {T : TypeId} {s k : Int}
theorem Sa (h2 : 0 ≤ k) (h3 : k < 4) (w : World) : (binOp .shl T (vi 1) (vi k)).run P w = .ok (vi ((2 ^ k.toNat : Nat) : Int)) w := by
 rcases (show k = 0 ∨ k = 1 ∨ k = 2 ∨ k = 3 by omega) with g | g | g | g <;> subst g <;> rfl
theorem Nl (h0 : 0 ≤ s) (h1 : s < 16) (h2 : 0 ≤ k) (h3 : k < 4) (w : World) : (binOp .andNot T (vi s) (vi ((2 ^ k.toNat : Nat) : Int))).run P w = .ok (vi (Gg s k)) w := by
 exact ZcN
theorem b_orB (h0 : 0 ≤ s) (h1 : s < 16) (h2 : 0 ≤ k) (h3 : k < 4) (w : World) : (binOp .or T (vi s) (vi ((2 ^ k.toNat : Nat) : Int))).run P w = .ok (vi (Hv s k)) w := by
 exact ZcN
theorem Aar (h0 : 0 ≤ s) (h1 : s < 16) (h2 : 0 ≤ k) (h3 : k < 4) (w : World) : (binOp .shr T (vi s) (vi k)).run P w = .ok (vi ((s.toNat / 2 ^ k.toNat : Nat) : Int)) w := by
 exact ZcN
theorem Tp (h0 : 0 ≤ s) (h1 : s < 16) (h2 : 0 ≤ k) (h3 : k < 4) (w : World) : (binOp .and T (vi ((s.toNat / 2 ^ k.toNat : Nat) : Int)) (vi 1)).run P w = .ok (vi (if Nu s k then 1 else 0)) w := by
 exact ZcN
theorem Zg (h0 : 0 ≤ s) (h1 : s < 16) (hk : Jw s ≤ k) (h2 : 0 ≤ k) (h3 : k < 4) : Nu s k = false := by
 revert hk
 rcases (show s = 0 ∨ s = 1 ∨ s = 2 ∨ s = 3 ∨ s = 4 ∨ s = 5 ∨ s = 6 ∨ s = 7 ∨ s = 8 ∨ s = 9 ∨ s = 10 ∨ s = 11 ∨ s = 12 ∨ s = 13 ∨ s = 14 ∨ s = 15 by omega) with h | h | h | h | h | h | h | h | h | h | h | h | h | h | h | h <;> rcases (show k = 0 ∨ k = 1 ∨ k = 2 ∨ k = 3 by omega) with g | g | g | g <;> subst h <;> subst g <;> intro hk <;> first | rfl | (exfalso; revert hk; decide)
end
theorem Jf {e : Entry} {line id : Int} {k : Nat} : Ex e line id (k + 1) = Ex e line id k ++ (if Nu e.need (k : Int) then [⟨4, id, (k : Int), line, 0, e.turn, 0, false⟩] else []) := by
 unfold Nu
 rw [Int.toNat_natCast]
 cases h : e.need.toNat.testBit k with
 | true => rw [V3 h, if_pos rfl]
 | false => rw [Yf h]; simp
theorem Oc {e : Entry} {line id : Int} (he : EB e) : ∀ j : Nat, (Jw e.need).toNat + j ≤ 4 → Ex e line id ((Jw e.need).toNat + j) = Ex e line id (Jw e.need).toNat
 | 0, _ => rfl
 | j + 1, h => by
  have ih := Oc (line := line) (id := id) he j (by omega)
  have hl : 0 ≤ Jw e.need := by unfold Jw; split <;> (try split) <;> (try split) <;> (try split) <;> omega
  rw [← Nat.add_assoc, Jf, Zg he.2.2.1.1 he.2.2.1.2 (by omega) (by omega) (by omega), ih]; simp
theorem Yz {s : Int} : 0 ≤ Jw s ∧ Jw s ≤ 4 := by unfold Jw; split <;> (try split) <;> (try split) <;> (try split) <;> omega
theorem Sm {e : Entry} {line id : Int} (he : EB e) : Ex e line id (Jw e.need).toNat = Ex e line id 4 := by
 have h := Yz (s := e.need)
 have := Oc (line := line) (id := id) he (4 - (Jw e.need).toNat) (by omega)
 rw [← this]; congr 1; omega
theorem Pi {LX : List Chunk} {R : List Fact} {w : World} {vh vo u : Value} {i bk : Nat} {e : Entry} {ms : List Msg} {line id : Int} {kind to serial value : Int} {al : Bool} (hs : St (blk bk 140 [(ep vh 10 i 0), vi line, vi id, vo] :: row 115 vo ms :: LX) R w) (hE : Cw LX R (ep vh 10 i 0) (Entry.cells u e)) (hA : EpAll vh 10 i) (hn : ms.length ≤ 1000) (hwf : (⟨kind, id, to, line, serial, e.turn, value, al⟩ : Msg).wf) : Calls Try.prog 79 [bp bk 0, vi kind, vi to, vi serial, vi value, .bool al].toArray w (Cd (fun v : Value => .tuple #[]) (fun v => blk bk 140 [(ep vh 10 i 0), vi line, vi id, v] :: row 115 v (ms ++ [(⟨kind, id, to, line, serial, e.turn, value, al⟩ : Msg)]) :: LX) (fun v => R)) := by
 refine Ah Try.func79 rfl Try.ntmps79 rfl hs ?_
 clear hs
 refine cq_ (blk bk 140 [(ep vh 10 i 0), vi line, vi id, vo] :: row 115 vo ms :: LX) ?_
 refine jd_ (fun ρ S => blk bk 140 (bif S 30 then [(ep vh 10 i 0), vi line, vi id, (Gh.dec (γ := Value) (ρ 27))] else [(ep vh 10 i 0), vi line, vi id, vo]) :: (bif S 27 then row 115 (Gh.dec (γ := Value) (ρ 27)) (ms ++ [(⟨kind, id, to, line, serial, e.turn, value, al⟩ : Msg)]) else row 115 vo ms) :: (LX)) ?_
 refine dn4 ?_
 refine Jr (v := vo) (fun ρ S hS hB hA => by have h30 : S 30 = false := hA 30 ⟨0, rfl⟩; simp only [h30, cond_false]; exact D8 (hc := Bt pkk (by repeat (first | exact rfl | refine Da rfl ?_))) Try.isAgg90) (fun _ _ _ _ _ => rfl) ?_
 refine dn4 ?_
 refine Jr (v := vi id) (fun ρ S hS hB hA => by have h30 : S 30 = false := hA 30 ⟨0, rfl⟩; simp only [h30, cond_false]; exact D8 (hc := Bt pkk (by repeat (first | exact rfl | refine Da rfl ?_))) Try.isAgg3) (fun _ _ _ _ _ => rfl) ?_
 refine dn4 ?_
 refine Jr (v := vi line) (fun ρ S hS hB hA => by have h30 : S 30 = false := hA 30 ⟨0, rfl⟩; simp only [h30, cond_false]; exact D8 (hc := Bt pkk (by repeat (first | exact rfl | refine Da rfl ?_))) Try.isAgg3) (fun _ _ _ _ _ => rfl) ?_
 refine dn4 ?_
 refine Jr (v := (ep vh 10 i 0)) (fun ρ S hS hB hA => by have h30 : S 30 = false := hA 30 ⟨0, rfl⟩; simp only [h30, cond_false]; exact D8 (hc := Bt pkk (by repeat (first | exact rfl | refine Da rfl ?_))) Try.isAgg137) (fun _ _ _ _ _ => rfl) ?_
 first | refine epc (fun _ _ => q_nb) ?_ | refine epc (fun _ _ => q_ne) ?_ | refine epp (fun _ _ => q_nb) ?_ | refine epp (fun _ _ => q_ne) ?_
 first | refine epc (fun _ _ => Xw M8) ?_ | refine epc (fun _ _ => Xv M8) ?_ | refine epp (fun _ _ => Xw M8) ?_ | refine epp (fun _ _ => Xv M8) ?_
 first | refine epc (fun _ _ => D8 Try.isAgg3) ?_ | refine epp (fun _ _ => D8 Try.isAgg3) ?_
 refine dn2 ?_
 first | refine epc (fun _ _ => Fg C7) ?_ | refine epc (fun _ _ => Fs C7) ?_ | refine epp (fun _ _ => Fg C7) ?_ | refine epp (fun _ _ => Fs C7) ?_
 refine Lr ([(⟨kind, id, to, line, serial, e.turn, value, al⟩ : Msg)] : List Msg) Nf rfl (fun _ => rfl) rfl (fun _ => rfl) rfl rfl (fun ρ R hd => Yj hwf) (fun _ _ _ _ _ => rfl) ?_
 refine Eo (e := 115) (xs := ms) (ys := [(⟨kind, id, to, line, serial, e.turn, value, al⟩ : Msg)]) (v := vo) Nf (fun _ => rfl) (fun _ => rfl) rfl (by decide) (fun ρ R hd => (hd.dep (it := ⟨26, _, _, _, _⟩) (by repeat (first | exact List.Mem.head _ | refine List.Mem.tail _ ?_)) ⟨9, rfl⟩ (List.Mem.head _))) (by have : maxN = 16777216 := rfl; simp only [List.length_cons, List.length_nil]; omega) (fun ρ g S hS hB hA => ?_) ?_
 ·have ui : upS S 27 27 = true := rfl; have u30 : upS S 27 30 = S 30 := rfl; have h30 : S 30 = false := hA 30 ⟨0, rfl⟩; have rs : (Gh.dec (γ := Value) (Rho.set ρ 27 (Gh.enc g) 27)) = g := rfl
  simp only [ui, hS, u30, h30, rs, cond_true, cond_false]
  exact pex
 refine dn2 ?_
 refine D3 (T0 := 140) (f := 3) (vs := fun ρ => [(ep vh 10 i 0), vi line, vi id, vo]) (v := fun ρ => (Gh.dec (γ := Value) (ρ 27))) (fun ρ => bk) Try.sizeOf90 (fun _ => rfl) (fun _ => rfl) (fun ρ S R w L9 hB hd hs => by have h27 : S 27 = true := hB 27 ⟨9, rfl⟩; simp only [h27, cond_true] at hs; exact Bm pkk hs) (fun _ => rfl) (fun ρ g S hS hB hA => ?_) ?_
 ·have ui : upS S 30 30 = true := rfl; have u27 : upS S 30 27 = S 27 := rfl; have r27 : Rho.set ρ 30 g 27 = ρ 27 := rfl
  simp only [ui, hS, u27, r27, cond_true, cond_false]
  exact pex
 refine dnl ?_; intro ρ
 refine xq_ (blk bk 140 [(ep vh 10 i 0), vi line, vi id, (Gh.dec (γ := Value) (ρ 27))] :: row 115 (Gh.dec (γ := Value) (ρ 27)) (ms ++ [(⟨kind, id, to, line, serial, e.turn, value, al⟩ : Msg)]) :: (LX)) ?_
 generalize (Gh.dec (γ := Value) (ρ 26)) = v38
 generalize (Gh.dec (γ := Value) (ρ 27)) = v39
 refine A1 (.inl rfl) (fun B w hs => Gf rfl _ w) (fun w hs => ⟨v39, rfl, Ae hs⟩)
theorem Xx {s : Int} (h0 : 0 ≤ s) (h1 : s < 16) : IntKind.u64.wrap s = s := by
 rcases (show s = 0 ∨ s = 1 ∨ s = 2 ∨ s = 3 ∨ s = 4 ∨ s = 5 ∨ s = 6 ∨ s = 7 ∨ s = 8 ∨ s = 9 ∨ s = 10 ∨ s = 11 ∨ s = 12 ∨ s = 13 ∨ s = 14 ∨ s = 15 by omega) with h | h | h | h | h | h | h | h | h | h | h | h | h | h | h | h <;> subst h <;> rfl
theorem H8 {LX : List Chunk} {R : List Fact} {w : World} {vh vo u : Value} {i bk : Nat} {e : Entry} {ms : List Msg} {line id : Int} (hs : St (blk bk 140 [(ep vh 10 i 0), vi line, vi id, vo] :: row 115 vo ms :: LX) R w) (hE : Cw LX R (ep vh 10 i 0) (Entry.cells u e)) (hA : EpAll vh 10 i) (hn : ms.length ≤ 500) (hb : EB e) (hl : An line) (hid : An id) : Calls Try.prog 77 [bp bk 0].toArray w (Cd (fun v : Value => .tuple #[]) (fun v => blk bk 140 [(ep vh 10 i 0), vi line, vi id, v] :: row 115 v (ms ++ E9 e line id) :: LX) (fun v => R)) := by
 have hb0 := hb
 unfold EB Entry.wf An at hb0
 unfold An at hl hid
 refine Ah Try.func77 rfl Try.ntmps77 rfl hs ?_
 clear hs
 refine Gm ?_
 refine Gb7 ?_
 refine Ga2 ?_
 refine cdy ?_ ?_
 ·intro ht11
  refine ZM ?_
  refine Ga7 ?_
  refine Cc (b := ?b2) ?e2 ?_ ?_; case e2 => exact rfl
  ·intro ht19
   refine Aa ?_
   refine Gb1 ?_
   refine rn9 ?_
   refine Ak Try.call79 rfl (fun w hs => Pi (e := e) (ms := ms) (kind := 6) (to := e.owner) (serial := 0) (value := 0) (al := false) hs hE hA (by omega) (by unfold Msg.wf An; simp only; omega)) ?_; intro v29
   refine Gl ?_
   have er : E9 e line id = [⟨6, id, e.owner, line, 0, e.turn, 0, false⟩] := by unfold E9; rw [if_pos ht11, ht19]; rfl
   exact ZdZ
  ·intro ht19
   refine Gm ?_
   refine rn9 ?_
   refine Ak Try.call79 rfl (fun w hs => Pi (e := e) (ms := ms) (kind := 5) (to := e.owner) (serial := 0) (value := 0) (al := false) hs hE hA (by omega) (by unfold Msg.wf An; simp only; omega)) ?_; intro v29
   refine Gl ?_
   have er : E9 e line id = [⟨5, id, e.owner, line, 0, e.turn, 0, false⟩] := by unfold E9; rw [if_pos ht11, ht19]; rfl
   exact ZdZ
 ·intro ht11
  refine ZD ?_
  refine cdy ?_ ?_
  ·intro ht30
   refine Gm ?_
   refine rn7 ?_
   refine ob (Aw (v := .int .u64 e.need) Try.underlying3 Try.underlying134 rfl (by rw [show IntKind.u64.wrap e.need = e.need from Xx hb0.2.2.1.1 hb0.2.2.1.2])) ?_
   refine Ak Try.call80 rfl (fun w hs => Ale hs hb0.2.2.1.1 hb0.2.2.1.2) ?_; intro _
   refine Ga1 ?_
   have hlb := Yz (s := e.need)
   refine Bs (γ := Nat × Value) (fun g => (g.1 : Int) ≤ Jw e.need) (fun g => blk bk 140 [(ep vh 10 i 0), vi line, vi id, g.2] :: row 115 g.2 (ms ++ Ex e line id g.1) :: LX) (fun _ => R) (fun g => [(0, bp bk 0), (40, vi (Jw e.need)), (41, vi (g.1 : Int))]) (fun g => (Jw e.need).toNat - g.1) (0, vo) (by show (0 : Int) ≤ Jw e.need; omega) alT (fun w hs => by have e0 : Ex e line id 0 = [] := rfl; rw [e0, List.append_nil]; exact hs) ?_
   rintro ⟨k, vs⟩ hk
   try simp only at hk ⊢
   have hsl := V4 e line id k
   refine ZB ?_
   refine cdy ?_ ?_
   ·intro ht42
    refine Gm ?_
    refine Gb2 ?_
    refine rn8 ?_
    refine ob (Fz (a := e.need) (b := (k : Int)) (Aar hb0.2.2.1.1 hb0.2.2.1.2 (by omega) (by omega))) ?_
    refine ob (Fz (a := ((e.need.toNat / 2 ^ (k : Int).toNat : Nat) : Int)) (b := 1) (Tp hb0.2.2.1.1 hb0.2.2.1.2 (by omega) (by omega))) ?_
    refine Ga1 ?_
    refine cdy ?_ ?_
    ·intro ht54
     refine kp [0, 3, 10, 40, 41, 42, 43, 44, 45, 46, 47, 48, 49, 50, 51, 52, 53, 54, 55, 56] ?_
     refine ZA ?_
     refine Ak Try.call79 rfl (fun w hs => Pi (e := e) (ms := (ms ++ Ex e line id k)) (kind := 4) (to := (k : Int)) (serial := 0) (value := 0) (al := false) hs hE hA (by simp only [List.length_append]; omega) (by unfold Msg.wf An; simp only; omega)) ?_; intro v57
     refine ZD ?_
     refine A7 (k + 1, v57) (by show ((k + 1 : Nat) : Int) ≤ Jw e.need; omega) (by show (Jw e.need).toNat - (k + 1) < (Jw e.need).toNat - k; omega) alT (fun w hs => ?_)
     try simp only
     have hb9 : Nu e.need (k : Int) = true := by revert ht54; cases Nu e.need (k : Int) <;> simp
     rw [Jf, hb9, if_pos rfl, ← List.append_assoc]; exact Ae hs
    ·intro ht54
     refine Gl ?_
     refine kp [0, 3, 10, 40, 41, 42, 43, 44, 45, 46, 47, 48, 49, 50, 51, 52, 53, 54, 55, 56, 58] ?_
     refine Zaq ?_
     refine A7 (k + 1, vs) (by show ((k + 1 : Nat) : Int) ≤ Jw e.need; omega) (by show (Jw e.need).toNat - (k + 1) < (Jw e.need).toNat - k; omega) alT (fun w hs => ?_)
     try simp only
     have hb9 : Nu e.need (k : Int) = false := by revert ht54; cases Nu e.need (k : Int) <;> simp
     rw [Jf, hb9, if_neg (by decide), List.append_nil]; exact Ae hs
   ·intro ht42
    refine Gl ?_
    have hk4 : k = (Jw e.need).toNat := by omega
    subst hk4
    have er : E9 e line id = Ex e line id (Jw e.need).toNat := by rw [Sm hb, V5 ht30]
    rw [er]
    refine A1 (.inl rfl) (fun B w hs => Gf rfl _ w) (fun w hs => ⟨vs, rfl, Ae hs⟩)
  ·intro ht30
   refine ZD ?_
   refine cdy ?_ ?_
   ·intro ht59
    refine Bv ?_
    refine dn29 ?_
    refine dtl ?_; intro ρ
    refine Ak Try.call79 rfl (fun w hs => Pi (e := e) (ms := ms) (kind := 7) (to := e.who) (serial := e.serial) (value := e.value) (al := e.alone) hs hE hA (by omega) (by unfold Msg.wf An; simp only; omega)) ?_; intro v90
    refine Gl ?_
    have er : E9 e line id = [⟨7, id, e.who, line, e.serial, e.turn, e.value, e.alone⟩] := by unfold E9; rw [if_neg ht11, if_neg ht30, if_pos ht59]
    rw [er]
    refine A1 (.inl rfl) (fun B w hs => Gf rfl _ w) (fun w hs => ⟨v90, rfl, Ae hs⟩)
   ·intro ht59
    refine Gl ?_
    have er : E9 e line id = [] := by unfold E9; rw [if_neg ht11, if_neg ht30, if_neg ht59]
    rw [er, List.append_nil]
    refine A1 (.inl rfl) (fun B w hs => Gf rfl _ w) (fun w hs => ⟨vo, rfl, Ae hs⟩)
end Go.Proofs.Ytkgijpngobgfjaa
