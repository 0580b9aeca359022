/- This file proves parts of what its law needs: each part is told ahead of it. No conditions. -/
import Derived.Test.YtkgijpngobgfjaaLM4
import Derived.Test.YtkgijpngobgfjaaLM2
import Derived.MapKept
set_option linter.unusedVariables false
set_option linter.unusedSimpArgs false
namespace Go.Proofs.Ytkgijpngobgfjaa
open Abs
structure SameR (n nl : Nat) (x y : Chip) : Prop where
 li : ∀ j q, lin y j q = lin x j q
 en : ∀ j, j < nl → SameE n (ent x j) (ent y j) (lin x j)
theorem SameR.lin' {n nl : Nat} {x y : Chip} (h : SameR n nl x y) (j : Nat) : lin y j = lin x j := funext (h.li j)
theorem SameR.refl (n nl : Nat) (x : Chip) : SameR n nl x x := ⟨fun _ _ => rfl, fun _ _ => .refl ..⟩
theorem SameR.trans {n nl : Nat} {x y z : Chip} (h : SameR n nl x y) (g : SameR n nl y z) : SameR n nl x z :=
 ⟨fun j q => (g.li j q).trans (h.li j q), fun j hj => (h.en j hj).trans (by have := g.en j hj; rw [h.lin' j] at this; exact this)⟩
theorem SameR.phi {n nl : Nat} {x y : Chip} (h : SameR n nl x y) : Phi n nl y = Phi n nl x := by
 unfold Phi
 exact Fe fun i hi => by rw [h.lin' i]; exact (h.en i hi).faL
def Said (b : List UInt8) (fs gs : Frames) : Prop := ∃ s, gs = way fs s ∧ (s = [] ∨ (frW b = 2 ∧ ∃ m', s = [m'] ∧ 8 ≤ m'.kind ∧ m'.kind ≤ 11))
section
variable {n nl : Nat} {x y : Chip} {M : List Int}
theorem Yl {i : Nat} (hi : i < nl) (ho : ∀ j, j ≠ i → faL n (ent y j) (lin y j) = faL n (ent x j) (lin x j)) : Phi n nl y + faL n (ent x i) (lin x i) = Phi n nl x + faL n (ent y i) (lin y i) :=
 Hc (f := fun j => faL n (ent y j) (lin y j)) (g := fun j => faL n (ent x j) (lin x j)) hi (fun j _ hj => ho j hj)
theorem Va (h : Inv n nl x M) {b : List UInt8} {fs : Frames} (hd : GoDoes n nl x y b fs) :
  (SameR n nl x y ∧ Said b fs y.frames) ∨ (Phi n nl y + 1 ≤ Phi n nl x ∧ Said b fs y.frames) ∨ (Phi n nl y + 2 ≤ Phi n nl x ∧ ∃ m p i e' s, Ad (Cz n nl) b = (m, 0) ∧ p < n ∧ i < nl ∧ m.src = p ∧ m.dst = n ∧ m.line = i ∧ (∀ j q, lin y j q = lin x j q) ∧ (∀ j, ent y j = if j = i then e' else ent x j) ∧ y.frames = way fs s ∧ s = E9 e' m.line n ∧ (1 ≤ e'.phase ∧ e'.phase ≤ 3) ∧ HomeDoes n (ent x i) (lin x i) p m e' s) := by
 cases hd with
 | bad hp hc hh hf => exact .inl ⟨⟨hc, fun j _ => by rw [hh]; exact .refl ..⟩, [], hf, .inl rfl⟩
 | home m p i e' s hm hp hi h1 h2 h3 hc hh hf hd =>
  have hlf : ∀ j, lin y j = lin x j := fun j => funext (hc j)
  have hph := Yl (n := n) (nl := nl) (x := x) (y := y) hi (fun j hj => by rw [hh, if_neg hj, hlf])
  rw [hh, if_pos rfl, hlf] at hph
  have hsd : (s = [] ∨ (m.kind = 3 ∧ s = [Jy n m])) → Said b fs y.frames := fun hs => ⟨s, hf, by
   rcases hs with hs | ⟨hk, hs⟩
   ·exact .inl hs
   ·exact .inr ⟨G6 hm (by omega), _, hs, by unfold Jy; simp only; omega⟩⟩
  rcases Aeg h hp hi hd with ⟨g1, g2⟩ | ⟨g1, g2⟩ | ⟨g1, g2, g3⟩
  ·refine .inl ⟨⟨hc, fun j hj => ?_⟩, hsd g2⟩
   rw [hh]; split
   ·rename_i e; rw [e]; exact g1
   ·exact .refl ..
  ·exact .inr (.inl ⟨by omega, hsd g2⟩)
  ·exact .inr (.inr ⟨by omega, m, p, i, e', s, hm, hp, hi, h1, h2, h3, hc, hh, hf, g2, g3, hd⟩)
 | core m p i l' s hm hp hi h1 h2 h3 hc hh hf hd =>
  have hsd : Said b fs y.frames := ⟨s, hf, by
   cases hd with
   | no hl h4 h5 h7 h7' hs h11 =>
    rcases hs with hs | ⟨hk, m', e, hk'⟩
    ·exact .inl hs
    ·exact .inr ⟨G6 hm (by omega), m', e, by omega⟩
   | inv hk h0 hn hmm hl hl' hw hse hs => exact .inr ⟨G6 hm (by omega), _, hs, by unfold Ba; simp only; omega⟩
   | fet hk h0 ho hmm hl hl' hw hse hs => exact .inr ⟨G6 hm (by omega), _, hs, by unfold Ba; simp only; omega⟩
   | grant hk h0 ho hmm hl hw0 hla hms hl' hw hse hs => exact .inr ⟨G6 hm (by omega), _, hs, by unfold Ba; simp only; omega⟩
   | tak hk hw0 hmm hl' hw hse hs => exact .inl hs⟩
  have hly : lin y i = V1 (lin x i) p l' := funext fun q => by
   rw [hc]; unfold V1
   by_cases e : q = p
   ·rw [if_pos ⟨e, rfl⟩, if_pos e]
   ·rw [if_neg (fun h => e h.1), if_neg e]
  have hlo : ∀ j, j ≠ i → lin y j = lin x j := fun j hj => funext fun q => by rw [hc, if_neg (fun h => hj h.2)]
  rcases Aeh h hp hi hd with g | g
  ·refine .inl ⟨⟨fun j q => ?_, fun j _ => by rw [hh]; exact .refl ..⟩, hsd⟩
   rw [hc]; split
   ·rename_i e; rw [g, e.1, e.2]
   ·rfl
  ·have hph := Yl (n := n) (nl := nl) (x := x) (y := y) hi (fun j hj => by rw [hh, hlo j hj])
   rw [hh, hly] at hph
   exact .inr (.inl ⟨by omega, hsd⟩)
theorem Pl (h : Inv n nl x M) {b : List UInt8} {fs : Frames} (hd : GoDoes n nl x y b fs) : SameR n nl x y ∨ Phi n nl y + 1 ≤ Phi n nl x := by
 rcases Va h hd with ⟨g, _⟩ | ⟨g, _⟩ | ⟨g, _⟩
 ·exact .inl g
 ·exact .inr g
 ·exact .inr (by omega)
def Il (n nl : Nat) (x : Chip) (m : Msg) : Prop := ∃ i p : Nat, i < nl ∧ p < n ∧ m.line = i ∧
 ((m.src = p ∧ m.dst = n ∧ (((m.kind = 1 ∨ m.kind = 2) ∧ (ent x i).phase = 0 ∧ (lin x i p).want ≠ 0 ∧ m.serial = (lin x i p).serial ∧ Cb (ent x i) p < (lin x i p).serial) ∨
   (m.kind = 3 ∧ (ent x i).phase = 0 ∧ (lin x i p).want ≠ 0 ∧ m.serial = (lin x i p).serial ∧ Cb (ent x i) p < (lin x i p).serial) ∨
   (m.kind = 9 ∧ (ent x i).phase = 1 ∧ m.turn = (ent x i).turn ∧ (ent x i).owner = p) ∨ (m.kind = 8 ∧ (ent x i).phase = 2 ∧ m.turn = (ent x i).turn ∧ Cm (ent x i).need p = 1) ∨ (m.kind = 10 ∧ (ent x i).phase = 3 ∧ m.turn = (ent x i).turn ∧ (ent x i).who = p))) ∨
  (m.src = n ∧ m.dst = p ∧ ((m.kind = 4 ∧ (lin x i p).seen < m.turn) ∨ ((m.kind = 5 ∨ m.kind = 6) ∧ m.turn = (ent x i).turn ∧ (ent x i).phase = 1 ∧ (ent x i).owner = p ∧ (lin x i p).seen ≠ (ent x i).turn) ∨
   (m.kind = 7 ∧ m.serial = (lin x i p).serial ∧ ((lin x i p).want = 1 ∨ (lin x i p).want = 2) ∧ (lin x i p).seen ≠ (ent x i).turn) ∨ (m.kind = 11 ∧ (lin x i p).want = 3 ∧ m.serial = (lin x i p).serial))))
theorem Q6 (h : SameR n nl x y) {m : Msg} (hl : Il n nl x m) : Il n nl y m := by
 obtain ⟨i, p, hi, hp, h1, h2⟩ := hl
 have hE := h.en i hi
 refine ⟨i, p, hi, hp, h1, ?_⟩
 rw [h.li i p, hE.ph, hE.tu, hE.ow, hE.wh, hE.nd]
 have hla := hE.la p hp
 rcases h2 with ⟨a, b, c⟩ | h2
 ·refine .inl ⟨a, b, ?_⟩
  rcases c with ⟨c1, c2, c3, c4, c5⟩ | ⟨c1, c2, c3, c4, c5⟩ | c
  ·exact .inl ⟨c1, c2, c3, c4, (hla c3).2 c5⟩
  ·exact .inr (.inl ⟨c1, c2, c3, c4, (hla c3).2 c5⟩)
  ·exact .inr (.inr c)
 ·exact .inr h2
theorem Acp (h : Inv n nl x M) {b : List UInt8} {fs : Frames} (hd : GoDoes n nl x y b fs) {m : Msg} (hm : Ad (Cz n nl) b = (m, 0)) (hl : Il n nl x m) : Phi n nl y + 1 ≤ Phi n nl x := by
 rcases Pl h hd with hs | hs
 ·exfalso
  obtain ⟨i, p, hi, hp, l1, l2⟩ := hl
  have hE := hs.en i hi
  have hly := hs.li i p
  cases hd with
  | bad hp0 hc hh hf => rw [hm] at hp0; exact hp0 rfl
  | home m0 p0 i0 e' s hm0 hp0 hi0 h1 h2 h3 hc hh hf hd =>
   rw [hm] at hm0; cases hm0
   have e : i = i0 := by omega
   subst e
   rw [hh, if_pos rfl] at hE
   have hla := hE.la p hp
   rcases l2 with ⟨a, b', c⟩ | ⟨a, b', c⟩
   ·have e : p = p0 := by omega
    subst e
    have hci := (h.ci i hi p hp).la
    cases hd with
    | no hS hs hk3 h12 h9 h8 h10 hge =>
     rcases c with ⟨c1, c2, c3, c4, c5⟩ | ⟨c1, c2, c3, c4, c5⟩ | ⟨c1, c2, c3, c4⟩ | ⟨c1, c2, c3, c4⟩ | ⟨c1, c2, c3, c4⟩
     ·have := h12 c1 c2; omega
     ·exact hk3 c1 c2
     ·exact h9 c1 c2 c3 c4
     ·exact h8 c1 c2 c3 c4
     ·exact h10 c1 c2 c3 c4
    | late hkk h0 hS hs hl hge =>
     rcases c with ⟨c1, c2, c3, c4, c5⟩ | ⟨c1, c2, c3, c4, c5⟩ | ⟨c1, c2, c3, c4⟩ | ⟨c1, c2, c3, c4⟩ | ⟨c1, c2, c3, c4⟩
     ·omega
     ·have := (hla c3).2 c5; omega
     ·omega
     ·omega
     ·omega
    | put hkk h0 hw hmm hl h0' hl' ho ht hs => have := (hla (by omega)).2 hl; omega
    | get h0 hw hkk hmm hl h0' hl' ho ht hwho hse hnw hs => have := hE.ph; omega
    | data hkk h0 ho hmm h0' hl' ht hwho hse hs => have := hE.ph; omega
    | gone hkk h0 hnn hmm h0' hnd hl' ht hwho hse hs => have := hnd p; rw [hE.nd, if_pos rfl] at this; omega
    | all hkk h0 hnn hmm h0' hl' ht hwho hse hs => have := hE.ph; omega
    | thanks hkk h0 hw hmm h0' hl' ht hs => have := hE.ph; omega
   ·omega
  | core m0 p0 i0 l' s hm0 hp0 hi0 h1 h2 h3 hc hh hf hd =>
   rw [hm] at hm0; cases hm0
   have e : i = i0 := by omega
   subst e
   rcases l2 with ⟨a, b', c⟩ | ⟨a, b', c⟩
   ·omega
   ·have e : p = p0 := by omega
    subst e
    rw [hc, if_pos ⟨rfl, rfl⟩] at hly
    subst hly
    cases hd with
    | no hl h4 h5 h7 h7' hs h11 =>
     rcases c with ⟨c1, c2⟩ | ⟨c1, c2, c3, c4, c5⟩ | ⟨c1, c2, c3, c4⟩ | ⟨c1, c2, c3⟩
     ·have := (h4 c1).1; omega
     ·exact c5 ((h5 c1).1 c2 c3 c4)
     ·rcases h7' c1 c2 with g | g | g
      ·omega
      ·omega
      ·exact c4 g
     ·exact h11 c1 ⟨c2, c3⟩
    | inv hk h0 hn hmm hl hl' hw hse hs => omega
    | fet hk h0 ho hmm hl hl' hw hse hs => omega
    | grant hk h0 ho hmm hl hw0 hla hms hl' hw hse hs => omega
    | tak hk hw0 hmm hl' hw hse hs => omega
 ·exact hs
def Ahb (n nl : Nat) (x : Chip) : Prop := (∀ i, i < nl → ∀ m ∈ E9 (ent x i) i n, msgBytes m ∈ x.frames) ∧ ∀ i p, i < nl → p < n → (lin x i p).want ≠ 0 → msgBytes (Cp (lin x i p) p n i) ∈ x.frames
theorem S1 (h : Inv n nl x M) (hT : Ahb n nl x) (hk : K3 n nl x []) {i : Nat} (hi : i < nl) (h0 : (ent x i).phase ≠ 0) : Has n nl x.frames (Il n nl x) := by
 have hgi := h.gi i hi
 have hph := hgi.ph
 have hwh := hgi.whor h0
 have hown := hgi.own
 have hf1 := hgi.f1
 simp only [ab] at hph hwh hown hf1
 have no : ∀ P : Msg → Prop, ¬ Has n nl [] P := fun P ⟨b, h1, _⟩ => absurd h1 (by simp)
 have said : ∀ m ∈ E9 (ent x i) i n, Il n nl x m → Has n nl x.frames (Il n nl x) := fun m hm hl => E6 h (hT.1 i hi m hm) (Kq h hi m hm).1 hl
 rcases (show (ent x i).phase = 1 ∨ (ent x i).phase = 2 ∨ (ent x i).phase = 3 by omega) with h1 | h1 | h1
 ·obtain ⟨p, hp⟩ : ∃ p : Nat, (ent x i).owner = p := ⟨(ent x i).owner.toNat, by have := hf1 h1; omega⟩
  have hpn : p < n := by omega
  by_cases hs : (lin x i p).seen = (ent x i).turn
  ·rcases (hk i p hi hpn).1 h1 hp hs with g | g
   ·exact g.imp fun m hm => ⟨i, p, hi, hpn, hm.2.2.2.1, .inl ⟨hm.2.1, hm.2.2.1, .inr (.inr (.inl ⟨hm.1, h1, hm.2.2.2.2, hp⟩))⟩⟩
   ·exact absurd g (no _)
  ·refine said _ (by unfold E9; rw [if_pos h1]; exact List.mem_singleton.2 rfl) ⟨i, p, hi, hpn, rfl, .inr ⟨rfl, hp, .inr (.inl ⟨?_, rfl, h1, hp, hs⟩)⟩⟩
   simp only; split
   ·exact .inr rfl
   ·exact .inl rfl
 ·obtain ⟨_, p, hpn, hnd⟩ := hgi.c2 h1
  have hnd : Cm (ent x i).need p = 1 := hnd
  by_cases hs : (lin x i p).seen = (ent x i).turn
  ·rcases (hk i p hi hpn).2.1 h1 hnd hs with g | g
   ·exact g.imp fun m hm => ⟨i, p, hi, hpn, hm.2.2.2.1, .inl ⟨hm.2.1, hm.2.2.1, .inr (.inr (.inr (.inl ⟨hm.1, h1, hm.2.2.2.2, hnd⟩)))⟩⟩
   ·exact absurd g (no _)
  ·have hga := (h.ci i hi p hpn).ga
   simp only [ab] at hga
   have hn := h.n1
   refine said ⟨4, n, (p : Int), i, 0, (ent x i).turn, 0, false⟩ ?_ ⟨i, p, hi, hpn, rfl, .inr ⟨rfl, rfl, .inl ⟨rfl, by simp only; omega⟩⟩⟩
   unfold E9; rw [if_neg (by omega), if_pos h1]
   refine List.mem_map.2 ⟨(p : Int), List.mem_filter.2 ⟨?_, (H9 _ _).2 hnd⟩, rfl⟩
   have : p = 0 ∨ p = 1 ∨ p = 2 ∨ p = 3 := by omega
   rcases this with e | e | e | e <;> subst e <;> simp
 ·obtain ⟨p, hp⟩ : ∃ p : Nat, (ent x i).who = p := ⟨(ent x i).who.toNat, by omega⟩
  have hpn : p < n := by omega
  by_cases hs : (lin x i p).seen = (ent x i).turn
  ·rcases (hk i p hi hpn).2.2 h1 hp hs with g | g
   ·exact g.imp fun m hm => ⟨i, p, hi, hpn, hm.2.2.2.1, .inl ⟨hm.2.1, hm.2.2.1, .inr (.inr (.inr (.inr ⟨hm.1, h1, hm.2.2.2.2, hp⟩)))⟩⟩
   ·exact absurd g (no _)
  ·have hcur := (h.ci i hi p hpn).cur h0 hp
   have hal := hgi.al
   simp only [ab] at hcur hal
   refine said ⟨7, n, (ent x i).who, i, (ent x i).serial, (ent x i).turn, (ent x i).value, (ent x i).alone⟩ (by unfold E9; rw [if_neg (by omega), if_neg (by omega), if_pos h1]; exact List.mem_singleton.2 rfl) ⟨i, p, hi, hpn, rfl, .inr ⟨rfl, hp, .inr (.inr (.inl ⟨rfl, ?_, ?_, hs⟩))⟩⟩
   ·simp only; omega
   ·omega
theorem Yw (h : Inv n nl x M) (hT : Ahb n nl x) (hk : K4 n nl x []) (hz : ∀ i, i < nl → (ent x i).phase = 0) {i p : Nat} (hi : i < nl) (hp : p < n) (hw : (lin x i p).want ≠ 0) : Has n nl x.frames (Il n nl x) := by
 have hci := h.ci i hi p hp
 have hla := hci.la
 have hwa := hci.wa
 have htk := hci.taken
 simp only [ab] at hla htk
 have hlE : Cb (ent x i) p = (ent x i).last.getD p 0 := rfl
 have ask : Il n nl x (Cp (lin x i p) p n i) → Has n nl x.frames (Il n nl x) := fun hl => E6 h (hT.2 i p hi hp hw) (Abb h hp hi hw).1 hl
 have h0 := hz i hi
 by_cases h3 : (lin x i p).want = 3
 ·by_cases hl : Cb (ent x i) p < (lin x i p).serial
  ·exact ask ⟨i, p, hi, hp, rfl, .inl ⟨rfl, rfl, .inr (.inl ⟨h3, h0, hw, rfl, hl⟩)⟩⟩
  ·rcases hk i p hi hp h3 (by omega) with g | ⟨b, g, _⟩
   ·exact g.imp fun m hm => ⟨i, p, hi, hp, hm.2.2.2.1, .inr ⟨hm.2.1, hm.2.2.1, .inr (.inr (.inr ⟨hm.1, h3, hm.2.2.2.2⟩))⟩⟩
   ·exact absurd g (by simp)
 ·have hl : Cb (ent x i) p < (lin x i p).serial := by
   refine Int.not_le.1 fun hc => ?_
   exact (htk (by omega) (by omega)).1 h0
  exact ask ⟨i, p, hi, hp, rfl, .inl ⟨rfl, rfl, .inl ⟨by unfold Cp; simp only; omega, h0, hw, rfl, hl⟩⟩⟩
end
end Go.Proofs.Ytkgijpngobgfjaa
namespace Go.Proofs.Ytkgijpngobgfjaa
open Abs
def Qa (f : Nat → Int) : Nat → Int
 | 0 => 0
 | k + 1 => Qa f k + f k
theorem Je {f g : Nat → Int} : ∀ {k : Nat}, (∀ i, i < k → f i ≤ g i) → Qa f k ≤ Qa g k
 | 0, _ => Int.le_refl _
 | k + 1, h => by
  have h1 := Je (k := k) (fun i hi => h i (by omega))
  have h2 := h k (by omega)
  simp only [Qa]; omega
theorem X4 {f g : Nat → Int} {p : Nat} : ∀ {k : Nat}, p < k → (∀ i, i < k → f i ≤ g i) → f p < g p → Qa f k + 1 ≤ Qa g k
 | 0, h, _, _ => absurd h (by omega)
 | k + 1, hp, h, hl => by
  have h2 := h k (by omega)
  simp only [Qa]
  by_cases e : p = k
  ·subst e
   have h1 := Je (k := p) (fun i hi => h i (by omega)); omega
  ·have := X4 (k := k) (show p < k by omega) (fun i hi => h i (by omega)) hl; omega
def TI (n nl : Nat) (B : Int) (x : Chip) : Prop := ∀ i, i < nl → (ent x i).turn ≤ Qa (fun p => Cb (ent x i) p) n ∧ Qa (fun p => (lin x i p).serial) n ≤ B
section
variable {n nl : Nat} {x y : Chip} {M : List Int} {B : Int}
theorem TI.turn (h : Inv n nl x M) (hB : B < 65535) (ht : TI n nl B x) : ∀ i, i < nl → (ent x i).turn < 65535 := by
 intro i hi
 obtain ⟨h1, h2⟩ := ht i hi
 have h3 := Je (f := fun p => Cb (ent x i) p) (g := fun p => (lin x i p).serial) (k := n) (fun p hp => (h.ci i hi p hp).la.2)
 omega
theorem Y9 {e e' : Entry} {l : Nat → Line} {p : Nat} {m : Msg} {s : List Msg} (hd : HomeDoes n e l p m e' s) : (e'.turn = e.turn ∧ ∀ q, Cb e q ≤ Cb e' q) ∨ (e'.turn = e.turn + 1 ∧ (∀ q, Cb e q ≤ Cb e' q) ∧ Cb e p < Cb e' p) := by
 cases hd with
 | no hS hs hk3 h12 h9 h8 h10 hge => exact .inl ⟨hS.tu, hge⟩
 | late hkk h0 hS hs hl hge => exact .inl ⟨hS.tu, hge⟩
 | put hkk h0 hw hmm hl h0' hl' ho ht hs =>
  refine .inl ⟨ht, fun q => ?_⟩
  by_cases e : q = p
  ·subst e; omega
  ·rw [ho q e]; exact Int.le_refl _
 | get h0 hw hkk hmm hl h0' hl' ho ht hwho hse hnw hs =>
  refine .inr ⟨ht, fun q => ?_, by omega⟩
  by_cases e : q = p
  ·subst e; omega
  ·rw [ho q e]; exact Int.le_refl _
 | data hkk h0 ho hmm h0' hl' ht hwho hse hs => exact .inl ⟨ht, fun q => by unfold Cb; rw [hl']; exact Int.le_refl _⟩
 | gone hkk h0 hnn hmm h0' hnd hl' ht hwho hse hs => exact .inl ⟨ht, fun q => by unfold Cb; rw [hl']; exact Int.le_refl _⟩
 | all hkk h0 hnn hmm h0' hl' ht hwho hse hs => exact .inl ⟨ht, fun q => by unfold Cb; rw [hl']; exact Int.le_refl _⟩
 | thanks hkk h0 hw hmm h0' hl' ht hs => exact .inl ⟨ht, fun q => by unfold Cb; rw [hl']; exact Int.le_refl _⟩
theorem Tc {e : Entry} {p : Nat} {l l' : Line} {m : Msg} {s : List Msg} (hd : CoreDoes n e p l m l' s) : l'.serial = l.serial := by
 cases hd with
 | no hl => rw [hl]
 | inv hk h0 hn hmm hl hl' hw hse hs => exact hse
 | fet hk h0 ho hmm hl hl' hw hse hs => exact hse
 | grant hk h0 ho hmm hl hw0 hla hms hl' hw hse hs => exact hse
 | tak hk hw0 hmm hl' hw hse hs => exact hse
theorem X2 {b : List UInt8} {fs : Frames} (hd : GoDoes n nl x y b fs) (ht : TI n nl B x) : TI n nl B y := by
 intro i hi
 obtain ⟨h1, h2⟩ := ht i hi
 cases hd with
 | bad hp hc hh hf => rw [hh]; simp only [hc]; exact ⟨h1, h2⟩
 | home m p0 i0 e' s hm hp0 hi0 g1 g2 g3 hc hh hf hd =>
  simp only [hc]; rw [hh]
  refine ⟨?_, h2⟩
  split
  ·rename_i e; subst e
   rcases Y9 hd with ⟨a, b'⟩ | ⟨a, b', c⟩
   ·have := Je (f := fun p => Cb (ent x i) p) (g := fun p => Cb e' p) (k := n) (fun q _ => b' q); omega
   ·have := X4 (f := fun p => Cb (ent x i) p) (g := fun p => Cb e' p) (k := n) hp0 (fun q _ => b' q) c; omega
  ·exact h1
 | core m p0 i0 l' s hm hp0 hi0 g1 g2 g3 hc hh hf hd =>
  rw [hh]
  refine ⟨h1, ?_⟩
  have := Je (f := fun p => (lin y i p).serial) (g := fun p => (lin x i p).serial) (k := n) (fun q _ => by
   rw [hc]; split
   ·rename_i e; rw [Tc hd, e.1, e.2]; exact Int.le_refl _
   ·exact Int.le_refl _)
  omega
theorem Hi {b : List UInt8} {fs : Frames} (hfr : x.frames = b :: fs) (k : Nat) : (Dv x (k + 1)).1 = (Dv (Ag x goS).1 k).1 := by
 unfold Dv
 rw [List.replicate_succ, Dq (Rm (x := x) (by rw [hfr]; simp)).1]
theorem Jm (h : Inv n nl x M) (hB : B < 65535) (ht : TI n nl B x) {b : List UInt8} {fs : Frames} (hfr : x.frames = b :: fs) : ∃ M', Inv n nl (Ag x goS).1 M' ∧ TI n nl B (Ag x goS).1 ∧ GoDoes n nl x (Ag x goS).1 b fs := by
 have hd := Zj h (ht.turn h hB) hfr
 obtain ⟨M', h', _⟩ := H6 h (Rm (x := x) (by rw [hfr]; simp)).1
 exact ⟨M', h', X2 hd ht, hd⟩
theorem Ea {b : List UInt8} {fs : Frames} (hd : GoDoes n nl x y b fs) : ∃ t, y.frames = fs ++ t := by
 cases hd with
 | bad hp hc hh hf => exact ⟨[], by rw [hf]; simp⟩
 | home m p0 i0 e' s hm hp0 hi0 g1 g2 g3 hc hh hf hd => obtain ⟨t, e, _⟩ := Hw s fs; exact ⟨t, by rw [hf, e]⟩
 | core m p0 i0 l' s hm hp0 hi0 g1 g2 g3 hc hh hf hd => obtain ⟨t, e, _⟩ := Hw s fs; exact ⟨t, by rw [hf, e]⟩
theorem Agi (hB : B < 65535) : ∀ (O N : Frames) {x : Chip} {M : List Int}, Inv n nl x M → TI n nl B x → x.frames = O ++ N → TI n nl B (Dv x O.length).1
 | [], N, x, M, h, ht, hfr => by simpa [Dv, Bu] using ht
 | b :: O, N, x, M, h, ht, hfr => by
  obtain ⟨M', h', ht', hd⟩ := Jm h hB ht (hfr.trans (List.cons_append ..))
  obtain ⟨t, e⟩ := Ea hd
  rw [List.length_cons, Hi (hfr.trans (List.cons_append ..))]
  exact Agi hB O (N ++ t) h' ht' (by rw [e, List.append_assoc])
theorem U7 (hB : B < 65535) : ∀ (O N : Frames) {x : Chip} {M : List Int}, Inv n nl x M → TI n nl B x → x.frames = O ++ N → SameR n nl x (Dv x O.length).1 ∨ Phi n nl (Dv x O.length).1 + 1 ≤ Phi n nl x
 | [], N, x, M, h, ht, hfr => .inl (by simpa [Dv, Bu] using SameR.refl n nl x)
 | b :: O, N, x, M, h, ht, hfr => by
  obtain ⟨M', h', ht', hd⟩ := Jm h hB ht (hfr.trans (List.cons_append ..))
  obtain ⟨t, e⟩ := Ea hd
  rw [List.length_cons, Hi (hfr.trans (List.cons_append ..))]
  have ih := U7 hB O (N ++ t) h' ht' (by rw [e, List.append_assoc])
  rcases Pl h hd with g | g
  ·have := g.phi
   rcases ih with k | k
   ·exact .inl (g.trans k)
   ·exact .inr (by omega)
  ·rcases ih with k | k
   ·have := k.phi; exact .inr (by omega)
   ·exact .inr (by omega)
theorem U9 (hB : B < 65535) (O N : Frames) (h : Inv n nl x M) (ht : TI n nl B x) (hfr : x.frames = O ++ N) : Phi n nl (Dv x O.length).1 ≤ Phi n nl x := by
 rcases U7 hB O N h ht hfr with g | g
 ·have := g.phi; omega
 ·omega
theorem U8 (hB : B < 65535) : ∀ (O N : Frames) {x : Chip} {M : List Int}, Inv n nl x M → TI n nl B x → x.frames = O ++ N → Has n nl O (Il n nl x) → Phi n nl (Dv x O.length).1 + 1 ≤ Phi n nl x
 | [], N, x, M, h, ht, hfr, ⟨b, hb, _⟩ => absurd hb (by simp)
 | b :: O, N, x, M, h, ht, hfr, hl => by
  obtain ⟨M', h', ht', hd⟩ := Jm h hB ht (hfr.trans (List.cons_append ..))
  obtain ⟨t, e⟩ := Ea hd
  rw [List.length_cons, Hi (hfr.trans (List.cons_append ..))]
  have le := U9 hB O (N ++ t) h' ht' (by rw [e, List.append_assoc])
  rcases Pl h hd with g | g
  ·obtain ⟨c, hc, m, hm, hlm⟩ := hl
   rcases List.mem_cons.1 hc with e2 | e2
   ·subst e2
    have := Acp h hd hm hlm; omega
   ·have ih := U8 hB O (N ++ t) h' ht' (by rw [e, List.append_assoc]) ⟨c, e2, m, hm, Q6 g hlm⟩
    have := g.phi; omega
  ·omega
theorem U4 {b : List UInt8} {O : Frames} : ∀ P : Msg → Prop, Has n nl (b :: O) P → Has n nl O P ∨ ∃ m, Ad (Cz n nl) b = (m, 0) ∧ P m := by
 intro P ⟨c, h1, m, h2, h3⟩
 exact Zdv
theorem Zf {b : List UInt8} : ∀ P : Msg → Prop, Has n nl [] P → Has n nl [] P ∨ ∃ m, Ad (Cz n nl) b = (m, 0) ∧ P m := fun P h => .inl h
theorem Agk (hB : B < 65535) : ∀ (O N : Frames) {x : Chip} {M : List Int}, Inv n nl x M → TI n nl B x → x.frames = O ++ N → (K3 n nl x O → K3 n nl (Dv x O.length).1 []) ∧ (K3 n nl x [] → K3 n nl (Dv x O.length).1 [])
 | [], N, x, M, h, ht, hfr => by simp [Dv, Bu]
 | b :: O, N, x, M, h, ht, hfr => by
  obtain ⟨M', h', ht', hd⟩ := Jm h hB ht (hfr.trans (List.cons_append ..))
  obtain ⟨t, e⟩ := Ea hd
  rw [List.length_cons, Hi (hfr.trans (List.cons_append ..))]
  have ih := Agk hB O (N ++ t) h' ht' (by rw [e, List.append_assoc])
  exact ⟨fun hk => ih.1 (Y4 h (hfr.trans (List.cons_append ..)) hd U4 hk), fun hk => ih.2 (Y4 h (hfr.trans (List.cons_append ..)) hd Zf hk)⟩
theorem Agj (hB : B < 65535) : ∀ (O N : Frames) {x : Chip} {M : List Int}, Inv n nl x M → TI n nl B x → x.frames = O ++ N → ((∀ i, i < nl → (ent x i).phase = 0) → Phi n nl (Dv x O.length).1 = Phi n nl x → K4 n nl x O → K4 n nl (Dv x O.length).1 []) ∧ (K4 n nl x [] → K4 n nl (Dv x O.length).1 [])
 | [], N, x, M, h, ht, hfr => by simp [Dv, Bu]
 | b :: O, N, x, M, h, ht, hfr => by
  obtain ⟨M', h', ht', hd⟩ := Jm h hB ht (hfr.trans (List.cons_append ..))
  obtain ⟨t, e⟩ := Ea hd
  rw [List.length_cons, Hi (hfr.trans (List.cons_append ..))]
  have ih := Agj hB O (N ++ t) h' ht' (by rw [e, List.append_assoc])
  have le := U9 hB O (N ++ t) h' ht' (by rw [e, List.append_assoc])
  refine ⟨fun hz hq hk => ?_, fun hk => ih.2 (Y3 h (hfr.trans (List.cons_append ..)) hd Zf (.inl rfl) hk)⟩
  rcases Pl h hd with g | g
  ·refine ih.1 (fun i hi => by rw [(g.en i hi).ph]; exact hz i hi) (by rw [g.phi]; exact hq) (Y3 h (hfr.trans (List.cons_append ..)) hd U4 (.inr hz) hk)
  ·omega
def P9 (n nl : Nat) (x : Chip) (i : Nat) (O : Frames) : Prop := ∃ p, p < n ∧
 (((ent x i).phase = 1 ∧ (ent x i).owner = p ∧ (lin x i p).seen < (ent x i).turn ∧ Has n nl x.frames (fun m => dnM 5 n i p (ent x i).turn m ∨ dnM 6 n i p (ent x i).turn m) ∧ ¬ Has n nl O (fun m => (m.kind = 5 ∨ m.kind = 6) ∧ m.line = i ∧ m.turn = (ent x i).turn)) ∨
  ((ent x i).phase = 2 ∧ Cm (ent x i).need p = 1 ∧ (∀ q, q < n → (lin x i q).seen < (ent x i).turn) ∧ Has n nl x.frames (dnM 4 n i p (ent x i).turn) ∧ ¬ Has n nl O (fun m => m.kind = 4 ∧ m.line = i ∧ m.turn = (ent x i).turn)) ∨
  ((ent x i).phase = 3 ∧ (ent x i).who = p ∧ (lin x i p).seen < (ent x i).turn ∧ ((lin x i p).want = 1 ∨ (lin x i p).want = 2) ∧ Has n nl x.frames (fun m => dnM 7 n i p (ent x i).turn m ∧ m.serial = (lin x i p).serial) ∧ ¬ Has n nl O (fun m => m.kind = 7 ∧ m.line = i ∧ m.dst = p ∧ m.serial = (lin x i p).serial)))
theorem W3 (h : Inv n nl x M) {i : Nat} (hi : i < nl) {O : Frames} (hf : P9 n nl x i O) : Has n nl x.frames (Il n nl x) := by
 obtain ⟨p, hp, hf⟩ := hf
 rcases hf with ⟨a, b, c, d, _⟩ | ⟨a, b, c, d, _⟩ | ⟨a, b, c, c2, d, _⟩
 ·exact d.imp fun m hm => by
   rcases hm with hm | hm
   ·exact ⟨i, p, hi, hp, hm.2.2.2.1, .inr ⟨hm.2.1, hm.2.2.1, .inr (.inl ⟨.inl hm.1, hm.2.2.2.2, a, b, by omega⟩)⟩⟩
   ·exact ⟨i, p, hi, hp, hm.2.2.2.1, .inr ⟨hm.2.1, hm.2.2.1, .inr (.inl ⟨.inr hm.1, hm.2.2.2.2, a, b, by omega⟩)⟩⟩
 ·exact d.imp fun m hm => ⟨i, p, hi, hp, hm.2.2.2.1, .inr ⟨hm.2.1, hm.2.2.1, .inl ⟨hm.1, by have := c p hp; have := hm.2.2.2.2; omega⟩⟩⟩
 ·exact d.imp fun m hm => ⟨i, p, hi, hp, hm.1.2.2.2.1, .inr ⟨hm.1.2.1, hm.1.2.2.1, .inr (.inr (.inl ⟨hm.1.1, hm.2, c2, by omega⟩))⟩⟩
theorem W2 (h : Inv n nl x M) {b : List UInt8} {fs O : Frames} (hfr : x.frames = b :: fs) (hd : GoDoes n nl x y b fs) {i : Nat} (hi : i < nl) (hf : P9 n nl x i (b :: O)) : P9 n nl y i O := by
 have noO : ∀ P : Msg → Prop, ¬ Has n nl (b :: O) P → ¬ Has n nl O P := fun P hn ho => hn (ho.mono fun c hc => List.mem_cons_of_mem _ hc)
 have nob : ∀ P : Msg → Prop, ¬ Has n nl (b :: O) P → ∀ m, Ad (Cz n nl) b = (m, 0) → ¬ P m := fun P hn m hm hp => hn ⟨b, List.mem_cons_self .., m, hm, hp⟩
 have keep : ∀ P Q : Msg → Prop, (∀ m, P m → Q m) → ¬ Has n nl (b :: O) Q → Has n nl x.frames P → Has n nl y.frames P := by
  intro P Q hPQ hn ⟨c, h1, m, h2, h3⟩
  rw [hfr] at h1
  obtain ⟨t, e⟩ := Ea hd
  rcases List.mem_cons.1 h1 with e2 | e2
  ·rw [e2] at h2; exact absurd (hPQ m h3) (nob Q hn m h2)
  ·exact ⟨c, by rw [e]; exact List.mem_append.2 (.inl e2), m, h2, h3⟩
 have mk : (ent y i).phase = (ent x i).phase → (ent y i).owner = (ent x i).owner → (ent y i).need = (ent x i).need → (ent y i).who = (ent x i).who → (ent y i).turn = (ent x i).turn → (∀ q, (lin y i q).seen = (lin x i q).seen) → (∀ q, ((lin x i q).want = 1 ∨ (lin x i q).want = 2) → (lin y i q).want = (lin x i q).want) → (∀ q, (lin y i q).serial = (lin x i q).serial) → P9 n nl y i O := by
  intro e1 e2 e3 e4 e5 e6 e7 e8
  obtain ⟨p, hp, hf⟩ := hf
  refine ⟨p, hp, ?_⟩
  rw [e1, e2, e3, e4, e5, e6, e8]
  simp only [e6]
  rcases hf with ⟨a, b', c, d, f⟩ | ⟨a, b', c, d, f⟩ | ⟨a, b', c, c2, d, f⟩
  ·exact .inl ⟨a, b', c, keep _ _ (fun m hm => by rcases hm with hm | hm <;> (unfold dnM at hm; omega)) f d, noO _ f⟩
  ·exact .inr (.inl ⟨a, b', c, keep _ _ (fun m hm => by unfold dnM at hm; omega) f d, noO _ f⟩)
  ·exact .inr (.inr ⟨a, b', c, by rw [e7 p c2]; exact c2, keep _ _ (fun m hm => by unfold dnM at hm; omega) f d, noO _ f⟩)
 cases hd with
 | bad hp hc hh hf' => exact mk (by rw [hh]) (by rw [hh]) (by rw [hh]) (by rw [hh]) (by rw [hh]) (fun q => by rw [hc]) (fun q _ => by rw [hc]) (fun q => by rw [hc])
 | home m p0 i0 e' s hm hp0 hi0 h1 h2 h3 hc hh hf' hd' =>
  by_cases hii : i = i0
  ·subst hii
   have hmi := (h.mi b (by rw [hfr]; exact List.mem_cons_self ..)).2 m hm
   have hpe : I5 n m = p0 := by unfold I5; rw [if_pos h2]; omega
   unfold MX at hmi
   rw [hpe, show m.line.toNat = i by omega] at hmi
   have hda := hmi.dat; have hgo := hmi.gon; have hth := hmi.tha
   simp only [ab] at hda
   have same : SameE n (ent x i) e' (lin x i) → P9 n nl y i O := fun hS =>
    mk (by rw [hh, if_pos rfl, hS.ph]) (by rw [hh, if_pos rfl, hS.ow]) (by rw [hh, if_pos rfl, hS.nd]) (by rw [hh, if_pos rfl, hS.wh]) (by rw [hh, if_pos rfl, hS.tu]) (fun q => by rw [hc]) (fun q _ => by rw [hc]) (fun q => by rw [hc])
   cases hd' with
   | no hS hs hk3 h12 h9 h8 h10 hge => exact same hS
   | late hkk h0 hS hs hl hge => exact same hS
   | put hkk h0 hw hmm hl h0' hl' ho ht hs => exfalso; obtain ⟨p, hp, hf⟩ := hf; omega
   | get h0 hw hkk hmm hl h0' hl' ho ht hwho hse hnw hs => exfalso; obtain ⟨p, hp, hf⟩ := hf; omega
   | data hkk h0 ho hmm h0' hl' ht hwho hse hs =>
    exfalso; obtain ⟨p, hp, hf⟩ := hf
    have := (hda hkk).1
    rcases hf with ⟨a, b', c, d, f⟩ | ⟨a, b', c, d, f⟩ | ⟨a, b', c, c2, d, f⟩
    ·have e : p = p0 := by omega
     subst e; omega
    ·omega
    ·omega
   | gone hkk h0 hnn hmm h0' hnd hl' ht hwho hse hs =>
    exfalso; obtain ⟨p, hp, hf⟩ := hf
    have := hgo hkk
    rcases hf with ⟨a, b', c, d, f⟩ | ⟨a, b', c, d, f⟩ | ⟨a, b', c, c2, d, f⟩
    ·omega
    ·have := c p0 hp0; omega
    ·omega
   | all hkk h0 hnn hmm h0' hl' ht hwho hse hs =>
    exfalso; obtain ⟨p, hp, hf⟩ := hf
    have := hgo hkk
    rcases hf with ⟨a, b', c, d, f⟩ | ⟨a, b', c, d, f⟩ | ⟨a, b', c, c2, d, f⟩
    ·omega
    ·have := c p0 hp0; omega
    ·omega
   | thanks hkk h0 hw hmm h0' hl' ht hs =>
    exfalso; obtain ⟨p, hp, hf⟩ := hf
    have := hth hkk
    rcases hf with ⟨a, b', c, d, f⟩ | ⟨a, b', c, d, f⟩ | ⟨a, b', c, c2, d, f⟩
    ·omega
    ·omega
    ·have e : p = p0 := by omega
     subst e; omega
  ·exact mk (by rw [hh, if_neg hii]) (by rw [hh, if_neg hii]) (by rw [hh, if_neg hii]) (by rw [hh, if_neg hii]) (by rw [hh, if_neg hii]) (fun q => by rw [hc]) (fun q _ => by rw [hc]) (fun q => by rw [hc])
 | core m p0 i0 l' s hm hp0 hi0 h1 h2 h3 hc hh hf' hd' =>
  by_cases hii : i = i0
  ·subst hii
   have upd : l'.seen = (lin x i p0).seen → (((lin x i p0).want = 1 ∨ (lin x i p0).want = 2) → l'.want = (lin x i p0).want) → l'.serial = (lin x i p0).serial → P9 n nl y i O := fun a1 a2 a3 => by
    refine mk (by rw [hh]) (by rw [hh]) (by rw [hh]) (by rw [hh]) (by rw [hh]) (fun q => ?_) (fun q => ?_) (fun q => ?_)
    ·rw [hc]; split
     ·rename_i e; rw [e.1]; exact a1
     ·rfl
    ·rw [hc]; split
     ·rename_i e; rw [e.1]; exact a2
     ·exact fun _ => rfl
    ·rw [hc]; split
     ·rename_i e; rw [e.1]; exact a3
     ·rfl
   cases hd' with
   | no hl => exact upd (by rw [hl]) (fun _ => by rw [hl]) (by rw [hl])
   | inv hkk h0 hnn hmm hl hl' hw hse hs =>
    exfalso; obtain ⟨p, hp, hf⟩ := hf
    rcases hf with ⟨a, b', c, d, f⟩ | ⟨a, b', c, d, f⟩ | ⟨a, b', c, c2, d, f⟩
    ·omega
    ·exact nob _ f m hm ⟨hkk, h3, hmm⟩
    ·omega
   | fet hkk h0 ho hmm hl hl' hw hse hs =>
    exfalso; obtain ⟨p, hp, hf⟩ := hf
    rcases hf with ⟨a, b', c, d, f⟩ | ⟨a, b', c, d, f⟩ | ⟨a, b', c, c2, d, f⟩
    ·exact nob _ f m hm ⟨hkk, h3, hmm⟩
    ·omega
    ·omega
   | grant hkk h0 ho hmm hl hw0 hla hms hl' hw hse hs =>
    exfalso; obtain ⟨p, hp, hf⟩ := hf
    rcases hf with ⟨a, b', c, d, f⟩ | ⟨a, b', c, d, f⟩ | ⟨a, b', c, c2, d, f⟩
    ·omega
    ·omega
    ·have e : p = p0 := by omega
     subst e
     exact nob _ f m hm ⟨hkk, h3, h2, hms⟩
   | tak hkk hw0 hmm hl' hw hse hs => exact upd hl' (fun hw1 => by omega) hse
  ·exact mk (by rw [hh]) (by rw [hh]) (by rw [hh]) (by rw [hh]) (by rw [hh]) (fun q => by rw [hc, if_neg (fun e => hii e.2)]) (fun q _ => by rw [hc, if_neg (fun e => hii e.2)]) (fun q => by rw [hc, if_neg (fun e => hii e.2)])
theorem Rk (hB : B < 65535) {i : Nat} (hi : i < nl) : ∀ (O N : Frames) {x : Chip} {M : List Int}, Inv n nl x M → TI n nl B x → x.frames = O ++ N → P9 n nl x i O → Has n nl (Dv x O.length).1.frames (Il n nl (Dv x O.length).1)
 | [], N, x, M, h, ht, hfr, hf => by simpa [Dv, Bu] using W3 h hi hf
 | b :: O, N, x, M, h, ht, hfr, hf => by
  obtain ⟨M', h', ht', hd⟩ := Jm h hB ht (hfr.trans (List.cons_append ..))
  obtain ⟨t, e⟩ := Ea hd
  rw [List.length_cons, Hi (hfr.trans (List.cons_append ..))]
  exact Rk hB hi O (N ++ t) h' ht' (by rw [e, List.append_assoc]) (W2 h (hfr.trans (List.cons_append ..)) hd hi hf)
end
end Go.Proofs.Ytkgijpngobgfjaa
namespace Go.Proofs.Ytkgijpngobgfjaa
open Abs
section
variable {n nl : Nat} {x y : Chip} {M M' : List Int} {B : Int}
theorem J2 (e : Entry) (i n : Int) (h0 : e.phase = 1 ∨ e.phase = 3 ∨ (e.phase = 2 ∧ ∃ q : Nat, q < 4 ∧ Cm e.need q = 1)) : ∃ m r, E9 e i n = m :: r := by
 unfold E9
 rcases h0 with h | h | ⟨h, q, hq, hb⟩
 ·rw [if_pos h]; exact ⟨_, _, rfl⟩
 ·rw [if_neg (by omega), if_neg (by omega), if_pos h]; exact ⟨_, _, rfl⟩
 ·rw [if_neg (by omega), if_pos h]
  have hm : (q : Int) ∈ ([0, 1, 2, 3] : List Int).filter (fun p => Nu e.need p) := by
   refine List.mem_filter.2 ⟨?_, (H9 _ _).2 hb⟩
   have : q = 0 ∨ q = 1 ∨ q = 2 ∨ q = 3 := by omega
   rcases this with e | e | e | e <;> subst e <;> simp
  cases hf : ([0, 1, 2, 3] : List Int).filter (fun p => Nu e.need p) with
  | nil => rw [hf] at hm; exact absurd hm (by simp)
  | cons a r => exact ⟨_, _, rfl⟩
theorem Zl (h : Inv n nl x M) (h' : Inv n nl y M') {b : List UInt8} {fs O : Frames} (hfr : x.frames = b :: fs) (hO : ∀ c ∈ O, c ∈ x.frames) {m : Msg} {p i : Nat} {e' : Entry} {s : List Msg} (hm : Ad (Cz n nl) b = (m, 0)) (hp : p < n) (hi : i < nl) (h1 : m.src = p) (h2 : m.dst = n) (h3 : m.line = i) (hc : ∀ j q, lin y j q = lin x j q) (hh : ∀ j, ent y j = if j = i then e' else ent x j) (hf : y.frames = way fs s) (hs : s = E9 e' m.line n)
  (hd : HomeDoes n (ent x i) (lin x i) p m e' s) : s = [] ∨ (∃ m', s = [m'] ∧ m'.kind = 11) ∨ P9 n nl y i O := by
 have hfl : fs.length < 40 := by have := h.fr; rw [hfr] at this; simp at this; omega
 have hey : ent y i = e' := by rw [hh, if_pos rfl]
 have hsay : ∀ m' r, s = m' :: r → msgBytes m' ∈ y.frames ∧ Bn (Cz n nl) m' = 0 := by
  intro m' r e
  obtain ⟨t, t1, _, _, t4, _⟩ := Hw s fs
  refine ⟨by rw [hf, t1]; exact List.mem_append.2 (.inr (t4 m' r e hfl)), ?_⟩
  refine (Kq h' hi m' ?_).1
  rw [hey, ← h3, ← hs, e]; exact List.mem_cons_self ..
 have hmi : ∀ c ∈ O, ∀ m', Ad (Cz n nl) c = (m', 0) → MX n x m' := fun c hc' m' hm' => (h.mi c (hO c hc')).2 m' hm'
 have hgi := h'.gi i hi
 rw [hey] at hgi
 have hn := h.n1
 have hga : ∀ q, q < n → (lin x i q).seen ≤ (ent x i).turn := fun q hq => (h.ci i hi q hq).ga.2.2
 have g3 : ∀ w : Nat, w < n → e'.phase = 3 → e'.who = w → (lin x i w).seen < e'.turn → ((lin x i w).want = 1 ∨ (lin x i w).want = 2) → e'.serial = (lin x i w).serial → (¬ ∃ c ∈ O, ∃ m', Ad (Cz n nl) c = (m', 0) ∧ (m'.kind = 7 ∧ m'.line = i ∧ m'.dst = w ∧ m'.serial = (lin x i w).serial)) → P9 n nl y i O := by
  intro w hw a1 a2 a3 a4 a5 a6
  refine ⟨w, hw, .inr (.inr ⟨by rw [hey]; exact a1, by rw [hey]; exact a2, by rw [hc, hey]; exact a3, by rw [hc]; exact a4, ?_, ?_⟩)⟩
  ·have es : s = [⟨7, n, e'.who, m.line, e'.serial, e'.turn, e'.value, e'.alone⟩] := by rw [hs]; unfold E9; rw [if_neg (by omega), if_neg (by omega), if_pos a1]
   obtain ⟨b1, b2⟩ := hsay _ _ es
   exact E6 h b1 b2 ⟨⟨rfl, rfl, a2, h3, by rw [hey]⟩, by rw [hc]; exact a5⟩
  ·rw [hc]; exact a6
 cases hd with
 | no hS hs' => exact .inl hs'
 | late hkk h0 hS hs' hl hge => exact .inr (.inl ⟨_, hs', rfl⟩)
 | put hkk h0 hw hmm hl h0' hl' ho ht hs' => exact .inr (.inl ⟨_, hs', rfl⟩)
 | gone hkk h0 hnn hmm h0' hnd hl' ht hwho hse hs' => exact .inl hs'
 | thanks hkk h0 hw hmm h0' hl' ht hs' => exact .inl hs'
 | get h0 hw hkk hmm hl h0' hl' ho ht hwho hse hnw hs' =>
  refine .inr (.inr ?_)
  rcases (show e'.phase = 1 ∨ e'.phase = 2 ∨ e'.phase = 3 by omega) with q1 | q1 | q1
  ·have hf1 := hgi.f1 q1; have how := hgi.own
   simp only [ab] at hf1 how
   obtain ⟨w, hw'⟩ : ∃ w : Nat, e'.owner = w := ⟨e'.owner.toNat, by omega⟩
   have hwn : w < n := by omega
   refine ⟨w, hwn, .inl ⟨by rw [hey]; exact q1, by rw [hey]; exact hw', by rw [hc, hey]; have := hga w hwn; omega, ?_, ?_⟩⟩
   ·have es : s = [⟨if e'.alone then 6 else 5, n, e'.owner, m.line, 0, e'.turn, 0, false⟩] := by rw [hs]; unfold E9; rw [if_pos q1]
    obtain ⟨b1, b2⟩ := hsay _ _ es
    refine E6 h b1 b2 ?_
    rw [hey]
    by_cases hal : e'.alone = true
    ·exact .inr ⟨by simp only [hal, if_true], rfl, hw', h3, rfl⟩
    ·exact .inl ⟨by simp only [hal]; rfl, rfl, hw', h3, rfl⟩
   ·rintro ⟨c, hc', m', hm', k1, k2, k3⟩
    have := ((hmi c hc' m' hm').fet k1).1
    rw [show m'.line.toNat = i by omega] at this
    rw [hey] at k3
    simp only [ab] at this; omega
  ·have hc2 := (hgi.c2 q1).2
   obtain ⟨q0, hq0, hb0⟩ := hc2
   have hb0 : Cm e'.need q0 = 1 := hb0
   obtain ⟨m1, r, es⟩ := J2 e' m.line n (.inr (.inr ⟨q1, q0, by omega, hb0⟩))
   have hm1 : m1 ∈ E9 e' m.line n := by rw [es]; exact List.mem_cons_self ..
   obtain ⟨b1, b2⟩ := hsay m1 r (by rw [hs, es])
   have hmw := Ec b2
   unfold E9 at hm1
   rw [if_neg (by omega), if_pos q1] at hm1
   obtain ⟨qq, hqq, rfl⟩ := List.mem_map.1 hm1
   simp only [Cz] at hmw
   obtain ⟨w, hw'⟩ : ∃ w : Nat, qq = w := ⟨qq.toNat, by omega⟩
   subst hw'
   have hwn : w < n := by
    refine Classical.byContradiction fun hc9 => ?_
    have e9 : (w : Int) = n := by omega
    apply hmw.2.2.2.2.2.2
    simp [e9]
   have hbw : Cm e'.need w = 1 := (H9 _ _).1 (List.mem_filter.1 hqq).2
   refine ⟨w, hwn, .inr (.inl ⟨by rw [hey]; exact q1, by rw [hey]; exact hbw, fun q hq => by rw [hc, hey]; have := hga q hq; omega, E6 h b1 b2 ⟨rfl, rfl, rfl, h3, by rw [hey]⟩, ?_⟩)⟩
   rintro ⟨c, hc', m', hm', k1, k2, k3⟩
   have := ((hmi c hc' m' hm').inv k1).1
   rw [show m'.line.toNat = i by omega] at this
   rw [hey] at k3
   simp only [ab] at this; omega
  ·refine g3 p hp q1 hwho (by have := hga p hp; omega) (by omega) (by omega) ?_
   rintro ⟨c, hc', m', hm', k1, k2, k3, k4⟩
   have hx := hmi c hc' m' hm'
   have hpe : I5 n m' = p := by unfold I5; rw [if_neg (by omega)]; omega
   unfold MX at hx
   rw [hpe, show m'.line.toNat = i by omega] at hx
   have := (hx.gra k1).1
   have hlE : Cb (ent x i) p = (ab (ent x i)).last p := rfl
   omega
 | data hkk h0 ho hmm h0' hl' ht hwho hse hs' =>
  refine .inr (.inr ?_)
  have hwr := (h.gi i hi).whor (by show (ent x i).phase ≠ 0; omega)
  simp only [ab] at hwr
  obtain ⟨w, hw'⟩ : ∃ w : Nat, (ent x i).who = w := ⟨(ent x i).who.toNat, by omega⟩
  have hwn : w < n := by omega
  have hcur := (h.ci i hi w hwn).cur (by show (ent x i).phase ≠ 0; omega) hw'
  have hal := (h.gi i hi).al
  simp only [ab] at hcur hal
  refine g3 w hwn h0' (by rw [hwho]; exact hw') (by omega) (by omega) (by omega) ?_
  rintro ⟨c, hc', m', hm', k1, k2, k3, k4⟩
  have hx := hmi c hc' m' hm'
  have hpe : I5 n m' = w := by unfold I5; rw [if_neg (by omega)]; omega
  unfold MX at hx
  rw [hpe, show m'.line.toNat = i by omega] at hx
  have := ((hx.gra k1).2.1 k4 (by omega)).1
  simp only [ab] at this; omega
 | all hkk h0 hnn hmm h0' hl' ht hwho hse hs' =>
  refine .inr (.inr ?_)
  have hwr := (h.gi i hi).whor (by show (ent x i).phase ≠ 0; omega)
  simp only [ab] at hwr
  obtain ⟨w, hw'⟩ : ∃ w : Nat, (ent x i).who = w := ⟨(ent x i).who.toNat, by omega⟩
  have hwn : w < n := by omega
  have hcur := (h.ci i hi w hwn).cur (by show (ent x i).phase ≠ 0; omega) hw'
  have hal := (h.gi i hi).al
  simp only [ab] at hcur hal
  refine g3 w hwn h0' (by rw [hwho]; exact hw') (by omega) (by omega) (by omega) ?_
  rintro ⟨c, hc', m', hm', k1, k2, k3, k4⟩
  have hx := hmi c hc' m' hm'
  have hpe : I5 n m' = w := by unfold I5; rw [if_neg (by omega)]; omega
  unfold MX at hx
  rw [hpe, show m'.line.toNat = i by omega] at hx
  have := ((hx.gra k1).2.1 k4 (by omega)).1
  simp only [ab] at this; omega
theorem Rv : ∀ (t : Frames), (∀ b ∈ t, frW b = 1) → Gr t = t.length
 | [], _ => rfl
 | b :: t, h => by
  have h1 := h b (List.mem_cons_self ..)
  have h2 := Rv t (fun c hc => h c (List.mem_cons_of_mem _ hc))
  simp only [Gr, List.length_cons]; omega
theorem Rl (hB : B < 65535) : ∀ (O N : Frames) {x : Chip} {M : List Int}, Inv n nl x M → TI n nl B x → x.frames = O ++ N →
  (Phi n nl (Dv x O.length).1 + 2 ≤ Phi n nl x ∧ Has n nl (Dv x O.length).1.frames (Il n nl (Dv x O.length).1)) ∨ (∃ N', (Dv x O.length).1.frames = N ++ N' ∧ N'.length + O.length ≤ Gr O ∧ Gr N' = N'.length)
 | [], N, x, M, h, ht, hfr => .inr ⟨[], by simpa [Dv, Bu] using hfr, by simp [Gr], rfl⟩
 | b :: O, N, x, M, h, ht, hfr => by
  have hfr' := hfr.trans (List.cons_append ..)
  obtain ⟨M', h', ht', hd⟩ := Jm h hB ht hfr'
  rw [List.length_cons, Hi hfr']
  have more : Said b (O ++ N) (Ag x goS).1.frames → Phi n nl (Ag x goS).1 ≤ Phi n nl x → (Phi n nl (Dv (Ag x goS).1 O.length).1 + 2 ≤ Phi n nl x ∧ Has n nl (Dv (Ag x goS).1 O.length).1.frames (Il n nl (Dv (Ag x goS).1 O.length).1)) ∨ (∃ N', (Dv (Ag x goS).1 O.length).1.frames = N ++ N' ∧ N'.length + (O.length + 1) ≤ Gr (b :: O) ∧ Gr N' = N'.length) := by
   rintro ⟨s, hs, hk⟩ hle
   obtain ⟨t, t1, t2, t3, _⟩ := Hw s (O ++ N)
   have hfy : (Ag x goS).1.frames = O ++ (N ++ t) := by rw [hs, t1, List.append_assoc]
   have htw : t.length + 1 ≤ frW b ∧ ∀ c ∈ t, frW c = 1 := by
    rcases hk with hk | ⟨k1, m', k2, k3⟩
    ·subst hk
     have : t = [] := List.length_eq_zero_iff.1 (by simpa using t2)
     subst this
     have := Zn b
     exact ⟨by simpa using this.1, by simp⟩
    ·subst k2
     refine ⟨by simp at t2; omega, fun c hc => ?_⟩
     obtain ⟨m2, e1, e2⟩ := t3 c hc
     rw [List.mem_singleton.1 e1] at e2
     rw [e2]; exact Zm _ k3
   rcases Rl hB O (N ++ t) h' ht' hfy with ⟨c1, c2⟩ | ⟨N', c1, c2, c3⟩
   ·exact .inl ⟨by omega, c2⟩
   ·refine .inr ⟨t ++ N', by rw [c1, List.append_assoc], ?_, ?_⟩
    ·simp only [List.length_append, Gr]; omega
    ·rw [Ly, Rv t htw.2, c3, List.length_append]
  rcases Va h hd with ⟨g1, g2⟩ | ⟨g1, g2⟩ | ⟨g1, m, p, i, e', s, hm, hp, hi, h1, h2, h3, hc, hh, hf, hs, hps, hd'⟩
  ·exact more g2 (by rw [g1.phi]; exact Nat.le_refl _)
  ·exact more g2 (by omega)
  ·obtain ⟨t, e⟩ := Ea hd
   have hfy : (Ag x goS).1.frames = O ++ (N ++ t) := by rw [e, List.append_assoc]
   have hsaid : (s = [] ∨ ∃ m', s = [m'] ∧ m'.kind = 11) → False := by
    intro hh'
    have hgi := h'.gi i hi
    rw [hh, if_pos rfl] at hgi
    have hn := h.n1
    have : ∃ m1 r, E9 e' m.line n = m1 :: r := by
     rcases (show e'.phase = 1 ∨ e'.phase = 2 ∨ e'.phase = 3 by omega) with q1 | q1 | q1
     ·exact J2 _ _ _ (.inl q1)
     ·obtain ⟨_, q, hq, hb⟩ := hgi.c2 q1
      exact J2 _ _ _ (.inr (.inr ⟨q1, q, by omega, hb⟩))
     ·exact J2 _ _ _ (.inr (.inl q1))
    obtain ⟨m1, r, es⟩ := this
    rcases hh' with e1 | ⟨m', e1, e2⟩
    ·rw [hs, es] at e1; exact absurd e1 (by simp)
    ·have := V2 e' m.line n m' (by rw [← hs, e1]; exact List.mem_singleton.2 rfl); omega
   rcases Zl h h' hfr' (O := O) (fun c hc' => by rw [hfr]; exact List.mem_append.2 (.inl (List.mem_cons_of_mem _ hc'))) hm hp hi h1 h2 h3 hc hh hf hs hd' with f | f | f
   ·exact absurd (.inl f) hsaid
   ·exact absurd (.inr f) hsaid
   ·refine .inl ⟨?_, Rk hB hi O (N ++ t) h' ht' hfy f⟩
    have := U9 hB O (N ++ t) h' ht' hfy; omega
end
end Go.Proofs.Ytkgijpngobgfjaa
namespace Go.Proofs.Ytkgijpngobgfjaa
open Abs
theorem Qj (id home : Int) : ∀ (l : List Line) (i : Int), (∀ k, k < l.length → (l.getD k zLine).want = 0) → Bl id home i l = []
 | [], _, _ => rfl
 | a :: l, i, h => by
  have h0 : a.want = 0 := h 0 (by simp)
  have h1 := Qj id home l (i + 1) (fun k hk => h (k + 1) (by simpa using hk))
  simp only [Bl]; rw [if_neg (fun c => c h0), h1]
theorem Qi (id home : Int) : ∀ (l : List Line) (i : Int), (∀ a b, a < l.length → b < l.length → (l.getD a zLine).want ≠ 0 → (l.getD b zLine).want ≠ 0 → a = b) → (Bl id home i l).length ≤ 1
 | [], _, _ => by simp [Bl]
 | a :: l, i, h => by
  simp only [Bl]
  by_cases h0 : a.want ≠ 0
  ·rw [if_pos h0, Qj id home l (i + 1) (fun k hk => by
    refine Classical.byContradiction fun hc => ?_
    have := h 0 (k + 1) (by simp) (by simpa using hk) h0 hc
    omega)]
   simp
  ·rw [if_neg h0]
   exact Qi id home l (i + 1) (fun a' b' ha hb h1 h2 => by
    have := h (a' + 1) (b' + 1) (by simpa using ha) (by simpa using hb) h1 h2; omega)
theorem Qk (id home : Int) : ∀ (l : List Line) (i : Int) (k : Nat), k < l.length → (l.getD k zLine).want ≠ 0 → Cp (l.getD k zLine) id home (i + k) ∈ Bl id home i l
 | [], _, _, h, _ => absurd h (by simp)
 | a :: l, i, 0, _, h => by
  have h0 : a.want ≠ 0 := h
  simp only [Bl]; rw [if_pos h0]
  have : i + ((0 : Nat) : Int) = i := by omega
  rw [this]; exact List.mem_cons_self ..
 | a :: l, i, k + 1, hk, h => by
  have ih := Qk id home l (i + 1) k (by simpa using hk) h
  have e : i + 1 + (k : Int) = i + ((k + 1 : Nat) : Int) := by omega
  rw [e] at ih
  simp only [Bl]; split
  ·exact List.mem_cons_of_mem _ ih
  ·exact ih
theorem T8 (id : Int) : ∀ (l : List Entry) (i : Int), (Ci id i l).length ≤ 4 * l.length
 | [], _ => by simp [Ci]
 | e :: l, i => by
  have := T8 id l (i + 1); have := Ye e i id
  simp only [Ci, List.length_append, List.length_cons]; omega
theorem T7 (id : Int) : ∀ (l : List Entry) (i : Int) (k : Nat), k < l.length → ∀ m ∈ E9 (l.getD k A5) (i + k) id, m ∈ Ci id i l
 | [], _, _, h, _, _ => absurd h (by simp)
 | e :: l, i, 0, _, m, hm => by
  have : i + ((0 : Nat) : Int) = i := by omega
  rw [this] at hm
  simp only [Ci]; exact List.mem_append.2 (.inl hm)
 | e :: l, i, k + 1, hk, m, hm => by
  have e2 : i + ((k + 1 : Nat) : Int) = i + 1 + (k : Int) := by omega
  rw [e2] at hm
  simp only [Ci]; exact List.mem_append.2 (.inr (T7 id l (i + 1) k (by simpa using hk) m hm))
theorem O2 (f g : Nat → Nat) : ∀ k, Fq (fun i => f i + g i) k = Fq f k + Fq g k
 | 0 => rfl
 | k + 1 => by simp only [Fq]; rw [O2 f g k]; omega
theorem Qq (f : Nat → Nat → Nat) (n : Nat) : ∀ k, Fq (fun i => Fq (fun p => f i p) n) k = Fq (fun p => Fq (fun i => f i p) k) n
 | 0 => by simp only [Fq]; exact (Qp fun _ _ => rfl).symm
 | k + 1 => by simp only [Fq]; rw [Qq f n k, ← O2]
theorem Lv (c : Nat) (f : Nat → Nat) : ∀ k, Fq (fun i => c * f i) k = c * Fq f k
 | 0 => rfl
 | k + 1 => by simp only [Fq]; rw [Lv c f k, Nat.mul_add]
theorem T3 {f : Nat → Nat} : ∀ {k : Nat}, (∀ i, i < k → f i ≤ 1) → (∀ a b, a < k → b < k → f a ≠ 0 → f b ≠ 0 → a = b) → Fq f k ≤ 1
 | 0, _, _ => by simp [Fq]
 | k + 1, h1, h2 => by
  simp only [Fq]
  by_cases h : f k = 0
  ·have := T3 (f := f) (k := k) (fun i hi => h1 i (by omega)) (fun a b ha hb => h2 a b (by omega) (by omega)); omega
  ·have := Qp (f := f) (k := k) (fun i hi => Classical.byContradiction fun hc => by have := h2 i k (by omega) (by omega) hc h; omega)
   have := h1 k (by omega); omega
theorem Qr {f g : Nat → Nat} {w d : Nat} : ∀ {k : Nat}, w < k → (∀ i, i < k → f i ≤ g i) → f w + d ≤ g w → Fq f k + d ≤ Fq g k
 | 0, h, _, _ => absurd h (by omega)
 | k + 1, hw, h, hd => by
  have h2 := h k (by omega)
  simp only [Fq]
  by_cases e : w = k
  ·subst e
   have := Kp (f := f) (g := g) (k := w) (fun i hi => h i (by omega)); omega
  ·have := Qr (k := k) (show w < k by omega) (fun i hi => h i (by omega)) hd; omega
section
variable {n nl : Nat} {x y : Chip} {M M' : List Int} {B : Int}
theorem Un (h : Inv n nl x M) {p : Nat} (hp : p < n) : ∀ a b, a < nl → b < nl → (lin x a p).want ≠ 0 → (lin x b p).want ≠ 0 → a = b := by
 intro a b ha hb h1 h2
 have w1 := (K8 (h.cw p hp) ha h1).2.1
 have w2 := (K8 (h.cw p hp) hb h2).2.1
 omega
theorem Ym (h : Inv n nl x M) : Phi n nl x ≤ 11 * n + nl := by
 let c : Nat → Nat → Nat := fun i p => if (lin x i p).want = 0 then 0 else 1
 have hA : ∀ i p, faA (ent x i) p (lin x i p) ≤ 11 * c i p := fun i p => by
  simp only [c]; unfold faA; split
  ·omega
  ·split <;> split <;> omega
 have h1 : ∀ i, i < nl → faL n (ent x i) (lin x i) ≤ 11 * Fq (c i) n + 1 := by
  intro i hi
  have hs := Kp (f := fun p => faA (ent x i) p (lin x i p)) (g := fun p => 11 * c i p) (k := n) (fun p _ => hA i p)
  rw [Lv] at hs
  by_cases h0 : (ent x i).phase = 0
  ·have : faD n (ent x i) (lin x i) = 0 := by unfold faD; rw [if_neg (by omega), if_neg (by omega), if_neg (by omega)]
   unfold faL; omega
  ·have hgi := h.gi i hi
   have hw := hgi.whor h0
   have hph := hgi.ph
   have hal := hgi.al
   simp only [ab] at hw hph hal
   obtain ⟨w, hw'⟩ : ∃ w : Nat, (ent x i).who = w := ⟨(ent x i).who.toNat, by omega⟩
   have hwn : w < n := by omega
   have hci := h.ci i hi w hwn
   have hcur := hci.cur h0 hw'
   simp only [ab] at hcur
   have hned := hci.ned
   simp only [ab] at hned
   have hlE : Cb (ent x i) w = (ent x i).last.getD w 0 := rfl
   rcases hcur.2 with ⟨k1, k2, k3⟩ | ⟨k1, k2, k3, _⟩
   ·have hf0 : faA (ent x i) w (lin x i w) = 0 := by unfold faA; rw [if_neg (by omega), if_neg (by omega), if_neg (by omega)]
    have hc1 : c i w = 1 := by simp only [c]; rw [if_neg (by omega)]
    have hd := Qr (f := fun p => faA (ent x i) p (lin x i p)) (g := fun p => 11 * c i p) (d := 11) hwn (fun p _ => hA i p) (by simp only [hf0, hc1]; omega)
    rw [Lv] at hd
    have hn := h.n1
    have hD : faD n (ent x i) (lin x i) ≤ 9 := by
     unfold faD
     split
     ·have := Og (ent x i) (lin x i (ent x i).owner.toNat); omega
     split
     ·have h5 := O1 (f := fun q => faQ (ent x i) q (lin x i q)) (w := w) (fun q => Agn _ _ _) (by
       unfold faQ; rw [if_neg]; intro hb; exact (hned hb).2.1 hw') hwn
      omega
     split
     ·have := Og (ent x i) (lin x i (ent x i).who.toNat); omega
     ·omega
    unfold faL; omega
   ·have hD : faD n (ent x i) (lin x i) = 1 := by
     unfold faD faT; rw [if_neg (by omega), if_neg (by omega), if_pos k2, show (ent x i).who.toNat = w by omega, if_pos k3]
    unfold faL; omega
 have h2 := Kp (f := fun i => faL n (ent x i) (lin x i)) (g := fun i => 11 * Fq (c i) n + 1) (k := nl) h1
 rw [O2 (fun i => 11 * Fq (c i) n) (fun _ => 1), Lv, Gx] at h2
 have h3 : Fq (fun i => Fq (c i) n) nl ≤ n := by
  have e := Qq c n nl
  rw [show (fun i => Fq (c i) n) = (fun i => Fq (fun p => c i p) n) from rfl, e]
  have := Kp (f := fun p => Fq (fun i => c i p) nl) (g := fun _ => 1) (k := n) (fun p hp => T3 (fun i _ => by simp only [c]; split <;> omega) (fun a b ha hb h1 h2 => Un h hp a b ha hb (fun e => h1 (by simp only [c]; rw [if_pos e])) (fun e => h2 (by simp only [c]; rw [if_pos e]))))
  rw [Gx] at this; omega
 unfold Phi; omega
def Hr (n : Nat) (x : Chip) (k : Nat) : List Msg := if k = n then Ei x.home n else Eb (cor x k) k n
theorem tm_eq (h : Inv n nl x M) {k : Nat} (hk : k ≤ n) : (Ag x (tmS k)).1 = ⟨x.cores, x.home, way x.frames (Hr n x k)⟩ := by
 have hn := h.nc
 have hnx : Az x = (n : Int) := by unfold Az; rw [hn]
 unfold Ag tmS
 rw [if_neg (by simp), if_neg (by simp), if_neg (by simp), if_neg (by simp), if_neg (by simp), if_pos rfl, if_neg (by simp only; rw [hnx]; omega)]
 unfold Hr
 simp only
 rw [hnx]
 by_cases e : k = n
 ·rw [if_pos (by omega), if_pos e, e]
 ·rw [if_neg (by omega), if_neg e]; rfl
theorem tm_len (h : Inv n nl x M) {k : Nat} (hk : k ≤ n) : (Hr n x k).length ≤ if k = n then 16 else 1 := by
 unfold Hr
 split
 ·have := T8 n x.home 0
  have := h.l1; have := h.nh
  unfold Ei; omega
 ·have hp : k < n := by omega
  unfold Eb
  refine Qi _ _ _ _ fun a b ha hb h1 h2 => ?_
  have hl := h.ncl k hp
  exact Un h hp a b (by rw [← hl]; exact ha) (by rw [← hl]; exact hb) h1 h2
theorem tms (h : Inv n nl y M) : ∀ k, k ≤ n + 1 → ∃ t, (I2 y k).1.frames = y.frames ++ t ∧ t.length ≤ (if k ≤ n then k else n + 16) ∧ (y.frames.length + (n + 16) ≤ 40 → ∀ j, j < k → ∀ m ∈ Hr n y j, msgBytes m ∈ t)
 | 0, _ => ⟨[], by simp [I2, Bu], by simp, fun _ j hj => absurd hj (by omega)⟩
 | k + 1, hk => by
  obtain ⟨t, t1, t2, t3⟩ := tms h k (by omega)
  have hs := Hx y k (by rw [h.nc]; omega)
  obtain ⟨Mk, hIk⟩ := Pd h k
  have hnx := (Qo (y := y) (k := k) (by rw [h.nc]; omega)).2
  have he := tm_eq hIk (k := k) (by omega)
  have hsame : Hr n (I2 y k).1 k = Hr n y k := by unfold Hr cor; rw [hs.1, hs.2.1]
  obtain ⟨u, u1, u2, u3, u4, u5⟩ := Hw (Hr n y k) (y.frames ++ t)
  have hl := tm_len h (k := k) (by omega)
  refine ⟨t ++ u, ?_, ?_, ?_⟩
  ·rw [hnx]; simp only; rw [he]; simp only; rw [hsame, t1, u1, List.append_assoc]
  ·rw [List.length_append]
   by_cases e : k = n
   ·rw [if_pos e] at hl; rw [if_neg (by omega)]; rw [if_pos (by omega)] at t2; omega
   ·rw [if_neg e] at hl; rw [if_pos (by omega)]; rw [if_pos (by omega)] at t2; omega
  ·intro hc j hj m hm
   rcases Nat.lt_or_ge j k with h1 | h1
   ·exact List.mem_append.2 (.inl (t3 hc j h1 m hm))
   ·have e : j = k := by omega
    subst e
    have hu : u = (Hr n y j).map msgBytes := u5 (by
     rw [List.length_append]
     by_cases e : j = n
     ·rw [if_pos e] at hl; rw [if_pos (by omega)] at t2; omega
     ·rw [if_neg e] at hl; rw [if_pos (by omega)] at t2; omega)
    refine List.mem_append.2 (.inr ?_)
    rw [hu]; exact List.mem_map.2 ⟨m, hm, rfl⟩
def C20 (x : Chip) : Prop := Gr x.frames ≤ x.frames.length + 20
theorem Uv {x y : Chip} (h : y.cores = x.cores) (j q : Nat) : lin y j q = lin x j q := by unfold lin cor; rw [h]
theorem Zt {x y : Chip} (h : y.home = x.home) (j : Nat) : ent y j = ent x j := by unfold ent; rw [h]
theorem Alq (h : Inv n nl x M) (ha : Ahb n nl x) : K3 n nl x x.frames := by
 intro i p hi hp
 have said : ∀ P : Msg → Prop, ∀ m ∈ E9 (ent x i) i n, P m → Has n nl x.frames P := fun P m hm hP => E6 h (ha.1 i hi m hm) (Kq h hi m hm).1 hP
 refine ⟨fun a b c => .inr ?_, fun a b c => .inr ?_, fun a b c => .inr ?_⟩
 ·refine said _ _ (by unfold E9; rw [if_pos a]; exact List.mem_singleton.2 rfl) ?_
  by_cases hal : (ent x i).alone = true
  ·exact .inr ⟨by simp only [hal, if_true], rfl, b, rfl, rfl⟩
  ·exact .inl ⟨by simp only [hal]; rfl, rfl, b, rfl, rfl⟩
 ·have hn := h.n1
  refine said _ ⟨4, n, (p : Int), i, 0, (ent x i).turn, 0, false⟩ ?_ ⟨rfl, rfl, rfl, rfl, rfl⟩
  unfold E9; rw [if_neg (by omega), if_pos a]
  refine List.mem_map.2 ⟨(p : Int), List.mem_filter.2 ⟨?_, (H9 _ _).2 b⟩, rfl⟩
  have : p = 0 ∨ p = 1 ∨ p = 2 ∨ p = 3 := by omega
  rcases this with e | e | e | e <;> subst e <;> simp
 ·exact said _ _ (by unfold E9; rw [if_neg (by omega), if_neg (by omega), if_pos a]; exact List.mem_singleton.2 rfl) ⟨rfl, rfl, b, rfl, rfl⟩
theorem Alp (h : Inv n nl x M) (ha : Ahb n nl x) : K4 n nl x x.frames := by
 intro i p hi hp a b
 refine .inr (E6 h (ha.2 i p hi hp (by omega)) (Abb h hp hi (by omega)).1 ⟨a, rfl, rfl, rfl, rfl⟩)
theorem Jh (h : Inv n nl x M) (hB : B < 65535) (ht : TI n nl B x) :
  (∃ M', Inv n nl (As x).1 M') ∧ TI n nl B (As x).1 ∧ Phi n nl (As x).1 ≤ Phi n nl x ∧
  ((Phi n nl (As x).1 + 2 ≤ Phi n nl x ∧ Has n nl (As x).1.frames (Il n nl (As x).1)) ∨ (C20 (As x).1 ∧ (C20 x → Ahb n nl (As x).1))) ∧
  (Has n nl x.frames (Il n nl x) → Phi n nl (As x).1 + 1 ≤ Phi n nl x) ∧ (K3 n nl x [] → K3 n nl (As x).1 []) ∧ (Ahb n nl x → K3 n nl (As x).1 []) ∧ (K4 n nl x [] → K4 n nl (As x).1 []) ∧
  ((∀ i, i < nl → (ent x i).phase = 0) → Phi n nl (As x).1 = Phi n nl x → Ahb n nl x → K4 n nl (As x).1 []) := by
 obtain ⟨My, hy, _⟩ := Pg h x.frames.length
 have hyc := hy.nc
 have hti := Agi hB x.frames [] h ht (by simp)
 have hle := U9 hB x.frames [] h ht (by simp)
 have hct := Rl hB x.frames [] h ht (by simp)
 have hlv := U8 hB x.frames [] h ht (by simp)
 have hk3 := Agk hB x.frames [] h ht (by simp)
 have hk4 := Agj hB x.frames [] h ht (by simp)
 generalize hY : (Dv x x.frames.length).1 = Y at *
 have hz : (As x).1 = (I2 Y (n + 1)).1 := by unfold As; simp only; rw [hY, hyc]
 obtain ⟨Mz, hzI⟩ := Pd hy (n + 1)
 have hs := Hx Y (n + 1) (by omega)
 obtain ⟨t, t1, t2, t3⟩ := tms hy (n + 1) (Nat.le_refl _)
 rw [← hz] at hzI hs t1
 generalize (As x).1 = Z at *
 have hli := Uv hs.1
 have hen := Zt hs.2.1
 have hphi : Phi n nl Z = Phi n nl Y := by unfold Phi; exact Fe fun i _ => by rw [hen, show lin Z i = lin Y i from funext (hli i)]
 have hsame : SameR n nl Y Z := ⟨hli, fun j _ => by rw [hen]; exact .refl ..⟩
 have hsub : ∀ b ∈ Y.frames, b ∈ Z.frames := fun b hb => by rw [t1]; exact List.mem_append.2 (.inl hb)
 have no : ∀ P : Msg → Prop, ¬ Has n nl [] P := fun P ⟨b, h1, _⟩ => absurd h1 (by simp)
 have k3Z : K3 n nl Y [] → K3 n nl Z [] := fun hk i p hi hp => by
  obtain ⟨a, b, c⟩ := hk i p hi hp
  rw [hen, hli]
  exact ⟨fun u v w => (a u v w).imp (fun q => q.mono hsub) id, fun u v w => (b u v w).imp (fun q => q.mono hsub) id, fun u v w => (c u v w).imp (fun q => q.mono hsub) id⟩
 have k4Z : K4 n nl Y [] → K4 n nl Z [] := fun hk i p hi hp a b => by
  rw [hen, hli] at *
  exact (hk i p hi hp a b).imp (fun q => q.mono hsub) id
 rw [if_neg (by omega)] at t2
 have hn := h.n1
 refine ⟨⟨_, hzI⟩, ?_, by omega, ?_, fun hl => by have := hlv hl; omega, fun hk => k3Z (hk3.2 hk), fun ha => k3Z (hk3.1 (Alq h ha)), fun hk => k4Z (hk4.2 hk), fun hz0 hq ha => k4Z (hk4.1 hz0 (by omega) (Alp h ha))⟩
 ·intro i hi
  obtain ⟨a, b⟩ := hti i hi
  rw [hen]; simp only [hli]; exact ⟨a, b⟩
 ·rcases hct with ⟨c1, c2⟩ | ⟨N', c1, c2, c3⟩
  ·exact .inl ⟨by omega, by
    obtain ⟨b, h1, m, h2, h3⟩ := c2
    exact ⟨b, hsub b h1, m, h2, Q6 hsame h3⟩⟩
  ·rw [List.nil_append] at c1
   refine .inr ⟨?_, fun hc => ?_⟩
   ·unfold C20
    rw [t1, Ly, List.length_append, c1, c3]
    have := Ps t; omega
   ·unfold C20 at hc
    have hcap : Y.frames.length + (n + 16) ≤ 40 := by rw [c1]; omega
    refine ⟨fun i hi m hm => ?_, fun i p hi hp hw => ?_⟩
    ·rw [t1]
     refine List.mem_append.2 (.inr (t3 hcap n (by omega) m ?_))
     rw [hen] at hm
     unfold Hr Ei; rw [if_pos rfl]
     refine T7 n Y.home 0 i (by rw [hy.nh]; exact hi) m ?_
     rw [show (0 : Int) + (i : Int) = i by omega]; exact hm
    ·rw [t1]
     refine List.mem_append.2 (.inr (t3 hcap p (by omega) _ ?_))
     rw [hli] at hw ⊢
     unfold Hr Eb; rw [if_neg (by omega)]
     have := Qk p n (cor Y p).lines 0 i (by rw [hy.ncl p hp]; exact hi) hw
     rw [show (0 : Int) + (i : Int) = i by omega] at this; exact this
theorem Ack (h : Inv n nl x M) (hc : ¬ C1 x = true) : (∃ i, i < nl ∧ (ent x i).phase ≠ 0) ∨ ((∀ i, i < nl → (ent x i).phase = 0) ∧ ∃ i p, i < nl ∧ p < n ∧ (lin x i p).want ≠ 0) := by
 by_cases hz : ∀ i, i < nl → (ent x i).phase = 0
 ·right
  refine ⟨hz, Classical.byContradiction fun hno => hc (calmR_iff.2 ⟨fun i hi => hz i (by rw [← h.nh]; exact hi), fun p hp => ?_⟩)⟩
  have hp' : p < n := by rw [← h.nc]; exact hp
  refine Classical.byContradiction fun hk => hno ?_
  obtain ⟨b1, b2, _, b4⟩ := (h.cw p hp').busy hk
  refine ⟨(cor x p).wait.line.toNat, p, by omega, hp', ?_⟩
  have := b4 (cor x p).wait.line.toNat (by omega)
  rw [if_pos (by omega)] at this
  show ((cor x p).lines.getD _ zLine).want ≠ 0
  rw [this]; unfold F1; split
  ·omega
  ·split <;> omega
 ·left
  refine Classical.byContradiction fun hno => hz fun i hi => Classical.byContradiction fun h0 => hno ⟨i, hi, h0⟩
open Classical in
noncomputable def kap (p : Prop) : Nat := if p then 0 else 1
theorem Ain {p : Prop} (h : p) : kap p = 0 := if_pos h
theorem Aio {p : Prop} (h : ¬ p) : kap p = 1 := if_neg h
theorem Y1 (p : Prop) : kap p ≤ 1 := by unfold kap; split <;> omega
theorem Y2 {p q : Prop} (h : p → q) : kap q ≤ kap p := by
 by_cases hp : p
 ·rw [Ain (h hp)]; exact Nat.zero_le _
 ·rw [Aio hp]; exact Y1 q
noncomputable def Yu (n nl : Nat) (x : Chip) (g : Nat) : Nat := Phi n nl x + g + kap (K3 n nl x []) + kap (K4 n nl x [])
def Afv (n nl : Nat) (x : Chip) (g : Nat) : Prop := (g = 1 ∧ (Has n nl x.frames (Il n nl x) ∨ C20 x)) ∨ (g = 0 ∧ C20 x ∧ Ahb n nl x)
theorem Vz (h : Inv n nl x M) (hB : B < 65535) (ht : TI n nl B x) (hc : ¬ C1 x = true) {g : Nat} (hs : Afv n nl x g) : ∃ g', Afv n nl (As x).1 g' ∧ Yu n nl (As x).1 g' + 1 ≤ Yu n nl x g := by
 obtain ⟨_, _, hle, hem, hlv, k3a, k3b, k4a, k4b⟩ := Jh h hB ht
 generalize (As x).1 = Z at *
 have e3 := Y2 k3a
 have e4 := Y2 k4a
 have hg : g ≤ 1 := by rcases hs with ⟨a, _⟩ | ⟨a, _⟩ <;> omega
 rcases hem with ⟨m1, m2⟩ | ⟨m1, m2⟩
 ·exact ⟨1, .inl ⟨rfl, .inl m2⟩, by unfold Yu; omega⟩
 ·rcases hs with ⟨a, b | b⟩ | ⟨a, b, c⟩
  ·have := hlv b
   exact ⟨1, .inl ⟨rfl, .inr m1⟩, by unfold Yu; omega⟩
  ·exact ⟨0, .inr ⟨rfl, m1, m2 b⟩, by unfold Yu; omega⟩
  ·refine ⟨0, .inr ⟨rfl, m1, m2 b⟩, ?_⟩
   rcases Nat.lt_or_ge (Phi n nl Z) (Phi n nl x) with q | q
   ·unfold Yu; omega
   ·have hq : Phi n nl Z = Phi n nl x := by omega
    have k3z := k3b c
    by_cases hk : K3 n nl x []
    ·have hz : ∀ i, i < nl → (ent x i).phase = 0 := fun i hi => Classical.byContradiction fun h0 => by
      have := hlv (S1 h c hk hi h0); omega
     rcases Ack h hc with ⟨i, hi, h0⟩ | ⟨_, i, p, hi, hp, hw⟩
     ·exact absurd (hz i hi) h0
     ·have hk4 : ¬ K4 n nl x [] := fun hk4 => by have := hlv (Yw h c hk4 hz hi hp hw); omega
      have k4z := k4b hz hq c
      have := Ain k4z; have := Aio hk4; unfold Yu; omega
    ·have := Ain k3z; have := Aio hk; unfold Yu; omega
theorem Yc (hB : B < 65535) : ∀ (w : Nat) {x : Chip} {M : List Int} {g : Nat}, Inv n nl x M → TI n nl B x → Afv n nl x g → Yu n nl x g ≤ w → ∀ k, w < k → (Br k x).2.2 ≤ w
 | w, x, M, g, h, ht, hs, hm, 0, hk => absurd hk (by omega)
 | w, x, M, g, h, ht, hs, hm, k + 1, hk => by
  simp only [Br]
  by_cases hc : C1 x = true
  ·rw [if_pos hc]; exact Nat.zero_le _
  ·rw [if_neg hc]
   obtain ⟨g', hs', hm'⟩ := Vz h hB ht hc hs
   obtain ⟨⟨M', h'⟩, ht', _⟩ := Jh h hB ht
   match w, hm, hk with
   | 0, hm, hk => omega
   | w + 1, hm, hk =>
    have := Yc hB w h' ht' hs' (by omega) k (by omega)
    simp only; omega
theorem Sk (h : Inv n nl x M) (hB : B < 65535) (ht : TI n nl B x) : (Br (Gw x) x).2.2 < Gw x := by
 obtain ⟨k, hk⟩ : ∃ k, k = 12 * n + 11 := ⟨_, rfl⟩
 have hmo : Gw x = k + 1 := by unfold Gw; rw [h.nc]; omega
 have hn := h.n1; have hl := h.l1
 rw [hmo]
 by_cases hc : C1 x = true
 ·rw [Ma hc]; simp
 ·simp only [Br]; rw [if_neg hc]
  obtain ⟨⟨M', h'⟩, ht', _, hem, _⟩ := Jh h hB ht
  have hs : Afv n nl (As x).1 1 := by
   rcases hem with ⟨_, m2⟩ | ⟨m1, _⟩
   ·exact .inl ⟨rfl, .inl m2⟩
   ·exact .inl ⟨rfl, .inr m1⟩
  have hp := Ym h'
  have hm : Yu n nl (As x).1 1 ≤ 11 * n + nl + 3 := by
   unfold Yu
   have := Y1 (K3 n nl (As x).1 [])
   have := Y1 (K4 n nl (As x).1 [])
   omega
  have := Yc hB (11 * n + nl + 3) h' ht' hs hm k (by omega)
  simp only; omega
end
end Go.Proofs.Ytkgijpngobgfjaa
namespace Go.Proofs.Ytkgijpngobgfjaa
open Abs
theorem T1 {f g : Nat → Int} {p : Nat} : ∀ {k : Nat}, (∀ q, q ≠ p → f q = g q) → f p ≤ g p + 1 → Qa f k ≤ Qa g k + 1
 | 0, _, _ => by simp [Qa]
 | k + 1, h, hp => by
  simp only [Qa]
  by_cases e : p = k
  ·subst e
   have := Je (f := f) (g := g) (k := p) (fun q hq => by rw [h q (by omega)]; exact Int.le_refl _); omega
  ·have := T1 (k := k) h hp; have := h k (by omega); omega
section
variable {n nl : Nat} {x y : Chip} {M M' : List Int} {B B' : Int}
theorem TI.same (hc : y.cores = x.cores) (hh : y.home = x.home) (ht : TI n nl B x) : TI n nl B y := by
 intro i hi
 obtain ⟨a, b⟩ := ht i hi
 rw [Zt hh]; simp only [Uv hc]; exact ⟨a, b⟩
theorem TI.mono (hB : B ≤ B') (ht : TI n nl B x) : TI n nl B' x := fun i hi => ⟨(ht i hi).1, by have := (ht i hi).2; omega⟩
theorem Xm (l : Line) (o : Op) : (A8 l o).serial ≤ l.serial + 1 := by
 unfold A8
 repeat' split
 all_goals simp only; omega
theorem Th (c : Core) (id home : Int) (o : Op) (hok : (Aj c id home o).2.2.2 = 0) : (0 ≤ o.line ∧ o.line < c.lines.length) ∧ ∃ w, (Aj c id home o).1 = Ce c o.line (A8 (Bo c o.line) o) w := by
 revert hok; unfold Aj
 split
 ·exact Zd2
 split
 ·exact Zd2
 split
 ·exact Zd2
 split
 ·intro _; exact ⟨by omega, _, rfl⟩
 ·intro _; exact ⟨by omega, _, rfl⟩
theorem R8 (h : Inv n nl x M) {s : Step} (hk : s.kind = 1) (hok : (Ag x s).2.2 = 0) : ∃ p i : Nat, p < n ∧ i < nl ∧ s.node = p ∧ s.op.line = i ∧ (Ag x s).1.home = x.home ∧ (Ag x s).1.cores.length = x.cores.length ∧ ∀ j q, lin (Ag x s).1 j q = if q = p ∧ j = i then A8 (lin x i p) s.op else lin x j q := by
 revert hok
 unfold Ag
 rw [if_pos hk]
 split
 ·exact Zd2
 split
 ·intro h; exact absurd h (by assumption)
 rename_i h1 h2
 intro _
 have hnc : Az x = (n : Int) := by unfold Az; rw [h.nc]
 rw [hnc] at h1
 obtain ⟨hl, w, hw⟩ := Th _ _ _ _ (Decidable.not_not.1 h2)
 have hp : s.node.toNat < n := by omega
 have hcl := h.ncl s.node.toNat hp
 have hca : Ap x s.node = cor x s.node.toNat := rfl
 rw [hca, hcl] at hl
 refine ⟨s.node.toNat, s.op.line.toNat, hp, by omega, by omega, by omega, rfl, by simp [Cf], fun j q => ?_⟩
 simp only
 rw [hw, hca]
 show ((x.cores.set s.node.toNat _).getD q Fa).lines.getD j zLine = _
 rw [Bi _ _ _ _ _ (by rw [h.nc]; exact hp)]
 by_cases hq : q = s.node.toNat
 ·rw [if_pos hq]
  show ((cor x s.node.toNat).lines.set s.op.line.toNat _).getD j zLine = _
  rw [Bi _ _ _ _ _ (by rw [hcl]; omega)]
  by_cases hj : j = s.op.line.toNat
  ·rw [if_pos hj, if_pos ⟨hq, hj⟩]; rfl
  ·rw [if_neg hj, if_neg (fun c => hj c.2), hq]; rfl
 ·rw [if_neg hq, if_neg (fun c => hq c.1)]; rfl
theorem Vm {x : Chip} {s : Step} (h1 : s.kind ≠ 1) (h2 : s.kind ≠ 2) (hok : (Ag x s).2.2 = 0) : (Ag x s).1.cores = x.cores ∧ (Ag x s).1.home = x.home := by
 revert hok
 unfold Ag
 rw [if_neg h1, if_neg h2]
 exact ZdH
theorem go_any (h : Inv n nl x M) {s : Step} (hk : s.kind = 2) (hok : (Ag x s).2.2 = 0) : ∃ b, Inv n nl ⟨x.cores, x.home, [b]⟩ M ∧ (Ag x s).1.cores = (Ag ⟨x.cores, x.home, [b]⟩ goS).1.cores ∧ (Ag x s).1.home = (Ag ⟨x.cores, x.home, [b]⟩ goS).1.home := by
 revert hok
 unfold Ag
 rw [if_neg (by omega), if_pos hk]
 split
 ·exact Zd2
 rename_i hn
 intro _
 have hm := h.mi _ (H2 (l := x.frames) (k := s.n) hn)
 refine ⟨Cg x.frames s.n, h.frames (by simp) (fun c hc => by rw [List.mem_singleton.1 hc]; exact hm), ?_⟩
 have e := Adk (x := ⟨x.cores, x.home, [Cg x.frames s.n]⟩) (by simp)
 unfold Ag at e
 rw [e]
 have hc := Afa x (Cg x.frames s.n) (x.frames.eraseIdx s.n.toNat) []
 exact ⟨hc.1, hc.2.1⟩
theorem Ahf (h : Inv n nl x M) (hB : B < 65535) (ht : TI n nl B x) {s : Step} (hok : (Ag x s).2.2 = 0) : TI n nl (if s.kind = 1 then B + 1 else B) (Ag x s).1 := by
 by_cases h1 : s.kind = 1
 ·rw [if_pos h1]
  obtain ⟨p, i, hp, hi, _, _, e1, _, e2⟩ := R8 h h1 hok
  intro j hj
  obtain ⟨a, b⟩ := ht j hj
  rw [Zt e1]
  refine ⟨a, ?_⟩
  have := T1 (f := fun q => (lin (Ag x s).1 j q).serial) (g := fun q => (lin x j q).serial) (p := p) (k := n) (fun q hq => by rw [e2, if_neg (fun c => hq c.1)]) (by
   rw [e2]; split
   ·rename_i c; rw [c.2]; exact Xm _ _
   ·omega)
  omega
 ·rw [if_neg h1]
  by_cases h2 : s.kind = 2
  ·obtain ⟨b, hI, e1, e2⟩ := go_any h h2 hok
   have ht' : TI n nl B ⟨x.cores, x.home, [b]⟩ := ht.same rfl rfl
   exact (X2 (Zj hI (ht'.turn hI hB) rfl) ht').same e1 e2
  ·obtain ⟨e1, e2⟩ := Vm h1 h2 hok
   exact ht.same e1 e2
theorem Oy : ∀ (l : List Step) {x : Chip} {M : List Int}, (∀ s ∈ l, s.kind ≠ 1) → Inv n nl x M → B < 65535 → TI n nl B x → TI n nl B (Bu x l).1
 | [], x, M, _, h, hB, ht => by simpa [Bu] using ht
 | s :: l, x, M, hs, h, hB, ht => by
  have hk := hs s (List.mem_cons_self ..)
  have hr := fun t ht => hs t (List.mem_cons_of_mem _ ht)
  by_cases hok : (Ag x s).2.2 = 0
  ·obtain ⟨M', h', _⟩ := H6 h hok
   rw [Dq hok]
   have h1 := Ahf h hB ht hok
   rw [if_neg hk] at h1
   exact Oy l hr h' hB h1
  ·rw [Ep hok]; exact Oy l hr h hB ht
theorem O7 {α : Type} (k i : Nat) (a d : α) (h : i < k) : (List.replicate k a).getD i d = a := by
 rw [List.getD_eq_getElem?_getD, List.getElem?_replicate, if_pos h]; rfl
theorem Jz {f : Nat → Int} : ∀ {k : Nat}, (∀ i, i < k → f i = 0) → Qa f k = 0
 | 0, _ => rfl
 | k + 1, h => by
  have h1 := Jz (k := k) (fun i hi => h i (by omega))
  have h2 := h k (by omega)
  simp only [Qa]; omega
theorem Afy : TI n nl 0 (Bb n nl) := by
 intro i hi
 have he : ent (Bb n nl) i = { A5 with last := List.replicate n 0 } := O7 _ _ _ _ hi
 have hl : ∀ p, p < n → lin (Bb n nl) i p = zLine := fun p hp => by
  unfold lin cor Bb; rw [O7 _ _ _ _ hp]; exact O7 _ _ _ _ hi
 rw [he, Jz (f := fun p => Cb { A5 with last := List.replicate n 0 } p) (fun p hp => O7 _ _ _ _ hp), Jz (f := fun p => (lin (Bb n nl) i p).serial) (fun p hp => by rw [hl p hp]; rfl)]
 exact ⟨Int.le_refl _, Int.le_refl _⟩
theorem On (p : Int) : ∀ (l : List Step) (x : Chip), (∀ s ∈ l, s.kind ≠ 1) → Iz x l p = []
 | [], _, _ => rfl
 | s :: l, x, h => by
  unfold Iz
  have h1 : Ge x s p = [] := by unfold Ge; rw [if_neg (fun c => h s (List.mem_cons_self ..) c.1)]
  rw [h1, List.nil_append]; exact On p l _ (fun t ht => h t (List.mem_cons_of_mem _ ht))
theorem Mg (x : Chip) : ∃ ls : List Step, (∀ s ∈ ls, s.kind ≠ 1) ∧ Bu x ls = As x := by
 refine ⟨_, fun s hs => ?_, (Mi x).symm⟩
 rcases List.mem_append.1 hs with h | h
 ·rw [(List.mem_replicate.1 h).2]; decide
 ·obtain ⟨k, _, rfl⟩ := List.mem_map.1 h
  unfold tmS; simp
theorem J1 : ∀ (k : Nat) (x : Chip), ∃ ls : List Step, (∀ s ∈ ls, s.kind ≠ 1) ∧ Bu x ls = ((Br k x).1, (Br k x).2.1)
 | 0, x => ⟨[], by simp, by simp [Bu, Br]⟩
 | k + 1, x => by
  simp only [Br]
  by_cases hc : C1 x = true
  ·rw [if_pos hc]; exact ⟨[], by simp, by simp [Bu]⟩
  ·rw [if_neg hc]
   obtain ⟨a, a1, a2⟩ := Mg x
   obtain ⟨b, b1, b2⟩ := J1 k (As x).1
   refine ⟨a ++ b, fun s hs => ?_, ?_⟩
   ·rcases List.mem_append.1 hs with h | h
    ·exact a1 s h
    ·exact b1 s h
   ·rw [Ig, a2, b2]
theorem Ld : ∀ (k : Nat) (x : Chip), (Br k x).2.2 < k → C1 (Br k x).1 = true
 | 0, x, h => absurd h (by omega)
 | k + 1, x, h => by
  simp only [Br] at h ⊢
  by_cases hc : C1 x = true
  ·rw [if_pos hc]; exact hc
  ·rw [if_neg hc] at h ⊢
   exact Ld k _ (by simp only at h; omega)
theorem Nh : ∀ (k : Nat) {x : Chip} {M : List Int}, Inv n nl x M → C1 x = true → Gr x.frames ≤ k → (∃ ls : List Step, (∀ s ∈ ls, s.kind ≠ 1) ∧ Bu x ls = (drN k x, [])) ∧ C1 (drN k x) = true ∧ (drN k x).frames.length = 0
 | 0, x, M, h, hc, hk => ⟨⟨[], by simp, by simp [Bu, drN]⟩, hc, by show x.frames.length = 0; exact Ni (by omega)⟩
 | k + 1, x, M, h, hc, hk => by
  simp only [drN]
  by_cases hz : x.frames.length = 0
  ·rw [if_pos hz]; exact ⟨⟨[], by simp, by simp [Bu]⟩, hc, hz⟩
  ·rw [if_neg hz]
   obtain ⟨c1, c2, c3⟩ := P2 h hc (by omega)
   have hg := (Rm (x := x) (by omega)).1
   obtain ⟨M', h', _⟩ := H6 h hg
   obtain ⟨⟨ls, l1, l2⟩, l3, l4⟩ := Nh k h' c1 (by omega)
   refine ⟨⟨goS :: ls, fun s hs => ?_, ?_⟩, l3, l4⟩
   ·rcases List.mem_cons.1 hs with e | e
    ·rw [e]; decide
    ·exact l1 s e
   ·rw [Dq hg, l2, c2]; rfl
theorem Gi (h : Inv n nl x M) (hB : B < 65535) (ht : TI n nl B x) : (∃ ls : List Step, (∀ s ∈ ls, s.kind ≠ 1) ∧ Bu x ls = ((settle x).1, (settle x).2.1)) ∧ C1 (settle x).1 = true ∧ (settle x).1.frames.length = 0 ∧ (settle x).2.2 < Gw x := by
 have he := Sk h hB ht
 obtain ⟨ls, l1, l2⟩ := J1 (Gw x) x
 have hc := Ld _ _ he
 obtain ⟨M1, h1, _⟩ := Fu ls h
 rw [l2] at h1
 obtain ⟨⟨ks, k1, k2⟩, k3, k4⟩ := Nh (Gr (Br (Gw x) x).1.frames) h1 hc (Nat.le_refl _)
 have hs : settle x = (Ru (Br (Gw x) x).1, (Br (Gw x) x).2.1, (Br (Gw x) x).2.2) := by
  unfold settle K5; rw [if_neg (by omega)]; simp
 rw [hs]
 refine ⟨⟨ls ++ ks, fun s hs => ?_, ?_⟩, k3, k4, he⟩
 ·rcases List.mem_append.1 hs with e | e
  ·exact l1 s e
  ·exact k1 s e
 ·rw [Ig, l2]; simp only; rw [k2]; simp [Ru]
theorem Ob (h : Inv n nl x M) (hB : B < 65535) (ht : TI n nl B x) : ∃ M', Inv n nl (settle x).1 M' ∧ Cn M (settle x).2.1 M' ∧ TI n nl B (settle x).1 := by
 obtain ⟨⟨ls, l1, l2⟩, _⟩ := Gi h hB ht
 obtain ⟨M', h1, h2⟩ := Fu ls h
 have h3 := Oy ls l1 h hB ht
 rw [l2] at h1 h2 h3
 exact ⟨M', h1, h2, h3⟩
theorem G1 (hc : C1 x = true) (p : Int) : Ku x p = [] := by
 unfold Ku; rw [if_neg]
 rintro ⟨h1, h2, h3⟩
 exact h3 ((calmR_iff.1 hc).2 p.toNat (by unfold Az at h2; omega))
theorem Sl (h : Inv n nl x M) (hB : B < 65535) (ht : TI n nl B x) (p : Int) : (Ax (settle x).2.1 p).map Done.op = Ku x p := by
 obtain ⟨⟨ls, l1, l2⟩, hc, _⟩ := Gi h hB ht
 have := Tq p ls h
 rw [On p ls x l1, l2, List.append_nil] at this
 simp only at this
 rw [G1 hc, List.append_nil] at this
 exact this.symm
end
end Go.Proofs.Ytkgijpngobgfjaa
namespace Go.Proofs.Ytkgijpngobgfjaa
open Abs
section
variable {n nl : Nat} {x y : Chip} {M M' : List Int} {B B' : Int}
theorem Mb : ∀ (k : Nat) {x : Chip} {M : List Int}, Inv n nl x M → (Br k x).2.1.length ≤ 40 * k
 | 0, x, M, h => by simp [Br]
 | k + 1, x, M, h => by
  simp only [Br]
  split
  ·simp
  ·obtain ⟨M', h', _⟩ := Rd h
   have := Mb k h'; have := Mh h
   simp only [List.length_append]; omega
theorem V0 (h : Inv n nl x M) : (settle x).2.1.length ≤ 2400 := by
 have := Mb (Gw x) h
 have hm : Gw x = 12 * n + 12 := by unfold Gw; rw [h.nc]
 have := h.n1
 unfold settle K5
 split <;> simp only [List.nil_append] <;> omega
theorem Aan (h : Inv n nl x M) (hc : C1 x = true) {j q : Nat} (hj : j < nl) (hq : q < n) : (lin x j q).want = 0 :=
 ((h.cw q hq).free ((calmR_iff.1 hc).2 q (by rw [h.nc]; exact hq))).2 j hj
end
end Go.Proofs.Ytkgijpngobgfjaa
namespace Go.Proofs.Ytkgijpngobgfjaa
open Abs
structure Rn where
 x : Chip
 left : List (List Op)
 done : List Done
def opS (p : Nat) (o : Op) : Step := ⟨1, (p : Int), 0, 0, o⟩
def Agb (r : Rn) (s : Step) : Rn := if (Ag r.x s).2.2 = 0 then ⟨(Ag r.x s).1, r.left, r.done ++ (Ag r.x s).2.1⟩ else r
def Bg (r : Rn) (p : Nat) : Rn :=
 if r.left.getD p [] = [] then r
 else if (Ag r.x (opS p ((r.left.getD p []).headD zOp))).2.2 = 0 then ⟨(Ag r.x (opS p ((r.left.getD p []).headD zOp))).1, r.left.set p (r.left.getD p []).tail, r.done ++ (Ag r.x (opS p ((r.left.getD p []).headD zOp))).2.1⟩
 else r
def Bf (r : Rn) : Rn := ⟨(settle r.x).1, r.left, r.done ++ (settle r.x).2.1⟩
def pkM (n : Int) : Nat := (n % 65536).toNat
def D7 (r : Rn) (n : Int) : Rn :=
 if pkM n % 8 < 3 then Bg r (pkM n / 8 % r.left.length)
 else if pkM n % 8 < 6 ∧ 0 < r.x.frames.length then Agb r ⟨2, 0, ((pkM n / 8 % r.x.frames.length : Nat) : Int), 0, zOp⟩
 else if pkM n % 8 = 6 ∧ 0 < r.x.frames.length then Agb r ⟨if pkM n / 8 % 2 = 0 then 3 else 4, 0, ((pkM n / 8 / 2 % r.x.frames.length : Nat) : Int), 0, zOp⟩
 else Agb r ⟨6, ((pkM n / 8 % (r.left.length + 1) : Nat) : Int), 0, 0, zOp⟩
def O5 (r : Rn) (p : Nat) : Nat → Rn
 | 0 => r
 | k + 1 => if r.left.getD p [] = [] then r
  else if ((Bf (Bg r p)).left.getD p []).length = (r.left.getD p []).length then Bf (Bg r p)
  else O5 (Bf (Bg r p)) p k
def Cq (r : Rn) : Nat → Rn
 | 0 => r
 | p + 1 => O5 (Bf (Cq r p)) p (((Cq r p).left.getD p []).length + 1)
def tot (l : List (List Op)) : Nat := (l.map List.length).sum
def atL (l : List (List Op)) (p : Int) : List Op := if p < 0 then [] else l.getD p.toNat []
structure RI (n nl : Nat) (l0 : List (List Op)) (K B : Int) (r : Rn) : Prop where
 inv : ∃ M, Inv n nl r.x M ∧ Cn (List.replicate nl 0) r.done M
 ti : TI n nl B r.x
 ln : r.left.length = n
 ord : ∀ p, (Ax r.done p).map Done.op ++ Ku r.x p ++ atL r.left p = atL l0 p
 cnt : B + tot r.left ≤ K
theorem Xz : ∀ (l : List (List Op)) (p : Nat) (o : Op) (t : List Op), l.getD p [] = o :: t → tot l = tot (l.set p t) + 1
 | [], p, o, t, h => by simp at h
 | a :: l, 0, o, t, h => by
  have e : a = o :: t := h
  subst e; simp [tot]; omega
 | a :: l, p + 1, o, t, h => by
  have := Xz l p o t h
  simp only [tot, List.set_cons_succ, List.map_cons, List.sum_cons] at this ⊢; omega
section
variable {n nl : Nat} {l0 : List (List Op)} {K B : Int} {r : Rn}
theorem RI.doS (h : RI n nl l0 K B r) (hK : K < 65535) {s : Step} (hk : s.kind ≠ 1) : RI n nl l0 K B (Agb r s) := by
 unfold Agb
 by_cases hok : (Ag r.x s).2.2 = 0
 ·rw [if_pos hok]
  obtain ⟨M, hI, hD⟩ := h.inv
  obtain ⟨M', h1, h2⟩ := H6 hI hok
  have hB : B < 65535 := by have := h.cnt; omega
  have ht := Ahf hI hB h.ti hok
  rw [if_neg hk] at ht
  refine ⟨⟨M', h1, E4 hD h2⟩, ht, h.ln, fun p => ?_, h.cnt⟩
  have h3 := O3 hI s p hok
  have hb : Ge r.x s p = [] := by unfold Ge; rw [if_neg (fun c => hk c.1)]
  rw [hb, List.append_nil] at h3
  rw [← h.ord p, h3]; simp only
  rw [Uq, List.map_append]; simp only [List.append_assoc]
 ·rw [if_neg hok]; exact h
theorem RI.begin (h : RI n nl l0 K B r) (hK : K < 65535) {p : Nat} (hp : p < n) : ∃ B', RI n nl l0 K B' (Bg r p) := by
 unfold Bg
 by_cases hn : r.left.getD p [] = []
 ·rw [if_pos hn]; exact ⟨B, h⟩
 rw [if_neg hn]
 obtain ⟨o, t, e⟩ : ∃ o t, r.left.getD p [] = o :: t := by
  cases hh : r.left.getD p [] with
  | nil => exact absurd hh hn
  | cons o t => exact ⟨o, t, rfl⟩
 rw [e]
 show ∃ B', RI n nl l0 K B' (if (Ag r.x (opS p o)).2.2 = 0 then ⟨(Ag r.x (opS p o)).1, r.left.set p t, r.done ++ (Ag r.x (opS p o)).2.1⟩ else r)
 by_cases hok : (Ag r.x (opS p o)).2.2 = 0
 ·rw [if_pos hok]
  obtain ⟨M, hI, hD⟩ := h.inv
  obtain ⟨M', h1, h2⟩ := H6 hI hok
  have hts := Xz _ _ _ _ e
  have hc := h.cnt
  have ht := Ahf hI (by omega) h.ti hok
  rw [if_pos (show (opS p o).kind = 1 from rfl)] at ht
  refine ⟨B + 1, ⟨M', h1, E4 hD h2⟩, ht, by simp only [List.length_set]; exact h.ln, fun q => ?_, by simp only; omega⟩
  have h3 := O3 hI (opS p o) q hok
  rw [← h.ord q]; simp only
  rw [Uq, List.map_append, List.append_assoc, List.append_assoc, List.append_assoc, ← List.append_assoc _ (Ku _ q), ← h3]
  have e2 : Ge r.x (opS p o) q ++ atL (r.left.set p t) q = atL r.left q := by
   unfold Ge atL
   by_cases hq : (p : Int) = q
   ·rw [if_pos ⟨rfl, hq, hok⟩, ← hq, if_neg (by omega), if_neg (by omega), Int.toNat_natCast, e, Bi _ _ _ _ _ (by rw [h.ln]; exact hp), if_pos rfl]; rfl
   ·rw [if_neg (fun c => hq c.2.1), List.nil_append]
    by_cases hq0 : q < 0
    ·rw [if_pos hq0, if_pos hq0]
    ·rw [if_neg hq0, if_neg hq0, Bi _ _ _ _ _ (by rw [h.ln]; exact hp), if_neg (by omega)]
  rw [List.append_assoc, e2]
 ·rw [if_neg hok]; exact ⟨B, h⟩
theorem RI.settle (h : RI n nl l0 K B r) (hK : K < 65535) : RI n nl l0 K B (Bf r) ∧ C1 (Bf r).x = true ∧ (Bf r).x.frames.length = 0 := by
 obtain ⟨M, hI, hD⟩ := h.inv
 have hB : B < 65535 := by have := h.cnt; omega
 obtain ⟨M', h1, h2, h3⟩ := Ob hI hB h.ti
 obtain ⟨_, hc, hf, _⟩ := Gi hI hB h.ti
 refine ⟨⟨⟨M', h1, E4 hD h2⟩, h3, h.ln, fun p => ?_, h.cnt⟩, hc, hf⟩
 have h4 := Sl hI hB h.ti p
 rw [← h.ord p]
 show (Ax (r.done ++ _) p).map Done.op ++ Ku (_root_.Go.Proofs.Ytkgijpngobgfjaa.settle r.x).1 p ++ atL r.left p = _
 rw [G1 hc, Uq, List.map_append, h4, List.append_nil]
end
end Go.Proofs.Ytkgijpngobgfjaa
namespace Go.Proofs.Ytkgijpngobgfjaa
open Abs
def Uo (nl : Nat) (o : Op) : Prop := 1 ≤ o.kind ∧ o.kind ≤ 4 ∧ 0 ≤ o.line ∧ o.line < nl ∧ 0 ≤ o.value ∧ o.value ≤ 255
def Et (r : Rn) (l : List Int) : Rn := l.foldl D7 r
section
variable {n nl : Nat} {l0 : List (List Op)} {K B : Int} {r : Rn} {x : Chip} {M : List Int}
theorem RI.pick (h : RI n nl l0 K B r) (hK : K < 65535) (hn : 1 ≤ n) (m : Int) : ∃ B', RI n nl l0 K B' (D7 r m) := by
 unfold D7
 split
 ·exact h.begin hK (by rw [h.ln]; exact Nat.mod_lt _ hn)
 split
 ·exact ⟨B, h.doS hK (by simp)⟩
 split
 ·exact ⟨B, h.doS hK (by simp only; split <;> omega)⟩
 ·exact ⟨B, h.doS hK (by simp)⟩
theorem RI.picks (hK : K < 65535) (hn : 1 ≤ n) : ∀ (l : List Int) {r : Rn} {B : Int}, RI n nl l0 K B r → ∃ B', RI n nl l0 K B' (Et r l)
 | [], r, B, h => ⟨B, h⟩
 | m :: l, r, B, h => by
  obtain ⟨B1, h1⟩ := h.pick hK hn m
  exact RI.picks hK hn l h1
theorem ser_lt (h : Inv n nl x M) (hB : B < 65535) (ht : TI n nl B x) {p i : Nat} (hp : p < n) (hi : i < nl) : (lin x i p).serial < 65535 := by
 have h1 := (ht i hi).2
 have h0 : ∀ q, q < n → (0 : Int) ≤ (lin x i q).serial := fun q hq => (h.ci i hi q hq).se.1
 have : ∀ k, p < k → k ≤ n → (lin x i p).serial ≤ Qa (fun q => (lin x i q).serial) k := by
  intro k
  induction k with
  | zero => intro hk; omega
  | succ k ih =>
   intro hk hkn
   simp only [Qa]
   have hk0 := h0 k (by omega)
   by_cases e : k = p
   ·subst e
    have h9 : (0 : Int) ≤ Qa (fun q => (lin x i q).serial) k := by
     have := Je (f := fun _ => (0 : Int)) (g := fun q => (lin x i q).serial) (k := k) (fun q hq => h0 q (by omega))
     rw [Jz (f := fun _ => (0 : Int)) (fun _ _ => rfl)] at this; exact this
    omega
   ·have := ih (by omega) (by omega); omega
 have := this n hp (Nat.le_refl _)
 omega
theorem op_ok (h : Inv n nl x M) (hB : B < 65535) (ht : TI n nl B x) (hc : C1 x = true) {p : Nat} (hp : p < n) {o : Op} (ho : Uo nl o) : (Ag x (opS p o)).2.2 = 0 := by
 obtain ⟨o1, o2, o3, o4, o5, o6⟩ := ho
 have hnc : Az x = (n : Int) := by unfold Az; rw [h.nc]
 have hca : Ap x (opS p o).node = cor x p := by unfold Ap opS cor; simp
 have hwk := (calmR_iff.1 hc).2 p (by rw [h.nc]; exact hp)
 have hcl := h.ncl p hp
 have hla : Bo (cor x p) (opS p o).op.line = lin x o.line.toNat p := by unfold Bo opS lin; rfl
 have hse := ser_lt h hB ht hp (i := o.line.toNat) (by omega)
 unfold Ag
 rw [if_pos (show (opS p o).kind = 1 from rfl), if_neg (by rw [hnc]; unfold opS; simp only; omega), hca]
 have hb : (Aj (cor x p) (opS p o).node (Az x) (opS p o).op).2.2.2 = 0 := by
  unfold Aj
  rw [if_neg (by unfold opS; simp only; omega), if_neg (by rw [hcl]; unfold opS; simp only; omega), if_neg (by rw [hla]; omega)]
  split <;> rfl
 rw [if_neg (by rw [hb]; simp)]
theorem RI.valid (h : RI n nl l0 K B r) (hv : ∀ p o, o ∈ l0.getD p [] → Uo nl o) {p : Nat} {o : Op} (ho : o ∈ r.left.getD p []) : Uo nl o := by
 refine hv p o ?_
 have h1 := h.ord p
 unfold atL at h1
 rw [if_neg (by omega), if_neg (by omega), Int.toNat_natCast] at h1
 rw [← h1]; exact List.mem_append.2 (.inr ho)
theorem RI.goes (h : RI n nl l0 K B r) (hK : K < 65535) (hv : ∀ p o, o ∈ l0.getD p [] → Uo nl o) (hc : C1 r.x = true) {p : Nat} (hp : p < n) {o : Op} {t : List Op} (e : r.left.getD p [] = o :: t) : (Bg r p).left = r.left.set p t := by
 obtain ⟨M, hI, _⟩ := h.inv
 have hB : B < 65535 := by have := h.cnt; omega
 have hok := op_ok hI hB h.ti hc hp (h.valid hv (p := p) (o := o) (by rw [e]; exact List.mem_cons_self ..))
 unfold Bg
 rw [if_neg (by rw [e]; simp), e]
 show (if (Ag r.x (opS p o)).2.2 = 0 then (⟨(Ag r.x (opS p o)).1, r.left.set p t, r.done ++ (Ag r.x (opS p o)).2.1⟩ : Rn) else r).left = _
 rw [if_pos hok]
theorem RI.go (hK : K < 65535) (hv : ∀ p o, o ∈ l0.getD p [] → Uo nl o) {p : Nat} (hp : p < n) : ∀ (k : Nat) {r : Rn} {B : Int}, RI n nl l0 K B r → C1 r.x = true → r.x.frames.length = 0 → (r.left.getD p []).length < k → (∃ B', RI n nl l0 K B' (O5 r p k)) ∧ C1 (O5 r p k).x = true ∧ (O5 r p k).x.frames.length = 0 ∧ ∀ q, (O5 r p k).left.getD q [] = if q = p then [] else r.left.getD q []
 | 0, r, B, h, hc, hf, hl => absurd hl (by omega)
 | k + 1, r, B, h, hc, hf, hl => by
  unfold O5
  by_cases hn : r.left.getD p [] = []
  ·rw [if_pos hn]
   refine ⟨⟨B, h⟩, hc, hf, fun q => ?_⟩
   split
   ·rename_i e; rw [e]; exact hn
   ·rfl
  rw [if_neg hn]
  obtain ⟨o, t, e⟩ : ∃ o t, r.left.getD p [] = o :: t := by
   cases hh : r.left.getD p [] with
   | nil => exact absurd hh hn
   | cons o t => exact ⟨o, t, rfl⟩
  have hg := h.goes hK hv hc hp e
  obtain ⟨B1, h1⟩ := h.begin hK hp
  obtain ⟨h2, c2, f2⟩ := h1.settle hK
  have hl2 : (Bf (Bg r p)).left = r.left.set p t := hg
  have hq : ∀ q, (Bf (Bg r p)).left.getD q [] = if q = p then t else r.left.getD q [] := fun q => by
   rw [hl2, Bi _ _ _ _ _ (by rw [h.ln]; exact hp)]
  have hpt := hq p
  rw [if_pos rfl] at hpt
  rw [e, List.length_cons] at hl
  rw [if_neg (by rw [hpt, e, List.length_cons]; omega)]
  obtain ⟨g1, g2, g3, g4⟩ := RI.go hK hv hp k h2 c2 f2 (by rw [hpt]; omega)
  refine ⟨g1, g2, g3, fun q => ?_⟩
  rw [g4 q, hq q]
  split <;> rfl
theorem RI.all (h : RI n nl l0 K B r) (hK : K < 65535) (hv : ∀ p o, o ∈ l0.getD p [] → Uo nl o) : ∀ (p : Nat), p ≤ n → (∃ B', RI n nl l0 K B' (Cq r p)) ∧ (0 < p → C1 (Cq r p).x = true ∧ (Cq r p).x.frames.length = 0) ∧ ∀ q, q < p → (Cq r p).left.getD q [] = []
 | 0, _ => ⟨⟨B, h⟩, fun h => absurd h (by omega), fun q h => absurd h (by omega)⟩
 | p + 1, hp => by
  obtain ⟨⟨B1, h1⟩, _, h3⟩ := RI.all h hK hv p (by omega)
  obtain ⟨h2, c2, f2⟩ := h1.settle hK
  obtain ⟨g1, g2, g3, g4⟩ := RI.go hK hv (p := p) (by omega) (((Cq r p).left.getD p []).length + 1) h2 c2 f2 (Nat.lt_succ_self _)
  refine ⟨g1, fun _ => ⟨g2, g3⟩, fun q hq => ?_⟩
  show (O5 (Bf (Cq r p)) p (((Cq r p).left.getD p []).length + 1)).left.getD q [] = []
  rw [g4 q]
  split
  ·rfl
  ·exact h3 q (by omega)
theorem RI.ends (h : RI n nl l0 K B r) (hK : K < 65535) (hn : 1 ≤ n) (hv : ∀ p o, o ∈ l0.getD p [] → Uo nl o) : (∃ M, Inv n nl (Cq r n).x M ∧ Cn (List.replicate nl 0) (Cq r n).done M) ∧ C1 (Cq r n).x = true ∧ (Cq r n).x.frames.length = 0 ∧ ∀ p, (Ax (Cq r n).done p).map Done.op = atL l0 p := by
 obtain ⟨⟨B1, h1⟩, h2, h3⟩ := RI.all h hK hv n (Nat.le_refl _)
 obtain ⟨c, f⟩ := h2 (by omega)
 refine ⟨h1.inv, c, f, fun p => ?_⟩
 have h4 := h1.ord p
 have h5 : atL (Cq r n).left p = [] := by
  unfold atL
  split
  ·rfl
  ·by_cases hp : p.toNat < n
   ·exact h3 _ hp
   ·rw [List.getD_eq_getElem?_getD, List.getElem?_eq_none (by rw [h1.ln]; omega)]; rfl
 rw [G1 c, h5, List.append_nil, List.append_nil] at h4
 exact h4
end
end Go.Proofs.Ytkgijpngobgfjaa
namespace Go.Proofs.Ytkgijpngobgfjaa
open Abs
def E2 (c : Config) (o : Op) : Int := if o.kind < 1 ∨ 4 < o.kind then 1 else if o.line < 0 ∨ c.lines ≤ o.line ∨ o.value < 0 ∨ 255 < o.value then 3 else 0
def F2 : List Int → Int
 | [] => 0
 | a :: r => if a ≠ 0 then a else F2 r
def Cj (c : Config) (p : List Op) : Int := if 12 < p.length then 4 else F2 (p.map (E2 c))
def A9 (c : Config) (l : List (List Op)) : Int := if (A2 c).2 ≠ 0 then (A2 c).2 else if (l.length : Int) ≠ c.cores then 4 else F2 (l.map (Cj c))
def Lj (c : Config) (l : List (List Op)) (picks : List Int) : Rn := Cq (Et ⟨(A2 c).1, l, []⟩ picks) l.length
def Av (c : Config) (l : List (List Op)) (picks : List Int) : Chip × List Done × Int :=
 if A9 c l ≠ 0 then (Er, [], A9 c l) else if 300 < picks.length then (Er, [], 4) else ((Lj c l picks).x, (Lj c l picks).done, 0)
theorem Jn : ∀ {l : List Int}, F2 l = 0 → ∀ a ∈ l, a = 0
 | [], _, a, h => absurd h (by simp)
 | b :: l, h, a, ha => by
  unfold F2 at h
  split at h
  ·rename_i h1; exact absurd h h1
  ·rename_i h1
   rcases List.mem_cons.1 ha with e | e
   ·rw [e]; omega
   ·exact Jn h a e
theorem Qe {k : Nat} : ∀ (l : List (List Op)), (∀ p ∈ l, p.length ≤ k) → tot l ≤ l.length * k
 | [], _ => by simp [tot]
 | a :: l, h => by
  have h1 := Qe l (fun p hp => h p (List.mem_cons_of_mem _ hp))
  have h2 := h a (List.mem_cons_self ..)
  simp only [tot, List.map_cons, List.sum_cons, List.length_cons, Nat.succ_mul] at h1 ⊢; omega
theorem Q7 {c : Config} {l : List (List Op)} (h : A9 c l = 0) : ∃ n nl : Nat, (1 ≤ n ∧ n ≤ 4) ∧ (1 ≤ nl ∧ nl ≤ 4) ∧ c = Cz n nl ∧ A2 c = (Bb n nl, 0) ∧ l.length = n ∧ (∀ p ∈ l, p.length ≤ 12) ∧ ∀ p o, o ∈ l.getD p [] → Uo nl o := by
 unfold A9 at h
 split at h
 ·rename_i h1; exact absurd h h1
 rename_i h1
 split at h
 ·exact absurd h (by decide)
 rename_i h2
 obtain ⟨n, nl, a1, a2, a3, a4⟩ := Om (Decidable.not_not.1 h1)
 have hc1 : c.cores = (n : Int) := by rw [a3]; rfl
 have hc2 : c.lines = (nl : Int) := by rw [a3]; rfl
 have hp : ∀ p ∈ l, Cj c p = 0 := fun p hp => Jn h _ (List.mem_map.2 ⟨p, hp, rfl⟩)
 have h12 : ∀ p ∈ l, p.length ≤ 12 := fun p hm => by
  have := hp p hm
  unfold Cj at this
  split at this
  ·exact absurd this (by decide)
  ·omega
 refine ⟨n, nl, a1, a2, a3, a4, by omega, h12, fun p o ho => ?_⟩
 by_cases hpl : p < l.length
 ·rw [List.getD_eq_getElem?_getD, List.getElem?_eq_getElem hpl] at ho
  have hm : l[p] ∈ l := List.getElem_mem _
  have h3 := hp _ hm
  have h4 := h12 _ hm
  unfold Cj at h3
  rw [if_neg (by omega)] at h3
  have h5 := Jn h3 _ (List.mem_map.2 ⟨o, ho, rfl⟩)
  unfold E2 at h5
  split at h5
  ·exact absurd h5 (by decide)
  split at h5
  ·exact absurd h5 (by decide)
  unfold Uo; omega
 ·rw [List.getD_eq_getElem?_getD, List.getElem?_eq_none (by omega)] at ho
  exact absurd ho (by simp)
theorem RI.start {n nl : Nat} {l : List (List Op)} (hn : 1 ≤ n ∧ n ≤ 4) (hl : 1 ≤ nl ∧ nl ≤ 4) (hll : l.length = n) : RI n nl l (tot l) 0 ⟨Bb n nl, l, []⟩ := by
 have hI := Pe hn hl
 refine ⟨⟨_, hI, rfl⟩, Afy, hll, fun p => ?_, by simp only; omega⟩
 have hp : Ku (Bb n nl) p = [] := by
  unfold Ku
  rw [if_neg]
  rintro ⟨h1, h2, h3⟩
  have hnc : Az (Bb n nl) = (n : Int) := by unfold Az; rw [hI.nc]
  refine h3 ?_
  have hc : Ap (Bb n nl) p = cor (Bb n nl) p.toNat := rfl
  rw [hc, show cor (Bb n nl) p.toNat = ⟨List.replicate nl zLine, zOp⟩ from Cy _ _ _ _ (by omega)]; rfl
 show (Ax [] p).map Done.op ++ Ku (Bb n nl) p ++ atL l p = atL l p
 rw [hp]; rfl
theorem G5 {c : Config} {l : List (List Op)} {picks : List Int} (h : A9 c l = 0) (hpk : picks.length ≤ 300) : (Av c l picks).2.2 = 0 ∧ ∃ n nl : Nat, (1 ≤ n ∧ n ≤ 4) ∧ (1 ≤ nl ∧ nl ≤ 4) ∧ c = Cz n nl ∧ l.length = n ∧ (∃ M, Inv n nl (Av c l picks).1 M ∧ Cn (List.replicate nl 0) (Av c l picks).2.1 M) ∧ C1 (Av c l picks).1 = true ∧ (Av c l picks).1.frames.length = 0 ∧ ∀ p, (Ax (Av c l picks).2.1 p).map Done.op = atL l p := by
 obtain ⟨n, nl, a1, a2, a3, a4, a5, a6, a7⟩ := Q7 h
 have e : Av c l picks = ((Lj c l picks).x, (Lj c l picks).done, 0) := by
  unfold Av; rw [if_neg (by rw [h]; decide), if_neg (by omega)]
 rw [e]
 refine ⟨rfl, n, nl, a1, a2, a3, a5, ?_⟩
 have ht := Qe l a6
 have hK : ((tot l : Nat) : Int) < 65535 := by rw [a5] at ht; omega
 obtain ⟨B, hR⟩ := RI.picks hK a1.1 picks (RI.start a1 a2 a5)
 have := hR.ends hK a1.1 a7
 have e2 : Lj c l picks = Cq (Et ⟨Bb n nl, l, []⟩ picks) n := by unfold Lj; rw [a4, a5]
 rw [e2]; exact this
theorem Aik {c : Config} {l : List (List Op)} {picks : List Int} (h : (Av c l picks).2.2 = 0) : (Gn c.lines (Av c l picks).2.1).2 = -1 := by
 by_cases h1 : A9 c l = 0
 ·by_cases h2 : 300 < picks.length
  ·unfold Av at h; rw [if_neg (by rw [h1]; decide), if_pos h2] at h; exact absurd h (by decide)
  ·obtain ⟨_, n, nl, _, _, hc, _, ⟨M, _, hD⟩, _⟩ := G5 (picks := picks) h1 (by omega)
   have hcl : c.lines = (nl : Int) := by rw [hc]; rfl
   rw [hcl]; unfold Gn Vu
   rw [Int.toNat_natCast]
   rw [Q0 hD]
 ·unfold Av at h; rw [if_pos h1] at h; exact absurd h h1
set_option maxHeartbeats 1000000
set_option maxRecDepth 8000
variable {L : List Chunk} {R : List Fact} {w : World}
theorem Sv {P : Program} {n : Nat} {Q : Exit → Act → World → Prop} {L : List Chunk} {R : List Fact} {al : List (Nat × Value)} {cd : Code} {v : Value} {l : List (List Op)} (k : Nat) (hm : sl v l ∈ R) (hk : k < l.length) (kk : ∀ u, u.oneCell' = true → JC P n cd Q L (cF v 1 k [u] :: sl u (l.getD k []) :: R) al) : JC P n cd Q L R al :=
 JC.open1 k hm hk fun _ u => JC.know (p := u.oneCell' = true) (fun w hs => isSlice.one (hs.fact (.tail _ (.head _)))) (kk u)
theorem Zp {P : Program} {n : Nat} {Q : Exit → Act → World → Prop} {L : List Chunk} {R : List Fact} {al : List (Nat × Value)} {cd : Code} {L' : List Chunk} {T : TypeId} {v : Value} {l : List (List Op)} (k : Nat) (hp : Pick L (row T v l) L') (hk : k < l.length) (kk : ∀ u, u.oneCell' = true → JC P n cd Q (foc T v l k [u] :: L') (sl u (l.getD k []) :: R) al) : JC P n cd Q L R al :=
 JC.focus1 k hp hk fun _ u => JC.know (p := u.oneCell' = true) (fun w hs => isSlice.one (hs.fact (.head _))) (kk u)
theorem Ul {T : TypeId} {v u : Value} {l : List (List Op)} {k : Nat} {a : List Op} (hm : sl u a ∈ R) (hs : St (foc T v l k [u] :: L) R w) : St (row T v (l.set k a) :: L) R w := hs.unfocus (fun j hj => ⟨u, rfl, hj _ hm⟩)
theorem J6 {T : TypeId} {v u : Value} {l : List (List Op)} {k : Nat} (hm : sl u (l.getD k []) ∈ R) (hs : St (foc T v l k [u] :: L) R w) : St (row T v l :: L) R w := by
 have h := Ul hm hs
 rwa [Io] at h
theorem Nb {α : Type} {f : α → Int} {d : α} : ∀ {l : List α} {k : Nat}, k < l.length → (∀ j, j < k → f (l.getD j d) = 0) → f (l.getD k d) ≠ 0 → F2 (l.map f) = f (l.getD k d)
 | [], k, hk, _, _ => absurd hk (by simp)
 | a :: l, 0, _, _, h => by
  have h' : f a ≠ 0 := h
  rw [List.map_cons]; unfold F2; rw [if_pos h']; rfl
 | a :: l, k + 1, hk, h0, h => by
  have h1 : f a = 0 := h0 0 (by omega)
  rw [List.map_cons]; unfold F2; rw [if_neg (by rw [h1]; decide)]
  exact Nb (l := l) (k := k) (by simpa using hk) (fun j hj => h0 (j + 1) (by omega)) h
theorem Jo {α : Type} {f : α → Int} {d : α} : ∀ {l : List α}, (∀ j, j < l.length → f (l.getD j d) = 0) → F2 (l.map f) = 0
 | [], _ => rfl
 | a :: l, h => by
  have h1 : f a = 0 := h 0 (by simp)
  rw [List.map_cons]; unfold F2; rw [if_neg (by rw [h1]; decide)]
  exact Jo (d := d) fun j hj => h (j + 1) (by simpa using hj)
theorem Ki (c : Config) : Bw c = (A2 c).2 := by
 unfold A2
 split
 ·rename_i h; revert h; unfold Bw; split <;> simp
 ·rename_i h; exact Decidable.not_not.1 h
section
variable {c : Config} {l : List (List Op)} {P : List Op} {k i : Nat} {e : Int}
theorem pw_op (h1 : ¬ 12 < P.length) (hi : i < P.length) (h0 : ∀ j, j < i → E2 c (P.getD j zOp) = 0) (he : E2 c (P.getD i zOp) = e) (hn : e ≠ 0) : Cj c P = e := by
 unfold Cj; rw [if_neg h1, Nb hi h0 (by rw [he]; exact hn), he]
theorem pw_0 (h1 : ¬ 12 < P.length) (h0 : ∀ j, j < P.length → E2 c (P.getD j zOp) = 0) : Cj c P = 0 := by
 unfold Cj; rw [if_neg h1, Jo h0]
theorem lw_1 (h : Bw c ≠ 0) : A9 c l = Bw c := by rw [Ki] at h ⊢; unfold A9; rw [if_pos h]
theorem lw_2 (h : Bw c = 0) (h2 : (l.length : Int) ≠ c.cores) : A9 c l = 4 := by rw [Ki] at h; unfold A9; rw [if_neg (by rw [h]; decide), if_pos h2]
theorem lw_3 (h : Bw c = 0) (h2 : (l.length : Int) = c.cores) (hk : k < l.length) (h0 : ∀ j, j < k → Cj c (l.getD j []) = 0) (he : Cj c (l.getD k []) = e) (hn : e ≠ 0) : A9 c l = e := by
 rw [Ki] at h; unfold A9; rw [if_neg (by rw [h]; decide), if_neg (by omega), Nb hk h0 (by rw [he]; exact hn), he]
theorem lw_0 (h : Bw c = 0) (h2 : (l.length : Int) = c.cores) (h0 : ∀ j, j < l.length → Cj c (l.getD j []) = 0) : A9 c l = 0 := by
 rw [Ki] at h; unfold A9; rw [if_neg (by rw [h]; decide), if_neg (by omega), Jo h0]
end
theorem Ka {vl : Value} {c : Config} {l : List (List Op)} (hs : St (L) R w) (hl : sl vl l ∈ R) (hcw : c.wf) : Calls Try.prog 18 [.agg c.cells.toArray, vl].toArray w (Cd (fun _ : Unit => vi (A9 c l)) (fun _ => L) (fun _ => R)) := by
 have hlen := Bx hl hs
 refine Ah Try.func18 rfl Try.ntmps18 rfl hs ?_
 clear hs
 refine Gm ?_
 refine bx ?_; intro b2
 refine Za0 ?_
 refine Ak Try.call31 rfl (fun w hs => Ol hs) ?_; intro _
 refine ZH ?_
 refine cdy ?_ ?_
 ·intro ht13
  refine ZD ?_
  have er : A9 c l = Bw c := lw_1 ht13
  exact Zdr
 ·intro ht13
  refine Za9 ?_
  refine cdy ?_ ?_
  ·intro ht19
   refine ZB ?_
   have er : A9 c l = 4 := lw_2 (Decidable.not_not.1 ht13) ht19
   exact Zdr
  ·intro ht19
   refine Zac ?_
   have hcw0 : Bw c = 0 := Decidable.not_not.1 ht13
   have hlc : (l.length : Int) = c.cores := Decidable.not_not.1 ht19
   refine Bs (γ := Nat) (fun k => k ≤ l.length ∧ ∀ j, j < k → Cj c (l.getD j []) = 0) (fun _ => blk b2 34 c.cells :: L) (fun _ => R) (fun k => [(2, bp b2 0), (20, vl), (21, vi (l.length : Int)), (22, vi (k : Int))]) (fun k => l.length - k) 0 ⟨Nat.zero_le _, fun j hj => absurd hj (by omega)⟩ alT (fun w hs => Ae hs) ?_
   rintro k ⟨hk, hpw⟩
   try simp only at hk hpw ⊢
   refine ZB ?_
   refine cdy ?_ ?_
   ·intro ht23
    refine Gl ?_
    refine Sv k (v := vl) (l := l) mm (by omega) (fun u honeu => ?_)
    refine Aa ?_
    refine Gb3 ?_
    refine Ga3 ?_
    refine cdy ?_ ?_
    ·intro ht28
     refine ZB ?_
     have er : A9 c l = 4 := lw_3 hcw0 hlc (by omega) hpw (show Cj c (l.getD k []) = 4 by unfold Cj; rw [if_pos (by omega)]) (by decide)
     exact Zdr
    ·intro ht28
     refine Zac ?_
     refine Bs (γ := Nat) (fun i => i ≤ (l.getD k []).length ∧ ∀ j, j < i → E2 c ((l.getD k []).getD j zOp) = 0) (fun _ => blk b2 34 c.cells :: L) (fun _ => sl u (l.getD k []) :: R) (fun i => [(2, bp b2 0), (20, vl), (21, vi (l.length : Int)), (22, vi (k : Int)), (29, u), (30, vi ((l.getD k []).length : Int)), (31, vi (i : Int))]) (fun i => (l.getD k []).length - i) 0 ⟨Nat.zero_le _, fun j hj => absurd hj (by omega)⟩ alT (fun w hs => Ae hs) ?_
     rintro i ⟨hi, hop⟩
     try simp only at hi hop ⊢
     refine ZB ?_
     refine cdy ?_ ?_
     ·intro ht32
      refine Gl ?_
      refine JC.open0 (xs := (l.getD k [])) (v := u) i mm (by omega) (fun how => ?_)
      refine ZA ?_
      refine al_ (cs := zOp.cells) Try.zeroValue36 ?_; intro b9
      refine s_B (cs := ((l.getD k []).getD i zOp).cells) Try.sizeOf36 ?_
      refine Gl ?_
      refine kp [2, 4, 7, 9, 20, 21, 22, 23, 24, 25, 26, 27, 28, 29, 30, 31, 32, 33, 34, 35, 36, 37, 38, 39, 40, 41, 42] ?_
      refine Dn 42 (.bool (decide ((((l.getD k []).getD i zOp).kind < 1) ∨ (4 < ((l.getD k []).getD i zOp).kind)))) ?_ ?_
      ·rcases (show ((((l.getD k []).getD i zOp).kind < 1)) ∨ (¬ (((l.getD k []).getD i zOp).kind < 1) ∧ (4 < ((l.getD k []).getD i zOp).kind)) ∨ (¬ (((l.getD k []).getD i zOp).kind < 1) ∧ ¬ (4 < ((l.getD k []).getD i zOp).kind)) from by omega) with hm | hm | hm
       ·refine Zad ?_
        refine Ga5 ?_
        exact ZcO
       ·refine ZS ?_
        exact Zd3
       ·refine ZS ?_
        exact Zd4
      ·refine Bc ?_
       refine Gl ?_
       first | (refine cdx (p := ?p6) (hd := ?d6) ?e6 ?_ ?_; case e6 => exact rfl) | (refine Cc (b := ?b6) ?e6 ?_ ?_; case e6 => exact rfl)
       ·intro ht42
        refine ZB ?_
        have er : A9 c l = 1 := lw_3 hcw0 hlc (by omega) hpw (pw_op (by omega) (i := i) (by omega) hop (show E2 c _ = 1 by unfold E2; rw [if_pos ht42]) (by decide)) (by decide)
        exact Zdr
       ·intro ht42
        refine Gl ?_
        refine ZbH ?_
        refine Dn 62 (.bool (decide ((((l.getD k []).getD i zOp).line < 0) ∨ (c.lines ≤ ((l.getD k []).getD i zOp).line) ∨ (((l.getD k []).getD i zOp).value < 0) ∨ (255 < ((l.getD k []).getD i zOp).value)))) ?_ ?_
        ·rcases (show ((((l.getD k []).getD i zOp).line < 0)) ∨ (¬ (((l.getD k []).getD i zOp).line < 0) ∧ (c.lines ≤ ((l.getD k []).getD i zOp).line)) ∨ (¬ (((l.getD k []).getD i zOp).line < 0) ∧ ¬ (c.lines ≤ ((l.getD k []).getD i zOp).line) ∧ (((l.getD k []).getD i zOp).value < 0)) ∨ (¬ (((l.getD k []).getD i zOp).line < 0) ∧ ¬ (c.lines ≤ ((l.getD k []).getD i zOp).line) ∧ ¬ (((l.getD k []).getD i zOp).value < 0) ∧ (255 < ((l.getD k []).getD i zOp).value)) ∨ (¬ (((l.getD k []).getD i zOp).line < 0) ∧ ¬ (c.lines ≤ ((l.getD k []).getD i zOp).line) ∧ ¬ (((l.getD k []).getD i zOp).value < 0) ∧ ¬ (255 < ((l.getD k []).getD i zOp).value)) from by omega) with hm | hm | hm | hm | hm
         ·refine Zad ?_
          refine Ga17 ?_
          exact ZcO
         ·refine ZA ?_
          refine A3 ?_
          refine ZQ ?_
          refine J8 ?_
          refine Ga11 ?_
          exact ZcO
         ·refine ZbH ?_
          refine ZA ?_
          refine Zbd ?_
          refine ZE ?_
          refine Dt ?_
          exact ZdY
         ·refine ZaY ?_
          exact Zd3
         ·refine ZbH ?_
          refine ZaY ?_
          exact Zd4
        ·refine Bc ?_
         first | (refine cdx (p := ?p7) (hd := ?d7) ?e7 ?_ ?_; case e7 => exact rfl) | (refine Cc (b := ?b7) ?e7 ?_ ?_; case e7 => exact rfl)
         ·intro ht62
          refine ZB ?_
          have er : A9 c l = 3 := lw_3 hcw0 hlc (by omega) hpw (pw_op (by omega) (i := i) (by omega) hop (show E2 c _ = 3 by unfold E2; rw [if_neg ht42, if_pos (by omega)]) (by decide)) (by decide)
          exact Zdr
         ·intro ht62
          refine ZD ?_
          refine A7 (i + 1) ⟨by omega, fun j hj => ?_⟩ (by omega) alT (fun w hs => Ae hs)
          by_cases e : j = i
          ·rw [e]; unfold E2; rw [if_neg ht42, if_neg (by omega)]
          ·exact hop j (by omega)
     ·intro ht32
      refine ZD ?_
      have hie : i = (l.getD k []).length := by omega
      have hpk : Cj c (l.getD k []) = 0 := pw_0 (by omega) (by rw [← hie]; exact hop)
      refine A7 (k + 1) ⟨by omega, fun j hj => ?_⟩ (by omega) alT (fun w hs => Ae hs)
      by_cases e : j = k
      ·rw [e]; exact hpk
      ·exact hpw j (by omega)
   ·intro ht23
    refine ZB ?_
    have er : A9 c l = 0 := lw_0 hcw0 hlc (fun j hj => hpw j (by omega))
    exact Zdr
def doX (x : Chip) (s : Step) : Chip := if (Ag x s).2.2 = 0 then (Ag x s).1 else x
def doD (x : Chip) (s : Step) (D : List Done) : List Done := if (Ag x s).2.2 = 0 then D ++ (Ag x s).2.1 else D
theorem Kr (r : Rn) (s : Step) : Agb r s = ⟨doX r.x s, r.left, doD r.x s r.done⟩ := by
 unfold Agb doX doD
 split <;> rfl
theorem S2 {cv hv fv lv dv : Value} {b1 : Nat} {n nl : Nat} {M : List Int} {x : Chip} {D : List Done} {s : Step} (hs : St (blk b1 79 [cv, hv, fv, lv, dv] :: row 50 dv D :: L) R w) (hcv : sl cv x.cores ∈ R) (hhv : sl hv x.home ∈ R) (hfv : sl fv x.frames ∈ R) (hsw : s.wf) (h : Inv n nl x M) (hD : D.length ≤ 1000000) : Calls Try.prog 45 [bp b1 0, .agg s.cells.toArray].toArray w (Cd (fun v : Value × Value × Value × Value => .bool (decide ((Ag x s).2.2 = 0))) (fun v => blk b1 79 [v.1, v.2.1, v.2.2.1, lv, v.2.2.2] :: row 50 v.2.2.2 (doD x s D) :: L) (fun v => sl v.1 (doX x s).cores :: sl v.2.1 (doX x s).home :: sl v.2.2.1 (doX x s).frames :: R)) := by
 refine Ah Try.func45 rfl Try.ntmps45 rfl hs ?_
 clear hs
 refine Gm ?_
 refine bx ?_; intro b3
 refine Ga1 ?_
 refine cq_ (blk b3 38 s.cells :: blk b1 79 [cv, hv, fv, lv, dv] :: row 50 dv D :: L) ?_
 refine jd_ (fun ρ S => blk b3 38 s.cells :: blk b1 79 [cv, hv, fv, lv, dv] :: row 50 dv D :: ((bif S 10 then [blk (Gh.dec (γ := Nat) (ρ 10)) 27 (bif S 11 then [(Gh.dec (γ := Value × Value × Value × Value) (ρ 5)).1, (Gh.dec (γ := Value × Value × Value × Value) (ρ 5)).2.1, (Gh.dec (γ := Value × Value × Value × Value) (ρ 5)).2.2.1] else [.slice none 0 0, .slice none 0 0, .slice none 0 0])] else []) ++ (L))) ?_
 refine dn5 ?_
 refine G8 (γ := Value × Value × Value × Value) (val := fun v => .tuple #[.agg #[v.1, v.2.1, v.2.2.1], v.2.2.2, vi (Ag x s).2.2]) (F := fun v => [sl v.1 (Ag x s).1.cores, sl v.2.1 (Ag x s).1.home, sl v.2.2.1 (Ag x s).1.frames, sl v.2.2.2 (Ag x s).2.1]) Try.call23 (fun _ => rfl) (fun ρ L R w hd hs => Ha (x := x) (s := s) hs (hd.base mm) (hd.base mm) (hd.base mm) hsw h) (fun ρ g S hS hA => by have u10 : upS S 5 10 = S 10 := rfl; have u11 : upS S 5 11 = S 11 := rfl; have r10 : Rho.set ρ 5 g 10 = ρ 10 := rfl; have h11 : S 11 = false := hA 11 ⟨0, rfl⟩; simp only [u10, u11, r10, h11, cond_false]) ?_
 refine e_p (v := fun ρ => .tuple #[.agg #[(Gh.dec (γ := Value × Value × Value × Value) (ρ 5)).1, (Gh.dec (γ := Value × Value × Value × Value) (ρ 5)).2.1, (Gh.dec (γ := Value × Value × Value × Value) (ρ 5)).2.2.1], (Gh.dec (γ := Value × Value × Value × Value) (ρ 5)).2.2.2, vi (Ag x s).2.2]) (fun _ _ => Ug) (Ind.gh (h := fun g => (.tuple #[.agg #[(Gh.dec (γ := Value × Value × Value × Value) g).1, (Gh.dec (γ := Value × Value × Value × Value) g).2.1, (Gh.dec (γ := Value × Value × Value × Value) g).2.2.1], (Gh.dec (γ := Value × Value × Value × Value) g).2.2.2, vi (Ag x s).2.2] : Value)) 5 0 rfl) (fun _ _ _ _ _ => rfl) ?_
 refine e_p (v := fun ρ => .agg #[(Gh.dec (γ := Value × Value × Value × Value) (ρ 5)).1, (Gh.dec (γ := Value × Value × Value × Value) (ρ 5)).2.1, (Gh.dec (γ := Value × Value × Value × Value) (ρ 5)).2.2.1]) (fun _ _ => q_x) (Ind.gh (h := fun g => (.agg #[(Gh.dec (γ := Value × Value × Value × Value) g).1, (Gh.dec (γ := Value × Value × Value × Value) g).2.1, (Gh.dec (γ := Value × Value × Value × Value) g).2.2.1] : Value)) 5 1 rfl) (fun _ _ _ _ _ => rfl) ?_
 refine e_p (v := fun ρ => (Gh.dec (γ := Value × Value × Value × Value) (ρ 5)).2.2.2) (fun _ _ => q_x) (Ind.gh (h := fun g => ((Gh.dec (γ := Value × Value × Value × Value) g).2.2.2 : Value)) 5 1 rfl) (fun _ _ _ _ _ => rfl) ?_
 refine K7 (v := vi (Ag x s).2.2) (fun _ _ => q_x) (fun _ _ _ _ _ => rfl) ?_
 refine Ng (cs := [.slice none 0 0, .slice none 0 0, .slice none 0 0]) Try.zeroValue27 rfl (fun ρ b S hS hA => ?_) ?_
 ·have ui : upS S 10 10 = true := rfl; have u11 : upS S 10 11 = S 11 := rfl; have r5 : Rho.set ρ 10 (Gh.enc b) 5 = ρ 5 := rfl; have h11 : S 11 = false := hA 11 ⟨0, rfl⟩; have rs : (Gh.dec (γ := Nat) (Rho.set ρ 10 (Gh.enc b) 10)) = b := rfl
  simp only [ui, hS, u11, r5, h11, rs, cond_true, cond_false, List.nil_append]
  exact Zdk
 refine es_ 27 0 [10] [] (fun ρ => (Gh.dec (γ := Nat) (ρ 10))) (fun ρ => [.slice none 0 0, .slice none 0 0, .slice none 0 0]) (fun ρ => [(Gh.dec (γ := Value × Value × Value × Value) (ρ 5)).1, (Gh.dec (γ := Value × Value × Value × Value) (ρ 5)).2.1, (Gh.dec (γ := Value × Value × Value × Value) (ρ 5)).2.2.1]) Try.sizeOf27 (h1 := (fun ρ R w L' hd hs => Dl (isSlice.one (hs.fact (hd.dep (it := ⟨5, _, _, _, _⟩) (by repeat (first | exact List.Mem.head _ | refine List.Mem.tail _ ?_)) ⟨9, rfl⟩ (List.Mem.head _)))) (Dl (isSlice.one (hs.fact (hd.dep (it := ⟨5, _, _, _, _⟩) (by repeat (first | exact List.Mem.head _ | refine List.Mem.tail _ ?_)) ⟨9, rfl⟩ (.tail _ (.head _))))) (Dl (isSlice.one (hs.fact (hd.dep (it := ⟨5, _, _, _, _⟩) (by repeat (first | exact List.Mem.head _ | refine List.Mem.tail _ ?_)) ⟨9, rfl⟩ (.tail _ (.tail _ (.head _)))))) H1)))) ?_
 refine e_p (v := fun ρ => (Gh.dec (γ := Value × Value × Value × Value) (ρ 5)).2.2.2) (fun _ _ => Di) (Ind.gh (h := fun g => ((Gh.dec (γ := Value × Value × Value × Value) g).2.2.2 : Value)) 5 0 rfl) (fun _ _ _ _ _ => rfl) ?_
 refine K7 (v := vi (Ag x s).2.2) (fun _ _ => Di) (fun _ _ _ _ _ => rfl) ?_
 refine dnl ?_; intro ρ
 refine xq_ (blk b3 38 s.cells :: blk b1 79 [cv, hv, fv, lv, dv] :: row 50 dv D :: (blk (Gh.dec (γ := Nat) (ρ 10)) 27 [(Gh.dec (γ := Value × Value × Value × Value) (ρ 5)).1, (Gh.dec (γ := Value × Value × Value × Value) (ρ 5)).2.1, (Gh.dec (γ := Value × Value × Value × Value) (ρ 5)).2.2.1] :: L)) ?_
 generalize (Gh.dec (γ := Value × Value × Value × Value) (ρ 5)) = vq
 generalize (Gh.dec (γ := Nat) (ρ 10)) = b5
 refine ZD ?_
 refine cdy ?_ ?_
 ·intro ht19
  refine ZB ?_
  have er : decide ((Ag x s).2.2 = 0) = false ∧ doX x s = x ∧ doD x s D = D := ⟨decide_eq_false ht19, if_neg ht19, if_neg ht19⟩
  rw [er.1, er.2.1, er.2.2]
  exact Bq (cv, hv, fv, dv)
 ·intro ht19
  refine Gl ?_
  refine JC.know (p := vq.1.oneCell' = true ∧ vq.2.1.oneCell' = true ∧ vq.2.2.1.oneCell' = true) (fun w hs => ⟨isSlice.one (hs.fact (mm (f := sl vq.1 (Ag x s).1.cores))), isSlice.one (hs.fact (mm (f := sl vq.2.1 (Ag x s).1.home))), isSlice.one (hs.fact (mm (f := sl vq.2.2.1 (Ag x s).1.frames)))⟩) (fun h12 => ?_)
  obtain ⟨hoq1, hoq2, hoq3⟩ := h12
  refine ZI ?_
  refine s_N [vq.1, vq.2.1, vq.2.2.1, lv, dv] Try.sizeOf27 ?_
  refine Gl ?_
  have h9 := Nj x s
  refine ZaA ?_
  refine ap G7 (hb := fun w hs => by have : maxN = 16777216 := rfl; omega) (k := ?_); intro v30
  refine rn2 ?_
  refine J.know (p := v30.oneCell' = true) (fun w hs => Bm pkk hs) (fun hone30 => ?_)
  refine s_b Try.sizeOf29 ?_
  intro cs_ hcs_; simp only [Nat.zero_add, Nat.add_zero, Nat.reduceAdd, List.set_cons_zero, List.set_cons_succ] at hcs_; subst hcs_
  refine Gl ?_
  refine kp [4] ?_
  refine Aa ?_
  refine Ga1 ?_
  have ht0 : (Ag x s).2.2 = 0 := Decidable.not_not.1 ht19
  have er : decide ((Ag x s).2.2 = 0) = true ∧ doX x s = (Ag x s).1 ∧ doD x s D = D ++ (Ag x s).2.1 := ⟨decide_eq_true ht0, if_pos ht0, if_pos ht0⟩
  rw [er.1, er.2.1, er.2.2]
  exact Bq (vq.1, vq.2.1, vq.2.2.1, v30)
theorem Q8 {cv hv fv lv dv : Value} {b1 : Nat} {n nl : Nat} {M : List Int} {r : Rn} (hs : St (blk b1 79 [cv, hv, fv, lv, dv] :: row 50 dv r.done :: L) R w) (hcv : sl cv r.x.cores ∈ R) (hhv : sl hv r.x.home ∈ R) (hfv : sl fv r.x.frames ∈ R) (h : Inv n nl r.x M) (hD : r.done.length ≤ 1000000) : Calls Try.prog 29 [bp b1 0].toArray w (Cd (fun v : Value × Value × Value × Value => .tuple #[]) (fun v => blk b1 79 [v.1, v.2.1, v.2.2.1, lv, v.2.2.2] :: row 50 v.2.2.2 (Bf r).done :: L) (fun v => sl v.1 (Bf r).x.cores :: sl v.2.1 (Bf r).x.home :: sl v.2.2.1 (Bf r).x.frames :: R)) := by
 refine Ah Try.func29 rfl Try.ntmps29 rfl hs ?_
 clear hs
 refine Gm ?_
 refine rn4 ?_
 refine Ak Try.call13 rfl (fun w hs => Mj (x := r.x) hs mm mm mm h) ?_; intro v10
 refine J.know (p := v10.1.oneCell' = true ∧ v10.2.1.oneCell' = true ∧ v10.2.2.1.oneCell' = true) (fun w hs => ⟨isSlice.one (hs.fact (.head _)), isSlice.one (hs.fact (.tail _ (.head _))), isSlice.one (hs.fact (.tail _ (.tail _ (.head _))))⟩) (fun h12 => ?_)
 obtain ⟨honev101, honev102, honev103⟩ := h12
 refine rn4 ?_
 refine al_ (cs := [.slice none 0 0, .slice none 0 0, .slice none 0 0]) Try.zeroValue27 ?_; intro b2
 refine s_B (cs := [v10.1, v10.2.1, v10.2.2.1]) Try.sizeOf27 ?_
 refine Gb2 ?_
 refine rn4 ?_
 refine s_N [v10.1, v10.2.1, v10.2.2.1, lv, dv] Try.sizeOf27 ?_
 refine Gl ?_
 have h9 := V0 h
 refine ZaA ?_
 refine ap G7 (hb := fun w hs => by have : maxN = 16777216 := rfl; omega) (k := ?_); intro v24
 refine rn2 ?_
 refine J.know (p := v24.oneCell' = true) (fun w hs => Bm pkk hs) (fun hone30 => ?_)
 refine s_b Try.sizeOf29 ?_
 intro cs_ hcs_; simp only [Nat.zero_add, Nat.add_zero, Nat.reduceAdd, List.set_cons_zero, List.set_cons_succ] at hcs_; subst hcs_
 refine Gl ?_
 refine A1 (.inl rfl) (fun B w hs => Gf rfl _ w) (fun w hs => ⟨(v10.1, v10.2.1, v10.2.2.1, v24), rfl, Ae hs⟩)
theorem Uu {cv hv fv lv dv : Value} {b1 : Nat} {n nl : Nat} {M : List Int} {r : Rn} {p : Nat} (hs : St (blk b1 79 [cv, hv, fv, lv, dv] :: row 50 dv r.done :: row 58 lv r.left :: L) R w) (hcv : sl cv r.x.cores ∈ R) (hhv : sl hv r.x.home ∈ R) (hfv : sl fv r.x.frames ∈ R) (h : Inv n nl r.x M) (hp : p < r.left.length) (hp4 : p ≤ 100) (hD : r.done.length ≤ 1000000) : Calls Try.prog 30 [bp b1 0, vi (p : Int)].toArray w (Cd (fun v : Value × Value × Value × Value => .tuple #[]) (fun v => blk b1 79 [v.1, v.2.1, v.2.2.1, lv, v.2.2.2] :: row 50 v.2.2.2 (Bg r p).done :: row 58 lv (Bg r p).left :: L) (fun v => sl v.1 (Bg r p).x.cores :: sl v.2.1 (Bg r p).x.home :: sl v.2.2.1 (Bg r p).x.frames :: R)) := by
 refine Ah Try.func30 rfl Try.ntmps30 rfl hs ?_
 clear hs
 refine Gl ?_
 refine Zp p (v := lv) (l := r.left) pkk (by omega) (fun u honeu => ?_)
 rcases (show ((r.left.getD p []).length = 0) ∨ (0 < (r.left.getD p []).length) from by omega) with hc | hc
 ·refine Aa ?_
  refine rn8 ?_
  refine De ?_
  refine Gc15 ?_
  have ep : r.left.getD p [] = [] := List.eq_nil_of_length_eq_zero hc
  have er : Bg r p = r := by unfold Bg; rw [if_pos ep]
  rw [er]
  refine A1 (.inl rfl) (fun B w hs => Gf rfl _ w) (fun w hs => ⟨(cv, hv, fv, dv), rfl, Ae (J6 mm (hs.pick pkk))⟩)
 ·refine JC.open0 (xs := (r.left.getD p [])) (v := u) 0 mm (by omega) (fun how => ?_)
  refine Aa ?_
  refine rn8 ?_
  refine Ft ?_
  refine rn10 ?_
  refine gy ?_
  refine ob (Gb (i := 0) Ahh) ?_
  refine ZN ?_
  refine Ak Try.call45 rfl (fun w hs => S2 (x := r.x) (D := r.done) (s := opS p ((r.left.getD p []).getD 0 zOp)) (Ae (L' := blk b1 79 [cv, hv, fv, lv, dv] :: row 50 dv r.done :: foc 58 lv r.left p [u] :: L) hs) mm mm mm (by unfold Step.wf An opS; exact ⟨by simp only; omega, by simp only; omega, by simp only; omega, by simp only; omega, how⟩) h hD) ?_; intro v22
  refine Ga1 ?_
  refine cdy ?_ ?_
  ·intro ht27
   refine Bv ?_
   refine dn12 ?_
   refine dj ?_
   refine Vn (α := Op) (xs := (r.left.getD p [])) (lo := 1) (hi := (r.left.getD p []).length) Ahh (fun _ => rfl) mm (fun _ => rfl) (fun _ => rfl) (by omega) (by omega) (fun _ _ _ _ => rfl) ?_
   refine dn1 ?_
   refine dtl ?_; intro ρ
   generalize (Gh.dec (γ := Value) (ρ 12)) = v40
   refine J.know (p := v40.oneCell' = true) (fun w hs => isSlice.one (hs.fact (mm (f := sl v40 (((r.left.getD p []).take (r.left.getD p []).length).drop 1))))) (fun hone40 => ?_)
   refine sc ?_
   refine Gl ?_
   obtain ⟨o, t, ep⟩ : ∃ o t, r.left.getD p [] = o :: t := by
    exact ZdL
   have eo : ((r.left.getD p []).getD 0 zOp) = o := by rw [ep]; rfl
   have eh : (r.left.getD p []).headD zOp = o := by rw [ep]; rfl
   have er : Bg r p = ⟨doX r.x (opS p ((r.left.getD p []).getD 0 zOp)), r.left.set p (((r.left.getD p []).take (r.left.getD p []).length).drop 1), doD r.x (opS p ((r.left.getD p []).getD 0 zOp)) r.done⟩ := by
    unfold Bg doX doD; rw [if_neg (by rw [ep]; exact List.cons_ne_nil _ _), eh, eo, List.take_length, ep]; rw [eo] at ht27; rw [if_pos ht27, if_pos ht27, if_pos ht27]; rfl
   rw [er]
   refine A1 (.inl rfl) (fun B w hs => Gf rfl _ w) (fun w hs => ⟨v22, rfl, Ae (Ul mm (hs.pick pkk))⟩)
  ·intro ht27
   refine Gl ?_
   obtain ⟨o, t, ep⟩ : ∃ o t, r.left.getD p [] = o :: t := by
    exact ZdL
   have eo : ((r.left.getD p []).getD 0 zOp) = o := by rw [ep]; rfl
   have eh : (r.left.getD p []).headD zOp = o := by rw [ep]; rfl
   have er : Bg r p = ⟨doX r.x (opS p ((r.left.getD p []).getD 0 zOp)), r.left, doD r.x (opS p ((r.left.getD p []).getD 0 zOp)) r.done⟩ := by
    unfold Bg doX doD; rw [if_neg (by rw [ep]; exact List.cons_ne_nil _ _), eh, eo]; rw [eo] at ht27; rw [if_neg ht27, if_neg ht27, if_neg ht27]
   rw [er]
   refine A1 (.inl rfl) (fun B w hs => Gf rfl _ w) (fun w hs => ⟨v22, rfl, Ae (J6 mm (hs.pick pkk))⟩)
theorem Alj {P : Program} {T : TypeId} {a : Int} (w : World) : (binOp .and T (vi a) (vi 65535)).run P w = .ok (vi (a % 65536)) w := by
 show Result.ok (Value.int .i64 (IntKind.i64.wrap ((BitVec.ofInt 64 a &&& BitVec.ofInt 64 65535).toNat : Int))) w = _
 have h : (BitVec.ofInt 64 a &&& BitVec.ofInt 64 65535).toNat = (a % 65536).toNat := by
  rw [BitVec.toNat_and]
  have h1 : (BitVec.ofInt 64 65535).toNat = 2 ^ 16 - 1 := by rw [BitVec.toNat_ofInt]; rfl
  rw [h1, Nat.and_two_pow_sub_one_eq_mod, BitVec.toNat_ofInt]
  omega
 rw [h, IntKind.wrap_i64]
 have : ((((a % 65536).toNat : Nat) : Int) + 9223372036854775808) % 18446744073709551616 - 9223372036854775808 = a % 65536 := by omega
 rw [this]
theorem Ail {cv hv fv lv dv : Value} {b1 : Nat} {n nl : Nat} {M : List Int} {r : Rn} {m : Int} (hs : St (blk b1 79 [cv, hv, fv, lv, dv] :: row 50 dv r.done :: row 58 lv r.left :: L) R w) (hcv : sl cv r.x.cores ∈ R) (hhv : sl hv r.x.home ∈ R) (hfv : sl fv r.x.frames ∈ R) (h : Inv n nl r.x M) (hl0 : 0 < r.left.length) (hl4 : r.left.length ≤ 100) (hm : An m) (hD : r.done.length ≤ 1000000) : Calls Try.prog 28 [bp b1 0, vi m].toArray w (Cd (fun v : Value × Value × Value × Value => .tuple #[]) (fun v => blk b1 79 [v.1, v.2.1, v.2.2.1, lv, v.2.2.2] :: row 50 v.2.2.2 (D7 r m).done :: row 58 lv (D7 r m).left :: L) (fun v => sl v.1 (D7 r m).x.cores :: sl v.2.1 (D7 r m).x.home :: sl v.2.2.1 (D7 r m).x.frames :: R)) := by
 have hfr := h.fr
 refine Ah Try.func28 rfl Try.ntmps28 rfl hs ?_
 clear hs
 refine ZJ ?_
 refine ob (Al rfl rfl Alj) ?_
 refine Ga1 ?_
 obtain ⟨q, hq⟩ : ∃ q : Nat, m % 65536 = (q : Int) := ⟨pkM m, by unfold pkM; omega⟩
 have hq0 : pkM m = q := by unfold pkM; omega
 rw [hq]
 refine ZC ?_
 refine ob (Al rfl rfl (Ij (b := 8) (by decide) (by decide))) ?_
 refine rn1 ?_
 refine ob (Al rfl rfl (Vp (b := 8) (by omega) (by decide))) ?_
 refine Ga2 ?_
 rcases (show (q % 8 < 3) ∨ ((3 ≤ q % 8 ∧ q % 8 < 6) ∧ 0 < r.x.frames.length) ∨ ((3 ≤ q % 8 ∧ q % 8 < 6) ∧ r.x.frames.length = 0) ∨ ((q % 8 = 6 ∧ 0 < r.x.frames.length) ∧ q / 8 % 2 = 0) ∨ ((q % 8 = 6 ∧ 0 < r.x.frames.length) ∧ q / 8 % 2 = 1) ∨ (q % 8 = 6 ∧ r.x.frames.length = 0) ∨ (q % 8 = 7) from by omega) with hc | hc | hc | hc | hc | hc | hc
 ·refine Za2 ?_
  refine Gd1 ?_
  refine rn7 ?_
  refine ob (Al rfl rfl (Ij (b := r.left.length) (by omega) (by omega))) ?_
  refine Ak Try.call30 rfl (fun w hs => Uu (r := r) (p := q / 8 % r.left.length) (Ae hs) mm mm mm h (Nat.mod_lt _ hl0) (by have := Nat.mod_lt (q / 8) hl0; omega) hD) ?_; intro v35
  refine Gl ?_
  have er : D7 r m = Bg r (q / 8 % r.left.length) := by unfold D7; rw [hq0]; rw [if_pos hc]
  rw [er]
  refine A1 (.inl rfl) (fun B w hs => Gf rfl _ w) (fun w hs => ⟨v35, rfl, Ae hs⟩)
 ·refine ZR ?_
  refine Zax ?_
  refine Dt ?_
  refine Za8 ?_
  refine Ft ?_
  refine Gd2 ?_
  refine rn8 ?_
  refine ob (Al rfl rfl (Ij (b := r.x.frames.length) (by omega) (by omega))) ?_
  refine rn1 ?_
  refine Ak Try.call45 rfl (fun w hs => S2 (x := r.x) (D := r.done) (s := ⟨2, 0, ((q / 8 % r.x.frames.length : Nat) : Int), 0, zOp⟩) (Ae (L' := blk b1 79 [cv, hv, fv, lv, dv] :: row 50 dv r.done :: row 58 lv r.left :: L) hs) mm mm mm (by unfold Step.wf An zOp; have := Nat.mod_le (q / 8) r.x.frames.length; have := Nat.mod_le (q / 8 / 2) r.x.frames.length; have := Nat.mod_le (q / 8) (r.left.length + 1); simp only; omega) h hD) ?_; intro v58
  refine Gl ?_
  have er : D7 r m = ⟨doX r.x ⟨2, 0, ((q / 8 % r.x.frames.length : Nat) : Int), 0, zOp⟩, r.left, doD r.x ⟨2, 0, ((q / 8 % r.x.frames.length : Nat) : Int), 0, zOp⟩ r.done⟩ := by rw [← Kr]; unfold D7; rw [hq0]; rw [if_neg (by omega), if_pos (by omega)]
  rw [er]
  refine A1 (.inl rfl) (fun B w hs => Gf rfl _ w) (fun w hs => ⟨v58, rfl, Ae hs⟩)
 ·refine ZR ?_
  refine Zax ?_
  refine Dt ?_
  refine Za8 ?_
  refine De ?_
  refine Gd2 ?_
  refine rn1 ?_
  refine A4 ?_
  refine Gc10 ?_
  exact Zdx
 ·have hz := hc.2
  refine ZC ?_
  refine Zcn ?_;intro v71
  refine J.open0 (xs := ([3, 4] : List Int)) (v := v71) 0 mm (by decide) (fun _ => ?_)
  refine ob (D8 (c := vi 3) Try.isAgg3 (hc := Aln mm rfl)) ?_
  refine Zc1 ?_
  refine Ak Try.call45 rfl (fun w hs => S2 (x := r.x) (D := r.done) (s := ⟨3, 0, ((q / 8 / 2 % r.x.frames.length : Nat) : Int), 0, zOp⟩) (Ae (L' := blk b1 79 [cv, hv, fv, lv, dv] :: row 50 dv r.done :: row 58 lv r.left :: L) hs) mm mm mm (by unfold Step.wf An zOp; have := Nat.mod_le (q / 8) r.x.frames.length; have := Nat.mod_le (q / 8 / 2) r.x.frames.length; have := Nat.mod_le (q / 8) (r.left.length + 1); simp only; omega) h hD) ?_; intro v88
  refine Gl ?_
  have er : D7 r m = ⟨doX r.x ⟨3, 0, ((q / 8 / 2 % r.x.frames.length : Nat) : Int), 0, zOp⟩, r.left, doD r.x ⟨3, 0, ((q / 8 / 2 % r.x.frames.length : Nat) : Int), 0, zOp⟩ r.done⟩ := by rw [← Kr]; unfold D7; rw [hq0]; rw [if_neg (by omega), if_neg (by omega), if_pos (by omega), if_pos hz]
  exact Zea
 ·have hz := hc.2
  refine ZC ?_
  refine Zcn ?_;intro v71
  refine J.open0 (xs := ([3, 4] : List Int)) (v := v71) 1 mm (by decide) (fun _ => ?_)
  refine ob (D8 (c := vi 4) Try.isAgg3 (hc := Aln mm rfl)) ?_
  refine Zc1 ?_
  refine Ak Try.call45 rfl (fun w hs => S2 (x := r.x) (D := r.done) (s := ⟨4, 0, ((q / 8 / 2 % r.x.frames.length : Nat) : Int), 0, zOp⟩) (Ae (L' := blk b1 79 [cv, hv, fv, lv, dv] :: row 50 dv r.done :: row 58 lv r.left :: L) hs) mm mm mm (by unfold Step.wf An zOp; have := Nat.mod_le (q / 8) r.x.frames.length; have := Nat.mod_le (q / 8 / 2) r.x.frames.length; have := Nat.mod_le (q / 8) (r.left.length + 1); simp only; omega) h hD) ?_; intro v88
  refine Gl ?_
  have er : D7 r m = ⟨doX r.x ⟨4, 0, ((q / 8 / 2 % r.x.frames.length : Nat) : Int), 0, zOp⟩, r.left, doD r.x ⟨4, 0, ((q / 8 / 2 % r.x.frames.length : Nat) : Int), 0, zOp⟩ r.done⟩ := by rw [← Kr]; unfold D7; rw [hq0]; rw [if_neg (by omega), if_neg (by omega), if_pos (by omega), if_neg (by omega)]
  exact Zea
 ·refine ZR ?_
  refine Zax ?_
  refine A3 ?_
  refine Gd10 ?_
  refine rn1 ?_
  refine C8 ?_
  refine Za8 ?_
  refine De ?_
  refine Gc2 ?_
  exact Zdx
 ·refine ZR ?_
  refine Zax ?_
  refine A3 ?_
  refine Gd10 ?_
  refine rn1 ?_
  refine A4 ?_
  refine Gc10 ?_
  exact Zdx
end Go.Proofs.Ytkgijpngobgfjaa
namespace Go.Proofs.Ytkgijpngobgfjaa
open Abs
theorem Pn (k : Nat) : ∀ (d : List Done), (d.filter fun x => decide (0 ≤ x.core ∧ x.core < ((k + 1 : Nat) : Int))).length = (d.filter fun x => decide (0 ≤ x.core ∧ x.core < (k : Int))).length + (Ax d k).length
 | [] => rfl
 | x :: d => by
  have ih := Pn k d
  unfold Ax at ih ⊢
  simp only [List.filter_cons, decide_eq_true_eq]
  by_cases h1 : x.core = (k : Int)
  ·rw [if_pos (by omega), if_neg (by omega), if_pos (by simp [h1])]
   simp only [List.length_cons]; omega
  ·by_cases h2 : 0 ≤ x.core ∧ x.core < (k : Int)
   ·rw [if_pos (by omega), if_pos h2, if_neg (by simp [h1])]
    simp only [List.length_cons]; omega
   ·rw [if_neg (by omega), if_neg h2, if_neg (by simp [h1])]; exact ih
theorem O0 (l : List (List Op)) {k : Nat} (hk : k < l.length) : tot (l.take (k + 1)) = tot (l.take k) + (l.getD k []).length := by
 have e : l.take (k + 1) = l.take k ++ [l[k]] := by rw [List.take_add_one, List.getElem?_eq_getElem hk]; rfl
 rw [e, List.getD_eq_getElem?_getD, List.getElem?_eq_getElem hk]
 unfold tot
 rw [List.map_append, List.sum_append]; rfl
theorem Vd {l : List (List Op)} {d : List Done} (h : ∀ p, (Ax d p).map Done.op = atL l p) : ∀ (k : Nat), k ≤ l.length → (d.filter fun x => decide (0 ≤ x.core ∧ x.core < (k : Int))).length = tot (l.take k)
 | 0, _ => by
  rw [List.filter_eq_nil_iff.2 (fun x _ => by rw [decide_eq_true_eq]; omega)]; rfl
 | k + 1, hk => by
  have h1 := congrArg List.length (h (k : Int))
  rw [List.length_map] at h1
  unfold atL at h1
  rw [if_neg (by omega), Int.toNat_natCast] at h1
  rw [Pn, Vd h k (by omega), O0 l (by omega), h1]
theorem Iw {l : List (List Op)} {d : List Done} (h : ∀ p, (Ax d p).map Done.op = atL l p) : d.length = tot l := by
 have h1 := Vd h l.length (Nat.le_refl _)
 rw [List.take_length, List.filter_eq_self.2 (fun x hx => ?_)] at h1
 ·exact h1
 ·have h2 : (Ax d x.core).map Done.op ≠ [] := by
   exact Zd9
  rw [h x.core] at h2
  unfold atL at h2
  split at h2
  ·exact absurd rfl h2
  ·by_cases h4 : x.core.toNat < l.length
   ·exact decide_eq_true (by omega)
   ·exact Zeb
set_option maxHeartbeats 1000000
set_option maxRecDepth 8000
variable {L : List Chunk} {R : List Fact} {w : World}
section
variable {n nl : Nat} {l0 : List (List Op)} {K B : Int} {r : Rn}
theorem Zr {l : List (List Op)} {d : List Done} (h : ∀ p : Int, (Ax d p).length ≤ (atL l p).length) : ∀ (k : Nat), k ≤ l.length → (d.filter fun x => decide (0 ≤ x.core ∧ x.core < (k : Int))).length ≤ tot (l.take k)
 | 0, _ => by
  rw [List.filter_eq_nil_iff.2 (fun x _ => by rw [decide_eq_true_eq]; omega)]; exact Nat.zero_le _
 | k + 1, hk => by
  have h1 := h (k : Int)
  unfold atL at h1
  rw [if_neg (by omega), Int.toNat_natCast] at h1
  have h2 := Zr h k (by omega)
  rw [Pn, O0 l (by omega)]; omega
theorem RI.len (h : RI n nl l0 K B r) : r.done.length ≤ tot l0 := by
 have hl : ∀ p : Int, (Ax r.done p).length ≤ (atL l0 p).length := fun p => by
  have h1 := congrArg List.length (h.ord p)
  rw [List.length_append, List.length_append, List.length_map] at h1; omega
 have h1 := Zr hl l0.length (Nat.le_refl _)
 rw [List.take_length, List.filter_eq_self.2 (fun x hx => ?_)] at h1
 ·exact h1
 ·have h2 : 0 < (Ax r.done x.core).length := List.length_pos_of_mem (List.mem_filter.2 ⟨hx, by simp⟩ : x ∈ Ax r.done x.core)
  have h3 := hl x.core
  unfold atL at h3
  split at h3
  ·rw [List.length_nil] at h3; omega
  ·by_cases h4 : x.core.toNat < l0.length
   ·exact decide_eq_true (by omega)
   ·rw [List.getD_eq_getElem?_getD, List.getElem?_eq_none (by omega)] at h3
    rw [Option.getD_none, List.length_nil] at h3; omega
theorem Wm {l : List Int} {k : Nat} (h : k < l.length) : Et r (l.take (k + 1)) = D7 (Et r (l.take k)) (l.getD k 0) := by
 rw [Hu 0 h]; unfold Et; rw [List.foldl_append]; rfl
theorem Aiw {p k : Nat} (hk : 0 < k) (h : (r.left.getD p []).length = 0) : O5 r p k = r := by
 obtain ⟨j, rfl⟩ : ∃ j, k = j + 1 := ⟨k - 1, by omega⟩
 unfold O5; rw [if_pos (List.eq_nil_of_length_eq_zero h)]
theorem RI.turn (h : RI n nl l0 K B r) (hK : K < 65535) (hv : ∀ p o, o ∈ l0.getD p [] → Uo nl o) (hc : C1 r.x = true) {p k : Nat} (hp : p < n) (hk : 0 < k) (hl : 0 < (r.left.getD p []).length) : (∃ B', RI n nl l0 K B' (Bg r p)) ∧ (∃ B', RI n nl l0 K B' (Bf (Bg r p))) ∧ C1 (Bf (Bg r p)).x = true ∧ ((Bf (Bg r p)).left.getD p []).length + 1 = (r.left.getD p []).length ∧ O5 r p k = O5 (Bf (Bg r p)) p (k - 1) := by
 obtain ⟨j, rfl⟩ : ∃ j, k = j + 1 := ⟨k - 1, by omega⟩
 obtain ⟨o, t, e⟩ : ∃ o t, r.left.getD p [] = o :: t := by
  cases hh : r.left.getD p [] with
  | nil => rw [hh] at hl; exact absurd hl (by decide)
  | cons o t => exact ⟨o, t, rfl⟩
 have hg := h.goes hK hv hc hp e
 obtain ⟨B1, h1⟩ := h.begin hK hp
 obtain ⟨h2, c2, f2⟩ := h1.settle hK
 have hl2 : (Bf (Bg r p)).left = r.left.set p t := hg
 have hlen : ((Bf (Bg r p)).left.getD p []).length + 1 = (r.left.getD p []).length := by
  rw [hl2, Bi _ _ _ _ _ (by rw [h.ln]; exact hp), if_pos rfl, e]; rfl
 refine ⟨⟨B1, h1⟩, ⟨B1, h2⟩, c2, hlen, ?_⟩
 show (if r.left.getD p [] = [] then r else _) = _
 rw [if_neg (by rw [e]; exact List.cons_ne_nil _ _), if_neg (by omega)]; rfl
end
theorem lr_1 {c : Config} {l : List (List Op)} {picks : List Int} (h : A9 c l ≠ 0) : Av c l picks = (Er, [], A9 c l) := by unfold Av; rw [if_pos h]
theorem lr_2 {c : Config} {l : List (List Op)} {picks : List Int} (h : A9 c l = 0) (h2 : 300 < picks.length) : Av c l picks = (Er, [], 4) := by unfold Av; rw [if_neg (by rw [h]; decide), if_pos h2]
theorem lr_3 {c : Config} {l : List (List Op)} {picks : List Int} (h : A9 c l = 0) (h2 : ¬ 300 < picks.length) : Av c l picks = ((Cq (Et ⟨(A2 c).1, l, []⟩ picks) l.length).x, (Cq (Et ⟨(A2 c).1, l, []⟩ picks) l.length).done, 0) := by unfold Av; rw [if_neg (by rw [h]; decide), if_neg h2]; rfl
theorem Aeo {v0 : Value} {xs : List Op} (hs : St (L) R w) (h0 : sl v0 xs ∈ R) : Calls Try.prog 27 [v0].toArray w (Cd (fun v : Value => v) (fun v => row 36 v xs :: L) (fun v => R)) := by
 refine Ah Try.func27 rfl Try.ntmps27 rfl hs ?_
 clear hs
 refine Zam ?_
 refine ob (Acc Try.underlying58 (Fc h0)) ?_
 refine Gl ?_
 refine Cc (b := ?b1) ?e1 ?_ ?_; case e1 => exact rfl
 ·intro ht4
  refine JC.nilOf ht4 h0 (fun hx => ?_)
  refine ZB ?_
  exact Bq (.slice none 0 0) (hs := fun w hs => by rw [hx]; exact Ae (hs.rowNil 36 Op))
 ·intro ht4
  refine Gm ?_
  refine liO ([] : List Op) Kd rfl (fun j h => Uc) ?_; intro v5
  refine rn1 ?_
  refine ap Kd (hb := fun w hs => by have := Bx h0 hs; have : maxN = 16777216 := rfl; simp; omega) (k := ?_); intro v7
  refine Ga1 ?_
  exact Bq v7
theorem Jk {vl vp : Value} {c : Config} {l : List (List Op)} {picks : List Int} (hs : St (L) R w) (hl : sl vl l ∈ R) (hpk : sl vp picks ∈ R) (hcw : c.wf) : Calls Try.prog 14 [.agg c.cells.toArray, vl, vp].toArray w (Cd (fun v : Value × Value × Value × Value => .tuple #[.agg #[v.1, v.2.1, v.2.2.1], v.2.2.2, vi (Av c l picks).2.2]) (fun v => L) (fun v => sl v.1 (Av c l picks).1.cores :: sl v.2.1 (Av c l picks).1.home :: sl v.2.2.1 (Av c l picks).1.frames :: sl v.2.2.2 (Av c l picks).2.1 :: R)) := by
 have hlen := Bx hl hs
 refine Ah Try.func14 rfl Try.ntmps14 rfl hs ?_
 clear hs
 refine Gm ?_
 refine bx ?_; intro b3
 refine al_ (cs := [.slice none 0 0, .slice none 0 0, .slice none 0 0]) Try.zeroValue27 ?_; intro b6
 refine Gb2 ?_
 refine rn2 ?_
 refine Ak Try.call18 rfl (fun w hs => Ka hs mm hcw) ?_; intro _
 refine ZH ?_
 refine cdy ?_ ?_
 ·intro ht23
  refine Gl ?_
  refine ZaP ?_
  rw [lr_1 ht23]
  exact ZcW
 ·intro ht23
  refine Zac ?_
  refine cdy ?_ ?_
  ·intro ht28
   refine Gl ?_
   refine ZbE ?_
   rw [lr_2 (Decidable.not_not.1 ht23) (by omega)]
   exact ZcW
  ·intro ht28
   refine ZJ ?_
   refine Ak Try.call22 rfl (fun w hs => Vo (c := c) hs hcw) ?_; intro v32
   refine J.know (p := v32.1.oneCell' = true ∧ v32.2.oneCell' = true) (fun w hs => ⟨isSlice.one (hs.fact (.head _)), isSlice.one (hs.fact (.tail _ (.head _)))⟩) (fun h12 => ?_)
   obtain ⟨honev321, honev322⟩ := h12
   refine rn3 ?_
   refine al_ (cs := [.slice none 0 0, .slice none 0 0, .slice none 0 0]) Try.zeroValue27 ?_; intro b10
   refine s_B (cs := [v32.1, v32.2, .slice none 0 0]) Try.sizeOf27 ?_
   refine Gb1 ?_
   refine rn2 ?_
   refine bx ?_; intro b37
   refine Zah ?_
   have hw0 : A9 c l = 0 := Decidable.not_not.1 ht23
   have hp3 : ¬ 300 < picks.length := by omega
   obtain ⟨n, nl, a1, a2, a3, a4, a5, a6, a7⟩ := Q7 hw0
   have htl := Qe l a6
   have hK : ((tot l : Nat) : Int) < 65535 := by rw [a5] at htl; omega
   have htl2 : tot l ≤ 48 := by rw [a5] at htl; omega
   refine JC.rowNil 58 (List Op) ?_
   refine Bs (γ := Nat × Value) (fun g => g.1 ≤ l.length) (fun g => row 58 g.2 (l.take g.1) :: blk b37 79 [v32.1, v32.2, .slice none 0 0, g.2, .slice none 0 0] :: blk b6 27 [.slice none 0 0, .slice none 0 0, .slice none 0 0] :: L) (fun _ => sl v32.1 (A2 c).1.cores :: sl v32.2 (A2 c).1.home :: sl (.slice none 0 0) (A2 c).1.frames :: R) (fun g => [(2, vp), (6, bp b6 0), (12, bp b37 0), (38, vl), (39, vi (l.length : Int)), (40, vi (g.1 : Int))]) (fun g => l.length - g.1) (0, .slice none 0 0) (Nat.zero_le _) alT (fun w hs => Ae hs) ?_
   rintro ⟨k, vs⟩ hk
   try simp only at hk ⊢
   refine ZB ?_
   refine cdy ?_ ?_
   ·intro ht41
    refine Gl ?_
    refine Sv k (v := vl) (l := l) mm (by omega) (fun u honeu => ?_)
    refine Aa ?_
    refine Ga3 ?_
    refine kp [2, 6, 7, 8, 12, 14, 38, 39, 40, 41, 42, 43, 44, 45, 46, 47, 48, 49, 50, 51, 52, 53, 54] ?_
    refine cq_ (blk b37 79 [v32.1, v32.2, .slice none 0 0, vs, .slice none 0 0] :: row 58 vs (l.take k) :: blk b6 27 [.slice none 0 0, .slice none 0 0, .slice none 0 0] :: L) ?_
    refine jd_ (fun ρ S => blk b37 79 (bif S 11 then [v32.1, v32.2, .slice none 0 0, (Gh.dec (γ := Value) (ρ 8)), .slice none 0 0] else [v32.1, v32.2, .slice none 0 0, vs, .slice none 0 0]) :: (bif S 8 then row 58 (Gh.dec (γ := Value) (ρ 8)) ((l.take k) ++ [l.getD k []]) else row 58 vs (l.take k)) :: blk b6 27 [.slice none 0 0, .slice none 0 0, .slice none 0 0] :: L) ?_
    refine dn4 ?_
    refine Jr (v := vs) (fun ρ S hS hB hA => by have h11 : S 11 = false := hA 11 ⟨0, rfl⟩; simp only [h11, cond_false]; exact D8 (hc := Bt pkk (by repeat (first | exact rfl | refine Da rfl ?_))) Try.isAgg47) (fun _ _ _ _ _ => rfl) ?_
    refine dn1 ?_
    refine G8 (γ := Value) (val := fun v => v) (F := fun v => [sl v (l.getD k [])]) Try.call27 (fun _ => rfl) (fun ρ L R w hd hs => frz (Aeo (xs := l.getD k []) hs (hd.base mm))) (fun _ _ _ _ _ => rfl) ?_
    refine Lr [l.getD k []] Rt rfl (fun _ => rfl) rfl (fun _ => rfl) rfl rfl (fun ρ R hd => Ahs (ys := l.getD k []) (hm := (hd.dep (it := ⟨6, _, _, _, _⟩) (by repeat (first | exact List.Mem.head _ | refine List.Mem.tail _ ?_)) ⟨9, rfl⟩ (List.Mem.head _)))) (fun _ _ _ _ _ => rfl) ?_
    refine Eo (e := 58) (xs := (l.take k)) (ys := [l.getD k []]) (v := vs) Rt (fun _ => rfl) (fun _ => rfl) rfl (by decide) (fun ρ R hd => (hd.dep (it := ⟨7, _, _, _, _⟩) (by repeat (first | exact List.Mem.head _ | refine List.Mem.tail _ ?_)) ⟨9, rfl⟩ (List.Mem.head _))) (by have : maxN = 16777216 := rfl; simp only [List.length_cons, List.length_nil, List.length_take]; omega) (fun ρ g S hS hB hA => ?_) ?_
    ·have ui : upS S 8 8 = true := rfl; have u11 : upS S 8 11 = S 11 := rfl; have h11 : S 11 = false := hA 11 ⟨0, rfl⟩; have rs : (Gh.dec (γ := Value) (Rho.set ρ 8 (Gh.enc g) 8)) = g := rfl
     simp only [ui, hS, u11, h11, rs, cond_true, cond_false]
     exact pex
    refine dn2 ?_
    refine D3 (T0 := 79) (f := 3) (vs := fun ρ => [v32.1, v32.2, .slice none 0 0, vs, .slice none 0 0]) (v := fun ρ => (Gh.dec (γ := Value) (ρ 8))) (fun ρ => b37) Try.sizeOf47 (fun _ => rfl) (fun _ => rfl) (fun ρ S R w L9 hB hd hs => by have h8 : S 8 = true := hB 8 ⟨9, rfl⟩; simp only [h8, cond_true] at hs; exact Bm pkk hs) (fun _ => rfl) (fun ρ g S hS hB hA => ?_) ?_
    ·have ui : upS S 11 11 = true := rfl; have u8 : upS S 11 8 = S 8 := rfl; have r8 : Rho.set ρ 11 g 8 = ρ 8 := rfl
     simp only [ui, hS, u8, r8, cond_true, cond_false]
     exact pex
    refine dnl ?_; intro ρ
    refine xq_ (blk b37 79 [v32.1, v32.2, .slice none 0 0, (Gh.dec (γ := Value) (ρ 8)), .slice none 0 0] :: row 58 (Gh.dec (γ := Value) (ρ 8)) ((l.take k) ++ [l.getD k []]) :: blk b6 27 [.slice none 0 0, .slice none 0 0, .slice none 0 0] :: L) ?_
    generalize (Gh.dec (γ := Value) (ρ 6)) = v50
    generalize (Gh.dec (γ := Value) (ρ 7)) = v51
    generalize (Gh.dec (γ := Value) (ρ 8)) = v52
    refine ZD ?_
    refine A7 (k + 1, v52) (by show k + 1 ≤ l.length; omega) (by show l.length - (k + 1) < l.length - k; omega) alT (fun w hs => ?_)
    try simp only
    rw [Hu [] (by omega)]; exact Ae hs
   ·intro ht41
    refine Zac ?_
    have hkl : k = l.length := by omega
    subst hkl
    have hR0 : RI n nl l (tot l) 0 (⟨(A2 c).1, l, []⟩ : Rn) := by rw [a4]; exact RI.start a1 a2 a5
    refine Zai ?_
    refine Bs (γ := Nat × Value × Value × Value × Value) (fun g => g.1 ≤ picks.length) (fun g => blk b37 79 [g.2.1, g.2.2.1, g.2.2.2.1, vs, g.2.2.2.2] :: row 50 g.2.2.2.2 (Et (⟨(A2 c).1, l, []⟩ : Rn) (picks.take g.1)).done :: row 58 vs (Et (⟨(A2 c).1, l, []⟩ : Rn) (picks.take g.1)).left :: blk b6 27 [.slice none 0 0, .slice none 0 0, .slice none 0 0] :: L) (fun g => sl g.2.1 (Et (⟨(A2 c).1, l, []⟩ : Rn) (picks.take g.1)).x.cores :: sl g.2.2.1 (Et (⟨(A2 c).1, l, []⟩ : Rn) (picks.take g.1)).x.home :: sl g.2.2.2.1 (Et (⟨(A2 c).1, l, []⟩ : Rn) (picks.take g.1)).x.frames :: R) (fun g => [(6, bp b6 0), (12, bp b37 0), (56, vp), (57, vi (picks.length : Int)), (58, vi (g.1 : Int))]) (fun g => picks.length - g.1) (0, v32.1, v32.2, .slice none 0 0, .slice none 0 0) (Nat.zero_le _) alT (fun w hs => by rw [List.take_length] at hs; exact Ae hs) ?_
    rintro ⟨k, cv, hv, fv, dv⟩ hk
    try simp only at hk ⊢
    obtain ⟨Bk, hRk⟩ := RI.picks hK a1.1 (picks.take k) hR0
    obtain ⟨Mk, hIk, _⟩ := hRk.inv
    have hlnk := hRk.ln
    have hlen9 := hRk.len
    refine Gl ?_
    refine kp [6, 7, 8, 12, 56, 57, 58, 59] ?_
    refine Aa ?_
    refine Ga1 ?_
    refine cdy ?_ ?_
    ·intro ht59
     refine Gl ?_
     refine JC.open0 (xs := picks) (v := vp) k mm (by omega) (fun hik => ?_)
     refine Aa ?_
     refine Gb3 ?_
     refine rn2 ?_
     refine Ak Try.call28 rfl (fun w hs => Ail (r := Et (⟨(A2 c).1, l, []⟩ : Rn) (picks.take k)) (m := picks.getD k 0) (Ae hs) mm mm mm hIk (by omega) (by omega) hik (by omega)) ?_; intro v64
     refine ZD ?_
     refine A7 (k + 1, v64) (by show k + 1 ≤ picks.length; omega) (by show picks.length - (k + 1) < picks.length - k; omega) alT (fun w hs => ?_)
     try simp only
     rw [Wm (by omega)]; exact Ae hs
    ·intro ht59
     refine Gl ?_
     have hkp : k = picks.length := by omega
     subst hkp
     rw [List.take_length] at hRk ⊢
     have hRP := hRk
     generalize heq : Et (⟨(A2 c).1, l, []⟩ : Rn) picks = RP at hRP ⊢
     refine Aa ?_
     refine Ga6 ?_
     refine Bs (γ := Nat × Value × Value × Value × Value) (fun g => g.1 ≤ n) (fun g => blk b37 79 [g.2.1, g.2.2.1, g.2.2.2.1, vs, g.2.2.2.2] :: row 50 g.2.2.2.2 (Cq RP g.1).done :: row 58 vs (Cq RP g.1).left :: blk b6 27 [.slice none 0 0, .slice none 0 0, .slice none 0 0] :: L) (fun g => sl g.2.1 (Cq RP g.1).x.cores :: sl g.2.2.1 (Cq RP g.1).x.home :: sl g.2.2.2.1 (Cq RP g.1).x.frames :: R) (fun g => [(6, bp b6 0), (12, bp b37 0), (70, vi (n : Int)), (71, vi (g.1 : Int))]) (fun g => n - g.1) (0, cv, hv, fv, dv) (Nat.zero_le _) ⟨rfl, rfl, congrArg (fun z : Nat => some (vi (z : Int))) hRP.ln, rfl, alT⟩ (fun w hs => Ae hs) ?_
     rintro ⟨p, cv, hv, fv, dv⟩ hp
     try simp only at hp ⊢
     obtain ⟨⟨Bp, hRp⟩, _, _⟩ := RI.all hRP hK a7 p hp
     obtain ⟨Mp, hIp, _⟩ := hRp.inv
     have hlen9 := hRp.len
     refine ZB ?_
     refine cdy ?_ ?_
     ·intro ht72
      refine Gm ?_
      refine Zaf ?_
      refine Ak Try.call29 rfl (fun w hs => Q8 (r := Cq RP p) (Ae (L' := blk b37 79 [cv, hv, fv, vs, dv] :: row 50 dv (Cq RP p).done :: row 58 vs (Cq RP p).left :: blk b6 27 [.slice none 0 0, .slice none 0 0, .slice none 0 0] :: L) hs) mm mm mm hIp (by omega)) ?_; intro v75
      refine Gl ?_
      obtain ⟨hS, cS, fS⟩ := hRp.settle hK
      have hpn : p < n := by omega
      refine Bs (γ := Rn × Nat × Value × Value × Value × Value) (fun g => (∃ B, RI n nl l (tot l) B g.1) ∧ C1 g.1.x = true ∧ (g.1.left.getD p []).length < g.2.1 ∧ O5 g.1 p g.2.1 = Cq RP (p + 1)) (fun g => blk b37 79 [g.2.2.1, g.2.2.2.1, g.2.2.2.2.1, vs, g.2.2.2.2.2] :: row 50 g.2.2.2.2.2 g.1.done :: row 58 vs g.1.left :: blk b6 27 [.slice none 0 0, .slice none 0 0, .slice none 0 0] :: L) (fun g => sl g.2.2.1 g.1.x.cores :: sl g.2.2.2.1 g.1.x.home :: sl g.2.2.2.2.1 g.1.x.frames :: R) (fun g => [(6, bp b6 0), (12, bp b37 0), (17, vi (p : Int)), (70, vi (n : Int)), (71, vi (p : Int))]) (fun g => g.2.1) (Bf (Cq RP p), ((Cq RP p).left.getD p []).length + 1, v75) ⟨⟨_, hS⟩, cS, Nat.lt_succ_self _, rfl⟩ alT (fun w hs => Ae hs) ?_
      rintro ⟨C, f, cv, hv, fv, dv⟩ ⟨⟨BC, hRC⟩, hcC, hlf, hgo⟩
      try simp only at hRC hcC hlf hgo ⊢
      have hf : 0 < f := by omega
      have hlnC := hRC.ln
      have hlenC := hRC.len
      obtain ⟨MC, hIC, _⟩ := hRC.inv
      refine Gl ?_
      refine Zp p (v := vs) (l := C.left) pkk (by omega) (fun u honeu => ?_)
      refine Aa ?_
      refine Ga9 ?_
      refine cdy ?_ ?_
      ·intro ht84
       obtain ⟨⟨BB, hRB⟩, ⟨BS, hRS⟩, hcS, hlS, hgS⟩ := hRC.turn hK a7 hcC hpn hf (by omega)
       obtain ⟨MB, hIB, _⟩ := hRB.inv
       have hlenB := hRB.len
       have hlnS := hRS.ln
       refine Gm ?_
       refine Ga9 ?_
       refine JC.conseq (L' := blk b37 79 [cv, hv, fv, vs, dv] :: row 50 dv C.done :: row 58 vs C.left :: blk b6 27 [.slice none 0 0, .slice none 0 0, .slice none 0 0] :: L) (fun w hs => Ae (J6 mm (hs.pick pkk))) ?_
       refine ZA ?_
       refine Ak Try.call30 rfl (fun w hs => Uu (r := C) (p := p) hs mm mm mm hIC (by omega) (by omega) (by omega)) ?_; intro v95
       refine Gl ?_
       refine kp [6, 7, 8, 12, 17, 18, 70, 71, 72, 73, 74, 76, 77, 78, 79, 80, 81, 82, 83, 84, 85, 86, 87, 88, 89, 90, 91, 92, 93, 94, 96] ?_
       refine ZC ?_
       refine Ak Try.call29 rfl (fun w hs => Q8 (r := Bg C p) (Ae (L' := blk b37 79 [v95.1, v95.2.1, v95.2.2.1, vs, v95.2.2.2] :: row 50 v95.2.2.2 (Bg C p).done :: row 58 vs (Bg C p).left :: blk b6 27 [.slice none 0 0, .slice none 0 0, .slice none 0 0] :: L) hs) mm mm mm hIB (by omega)) ?_; intro v97
       refine Gl ?_
       refine Zp p (v := vs) (l := (Bf (Bg C p)).left) pkk (by omega) (fun u2 honeu2 => ?_)
       refine Aa ?_
       refine Ga10 ?_
       refine cdy ?_ ?_
       ·intro ht107
        omega
       ·intro ht107
        refine Gl ?_
        refine A7 (Bf (Bg C p), f - 1, v97) ⟨⟨BS, hRS⟩, hcS, by show ((Bf (Bg C p)).left.getD p []).length < f - 1; omega, by show O5 (Bf (Bg C p)) p (f - 1) = _; rw [← hgS, hgo]⟩ (by show f - 1 < f; omega) alT (fun w hs => ?_)
        try simp only
        exact Ae (J6 mm (hs.pick pkk))
      ·intro ht84
       refine ZD ?_
       have eg : Cq RP (p + 1) = C := by rw [← hgo]; exact Aiw hf (by omega)
       refine A7 (p + 1, cv, hv, fv, dv) (by show p + 1 ≤ n; omega) (by show n - (p + 1) < n - p; omega) alT (fun w hs => ?_)
       try simp only
       rw [eg]; exact Ae (J6 mm (hs.pick pkk))
     ·intro ht72
      refine Gl ?_
      have hpe : p = n := by omega
      subst hpe
      refine JC.shut (v := dv) pkk ?_
      refine JC.know (p := cv.oneCell' = true ∧ hv.oneCell' = true ∧ fv.oneCell' = true) (fun w hs => ⟨isSlice.one (hs.fact (mm (f := sl cv (Cq RP p).x.cores))), isSlice.one (hs.fact (mm (f := sl hv (Cq RP p).x.home))), isSlice.one (hs.fact (mm (f := sl fv (Cq RP p).x.frames)))⟩) (fun h12 => ?_)
      obtain ⟨hone1, hone2, hone3⟩ := h12
      refine cq_ (blk b6 27 [.slice none 0 0, .slice none 0 0, .slice none 0 0] :: blk b37 79 [cv, hv, fv, vs, dv] :: L) ?_
      refine jd_ (fun ρ S => blk b6 27 (bif S 8 then [cv, hv, fv] else [.slice none 0 0, .slice none 0 0, .slice none 0 0]) :: blk b37 79 [cv, hv, fv, vs, dv] :: L) ?_
      refine dn8 ?_
      refine es_ 27 0 [] [] (fun ρ => b6) (fun ρ => [.slice none 0 0, .slice none 0 0, .slice none 0 0]) (fun ρ => [cv, hv, fv]) Try.sizeOf27 ?_
      refine dn2 ?_
      refine dnl ?_; intro ρ
      refine xq_ (blk b6 27 [cv, hv, fv] :: blk b37 79 [cv, hv, fv, vs, dv] :: L) ?_
      refine Gl ?_
      rw [lr_3 hw0 hp3, a5, heq]
      exact Eu (cv, hv, fv, dv) Try.isAgg27 Try.sizeOf27
def lL : List (List Op) := [[⟨3, 0, 1⟩], [⟨3, 0, 1⟩]]
def lX : Chip := (Av ⟨2, 1⟩ lL []).1
def lD : List Done := [⟨0, ⟨3, 0, 1⟩, 0⟩, ⟨1, ⟨3, 0, 1⟩, 1⟩]
theorem l_run : Av ⟨2, 1⟩ lL [] = (lX, lD, 0) := Prod.ext rfl (by decide +kernel)
theorem l_co : (lX.cores.length : Int) = 2 := by decide +kernel
theorem l_w : A9 ⟨2, 1⟩ lL = 0 := by decide
theorem l_w0 : A9 ⟨2, 1⟩ [] = 4 := by decide
theorem Yi {R : List Fact} {u v : Value} {a b : List Op} (ha : sl u a ∈ R) (hb : sl v b ∈ R) : ∀ j, (∀ q ∈ R, q.p j) → RdV [a, b] [u, v] j := fun j h => by
 have h1 := h _ ha
 have h2 := h _ hb
 obtain ⟨_, _, e1, _⟩ := id h1
 obtain ⟨_, _, e2, _⟩ := id h2
 exact ⟨⟨[u], by rw [e1]; rfl, u, rfl, h1⟩, ⟨[v], by rw [e2]; rfl, v, rfl, h2⟩, trivial⟩
theorem Abn (l : List (List Op)) (k : Nat) : tot (l.take k) ≤ tot l := by
 have h : tot l = tot (l.take k) + tot (l.drop k) := by
  conv => lhs; rw [← List.take_append_drop k l]
  unfold tot; rw [List.map_append, List.sum_append]
 omega
theorem Wh {R : List Fact} {e : Op} (hw : e.wf) : ∀ j, (∀ q ∈ R, q.p j) → RdV [e] [.agg e.cells.toArray] j := fun j _ => ⟨⟨_, rfl, rfl, hw⟩, trivial⟩
theorem P7  (hs : St (L) R w) : Calls Try.prog 17 [].toArray w (Cd (fun _ : Unit => .bool true) (fun _ => L) (fun _ => R)) := by
 refine Ah Try.func17 rfl Try.ntmps17 rfl hs ?_
 clear hs
 refine Zam ?_
 refine al_ (cs := zConfig.cells) Try.zeroValue34 ?_; intro b1
 refine s_B (cs := (⟨2, 1⟩ : Config).cells) Try.sizeOf34 ?_
 refine ZJ ?_
 refine li (α := Op) [(⟨3, 0, 1⟩ : Op)] Kd rfl (Wh (by unfold Op.wf An; decide)) ?_; intro v8
 refine rn1 ?_
 refine li (α := Op) [(⟨3, 0, 1⟩ : Op)] Kd rfl (Wh (by unfold Op.wf An; decide)) ?_; intro v10
 refine li (α := List Op) lL Rt rfl (Yi mm mm) ?_; intro v11
 refine Ga1 ?_
 refine JC.slNil Int ?_
 refine JC.slNil (List Op) ?_
 refine ZA ?_
 refine Ak Try.call14 rfl (fun w hs => by have h := Jk (c := ⟨2, 1⟩) (l := lL) (picks := []) hs mm mm (by unfold Config.wf An; decide); rw [l_run] at h; exact h) ?_; intro v15
 refine J.know (p := v15.1.oneCell' = true ∧ v15.2.1.oneCell' = true ∧ v15.2.2.1.oneCell' = true) (fun w hs => ⟨isSlice.one (hs.fact (.head _)), isSlice.one (hs.fact (.tail _ (.head _))), isSlice.one (hs.fact (.tail _ (.tail _ (.head _))))⟩) (fun h12 => ?_)
 obtain ⟨honev151, honev152, honev153⟩ := h12
 refine rn4 ?_
 refine al_ (cs := [.slice none 0 0, .slice none 0 0, .slice none 0 0]) Try.zeroValue27 ?_; intro b3
 refine s_B (cs := [v15.1, v15.2.1, v15.2.2.1]) Try.sizeOf27 ?_
 refine Ga2 ?_
 refine JC.open0 (xs := lD) (v := v15.2.2.2) 0 mm (by decide) (fun _ => ?_)
 refine JC.open0 (xs := lD) (v := v15.2.2.2) 1 mm (by decide) (fun _ => ?_)
 refine Bv ?_
 refine dn1 ?_
 refine djc (fun _ _ => Al rfl rfl (Ay rfl)) ?_
 refine djm ?_
 refine dn2 ?_
 refine dj (dgy ?_)
 refine dc (fun _ _ => Al rfl rfl (Ay rfl)) ?_
 refine ZP ?_
 refine dn1 ?_
 refine dj (dgy ?_)
 refine dc (fun _ _ => Gb (i := 0) L8) ?_
 refine dj (dgy ?_)
 first | refine dc (fun _ _ => Xw M9) ?_ | refine dc (fun _ _ => Xv M9) ?_
 refine dj (dgy ?_)
 refine dc (fun _ _ => D8 Try.isAgg3) ?_
 refine dn1 ?_
 refine dj (dgy ?_)
 refine dc (fun _ _ => Gb (i := 1) L8) ?_
 refine dj (dgy ?_)
 first | refine dc (fun _ _ => Xw M9) ?_ | refine dc (fun _ _ => Xv M9) ?_
 refine dj (dgy ?_)
 refine dc (fun _ _ => D8 Try.isAgg3) ?_
 refine dj (dgy ?_)
 refine dc (fun _ _ => Sr (a := 0) (b := 1)) ?_
 refine dj (dgy ?_)
 refine dc (fun _ _ => Al rfl rfl (Ay rfl)) ?_
 refine ZP ?_
 refine dn3 ?_
 refine dj (dgy ?_)
 refine dc (fun _ _ => Al rfl rfl (Ay l_co)) ?_
 refine ZP ?_
 refine dn2 ?_
 refine dtl ?_; intro ρ
 refine gy ?_
 refine Ak Try.call18 rfl (fun w hs => by have h := Ka (c := ⟨2, 1⟩) (l := lL) hs mm (by unfold Config.wf An; decide); rw [l_w] at h; exact h) ?_; intro _
 refine gy ?_
 refine ob (Al rfl rfl (Ay rfl)) ?_
 refine ZF ?_
 refine Ak Try.call18 rfl (fun w hs => by have h := Ka (c := ⟨2, 1⟩) (l := []) hs mm (by unfold Config.wf An; decide); rw [l_w0] at h; exact h) ?_; intro _
 refine gy ?_
 refine ob (Al rfl rfl (Ay rfl)) ?_
 refine Ga2 ?_
 exact Bq ()
theorem Nz {vl vp : Value} {c : Config} {l : List (List Op)} {picks : List Int} (hs : St (L) R w) (hl : sl vl l ∈ R) (hpk : sl vp picks ∈ R) (hcw : c.wf) : Calls Try.prog 6 [.agg c.cells.toArray, vl, vp].toArray w (Cd (fun _ : Unit => .bool true) (fun _ => L) (fun _ => R)) := by
 refine Ah Try.func6 rfl Try.ntmps6 rfl hs ?_
 clear hs
 refine Gm ?_
 refine bx ?_; intro b3
 refine Gb1 ?_
 refine Ak Try.call17 rfl (fun w hs => P7 hs) ?_; intro _
 refine Gd1 ?_
 refine rn3 ?_
 refine Ak Try.call14 rfl (fun w hs => Jk (c := c) (l := l) (picks := picks) hs mm mm hcw) ?_; intro v18
 refine J.know (p := v18.1.oneCell' = true ∧ v18.2.1.oneCell' = true ∧ v18.2.2.1.oneCell' = true) (fun w hs => ⟨isSlice.one (hs.fact (.head _)), isSlice.one (hs.fact (.tail _ (.head _))), isSlice.one (hs.fact (.tail _ (.tail _ (.head _))))⟩) (fun h12 => ?_)
 obtain ⟨honev181, honev182, honev183⟩ := h12
 refine rn4 ?_
 refine Zbc ?_;intro b7
 refine s_B (cs := [v18.1, v18.2.1, v18.2.2.1]) Try.sizeOf27 ?_
 refine Gb2 ?_
 refine Ga2 ?_
 refine cdy ?_ ?_
 ·intro ht23
  exact ZdW
 ·intro ht23
  refine Gl ?_
  have h0 : (Av c l picks).2.2 = 0 := Decidable.not_not.1 ht23
  have h1 := Aik h0
  have hw0 : A9 c l = 0 := Classical.byContradiction fun h => by rw [lr_1 h] at h0; exact h h0
  obtain ⟨n, nl, a1, a2, a3, _⟩ := Q7 hw0
  have hcl : c.lines = (nl : Int) := by rw [a3]; rfl
  refine ZL ?_
  refine Ak Try.call21 rfl (fun w hs => by have h := Ahp (l := (Av c l picks).2.1) (lines := c.lines) hs mm (by omega) (by omega); rw [h1] at h; exact h) ?_; intro v28
  refine Gb5 ?_
  refine rn1 ?_
  refine Dt ?_
  refine Ga1 ?_
  exact Bq ()
theorem litOf_ {v0 : Value} {l : List Done} {p : Int} (hs : St (L) R w) (h0 : sl v0 l ∈ R) (hlb : l.length ≤ 1000) (hp : An p) : Calls Try.prog 20 [v0, vi p].toArray w (Cd (fun v : Value => v) (fun v => L) (fun v => sl v (Ax l p) :: R)) := by
 have hlen := Bx h0 hs
 refine Ah Try.func20 rfl Try.ntmps20 rfl hs ?_
 exact ZcS
theorem N0 {vl vp : Value} {c : Config} {l : List (List Op)} {picks : List Int} (hs : St (L) R w) (hl : sl vl l ∈ R) (hpk : sl vp picks ∈ R) (hcw : c.wf) : Calls Try.prog 5 [.agg c.cells.toArray, vl, vp].toArray w (Cd (fun _ : Unit => .bool true) (fun _ => L) (fun _ => R)) := by
 have hlen := Bx hl hs
 refine Ah Try.func5 rfl Try.ntmps5 rfl hs ?_
 clear hs
 refine Gm ?_
 refine bx ?_; intro b3
 refine Gb1 ?_
 refine Ak Try.call17 rfl (fun w hs => P7 hs) ?_; intro _
 refine Gd1 ?_
 refine rn3 ?_
 refine Ak Try.call14 rfl (fun w hs => Jk (c := c) (l := l) (picks := picks) hs mm mm hcw) ?_; intro v23
 refine J.know (p := v23.1.oneCell' = true ∧ v23.2.1.oneCell' = true ∧ v23.2.2.1.oneCell' = true) (fun w hs => ⟨isSlice.one (hs.fact (.head _)), isSlice.one (hs.fact (.tail _ (.head _))), isSlice.one (hs.fact (.tail _ (.tail _ (.head _))))⟩) (fun h12 => ?_)
 obtain ⟨honev231, honev232, honev233⟩ := h12
 refine rn4 ?_
 refine Zbc ?_;intro b7
 refine s_B (cs := [v23.1, v23.2.1, v23.2.2.1]) Try.sizeOf27 ?_
 refine Gb2 ?_
 refine rn2 ?_
 refine Ak Try.call18 rfl (fun w hs => Ka (c := c) (l := l) hs mm hcw) ?_; intro _
 refine ZH ?_
 refine cdy ?_ ?_
 ·intro ht31
  have er := lr_1 (picks := picks) ht31
  refine ZK ?_
  refine ZcK ?_
  exact Bq ()
 ·intro ht31
  refine Zac ?_
  refine cdy ?_ ?_
  ·intro ht42
   have er := lr_2 (picks := picks) (Decidable.not_not.1 ht31) (by omega)
   refine ZJ ?_
   refine ZcK ?_
   exact Bq ()
  ·intro ht42
   refine Gl ?_
   have hw0 : A9 c l = 0 := Decidable.not_not.1 ht31
   obtain ⟨he, n, nl, a1, a2, a3, a5, ⟨M, hI, hD⟩, hcalm, hfr, hof⟩ := G5 (picks := picks) hw0 (by omega)
   have hdt := Iw hof
   obtain ⟨_, _, b1, _, _, _, b5, b6, _⟩ := Q7 hw0
   have htl := Qe l b6
   have htl2 : tot l ≤ 48 := by omega
   have hXn := hI.nc
   have hXh := hI.nh
   have hXl := hI.l1
   refine ZC ?_
   refine Ms ?_
   refine ZN ?_
   refine Ak Try.call19 rfl (fun w hs => by have h8 := Ahq (x := (Av c l picks).1) hs mm mm (by omega) (by omega) honev233; rw [hcalm] at h8; exact h8) ?_; intro _
   refine rn6 ?_
   refine gy ?_
   refine De ?_
   refine Gc1 ?_
   refine kp [1, 6, 8, 11] ?_
   refine Aa ?_
   refine Zah ?_
   refine Bs (γ := Nat) (fun k => k ≤ l.length) (fun _ => L) (fun _ => sl v23.2.2.2 (Av c l picks).2.1 :: R) (fun k => [(8, v23.2.2.2), (11, vi (tot (l.take k) : Int)), (63, vl), (64, vi (l.length : Int)), (65, vi (k : Int))]) (fun k => l.length - k) 0 (Nat.zero_le _) alT (fun w hs => Ae hs) ?_
   intro k hk
   have hofk : (Ax (Av c l picks).2.1 (k : Int)).map Done.op = (l.getD k []) := by
    rw [hof (k : Int)]; unfold atL; rw [if_neg (by omega), Int.toNat_natCast]
   have hofl : (Ax (Av c l picks).2.1 (k : Int)).length = (l.getD k []).length := by rw [← hofk, List.length_map]
   have htk1 := Abn l (k + 1)
   refine ZB ?_
   refine cdy ?_ ?_
   ·intro ht66
    refine Gl ?_
    refine Sv k (v := vl) (l := l) mm (by omega) (fun u honeu => ?_)
    have etk := O0 l (k := k) (by omega)
    refine Aa ?_
    refine Gb5 ?_
    refine rn2 ?_
    refine Ak Try.call20 rfl (fun w hs => litOf_ (l := (Av c l picks).2.1) (p := (k : Int)) hs mm (by omega) (by unfold An; omega)) ?_; intro v72
    refine Gb1 ?_
    refine rn4 ?_
    refine Ms ?_
    refine Gmc ?_
    refine Ga3 ?_
    refine Bs (γ := Nat) (fun i => i ≤ (l.getD k []).length) (fun _ => L) (fun _ => sl v72 (Ax (Av c l picks).2.1 (k : Int)) :: sl u (l.getD k []) :: sl v23.2.2.2 (Av c l picks).2.1 :: R) (fun i => [(8, v23.2.2.2), (11, vi (tot (l.take k) : Int)), (13, u), (14, v72), (63, vl), (64, vi (l.length : Int)), (65, vi (k : Int)), (78, u), (79, vi ((l.getD k []).length : Int)), (80, vi (i : Int))]) (fun i => (l.getD k []).length - i) 0 (Nat.zero_le _) alT (fun w hs => Ae hs) ?_
    intro i hi
    refine ZB ?_
    refine cdy ?_ ?_
    ·intro ht81
     refine Gl ?_
     refine JC.open0 (xs := (l.getD k [])) (v := u) i mm (by omega) (fun how => ?_)
     refine ZL ?_
     refine al_ (cs := zOp.cells) Try.zeroValue36 ?_; intro b16
     refine rn1 ?_
     refine s_B (cs := ((l.getD k []).getD i zOp).cells) Try.sizeOf36 ?_
     refine Gl ?_
     refine JC.open0 (xs := (Ax (Av c l picks).2.1 (k : Int))) (v := v72) i mm (by omega) (fun hdw => ?_)
     have heq : ((Ax (Av c l picks).2.1 (k : Int)).getD i zDone).op = ((l.getD k []).getD i zOp) := by
      rw [← hofk, List.getD_eq_getElem?_getD, List.getD_eq_getElem?_getD, List.getElem?_map, List.getElem?_eq_getElem (by omega)]; rfl
     refine Zak ?_
     refine djc (fun _ _ => Yp rfl rfl (ag_Op ((Ax (Av c l picks).2.1 (k : Int)).getD i zDone).op ((l.getD k []).getD i zOp) _) (Alc (x := ((Ax (Av c l picks).2.1 (k : Int)).getD i zDone).op) (y := ((l.getD k []).getD i zOp)) heq)) ?_
     refine dnl ?_; intro ρ
     refine Glc ?_
     refine kp [6, 8, 11, 12, 13, 14, 15, 16, 63, 64, 65, 66, 67, 68, 69, 70, 71, 72, 73, 74, 75, 76, 77, 78, 79, 80, 81, 82, 83, 84, 85, 86, 87, 88, 89, 90, 91, 92] ?_
     refine Zaq ?_
     refine A7 (i + 1) (by omega) (by omega) alT (fun w hs => Ae hs)
    ·intro ht81
     refine Gm ?_
     refine Gb5 ?_
     refine Ga2 ?_
     refine A7 (k + 1) (by omega) (by omega) ?_ (fun w hs => Ae hs)
     rw [etk]; exact alT
   ·intro ht66
    refine Gl ?_
    have hkl : k = l.length := by omega
    subst hkl
    rw [List.take_length]
    refine ZL ?_
    refine C8 ?_
    refine Ga1 ?_
    exact Bq ()
end Go.Proofs.Ytkgijpngobgfjaa
namespace Go.Proofs.Ytkgijpngobgfjaa
open Abs
theorem Py {l : List (List Op)} {d : List Done} (h : ∀ p, (Ax d p).map Done.op = atL l p) {x : Done} (hx : x ∈ d) : 0 ≤ x.core ∧ x.core < (l.length : Int) := by
 have h2 : (Ax d x.core).map Done.op ≠ [] := by
  exact Zd9
 rw [h x.core] at h2
 unfold atL at h2
 split at h2
 ·exact absurd rfl h2
 ·by_cases h4 : x.core.toNat < l.length
  ·omega
  ·exact Zeb
theorem Aef {v : Int} {d : List Done} {M : List Int} (hd : Cn [0, 0] d M) (h : ∀ p, (Ax d p).map Done.op = atL [[⟨2, 0, v⟩, ⟨2, 1, 1⟩], [⟨1, 1, 0⟩, ⟨1, 0, 0⟩]] p) : (Ax d 1).length = 2 ∧ (((Ax d 1).getD 0 zDone).value = 0 ∨ ((Ax d 1).getD 1 zDone).value = v) := by
 exact ZcR
theorem Afh {d : List Done} {M : List Int} (hd : Cn [0, 0] d M) (h : ∀ p, (Ax d p).map Done.op = atL [[⟨2, 0, 1⟩, ⟨1, 1, 0⟩], [⟨2, 1, 1⟩, ⟨1, 0, 0⟩]] p) : (Ax d 0).length = 2 ∧ (Ax d 1).length = 2 ∧ (((Ax d 0).getD 1 zDone).value = 1 ∨ ((Ax d 1).getD 1 zDone).value = 1) := by
 exact ZcR
end Go.Proofs.Ytkgijpngobgfjaa
namespace Go.Proofs.Ytkgijpngobgfjaa
open Abs
def Nt (d : List Done) : Nat := (d.filter fun x => x.op.kind == 3).length
theorem Kl (x : Done) (d : List Done) : Nt (x :: d) = (if x.op.kind = 3 then 1 else 0) + Nt d := by
 unfold Nt; rw [List.filter_cons]
 by_cases h : x.op.kind = 3
 ·rw [if_pos (by simp [h]), if_pos h, List.length_cons]; omega
 ·rw [if_neg (by simp [h]), if_neg h]; omega
theorem P8 : ∀ (d : List Done) {a : Int} {M : List Int}, Cn [a] d M → (∀ x ∈ d, x.op = ⟨3, 0, 1⟩ ∨ x.op = ⟨1, 0, 0⟩) → 0 ≤ a → a + Nt d ≤ 255 → ∀ j, j < d.length → (d.getD j zDone).op.kind = 3 → (d.getD j zDone).value = a + Nt (d.take j)
 | [], a, M, _, _, _, _, j, hj, _ => absurd hj (by simp)
 | x :: d, a, M, ⟨h1, h2, h3, h4, h5⟩, hx, h0, hb, j, hj, hk => by
  rw [Kl] at hb
  have hr := fun y hy => hx y (List.mem_cons_of_mem _ hy)
  rcases hx x (List.mem_cons_self ..) with e | e
  ·rw [e] at h4 h5 hb
   simp [Be] at h4 h5 hb
   match j with
   | 0 => show x.value = _; rw [h4]; simp [Nt]
   | j + 1 =>
    have h6 : Cn [a + 1] d M := by
     have e9 : (a + 1) % 256 = a + 1 := by omega
     first | exact h5 | (rw [e9] at h5; exact h5)
    have := P8 d h6 hr (by omega) (by omega) j (by simpa using hj) hk
    rw [List.take_succ_cons, Kl, e, if_pos rfl]
    show (d.getD j zDone).value = _
    rw [this]; omega
  ·rw [e] at h4 h5 hb
   simp [Be] at h4 h5 hb
   match j with
   | 0 => exact absurd hk (by show ¬ x.op.kind = 3; rw [e]; decide)
   | j + 1 =>
    have := P8 d h5 hr h0 (by omega) j (by simpa using hj) hk
    rw [List.take_succ_cons, Kl, e, if_neg (by decide)]
    show (d.getD j zDone).value = _
    rw [this]; omega
end Go.Proofs.Ytkgijpngobgfjaa
namespace Go.Proofs.Ytkgijpngobgfjaa
open Abs
theorem Afq (q : Op → Bool) (l : List (List Op)) (p : Int) : atL (l.map (List.filter q)) p = (atL l p).filter q := by
 unfold atL
 split
 ·rfl
 ·rw [List.getD_eq_getElem?_getD, List.getD_eq_getElem?_getD, List.getElem?_map]
  cases l[p.toNat]? <;> rfl
theorem Z1 (q : Op → Bool) {l : List (List Op)} {d : List Done} (h : ∀ p, (Ax d p).map Done.op = atL l p) : (d.filter fun x => q x.op).length = tot (l.map (List.filter q)) := by
 refine Iw fun p => ?_
 rw [Afq, ← h p, List.filter_map]
 unfold Ax
 rw [List.filter_filter, List.filter_filter]
 congr 1
 refine List.filter_congr fun x _ => ?_
 simp only [Function.comp]
 rw [Bool.and_comm]
def addP (t : Nat) : List Op := List.replicate t ⟨3, 0, 1⟩
def A0 (ts : List Nat) : List (List Op) := match ts with
 | [] => []
 | t :: r => (addP t ++ [⟨1, 0, 0⟩]) :: r.map addP
theorem Si (t : Nat) : (addP t).filter (fun o => o.kind == 3) = addP t := by
 unfold addP; rw [List.filter_eq_self]; intro o ho; rw [List.eq_of_mem_replicate ho]; rfl
theorem Tx : ∀ ts : List Nat, tot ((ts.map addP).map (List.filter fun o => o.kind == 3)) = ts.sum
 | [] => rfl
 | t :: r => by
  have := Tx r
  unfold tot at this ⊢
  simp only [List.map_cons, List.sum_cons, Si]
  rw [this]; unfold addP; rw [List.length_replicate]
theorem Afu {ts : List Nat} {d : List Done} (h : ∀ p, (Ax d p).map Done.op = atL (A0 ts) p) : Nt d = ts.sum := by
 have h1 := Z1 (fun o => o.kind == 3) h
 unfold Nt
 rw [h1]
 cases ts with
 | nil => rfl
 | cons t r =>
  have := Tx r
  unfold A0
  unfold tot at this ⊢
  simp only [List.map_cons, List.sum_cons, List.filter_append, Si, List.length_append] at this ⊢
  rw [this]; unfold addP; rw [List.length_replicate]; rfl
theorem Aft {ts : List Nat} {d : List Done} (h : ∀ p, (Ax d p).map Done.op = atL (A0 ts) p) : ∀ x ∈ d, x.op = ⟨3, 0, 1⟩ ∨ x.op = ⟨1, 0, 0⟩ := by
 intro x hx
 have h1 : x.op ∈ atL (A0 ts) x.core := by
  rw [← h x.core]; exact List.mem_map.2 ⟨x, List.mem_filter.2 ⟨hx, by simp⟩, rfl⟩
 unfold atL at h1
 split at h1
 ·exact absurd h1 (by simp)
 have hm : ∃ p ∈ A0 ts, x.op ∈ p := by
  rw [List.getD_eq_getElem?_getD] at h1
  cases hg : (A0 ts)[x.core.toNat]? with
  | none => rw [hg] at h1; exact absurd h1 (by simp)
  | some p => rw [hg] at h1; exact ⟨p, List.mem_of_getElem? hg, h1⟩
 obtain ⟨p, hp, ho⟩ := hm
 cases ts with
 | nil => exact absurd hp (by simp [A0])
 | cons t r =>
  rcases List.mem_cons.1 hp with e | e
  ·rw [e] at ho
   rcases List.mem_append.1 ho with g | g
   ·exact .inl (List.eq_of_mem_replicate g)
   ·exact .inr (List.mem_singleton.1 g)
  ·obtain ⟨s, _, e2⟩ := List.mem_map.1 e
   rw [← e2] at ho
   exact .inl (List.eq_of_mem_replicate ho)
end Go.Proofs.Ytkgijpngobgfjaa
namespace Go.Proofs.Ytkgijpngobgfjaa
open Go Go.MapKept
structure MapIs {κ : Type} (kv : κ → Value) (d : TypeDesc) (es : List MapEntry) (f : κ → Option Value) : Prop where
 key : ∀ e ∈ es, IsKey d e.key
 uni : ∀ (i j : Nat) (e e' : MapEntry), es[i]? = some e → es[j]? = some e' → e.key = e'.key → i = j
 val : ∀ e ∈ es, ∀ k, e.key = kv k → f k = some e.val
 non : ∀ k, (∀ e ∈ es, e.key ≠ kv k) → f k = none
def Aii {κ : Type} (kv : κ → Value) (d : TypeDesc) (b : Nat) (f : κ → Option Value) : Chunk :=
 ⟨fun m _ => ∃ es clock, m (b + 1) = some (.ob (.map es clock)) ∧ MapIs kv d es.toList f, fun _ _ _ _ h => h⟩
def Ahd {κ : Type} [DecidableEq κ] (f : κ → Option Value) (k : κ) (v : Value) : κ → Option Value := fun q => if q = k then some v else f q
section
variable {P : Program} {n : Nat} {ops : Array Oper} {Q : Exit → Act → World → Prop} {rest : List Oper} {L L' : List Chunk} {R : List Fact} {al : List (Nat × Value)} {d0 : Nat} {x y z : Operand} {T ty : TypeId} {pos : String} {aft : Array Edge} {κ : Type} {kv : κ → Value} {d : TypeDesc} {b : Nat} {f : κ → Option Value}
theorem St.map_get {w : World} (hs : St (Aii kv d b f :: L) R w) : ∃ es clock, w.heap[b]? = some (.map es clock) ∧ MapIs kv d es.toList f ∧ ∀ (w' : World) (o' : Obj) (c' : Chunk), w'.heap[b]? = some o' → (∀ x, x ≠ b → w'.heap[x]? = w.heap[x]?) → w'.os = w.os → w'.output = w.output → (∀ i, c'.p (one b o') i) → St (c' :: L) R w' := by
 obtain ⟨m, i, hd, hm, hi, ⟨m1, m2, hd', h1, h2, ⟨es, clock, hc, hM⟩, hst⟩, hr⟩ := hs
 exact ⟨es, clock, J9 (hm _ _ (h1 _ _ hc)), hM, fun w' o' c' hb hrest ho hu hn => St.put hd hm hi hd' h1 h2 hst hr hc hb hrest ho hu (hn i)⟩
theorem MapIs.nil : MapIs kv d [] (fun _ => none) := ⟨by simp, by simp, by simp, fun _ _ => rfl⟩
theorem Ahv (kv : κ → Value) (d : TypeDesc) (k : ∀ b, J P n ops Q rest (Aii kv d b (fun _ => none) :: L) R ((d0, .map (some b)) :: al)) : J P n ops Q (⟨some d0, .makeMap T none, ty, pos, aft, none⟩ :: rest) L R al :=
 J.yieldEx (v := fun b => .map (some b)) (L' := fun b => Aii kv d b (fun _ => none) :: L) (R' := fun _ => R) rfl rfl (fun B w hs => by
  refine ⟨w.heap.size, w.alloc (.map #[] 0), ?_, ?_⟩
  ·show (Instr.makeMap T (Option.map _ none) >>= fun v => Pure.pure (Next.value v)).run P w = _
   rw [Sem.run_bind]; rfl
  ·obtain ⟨m, i, hd, hm, hi, hst, hr⟩ := hs
   exact St.newC (o := .map #[] 0) hd hm hi hst hr rfl rfl rfl ⟨#[], 0, Em _ _, MapIs.nil⟩) k
theorem V9 {kt et : TypeId} {w : World} {zv : Value} {es : Array MapEntry} {clock : Nat} {k : κ} (hm : P.underlying T = some (.map kt et)) (hd : P.underlying kt = some d) (hz : (zeroValue et).run P w = .ok zv w) (hk : IsKey d (kv k)) (hb : w.heap[b]? = some (.map es clock)) (hM : MapIs kv d es.toList f) :
  (Instr.lookup T (.map (some b)) (kv k) false).run P w = .ok ((f k).getD zv) w := by
 rcases findNow_spec hk es.toList 0 hM.key with ⟨h1, h2⟩ | ⟨j, e, h1, h2, h3⟩
 ·have hn := hM.non k h2
  simp [Instr.lookup, run_underlying hm, _root_.Go.MapKept.run_getObj_map hb, run_checkKey hd hk, run_findKey hd h1, Result.andThen, hz, hn]
 ·have hv := hM.val e (List.mem_of_getElem? h2) k h3
  simp [Instr.lookup, run_underlying hm, _root_.Go.MapKept.run_getObj_map hb, run_checkKey hd hk, run_findKey hd h1, Result.andThen, hz, hv]
theorem Aca {kt et : TypeId} {zv : Value} (k0 : κ) (hm : P.underlying T = some (.map kt et)) (hd : P.underlying kt = some d) (hz : ∀ w, (zeroValue et).run P w = .ok zv w) (hk : IsKey d (kv k0)) (hx : ev n al x = some (.map (some b))) (hy : ev n al y = some (kv k0)) (hp : Pick L (Aii kv d b f) L')
  (k : J P n ops Q rest L R ((d0, (f k0).getD zv) :: al)) : J P n ops Q (⟨some d0, .lookup T x y false, ty, pos, aft, none⟩ :: rest) L R al :=
 J.pure rfl rfl (fun B w hs => by
  obtain ⟨es, clock, hb, hM, _⟩ := (hs.pick hp).map_get
  show (Instr.lookup T ((mkA n al B).eval x) ((mkA n al B).eval y) false >>= fun v => Pure.pure (Next.value v)).run P w = _
  rw [Bd hx, Bd hy, Sem.run_bind, V9 hm hd (hz w) hk hb hM]; rfl) k
theorem Abz [DecidableEq κ] {kt et : TypeId} {v : Value} (k0 : κ) (inj : ∀ a b, kv a = kv b → a = b) (hm : P.underlying T = some (.map kt et)) (hd : P.underlying kt = some d) (hk : IsKey d (kv k0)) (hx : ev n al x = some (.map (some b))) (hy : ev n al y = some (kv k0)) (hz : ev n al z = some v) (hp : Pick L (Aii kv d b f) L')
  (k : J P n ops Q rest (Aii kv d b (Ahd f k0 v) :: L') R al) : J P n ops Q (⟨none, .mapUpdate T x y z, ty, pos, aft, none⟩ :: rest) L R al :=
 J.skip rfl rfl (fun B w hs => by
  obtain ⟨es, clock, hb, hM, put⟩ := (hs.pick hp).map_get
  have hev : (execOp (mkA n al B).eval ⟨none, .mapUpdate T x y z, ty, pos, aft, none⟩).run P w = (Instr.mapUpdate T (.map (some b)) (kv k0) v >>= fun _ => Pure.pure Next.skip).run P w := by
   show (Instr.mapUpdate T ((mkA n al B).eval x) ((mkA n al B).eval y) ((mkA n al B).eval z) >>= fun _ => Pure.pure Next.skip).run P w = _
   rw [Bd hx, Bd hy, Bd hz]
  rcases findNow_spec hk es.toList 0 hM.key with ⟨h1, h2⟩ | ⟨j, e, h1, h2, h3⟩
  ·refine ⟨{ w with heap := w.heap.setIfInBounds b (.map (es.push { key := kv k0, val := v, born := clock }) (clock + 1)) }, ?_, ?_⟩
   ·rw [hev]
    simp [Instr.mapUpdate, run_underlying hm, _root_.Go.MapKept.run_getObj_map hb, run_checkKey hd hk, run_findKey hd h1, _root_.Go.MapKept.run_setObj_map _ hb, Result.andThen]
   ·refine put _ _ _ (heap_set hb).1 (fun r hr => (heap_set hb).2 r hr) rfl rfl (fun i => ⟨_, _, Em _ _, ?_⟩)
    rw [Array.toList_push]
    refine ⟨fun a ha => ?_, fun i j a a' hi hj he => ?_, fun a ha q hq => ?_, fun q hq => ?_⟩
    ·rcases List.mem_append.1 ha with ha | ha
     ·exact hM.key a ha
     ·rw [List.mem_singleton.1 ha]; exact hk
    ·have gi : ∀ (i : Nat) (a : MapEntry), (es.toList ++ [{ key := kv k0, val := v, born := clock }])[i]? = some a → (i < es.toList.length ∧ es.toList[i]? = some a) ∨ (i = es.toList.length ∧ a.key = kv k0) := by
      intro i a h
      rcases Nat.lt_or_ge i es.toList.length with hl | hl
      ·rw [List.getElem?_append_left hl] at h; exact .inl ⟨hl, h⟩
      ·rw [List.getElem?_append_right hl] at h
       obtain ⟨t, ht⟩ : ∃ t, i - es.toList.length = t := ⟨_, rfl⟩
       rw [ht] at h
       cases t with
       | zero => simp at h; exact .inr ⟨by omega, by rw [← h]⟩
       | succ t => simp at h
     rcases gi i a hi with ⟨a1, a2⟩ | ⟨a1, a2⟩ <;> rcases gi j a' hj with ⟨b1, b2⟩ | ⟨b1, b2⟩
     ·exact hM.uni i j a a' a2 b2 he
     ·exact absurd (he.trans b2) (h2 a (List.mem_of_getElem? a2))
     ·exact absurd (he.symm.trans a2) (h2 a' (List.mem_of_getElem? b2))
     ·omega
    ·unfold Ahd
     rcases List.mem_append.1 ha with ha | ha
     ·rw [if_neg (fun e => h2 a ha (by rw [hq, e]))]; exact hM.val a ha q hq
     ·rw [List.mem_singleton.1 ha] at hq ⊢
      rw [if_pos (inj _ _ hq).symm]
    ·unfold Ahd
     rw [if_neg (fun e => hq _ (List.mem_append.2 (.inr (List.mem_singleton.2 rfl))) (by rw [e]))]
     exact hM.non q fun a ha => hq a (List.mem_append.2 (.inl ha))
  ·have hj : es[j]? = some e := by simpa using h2
   refine ⟨{ w with heap := w.heap.setIfInBounds b (.map (es.modify j fun e => { e with key := kv k0, val := v }) clock) }, ?_, ?_⟩
   ·rw [hev]
    simp [Instr.mapUpdate, run_underlying hm, _root_.Go.MapKept.run_getObj_map hb, run_checkKey hd hk, run_findKey hd h1, hj, h3, run_keyThatStays hk, _root_.Go.MapKept.run_setObj_map _ hb, Result.andThen]
   ·refine put _ _ _ (heap_set hb).1 (fun r hr => (heap_set hb).2 r hr) rfl rfl (fun i => ⟨_, _, Em _ _, ?_⟩)
    have gi : ∀ (i : Nat) (a : MapEntry), (es.modify j fun e => { e with key := kv k0, val := v }).toList[i]? = some a → ∃ a0, es.toList[i]? = some a0 ∧ a.key = a0.key ∧ (i = j → a.val = v) ∧ (i ≠ j → a = a0) := by
     intro i a h
     rw [Array.getElem?_toList, Array.getElem?_modify] at h
     by_cases e0 : j = i
     ·subst e0
      rw [if_pos rfl, hj] at h
      simp only [Option.map_some, Option.some.injEq] at h
      exact ⟨e, h2, by rw [← h, h3], fun _ => by rw [← h], fun hne => absurd rfl hne⟩
     ·rw [if_neg e0] at h
      exact ⟨a, by rw [Array.getElem?_toList]; exact h, rfl, fun e1 => absurd e1.symm e0, fun _ => rfl⟩
    have gm : ∀ a ∈ (es.modify j fun e => { e with key := kv k0, val := v }).toList, ∃ i : Nat, ∃ a0, es.toList[i]? = some a0 ∧ a.key = a0.key ∧ (i = j → a.val = v) ∧ (i ≠ j → a = a0) := by
     intro a ha
     obtain ⟨i, hi⟩ := List.mem_iff_getElem?.1 ha
     exact ⟨i, gi i a hi⟩
    refine ⟨fun a ha => ?_, fun i i' a a' hi hi' he => ?_, fun a ha q hq => ?_, fun q hq => ?_⟩
    ·obtain ⟨i, a0, g1, g2, _⟩ := gm a ha
     rw [g2]; exact hM.key a0 (List.mem_of_getElem? g1)
    ·obtain ⟨a0, g1, g2, _⟩ := gi i a hi
     obtain ⟨b0, k1, k2, _⟩ := gi i' a' hi'
     exact hM.uni i i' a0 b0 g1 k1 (by rw [← g2, ← k2]; exact he)
    ·obtain ⟨i, a0, g1, g2, g3, g4⟩ := gm a ha
     unfold Ahd
     by_cases e0 : i = j
     ·have : q = k0 := by
       subst e0; rw [h2] at g1; cases g1
       exact inj _ _ (by rw [← hq, g2, h3])
      rw [if_pos this, g3 e0]
     ·rw [if_neg]
      ·rw [g4 e0]; exact hM.val a0 (List.mem_of_getElem? g1) q (by rw [← g2]; exact hq)
      ·intro e1
       exact e0 (hM.uni i j a0 e g1 h2 (by rw [← g2, hq, e1, h3]))
    ·unfold Ahd
     have hmem : ∃ a ∈ (es.modify j fun e => { e with key := kv k0, val := v }).toList, a.key = kv k0 := by
      refine ⟨{ e with key := kv k0, val := v }, List.mem_iff_getElem?.2 ⟨j, ?_⟩, rfl⟩
      rw [Array.getElem?_toList, Array.getElem?_modify, if_pos rfl, hj]; rfl
     rw [if_neg (fun e1 => by
      obtain ⟨a, ha, hk1⟩ := hmem
      exact hq a ha (by rw [hk1, e1]))]
     refine hM.non q fun a ha hk1 => ?_
     obtain ⟨i, hi⟩ := List.mem_iff_getElem?.1 ha
     have : ∃ a', (es.modify j fun e => { e with key := kv k0, val := v }).toList[i]? = some a' ∧ a'.key = a.key := by
      rw [Array.getElem?_toList, Array.getElem?_modify]
      rw [Array.getElem?_toList] at hi
      by_cases e0 : j = i
      ·subst e0
       rw [if_pos rfl, hi]
       rw [hj] at hi; cases hi
       exact ⟨_, rfl, h3.symm⟩
      ·rw [if_neg e0, hi]; exact ⟨a, rfl, rfl⟩
     obtain ⟨a', h8, h9⟩ := this
     exact hq a' (List.mem_iff_getElem?.2 ⟨i, h8⟩) (h9.trans hk1)) k
end
set_option maxHeartbeats 1000000
set_option maxRecDepth 8000
variable {L : List Chunk} {R : List Fact} {w : World}
theorem q_mxI {P : Program} {n : Nat} {L : List Chunk} {R : List Fact} {al : List (Nat × Value)} {d : Nat} {x : Operand} {T ty : TypeId} {pos : String} {aft : Array Edge} {a : Int} (hx : ev n al x = some (vi a)) : Au P n al L R ⟨some d, .call { callee := .builtin .max, args := #[x, .const (.int .i64 0)], argTypes := #[T, T] }, ty, pos, aft, none⟩ (vi ((a.toNat : Nat) : Int)) :=
 ⟨rfl, fun ρ w h _ => by
  have hx' := h x (by simp [Op.operands, Call.operands]) _ hx
  have hc' := h (.const (.int .i64 0)) (by simp [Op.operands, Call.operands]) _ rfl
  by_cases h0 : a < 0
  ·rw [show ((a.toNat : Nat) : Int) = 0 by omega]
   simp [execOp, resolve, invoke, builtin, hx', hc', Builtin.max_, Builtin.max2, h0]
  ·rw [show ((a.toNat : Nat) : Int) = a by omega]
   simp [execOp, resolve, invoke, builtin, hx', hc', Builtin.max_, Builtin.max2, h0]⟩
theorem q_mnN {P : Program} {n : Nat} {L : List Chunk} {R : List Fact} {al : List (Nat × Value)} {d : Nat} {x : Operand} {T ty : TypeId} {pos : String} {aft : Array Edge} {a : Nat} (hx : ev n al x = some (vi (a : Int))) : Au P n al L R ⟨some d, .call { callee := .builtin .min, args := #[x, .const (.int .i64 11)], argTypes := #[T, T] }, ty, pos, aft, none⟩ (vi ((min a 11 : Nat) : Int)) :=
 ⟨rfl, fun ρ w h _ => by
  have hx' := h x (by simp [Op.operands, Call.operands]) _ hx
  have hc' := h (.const (.int .i64 11)) (by simp [Op.operands, Call.operands]) _ rfl
  by_cases h0 : (11 : Int) < (a : Int)
  ·rw [show ((min a 11 : Nat) : Int) = 11 by omega]
   simp [execOp, resolve, invoke, builtin, hx', hc', Builtin.min_, Builtin.min2, h0]
  ·rw [show ((min a 11 : Nat) : Int) = (a : Int) by omega]
   simp [execOp, resolve, invoke, builtin, hx', hc', Builtin.min_, Builtin.min2, h0]⟩
structure PV where
 p : List Op
 u : Value
instance instEncPV : Enc PV where
 sz := 1
 rd x cs _ := cs = [x.u] ∧ x.u.oneCell' = true
 mono _ _ _ _ _ h := h
 len x cs _ h := by rw [h.1]; rfl
 one x cs _ h := by rw [h.1]; intro v hv; rw [List.mem_singleton.1 hv]; exact h.2
instance e0PV : El0 PV := ⟨fun x => [x.u], fun x => x.u.oneCell' = true, ⟨[], undef⟩, fun _ _ _ h => h⟩
def pvC (x : PV) : Chunk := row 36 x.u x.p
def pvF (x : PV) : Fact := sl x.u x.p
theorem Ui {L : List Chunk} {w : World} : ∀ (l : List PV) {R : List Fact}, St (l.map pvC ++ L) R w → St L (l.map pvF ++ R) w
 | [], _, hs => hs
 | x :: l, R, hs => by
  have h1 : St (row 36 x.u x.p :: (l.map pvC ++ L)) R w := hs
  have h2 := Ui l h1.shut
  exact h2.sub .refl (fun f hf => by
   simp only [List.map_cons, List.cons_append, List.mem_append, List.mem_cons] at hf ⊢
   rcases hf with e | e | e
   ·exact .inr (.inl e)
   ·exact .inl e
   ·exact .inr (.inr e))
theorem Wc {T : TypeId} {v : Value} {l : List PV} (hf : ∀ x ∈ l, pvF x ∈ R) (hs : St (row T v l :: L) R w) : St (row T v (l.map PV.p) :: L) R w := by
 obtain ⟨m, j, hd, hm, hj, ⟨m1, m2, hd', h1, h2, hc, hst⟩, hr⟩ := hs
 obtain ⟨rs, r1, r2, r3⟩ := Jg hc
 refine ⟨m, j, hd, hm, hj, ⟨m1, m2, hd', h1, h2, O8 (xs := l.map PV.p) (rs := rs) r1 (by rw [r2]; simp) (fun k e r he hkr => ?_), hst⟩, hr⟩
 rw [List.getElem?_map] at he
 obtain ⟨x, hx, hxe⟩ := Option.map_eq_some_iff.1 he
 have h3 := r3 k x r hx hkr
 refine ⟨x.u, h3.1, ?_⟩
 rw [← hxe]; exact hr _ (hf x (List.mem_of_getElem? hx))
theorem Ahy {T : TypeId} {v : Value} {l : List PV} (hs : St (row T v l :: (l.map pvC ++ L)) R w) : St L (sl v (l.map PV.p) :: R) w := by
 have h1 : St (l.map pvC ++ (row T v l :: L)) R w := hs.perm (List.perm_middle.symm)
 have h2 := Wc (fun x hx => List.mem_append.2 (.inl (List.mem_map.2 ⟨x, hx, rfl⟩))) (Ui l h1)
 refine h2.shut.sub .refl (fun f hf => ?_)
 rcases List.mem_cons.1 hf with e | e
 ·rw [e]; exact List.mem_cons_self ..
 ·exact List.mem_cons_of_mem _ (List.mem_append.2 (.inr e))
theorem rdPV {R : List Fact} {x : PV} (h : x.u.oneCell' = true) : ∀ j, (∀ q ∈ R, q.p j) → RdV [x] [x.u] j := fun j _ => ⟨⟨[x.u], Kj h, rfl, h⟩, trivial⟩
def tA (t : Int) : Nat := min t.toNat 11
def tsA (times : List Int) (n : Nat) : List Nat := (times.take n).map tA
theorem Ahe {times : List Int} {n : Nat} (h : n ≤ times.length) : (tsA times n).length = n := by unfold tsA; rw [List.length_map, List.length_take]; omega
theorem Abm {times : List Int} {n k : Nat} (h : n ≤ times.length) (hk : k < n) : (tsA times n).take (k + 1) = (tsA times n).take k ++ [tA (times.getD k 0)] := by
 unfold tsA
 rw [← List.map_take, ← List.map_take, List.take_take, List.take_take, show min (k + 1) n = k + 1 by omega, show min k n = k by omega, Hu 0 (by omega), List.map_append]; rfl
theorem tsA_le {times : List Int} {n : Nat} : ∀ t ∈ tsA times n, t ≤ 11 := by
 intro t ht
 obtain ⟨a, _, e⟩ := List.mem_map.1 ht
 rw [← e]; unfold tA; omega
theorem X3 {k : Nat} : ∀ {l : List Nat}, (∀ t ∈ l, t ≤ k) → l.sum ≤ l.length * k
 | [], _ => by simp
 | a :: l, h => by
  have h1 := X3 (fun t ht => h t (List.mem_cons_of_mem _ ht))
  have h2 := h a (List.mem_cons_self ..)
  rw [List.sum_cons, List.length_cons, Nat.succ_mul]; omega
theorem Sg : ∀ ts : List Nat, (A0 ts).length = ts.length
 | [] => rfl
 | t :: r => by unfold A0; simp
theorem Se : ∀ {ts : List Nat}, ts ≠ [] → tot (A0 ts) = ts.sum + 1
 | [], h => absurd rfl h
 | t :: r, _ => by
  have : ∀ l : List Nat, tot (l.map addP) = l.sum := fun l => by
   induction l with
   | nil => rfl
   | cons a l ih => unfold tot at ih ⊢; rw [List.map_cons, List.map_cons, List.sum_cons, List.sum_cons, ih]; unfold addP; rw [List.length_replicate]
  have h := this r
  unfold tot at h
  unfold A0 tot
  rw [List.map_cons, List.sum_cons, List.sum_cons, h, List.length_append]; unfold addP; rw [List.length_replicate, List.length_singleton]; omega
theorem Sf {ts : List Nat} (h11 : ∀ t ∈ ts, t ≤ 11) {p : List Op} (hp : p ∈ A0 ts) : p.length ≤ 12 ∧ ∀ o ∈ p, o = ⟨3, 0, 1⟩ ∨ o = ⟨1, 0, 0⟩ := by
 cases ts with
 | nil => exact absurd hp (by simp [A0])
 | cons t r =>
  rcases List.mem_cons.1 hp with e | e
  ·have := h11 t (List.mem_cons_self ..)
   rw [e]
   refine ⟨by rw [List.length_append]; unfold addP; rw [List.length_replicate, List.length_singleton]; omega, fun o ho => ?_⟩
   rcases List.mem_append.1 ho with g | g
   ·exact .inl (List.eq_of_mem_replicate g)
   ·exact .inr (List.mem_singleton.1 g)
  ·obtain ⟨s, hs, e2⟩ := List.mem_map.1 e
   have := h11 s (List.mem_cons_of_mem _ hs)
   rw [← e2]
   refine ⟨by unfold addP; rw [List.length_replicate]; omega, fun o ho => .inl (List.eq_of_mem_replicate ho)⟩
theorem Jp : ∀ {l : List Int}, (∀ a ∈ l, a = 0) → F2 l = 0
 | [], _ => rfl
 | b :: l, h => by
  unfold F2
  rw [if_neg (fun hb => hb (h b (List.mem_cons_self ..)))]
  exact Jp fun a ha => h a (List.mem_cons_of_mem _ ha)
theorem Xt {n : Nat} {ts : List Nat} (hn : 1 ≤ n ∧ n ≤ 4) (hl : ts.length = n) (h11 : ∀ t ∈ ts, t ≤ 11) : A9 ⟨(n : Int), 1⟩ (A0 ts) = 0 := by
 have hc : (A2 ⟨(n : Int), 1⟩).2 = 0 := by
  rw [← Ki]; unfold Bw; rw [if_neg (by simp only; omega)]
 unfold A9
 rw [if_neg (by rw [hc]; decide), if_neg (by rw [Sg, hl]; simp)]
 refine Jp fun a ha => ?_
 obtain ⟨p, hp, e⟩ := List.mem_map.1 ha
 obtain ⟨h1, h2⟩ := Sf h11 hp
 rw [← e]; unfold Cj
 rw [if_neg (by omega)]
 refine Jp fun b hb => ?_
 obtain ⟨o, ho, e2⟩ := List.mem_map.1 hb
 rw [← e2]
 rcases h2 o ho with e3 | e3 <;> rw [e3] <;> rfl
theorem Vs (a b : List Done) : Nt (a ++ b) = Nt a + Nt b := by unfold Nt; rw [List.filter_append, List.length_append]
theorem Ns {d : List Done} {j : Nat} (h : j < d.length) : Nt (d.take (j + 1)) = Nt (d.take j) + (if (d.getD j zDone).op.kind = 3 then 1 else 0) := by
 rw [Hu zDone h, Vs, Kl]; simp [Nt]
theorem Abf (d : List Done) (j : Nat) : Nt (d.take j) ≤ Nt d := by
 have : Nt d = Nt (d.take j) + Nt (d.drop j) := by rw [← Vs, List.take_append_drop]
 omega
theorem Xu {n : Nat} {ts : List Nat} {picks : List Int} (hn : 1 ≤ n ∧ n ≤ 4) (hl : ts.length = n) (h11 : ∀ t ∈ ts, t ≤ 11) (hp : picks.length ≤ 300) : (Av ⟨(n : Int), 1⟩ (A0 ts) picks).2.2 = 0 ∧ (Av ⟨(n : Int), 1⟩ (A0 ts) picks).2.1.length = ts.sum + 1 ∧
  ∀ j, j < (Av ⟨(n : Int), 1⟩ (A0 ts) picks).2.1.length → ((Av ⟨(n : Int), 1⟩ (A0 ts) picks).2.1.getD j zDone).op.kind = 3 → ((Av ⟨(n : Int), 1⟩ (A0 ts) picks).2.1.getD j zDone).value = Nt ((Av ⟨(n : Int), 1⟩ (A0 ts) picks).2.1.take j) ∧ Nt ((Av ⟨(n : Int), 1⟩ (A0 ts) picks).2.1.take j) < ts.sum := by
 obtain ⟨he, n', nl, _, _, hc, _, ⟨M, _, hD⟩, _, _, hof⟩ := G5 (picks := picks) (Xt hn hl h11) hp
 have e : (1 : Int) = nl := congrArg Config.lines hc
 have e2 : nl = 1 := by omega
 subst e2
 have hne : ts ≠ [] := by intro h; rw [h] at hl; simp at hl; omega
 have hdt := Iw hof
 rw [Se hne] at hdt
 have hal := Afu hof
 have hop := Aft hof
 have hsum := X3 h11
 rw [hl] at hsum
 refine ⟨he, hdt, fun j hj hk => ?_⟩
 have h1 := P8 _ (a := 0) hD hop (by decide) (by rw [hal]; omega) j hj hk
 have h2 := Ns hj
 rw [if_pos hk] at h2
 have h3 := Abf (Av ⟨(n : Int), 1⟩ (A0 ts) picks).2.1 (j + 1)
 rw [hal] at h3
 exact ⟨by rw [h1]; omega, by omega⟩
theorem Ahc : ∀ a b : Int, vi a = vi b → a = b := fun a b h => by cases h; rfl
theorem Ts {ts : List Nat} {x0 : PV} {xr : List PV} {v : Value} (h : (x0 :: xr).map PV.p = ts.map addP) : ((⟨x0.p ++ [⟨1, 0, 0⟩], v⟩ : PV) :: xr).map PV.p = A0 ts := by
 cases ts with
 | nil => simp at h
 | cons t r =>
  rw [List.map_cons, List.map_cons] at h
  injection h with h1 h2
  rw [List.map_cons, h2]
  show (x0.p ++ [⟨1, 0, 0⟩]) :: _ = _
  rw [h1]; rfl
theorem Mv {vt vp : Value} {cores : Int} {times picks : List Int} (hs : St (L) R w) (ht : sl vt times ∈ R) (hpk : sl vp picks ∈ R) (hc : An cores) : Calls Try.prog 7 [vi cores, vt, vp].toArray w (Cd (fun _ : Unit => .bool true) (fun _ => L) (fun _ => R)) := by
 have htlen := Bx ht hs
 refine Ah Try.func7 rfl Try.ntmps7 rfl hs ?_
 clear hs
 refine ZM ?_
 refine Ak Try.call17 rfl (fun w hs => P7 hs) ?_; intro _
 refine Gc1 ?_
 refine Zca ?_
 refine Dn 35 (.bool (decide ((cores < 1) ∨ (4 < cores) ∨ ((times.length : Int) < cores) ∨ (200 < (picks.length : Int))))) ?_ ?_
 ·rcases (show ((cores < 1)) ∨ (¬ (cores < 1) ∧ (4 < cores)) ∨ (¬ (cores < 1) ∧ ¬ (4 < cores) ∧ ((times.length : Int) < cores)) ∨ (¬ (cores < 1) ∧ ¬ (4 < cores) ∧ ¬ ((times.length : Int) < cores) ∧ (200 < (picks.length : Int))) ∨ (¬ (cores < 1) ∧ ¬ (4 < cores) ∧ ¬ ((times.length : Int) < cores) ∧ ¬ (200 < (picks.length : Int))) from by omega) with hm | hm | hm | hm | hm
  ·refine Za2 ?_
   refine Ga15 ?_
   exact ZcO
  ·refine ZY ?_
   refine Ft ?_
   refine Ga12 ?_
   exact ZcO
  ·refine Zca ?_
   refine ZY ?_
   refine De ?_
   refine ZQ ?_
   refine Dt ?_
   exact ZdY
  ·refine ZY ?_
   refine De ?_
   refine ZQ ?_
   refine A3 ?_
   refine ZE ?_
   exact Zd3
  ·refine Zca ?_
   refine ZY ?_
   refine De ?_
   refine ZQ ?_
   refine A3 ?_
   refine ZE ?_
   exact Zd4
 ·refine Bc ?_
  refine Gl ?_
  first | (refine cdx (p := ?p1) (hd := ?d1) ?e1 ?_ ?_; case e1 => exact rfl) | (refine Cc (b := ?b1) ?e1 ?_ ?_; case e1 => exact rfl)
  ·intro ht35
   exact ZdW
  ·intro ht35
   refine Gl ?_
   obtain ⟨n, rfl⟩ : ∃ n : Nat, cores = (n : Int) := ⟨cores.toNat, by omega⟩
   have hn : 1 ≤ n ∧ n ≤ 4 := by omega
   have htl : n ≤ times.length := by omega
   obtain ⟨ts, hts⟩ : ∃ ts, tsA times n = ts := ⟨_, rfl⟩
   have hlen := Ahe htl
   have htake := fun k (hk : k < n) => Abm htl hk
   have h11 : ∀ t ∈ tsA times n, t ≤ 11 := tsA_le
   rw [hts] at hlen htake h11
   refine Aa ?_
   refine Gb1 ?_
   refine ZH ?_
   refine JC.rowNil 58 PV ?_
   refine Bs (γ := Nat × Value × List PV) (fun g => g.1 ≤ n ∧ g.2.2.map PV.p = (ts.take g.1).map addP) (fun g => row 58 g.2.1 g.2.2 :: (g.2.2.map pvC ++ L)) (fun _ => R) (fun g => [(0, vi (n : Int)), (1, vt), (2, vp), (7, g.2.1), (8, vi (((ts.take g.1).sum : Nat) : Int)), (36, vi (n : Int)), (37, vi (g.1 : Int))]) (fun g => n - g.1) (0, .slice none 0 0, []) ⟨Nat.zero_le _, by simp⟩ alT (fun w hs => Ae hs) ?_
   rintro ⟨k, vl, xs⟩ ⟨hk, hxp⟩
   try simp only at hk hxp ⊢
   have hxl : xs.length = k := by
    have := congrArg List.length hxp
    simp at this; omega
   have hsk : (ts.take k).sum ≤ 44 := by
    have h1 := X3 (l := ts.take k) (fun t ht => h11 t (List.mem_of_mem_take ht))
    rw [List.length_take] at h1; omega
   refine ZB ?_
   refine cdy ?_ ?_
   ·intro ht38
    refine Gm ?_
    refine Gb2 ?_
    refine Ga1 ?_
    refine JC.open0 (xs := times) (v := vt) k mm (by omega) (fun hik => ?_)
    refine ZI ?_
    refine ob (q_mxI rfl) ?_
    refine ob (q_mnN rfl) ?_
    refine Ga1 ?_
    have htk11 : (tA (times.getD k 0)) ≤ 11 := by unfold tA; omega
    refine JC.rowNil 36 Op ?_
    refine Bs (γ := Nat × Value) (fun g => g.1 ≤ (tA (times.getD k 0))) (fun g => row 36 g.2 (List.replicate g.1 (⟨3, 0, 1⟩ : Op)) :: row 58 vl xs :: (xs.map pvC ++ L)) (fun _ => R) (fun g => [(0, vi (n : Int)), (1, vt), (2, vp), (7, vl), (8, vi (((ts.take k).sum + g.1 : Nat) : Int)), (10, g.2), (36, vi (n : Int)), (37, vi (k : Int)), (45, vi ((tA (times.getD k 0)) : Int)), (46, vi (g.1 : Int))]) (fun g => (tA (times.getD k 0)) - g.1) (0, .slice none 0 0) (Nat.zero_le _) alT (fun w hs => Ae hs) ?_
    rintro ⟨i, vq⟩ hi
    try simp only at hi ⊢
    refine Gl ?_
    refine kp [0, 1, 2, 6, 7, 8, 9, 10, 36, 37, 38, 39, 40, 41, 42, 43, 44, 45, 46, 47] ?_
    refine Aa ?_
    refine Ga1 ?_
    refine cdy ?_ ?_
    ·intro ht47
     refine ZK ?_
     refine li (α := Op) [(⟨3, 0, 1⟩ : Op)] Kd rfl (Wh (by unfold Op.wf An; decide)) ?_; intro v50
     refine ap Kd (hb := fun w hs => by have : maxN = 16777216 := rfl; (try simp only [List.length_cons, List.length_nil, List.length_replicate]); omega) (k := ?_); intro v51
     refine Gb1 ?_
     refine Gb3 ?_
     refine Ga2 ?_
     refine A7 (i + 1, v51) (by show i + 1 ≤ (tA (times.getD k 0)); omega) (by show (tA (times.getD k 0)) - (i + 1) < (tA (times.getD k 0)) - i; omega) alT (fun w hs => ?_)
     try simp only
     rw [List.replicate_succ']; exact Ae hs
    ·intro ht47
     refine Gl ?_
     have hie : i = (tA (times.getD k 0)) := by omega
     subst hie
     have etk := htake k (by omega)
     have esum : (ts.take (k + 1)).sum = (ts.take k).sum + (tA (times.getD k 0)) := by rw [etk, List.sum_append]; simp
     refine JC.conseq (L' := row 36 vq (addP (tA (times.getD k 0))) :: row 58 vl xs :: (xs.map pvC ++ L)) (fun w hs => hs) ?_
     refine JC.know (p := vq.oneCell' = true) (fun w hs => Bm .hd hs) (fun honeq => ?_)
     refine ZA ?_
     refine li (α := PV) [⟨addP (tA (times.getD k 0)), vq⟩] Rt rfl (rdPV (x := ⟨addP (tA (times.getD k 0)), vq⟩) honeq) ?_; intro v57
     refine ap Rt (hb := fun w hs => by have : maxN = 16777216 := rfl; (try simp only [List.length_cons, List.length_nil, List.length_replicate]); omega) (k := ?_); intro v58
     refine ZH ?_
     refine A7 (k + 1, v58, xs ++ [⟨addP (tA (times.getD k 0)), vq⟩]) ⟨by show k + 1 ≤ n; omega, by rw [List.map_append, hxp, etk, List.map_append]; rfl⟩ (by show n - (k + 1) < n - k; omega) ?_ (fun w hs => ?_)
     ·try simp only
      rw [esum]; exact alT
     try simp only
     have h9 : St (row 58 v58 (xs ++ [⟨addP (tA (times.getD k 0)), vq⟩]) :: row 36 vq (addP (tA (times.getD k 0))) :: (xs.map pvC ++ L)) R w := Ae hs
     refine h9.perm (.cons _ ?_)
     rw [List.map_append, List.append_assoc]
     exact List.perm_middle.symm
   ·intro ht38
    refine Gl ?_
    have hkn : n = k := by omega
    subst hkn
    rw [List.take_of_length_le (by omega)] at hxp hsk
    rw [List.take_of_length_le (by omega)]
    obtain ⟨x0, xr, rfl⟩ : ∃ x0 xr, xs = x0 :: xr := by
     cases xs with
     | nil => simp at hxl; omega
     | cons x0 xr => exact ⟨x0, xr, rfl⟩
    obtain ⟨he, hdl, hadd⟩ := Xu (picks := picks) hn hlen h11 (by omega)
    refine JC.conseq (L' := row 58 vl (x0 :: xr) :: row 36 x0.u x0.p :: (xr.map pvC ++ L)) (fun w hs => hs) ?_
    refine JC.know (p := x0.p.length ≤ 16777215) (fun w hs => by
     have h1 : (x0 :: xr).map PV.p = ts.map addP := hxp
     cases ts with
     | nil => simp at h1
     | cons t r =>
      rw [List.map_cons, List.map_cons] at h1
      injection h1 with h2 h3
      have := h11 t (List.mem_cons_self ..)
      rw [h2]; unfold addP; rw [List.length_replicate]; omega) (fun hx0l => ?_)
    refine JC.focus0 (T := 58) (v := vl) (xs := x0 :: xr) 0 pkk (by simp) (fun hone0 => ?_)
    refine JC.conseq (L' := foc 58 vl (x0 :: xr) 0 [x0.u] :: row 36 x0.u x0.p :: (xr.map pvC ++ L)) (fun w hs => hs) ?_
    refine ZA ?_
    refine ob (Gb (i := 0) X9) ?_
    refine rn2 ?_
    refine li (α := Op) [⟨1, 0, 0⟩] Kd rfl (Wh (by unfold Op.wf An; decide)) ?_; intro v65
    refine ap Kd (hb := fun w hs => by have : maxN = 16777216 := rfl; (try simp only [List.length_cons, List.length_nil, List.length_replicate]); omega) (k := ?_); intro v66
    refine ob (Gb (i := 0) X9) ?_
    refine J.know (p := v66.oneCell' = true) (fun w hs => Bm pkk hs) (fun hone66 => ?_)
    refine s_f Try.sizeOf58 ?_
    intro cs_ hcs_; simp only [Nat.zero_add, Nat.add_zero, List.set_cons_zero] at hcs_; subst hcs_
    refine Gl ?_
    refine JC.conseq (L' := L) (R' := sl vl (A0 ts) :: R) (fun w hs => by
     have h9 : St (foc 58 vl (x0 :: xr) 0 [v66] :: row 36 v66 (x0.p ++ [⟨1, 0, 0⟩]) :: (xr.map pvC ++ L)) R w := Ae hs
     have h8 := Ahy (l := (⟨x0.p ++ [⟨1, 0, 0⟩], v66⟩ : PV) :: xr) (h9.unfocus (e := (⟨x0.p ++ [⟨1, 0, 0⟩], v66⟩ : PV)) (fun j hj => ⟨rfl, hone66⟩))
     rw [Ts hxp] at h8; exact h8) ?_
    refine kp [0, 2, 6, 7, 8, 11, 12, 13, 68, 69, 70, 71, 72, 73, 74, 75, 76] ?_
    refine ZI ?_
    refine Ak Try.call14 rfl (fun w hs => Jk (c := ⟨(n : Int), 1⟩) (l := A0 ts) (picks := picks) hs mm mm (by unfold Config.wf An; simp only; omega)) ?_; intro v73
    refine J.know (p := v73.1.oneCell' = true ∧ v73.2.1.oneCell' = true ∧ v73.2.2.1.oneCell' = true) (fun w hs => ⟨isSlice.one (hs.fact (.head _)), isSlice.one (hs.fact (.tail _ (.head _))), isSlice.one (hs.fact (.tail _ (.tail _ (.head _))))⟩) (fun h12 => ?_)
    obtain ⟨honev731, honev732, honev733⟩ := h12
    refine rn4 ?_
    refine al_ (cs := [.slice none 0 0, .slice none 0 0, .slice none 0 0]) Try.zeroValue27 ?_; intro b11
    refine s_B (cs := [v73.1, v73.2.1, v73.2.2.1]) Try.sizeOf27 ?_
    refine Zaf ?_
    refine Ms ?_
    refine ZQ ?_
    refine Ms ?_
    refine Gd1 ?_
    refine Ahv vi (.int .i64) ?_; intro bm
    refine Zah ?_
    refine Bs (γ := Nat × (Int → Option Value)) (fun g => g.1 ≤ (Av ⟨(n : Int), 1⟩ (A0 ts) picks).2.1.length ∧ ∀ q, g.2 q ≠ none → q < (Nt ((Av ⟨(n : Int), 1⟩ (A0 ts) picks).2.1.take g.1) : Int)) (fun g => Aii vi (.int .i64) bm g.2 :: L) (fun _ => sl v73.2.2.2 (Av ⟨(n : Int), 1⟩ (A0 ts) picks).2.1 :: R) (fun g => [(8, vi ((ts.sum : Nat) : Int)), (14, .map (some bm)), (87, v73.2.2.2), (88, vi ((Av ⟨(n : Int), 1⟩ (A0 ts) picks).2.1.length : Int)), (89, vi (g.1 : Int))]) (fun g => (Av ⟨(n : Int), 1⟩ (A0 ts) picks).2.1.length - g.1) (0, fun _ => none) ⟨Nat.zero_le _, fun q h => absurd rfl h⟩ alT (fun w hs => Ae hs) ?_
    rintro ⟨j, f⟩ ⟨hj, hf⟩
    try simp only at hj hf ⊢
    refine ZB ?_
    refine cdy ?_ ?_
    ·intro ht90
     refine Gl ?_
     refine JC.open0 (xs := (Av ⟨(n : Int), 1⟩ (A0 ts) picks).2.1) (v := v73.2.2.2) j mm (by omega) (fun hdw => ?_)
     refine ZA ?_
     refine al_ (cs := zDone.cells) Try.zeroValue50 ?_; intro b16
     refine s_B (cs := ((Av ⟨(n : Int), 1⟩ (A0 ts) picks).2.1.getD j zDone).cells) Try.sizeOf50 ?_
     refine Gl ?_
     refine kp [6, 8, 14, 16, 87, 88, 89, 90, 91, 92, 93, 94, 95, 96] ?_
     refine Aa ?_
     refine Ga4 ?_
     refine cdy ?_ ?_
     ·intro ht96
      obtain ⟨hvj, hlt⟩ := hadd j (by omega) ht96
      have hn1 := Ns (d := (Av ⟨(n : Int), 1⟩ (A0 ts) picks).2.1) (j := j) (by omega)
      rw [if_pos ht96] at hn1
      have hnone : (f ((Av ⟨(n : Int), 1⟩ (A0 ts) picks).2.1.getD j zDone).value).getD (.bool false) = .bool false := by
       cases hfj : f ((Av ⟨(n : Int), 1⟩ (A0 ts) picks).2.1.getD j zDone).value with
       | none => rfl
       | some b => have := hf ((Av ⟨(n : Int), 1⟩ (A0 ts) picks).2.1.getD j zDone).value (by rw [hfj]; exact Option.some_ne_none _); omega
      refine Gm ?_
      refine rn3 ?_
      refine Aca (kv := vi) (d := (.int .i64)) ((Av ⟨(n : Int), 1⟩ (A0 ts) picks).2.1.getD j zDone).value Try.underlying66 Try.underlying3 Try.zeroValue4 rfl rfl rfl pkk ?_
      rw [hnone]
      refine ZF ?_
      refine Zbd ?_
      refine Gd1 ?_
      refine rn3 ?_
      refine Abz (kv := vi) (d := (.int .i64)) ((Av ⟨(n : Int), 1⟩ (A0 ts) picks).2.1.getD j zDone).value Ahc Try.underlying66 Try.underlying3 rfl rfl rfl rfl pkk ?_
      refine ZD ?_
      refine A7 (j + 1, Ahd f ((Av ⟨(n : Int), 1⟩ (A0 ts) picks).2.1.getD j zDone).value (.bool true)) ⟨by show j + 1 ≤ (Av ⟨(n : Int), 1⟩ (A0 ts) picks).2.1.length; omega, fun q hq => ?_⟩ (by show (Av ⟨(n : Int), 1⟩ (A0 ts) picks).2.1.length - (j + 1) < (Av ⟨(n : Int), 1⟩ (A0 ts) picks).2.1.length - j; omega) alT (fun w hs => Ae hs)
      try simp only at hq ⊢
      unfold Ahd at hq
      by_cases e : q = ((Av ⟨(n : Int), 1⟩ (A0 ts) picks).2.1.getD j zDone).value
      ·omega
      ·rw [if_neg e] at hq
       have := hf q hq; omega
     ·intro ht96
      refine ZD ?_
      have hn1 := Ns (d := (Av ⟨(n : Int), 1⟩ (A0 ts) picks).2.1) (j := j) (by omega)
      rw [if_neg ht96] at hn1
      refine A7 (j + 1, f) ⟨by show j + 1 ≤ (Av ⟨(n : Int), 1⟩ (A0 ts) picks).2.1.length; omega, fun q hq => by rw [hn1]; exact hf q hq⟩ (by show (Av ⟨(n : Int), 1⟩ (A0 ts) picks).2.1.length - (j + 1) < (Av ⟨(n : Int), 1⟩ (A0 ts) picks).2.1.length - j; omega) alT (fun w hs => Ae hs)
    ·intro ht90
     exact ZdW
def tL : List Step := [⟨1, 0, 0, 0, ⟨1, 0, 0⟩⟩]
def tX : Chip := (Ag (Bb 1 1) (opS 0 ⟨1, 0, 0⟩)).1
def tAns : List Answer := [⟨0, 0⟩]
theorem t_ps : C0 ⟨1, 1⟩ tL = (tX, tAns, [], 0) := Prod.ext rfl (by decide +kernel)
theorem t_inv : ∃ M, Inv 1 1 tX M := by
 obtain ⟨M, h, _⟩ := H6 (Pe (n := 1) (nl := 1) (by decide) (by decide)) (s := opS 0 ⟨1, 0, 0⟩) (by decide)
 exact ⟨M, h⟩
theorem t_1 : ((settle tX).2.1.length : Int) = 1 := by decide +kernel
theorem t_2 : (0 : Int) < ((settle tX).2.2 : Int) := by decide +kernel
theorem t_3 : ((settle tX).1.cores.length : Int) = 1 := by decide +kernel
theorem Abw {R : List Fact} {a b : Op} (ha : a.wf) (hb : b.wf) : ∀ j, (∀ q ∈ R, q.p j) → RdV [a, b] [.agg a.cells.toArray, .agg b.cells.toArray] j := fun j _ => ⟨⟨_, rfl, rfl, ha⟩, ⟨_, rfl, rfl, hb⟩, trivial⟩
theorem Yx {l : List (List Op)} {picks : List Int} (h : A9 ⟨2, 2⟩ l = 0) (hp : picks.length ≤ 300) : (Av ⟨2, 2⟩ l picks).2.2 = 0 ∧ (∃ M, Cn [0, 0] (Av ⟨2, 2⟩ l picks).2.1 M) ∧ (∀ p, (Ax (Av ⟨2, 2⟩ l picks).2.1 p).map Done.op = atL l p) ∧ (Av ⟨2, 2⟩ l picks).2.1.length = tot l := by
 obtain ⟨he, n, nl, _, _, hc, _, ⟨M, _, hD⟩, _, _, hof⟩ := G5 (picks := picks) h hp
 have e : (2 : Int) = nl := congrArg Config.lines hc
 have e2 : nl = 2 := by omega
 subst e2
 exact ⟨he, ⟨M, hD⟩, hof, Iw hof⟩
theorem topOp {p kind line v : Int} (hs : St (L) R w) : Calls Try.prog 11 [vi p, vi kind, vi line, vi v].toArray w (Cd (fun _ : Unit => .agg (Step.cells ⟨1, p, 0, 0, ⟨kind, line, v⟩⟩).toArray) (fun _ => L) (fun _ => R)) := by
 refine Ah Try.func11 rfl Try.ntmps11 rfl hs ?_
 clear hs
 refine Gm ?_
 refine al_ (cs := zStep.cells) Try.zeroValue38 ?_; intro b8
 refine Gm ?_
 refine rn6 ?_
 refine s_B (cs := (⟨1, p, 0, 0, ⟨kind, line, v⟩⟩ : Step).cells) Try.sizeOf38 ?_
 refine Gl ?_
 exact Wg () Try.isAgg38 Try.sizeOf38
theorem P6  (hs : St (L) R w) : Calls Try.prog 9 [].toArray w (Cd (fun _ : Unit => .bool true) (fun _ => L) (fun _ => R)) := by
 obtain ⟨M, hI⟩ := t_inv
 refine Ah Try.func9 rfl Try.ntmps9 rfl hs ?_
 clear hs
 refine Zam ?_
 refine Ak Try.call11 rfl (fun w hs => topOp (p := 0) (kind := 1) (line := 0) (v := 0) hs) ?_; intro _
 refine li (α := Step) tL eo_40 rfl (fun j hj => ⟨⟨_, rfl, rfl, by unfold Step.wf An; decide⟩, trivial⟩) ?_; intro v11
 refine Ak Try.call10 rfl (fun w hs => by have h := Oe (c := ⟨1, 1⟩) (l := tL) hs mm (by unfold Config.wf An; decide); rw [t_ps] at h; exact h) ?_; intro v12
 refine J.know (p := v12.1.oneCell' = true ∧ v12.2.1.oneCell' = true ∧ v12.2.2.1.oneCell' = true) (fun w hs => ⟨isSlice.one (hs.fact (.head _)), isSlice.one (hs.fact (.tail _ (.head _))), isSlice.one (hs.fact (.tail _ (.tail _ (.head _))))⟩) (fun h12 => ?_)
 obtain ⟨honev121, honev122, honev123⟩ := h12
 refine rn5 ?_
 refine al_ (cs := [.slice none 0 0, .slice none 0 0, .slice none 0 0]) Try.zeroValue27 ?_; intro b1
 refine s_B (cs := [v12.1, v12.2.1, v12.2.2.1]) Try.sizeOf27 ?_
 refine Gb3 ?_
 refine rn1 ?_
 refine Ak Try.call13 rfl (fun w hs => Mj (x := tX) hs mm mm mm hI) ?_; intro v19
 refine J.know (p := v19.1.oneCell' = true ∧ v19.2.1.oneCell' = true ∧ v19.2.2.1.oneCell' = true) (fun w hs => ⟨isSlice.one (hs.fact (.head _)), isSlice.one (hs.fact (.tail _ (.head _))), isSlice.one (hs.fact (.tail _ (.tail _ (.head _))))⟩) (fun h12 => ?_)
 obtain ⟨honev191, honev192, honev193⟩ := h12
 refine rn4 ?_
 refine Zce ?_;intro b5
 refine s_B (cs := [v19.1, v19.2.1, v19.2.2.1]) Try.sizeOf27 ?_
 refine Zaf ?_
 refine ob (Al rfl rfl (Ay rfl)) ?_
 refine ZF ?_
 refine ob (Al rfl rfl (Ay rfl)) ?_
 refine ZE ?_
 refine ob (Al rfl rfl (Ay t_1)) ?_
 refine ZF ?_
 refine ob (Al rfl rfl (La t_2)) ?_
 refine ZQ ?_
 refine ob (Al rfl rfl (Ay t_3)) ?_
 refine Ga2 ?_
 exact Bq ()
theorem Qg {vp : Value} {v : Int} {picks : List Int} (hs : St (L) R w) (hpk : sl vp picks ∈ R) (hv : An v) : Calls Try.prog 4 [vi v, vp].toArray w (Cd (fun _ : Unit => .bool true) (fun _ => L) (fun _ => R)) := by
 have hv0 := hv
 unfold An at hv0
 refine Ah Try.func4 rfl Try.ntmps4 rfl hs ?_
 clear hs
 refine ZM ?_
 refine Ak Try.call9 rfl (fun w hs => P6 hs) ?_; intro _
 refine Gc1 ?_
 refine kp [0, 1, 4, 12, 13, 14, 15, 16, 17, 18, 19, 20, 21, 22] ?_
 refine Dn 22 (.bool (decide ((v < 1) ∨ (255 < v) ∨ (300 < (picks.length : Int))))) ?_ ?_
 ·rcases (show ((v < 1)) ∨ (¬ (v < 1) ∧ (255 < v)) ∨ (¬ (v < 1) ∧ ¬ (255 < v) ∧ (300 < (picks.length : Int))) ∨ (¬ (v < 1) ∧ ¬ (255 < v) ∧ ¬ (300 < (picks.length : Int))) from by omega) with hm | hm | hm | hm
  ·refine Za2 ?_
   refine Ga9 ?_
   exact ZcO
  ·refine ZY ?_
   refine Ft ?_
   exact ZdY
  ·refine ZY ?_
   refine De ?_
   refine ZE ?_
   exact Zd3
  ·refine kp [0, 1, 4, 12, 13, 14, 15, 16, 17, 18, 19, 20, 21, 22] ?_
   refine ZY ?_
   refine De ?_
   refine ZE ?_
   exact Zd4
 ·refine Bc ?_
  refine Gl ?_
  first | (refine cdx (p := ?p1) (hd := ?d1) ?e1 ?_ ?_; case e1 => exact rfl) | (refine Cc (b := ?b1) ?e1 ?_ ?_; case e1 => exact rfl)
  ·intro ht22
   exact ZdW
  ·intro ht22
   refine Gl ?_
   have hw : A9 ⟨2, 2⟩ ([[⟨2, 0, v⟩, ⟨2, 1, 1⟩], [⟨1, 1, 0⟩, ⟨1, 0, 0⟩]] : List (List Op)) = 0 := by
    have h0 : (A2 ⟨2, 2⟩).2 = 0 := by decide
    unfold A9; rw [if_neg (by rw [h0]; decide), if_neg (by simp)]
    simp [F2, Cj, E2]; omega
   obtain ⟨he, ⟨M, hD⟩, hof, hdl⟩ := Yx (picks := picks) hw (by omega)
   have hdl4 : (Av ⟨2, 2⟩ ([[⟨2, 0, v⟩, ⟨2, 1, 1⟩], [⟨1, 1, 0⟩, ⟨1, 0, 0⟩]] : List (List Op)) picks).2.1.length = 4 := hdl
   have hfl := Aef hD hof
   refine ZL ?_
   refine li (α := Op) [⟨2, 0, v⟩, ⟨2, 1, 1⟩] Kd rfl (Abw (by unfold Op.wf An; simp only; omega) (by unfold Op.wf An; simp only; omega)) ?_; intro v26
   refine rn2 ?_
   refine li (α := Op) [⟨1, 1, 0⟩, ⟨1, 0, 0⟩] Kd rfl (Abw (by unfold Op.wf An; simp only; omega) (by unfold Op.wf An; simp only; omega)) ?_; intro v29
   refine li (α := List Op) ([[⟨2, 0, v⟩, ⟨2, 1, 1⟩], [⟨1, 1, 0⟩, ⟨1, 0, 0⟩]] : List (List Op)) Rt rfl (Yi mm mm) ?_; intro v30
   refine Gb1 ?_
   refine rn3 ?_
   refine Ak Try.call14 rfl (fun w hs => Jk (c := ⟨2, 2⟩) (l := ([[⟨2, 0, v⟩, ⟨2, 1, 1⟩], [⟨1, 1, 0⟩, ⟨1, 0, 0⟩]] : List (List Op))) (picks := picks) hs mm mm (by unfold Config.wf An; decide)) ?_; intro v35
   refine J.know (p := v35.1.oneCell' = true ∧ v35.2.1.oneCell' = true ∧ v35.2.2.1.oneCell' = true) (fun w hs => ⟨isSlice.one (hs.fact (.head _)), isSlice.one (hs.fact (.tail _ (.head _))), isSlice.one (hs.fact (.tail _ (.tail _ (.head _))))⟩) (fun h12 => ?_)
   obtain ⟨honev351, honev352, honev353⟩ := h12
   refine rn4 ?_
   refine al_ (cs := [.slice none 0 0, .slice none 0 0, .slice none 0 0]) Try.zeroValue27 ?_; intro b6
   refine s_B (cs := [v35.1, v35.2.1, v35.2.2.1]) Try.sizeOf27 ?_
   refine Ga2 ?_
   refine kp [0, 4, 7, 8, 39, 40] ?_
   refine ZC ?_
   refine Ms ?_
   refine Za1 ?_
   refine Ak Try.call16 rfl (fun w hs => Ss (l := (Av ⟨2, 2⟩ ([[⟨2, 0, v⟩, ⟨2, 1, 1⟩], [⟨1, 1, 0⟩, ⟨1, 0, 0⟩]] : List (List Op)) picks).2.1) (p := 1) hs mm (by omega) (by unfold An; omega)) ?_; intro v42
   refine Ga1 ?_
   refine JC.open0 (xs := (Ax (Av ⟨2, 2⟩ ([[⟨2, 0, v⟩, ⟨2, 1, 1⟩], [⟨1, 1, 0⟩, ⟨1, 0, 0⟩]] : List (List Op)) picks).2.1 1)) (v := v42) 0 mm (by omega) (fun _ => ?_)
   refine JC.open0 (xs := (Ax (Av ⟨2, 2⟩ ([[⟨2, 0, v⟩, ⟨2, 1, 1⟩], [⟨1, 1, 0⟩, ⟨1, 0, 0⟩]] : List (List Op)) picks).2.1 1)) (v := v42) 1 mm (by omega) (fun _ => ?_)
   rcases (show (((Ax (Av ⟨2, 2⟩ ([[⟨2, 0, v⟩, ⟨2, 1, 1⟩], [⟨1, 1, 0⟩, ⟨1, 0, 0⟩]] : List (List Op)) picks).2.1 1).getD 0 zDone).value = 0) ∨ (((Ax (Av ⟨2, 2⟩ ([[⟨2, 0, v⟩, ⟨2, 1, 1⟩], [⟨1, 1, 0⟩, ⟨1, 0, 0⟩]] : List (List Op)) picks).2.1 1).getD 0 zDone).value ≠ 0) from by omega) with hc | hc
   ·refine ZA ?_
    refine C8 ?_
    refine ZN ?_
    refine ob (Gb (i := 0) L8) ?_
    refine ZN ?_
    refine ob (Al rfl rfl (Ay hc)) ?_
    refine Ga10 ?_
    exact Bq ()
   ·refine ZA ?_
    refine C8 ?_
    refine ZN ?_
    refine ob (Gb (i := 0) L8) ?_
    refine ZN ?_
    refine ob (Al rfl rfl (Bh hc)) ?_
    refine ZN ?_
    refine ob (Gb (i := 1) L8) ?_
    refine ZF ?_
    refine ob (Al rfl rfl (Ay (hfl.2.resolve_left hc))) ?_
    refine Ga3 ?_
    exact Bq ()
theorem Qh {vp : Value} {picks : List Int} (hs : St (L) R w) (hpk : sl vp picks ∈ R) : Calls Try.prog 8 [vp].toArray w (Cd (fun _ : Unit => .bool true) (fun _ => L) (fun _ => R)) := by
 refine Ah Try.func8 rfl Try.ntmps8 rfl hs ?_
 clear hs
 refine ZM ?_
 refine Ak Try.call9 rfl (fun w hs => P6 hs) ?_; intro _
 refine Gd1 ?_
 refine Ga3 ?_
 refine cdy ?_ ?_
 ·intro ht13
  exact ZdW
 ·intro ht13
  refine Gl ?_
  have hw : A9 ⟨2, 2⟩ ([[⟨2, 0, 1⟩, ⟨1, 1, 0⟩], [⟨2, 1, 1⟩, ⟨1, 0, 0⟩]] : List (List Op)) = 0 := by decide
  obtain ⟨he, ⟨M, hD⟩, hof, hdl⟩ := Yx (picks := picks) hw (by omega)
  have hdl4 : (Av ⟨2, 2⟩ ([[⟨2, 0, 1⟩, ⟨1, 1, 0⟩], [⟨2, 1, 1⟩, ⟨1, 0, 0⟩]] : List (List Op)) picks).2.1.length = 4 := hdl
  have hfl := Afh hD hof
  refine ZA ?_
  refine li (α := Op) [⟨2, 0, 1⟩, ⟨1, 1, 0⟩] Kd rfl (Abw (by unfold Op.wf An; simp only; omega) (by unfold Op.wf An; simp only; omega)) ?_; intro v16
  refine rn2 ?_
  refine li (α := Op) [⟨2, 1, 1⟩, ⟨1, 0, 0⟩] Kd rfl (Abw (by unfold Op.wf An; simp only; omega) (by unfold Op.wf An; simp only; omega)) ?_; intro v19
  refine li (α := List Op) ([[⟨2, 0, 1⟩, ⟨1, 1, 0⟩], [⟨2, 1, 1⟩, ⟨1, 0, 0⟩]] : List (List Op)) Rt rfl (Yi mm mm) ?_; intro v20
  refine Gb1 ?_
  refine rn3 ?_
  refine Ak Try.call14 rfl (fun w hs => Jk (c := ⟨2, 2⟩) (l := ([[⟨2, 0, 1⟩, ⟨1, 1, 0⟩], [⟨2, 1, 1⟩, ⟨1, 0, 0⟩]] : List (List Op))) (picks := picks) hs mm mm (by unfold Config.wf An; decide)) ?_; intro v25
  refine J.know (p := v25.1.oneCell' = true ∧ v25.2.1.oneCell' = true ∧ v25.2.2.1.oneCell' = true) (fun w hs => ⟨isSlice.one (hs.fact (.head _)), isSlice.one (hs.fact (.tail _ (.head _))), isSlice.one (hs.fact (.tail _ (.tail _ (.head _))))⟩) (fun h12 => ?_)
  obtain ⟨honev251, honev252, honev253⟩ := h12
  refine rn4 ?_
  refine ZbA ?_;intro b4
  refine s_B (cs := [v25.1, v25.2.1, v25.2.2.1]) Try.sizeOf27 ?_
  refine Zaf ?_
  refine Ms ?_
  refine Za1 ?_
  refine Ak Try.call16 rfl (fun w hs => Ss (l := (Av ⟨2, 2⟩ ([[⟨2, 0, 1⟩, ⟨1, 1, 0⟩], [⟨2, 1, 1⟩, ⟨1, 0, 0⟩]] : List (List Op)) picks).2.1) (p := 0) hs mm (by omega) (by unfold An; omega)) ?_; intro v32
  refine rn1 ?_
  refine Ak Try.call16 rfl (fun w hs => Ss (l := (Av ⟨2, 2⟩ ([[⟨2, 0, 1⟩, ⟨1, 1, 0⟩], [⟨2, 1, 1⟩, ⟨1, 0, 0⟩]] : List (List Op)) picks).2.1) (p := 1) hs mm (by omega) (by unfold An; omega)) ?_; intro v34
  refine Ga2 ?_
  refine JC.open0 (xs := (Ax (Av ⟨2, 2⟩ ([[⟨2, 0, 1⟩, ⟨1, 1, 0⟩], [⟨2, 1, 1⟩, ⟨1, 0, 0⟩]] : List (List Op)) picks).2.1 0)) (v := v32) 1 mm (by omega) (fun _ => ?_)
  refine JC.open0 (xs := (Ax (Av ⟨2, 2⟩ ([[⟨2, 0, 1⟩, ⟨1, 1, 0⟩], [⟨2, 1, 1⟩, ⟨1, 0, 0⟩]] : List (List Op)) picks).2.1 1)) (v := v34) 1 mm (by omega) (fun _ => ?_)
  rcases (show (((Ax (Av ⟨2, 2⟩ ([[⟨2, 0, 1⟩, ⟨1, 1, 0⟩], [⟨2, 1, 1⟩, ⟨1, 0, 0⟩]] : List (List Op)) picks).2.1 0).getD 1 zDone).value = 1) ∨ (((Ax (Av ⟨2, 2⟩ ([[⟨2, 0, 1⟩, ⟨1, 1, 0⟩], [⟨2, 1, 1⟩, ⟨1, 0, 0⟩]] : List (List Op)) picks).2.1 0).getD 1 zDone).value ≠ 1) from by omega) with hc | hc
  ·refine Zcy ?_
   refine ob (Al rfl rfl (Ay hc)) ?_
   refine Ga9 ?_
   exact Bq ()
  ·refine Zcy ?_
   refine ob (Al rfl rfl (Bh hc)) ?_
   refine ZN ?_
   refine ob (Gb (i := 1) L8) ?_
   refine ZN ?_
   refine ob (Al rfl rfl (Ay (hfl.2.2.resolve_left hc))) ?_
   refine Ga3 ?_
   exact Bq ()
end Go.Proofs.Ytkgijpngobgfjaa
namespace Go.Proofs.Ytkgijpngobgfjaa
open Abs
theorem Aao (r : Rn) (p : Nat) : ∃ m, (Bg r p).done = r.done ++ m := by
 unfold Bg
 split
 ·exact ⟨[], by simp⟩
 split
 ·exact ⟨_, rfl⟩
 ·exact ⟨[], by simp⟩
theorem Oa (r : Rn) : ∃ m, (Bf r).done = r.done ++ m := ⟨_, rfl⟩
theorem T4 (r : Rn) (p : Nat) : ∃ m, (Bf (Bg r p)).done = r.done ++ m := by
 obtain ⟨a, ha⟩ := Aao r p
 obtain ⟨b, hb⟩ := Oa (Bg r p)
 exact ⟨a ++ b, by rw [hb, ha, List.append_assoc]⟩
theorem Agl (p : Nat) : ∀ (k : Nat) (r : Rn), ∃ m, (O5 r p k).done = r.done ++ m
 | 0, r => ⟨[], by simp [O5]⟩
 | k + 1, r => by
  unfold O5
  split
  ·exact ⟨[], by simp⟩
  split
  ·exact T4 r p
  ·obtain ⟨a, ha⟩ := T4 r p
   obtain ⟨b, hb⟩ := Agl p k (Bf (Bg r p))
   exact ⟨a ++ b, by rw [hb, ha, List.append_assoc]⟩
theorem Abe (r : Rn) (q : Nat) : ∀ (k : Nat), ∃ m, (Cq r (q + k)).done = (Cq r q).done ++ m
 | 0 => ⟨[], by simp⟩
 | k + 1 => by
  obtain ⟨a, ha⟩ := Abe r q k
  obtain ⟨b, hb⟩ := Oa (Cq r (q + k))
  obtain ⟨c, hc⟩ := Agl (q + k) (((Cq r (q + k)).left.getD (q + k) []).length + 1) (Bf (Cq r (q + k)))
  refine ⟨a ++ (b ++ c), ?_⟩
  show (O5 (Bf (Cq r (q + k))) (q + k) (((Cq r (q + k)).left.getD (q + k) []).length + 1)).done = _
  rw [hc, hb, ha]; simp only [List.append_assoc]
section
variable {n nl : Nat} {l0 : List (List Op)} {K B : Int} {r : Rn}
theorem RI.keep (h : RI n nl l0 K B r) (hK : K < 65535) (hv : ∀ p o, o ∈ l0.getD p [] → Uo nl o) : ∀ (p : Nat), p ≤ n → ∀ q, p ≤ q → (Cq r p).left.getD q [] = r.left.getD q []
 | 0, _, q, _ => rfl
 | p + 1, hp, q, hq => by
  obtain ⟨⟨B1, h1⟩, _, _⟩ := RI.all h hK hv p (by omega)
  obtain ⟨h2, c2, f2⟩ := h1.settle hK
  obtain ⟨_, _, _, g4⟩ := RI.go hK hv (p := p) (by omega) (((Cq r p).left.getD p []).length + 1) h2 c2 f2 (Nat.lt_succ_self _)
  show (O5 (Bf (Cq r p)) p (((Cq r p).left.getD p []).length + 1)).left.getD q [] = _
  rw [g4 q, if_neg (by omega)]
  exact RI.keep h hK hv p (by omega) q (by omega)
theorem RI.first (h : RI n nl l0 K B r) (hK : K < 65535) (hv : ∀ p o, o ∈ l0.getD p [] → Uo nl o) (hn : 1 ≤ n) (hd : r.done = []) (hl : r.left = l0) : ∃ a m, (Cq r n).done = a ++ m ∧ a.map Done.op = l0.getD 0 [] ∧ ∀ x ∈ a, x.core = 0 := by
 obtain ⟨m, hm⟩ := Abe r 1 (n - 1)
 rw [show 1 + (n - 1) = n by omega] at hm
 obtain ⟨⟨B1, h1⟩, h2, h3⟩ := RI.all h hK hv 1 hn
 obtain ⟨c, _⟩ := h2 (by omega)
 have hk := RI.keep h hK hv 1 hn
 have hall : ∀ x ∈ (Cq r 1).done, x.core = 0 := fun x hx => by
  have h5 := h1.ord x.core
  rw [G1 c, List.append_nil] at h5
  refine Classical.byContradiction fun h0 => ?_
  have h6 : (Ax (Cq r 1).done x.core).map Done.op = [] := by
   unfold atL at h5
   by_cases hneg : x.core < 0
   ·rw [if_pos hneg, if_pos hneg, List.append_nil] at h5; exact h5
   ·rw [if_neg hneg, if_neg hneg, hk _ (by omega), hl] at h5
    have := congrArg List.length h5
    rw [List.length_append] at this
    exact List.eq_nil_of_length_eq_zero (by omega)
  rw [List.map_eq_nil_iff] at h6
  have h7 : x ∈ Ax (Cq r 1).done x.core := List.mem_filter.2 ⟨hx, by simp⟩
  rw [h6] at h7; exact absurd h7 (by simp)
 refine ⟨_, m, hm, ?_, hall⟩
 have h5 := h1.ord 0
 have h8 : atL (Cq r 1).left 0 = [] := h3 0 (by omega)
 have h9 : Ax (Cq r 1).done 0 = (Cq r 1).done := List.filter_eq_self.2 fun x hx => by rw [hall x hx]; rfl
 rw [G1 c, h8, List.append_nil, List.append_nil, h9] at h5
 exact h5
end
end Go.Proofs.Ytkgijpngobgfjaa
namespace Go.Proofs.Ytkgijpngobgfjaa
open Abs
def I8 (n p : Nat) (v : Int) : List (List Op) := ((List.replicate n []).set 0 [⟨2, 0, v⟩]).set p [⟨1, 0, 0⟩]
theorem K2 : ∀ {l : List Int}, (∀ a ∈ l, a = 0) → F2 l = 0
 | [], _ => rfl
 | b :: l, h => by
  unfold F2
  rw [if_neg (fun hb => hb (h b (List.mem_cons_self ..)))]
  exact K2 fun a ha => h a (List.mem_cons_of_mem _ ha)
theorem Ib {n p : Nat} {v : Int} (hp : p < n) (hp1 : 1 ≤ p) (q : Nat) : (I8 n p v).getD q [] = if q = p then [⟨1, 0, 0⟩] else if q = 0 then [⟨2, 0, v⟩] else [] := by
 unfold I8
 rw [Bi _ _ _ _ _ (by rw [List.length_set, List.length_replicate]; exact hp), Bi _ _ _ _ _ (by rw [List.length_replicate]; omega)]
 split
 ·rfl
 split
 ·rfl
 ·rw [List.getD_eq_getElem?_getD]
  cases h : (List.replicate n ([] : List Op))[q]? with
  | none => rfl
  | some a => exact List.eq_of_mem_replicate (List.mem_of_getElem? h)
theorem Sz {l : List Done} {o : Op} (h : l.map Done.op = [o]) : ∃ x, l = [x] ∧ x.op = o := by
 cases l with
 | nil => exact absurd h (by simp)
 | cons x r =>
  rw [List.map_cons] at h
  injection h with h1 h2
  rw [List.map_eq_nil_iff] at h2
  exact ⟨x, by rw [h2], h1⟩
theorem M5 {n p : Nat} {v : Int} : (I8 n p v).length = n := by unfold I8; simp
theorem M4 {n p : Nat} {v : Int} (hn : 2 ≤ n ∧ n ≤ 4) (hp : 1 ≤ p ∧ p < n) (hv : 0 ≤ v ∧ v ≤ 255) (hc : (A2 (Cz n 1)).2 = 0) : A9 (Cz n 1) (I8 n p v) = 0 := by
 unfold A9
 rw [if_neg (by rw [hc]; decide), if_neg (by rw [M5]; unfold Cz; simp)]
 refine K2 fun a ha => ?_
 obtain ⟨l, hl, e⟩ := List.mem_map.1 ha
 obtain ⟨q, hq, e2⟩ := List.mem_iff_getElem.1 hl
 have e3 : (I8 n p v).getD q [] = l := by rw [List.getD_eq_getElem?_getD, List.getElem?_eq_getElem hq]; exact e2
 rw [Ib hp.2 hp.1] at e3
 have hcl : (Cz n 1).lines = 1 := rfl
 rw [← e, ← e3]
 unfold Cj
 split
 ·rw [if_neg (by simp)]; simp [F2, E2, hcl]
 split
 ·rw [if_neg (by simp)]
  refine K2 fun b hb => ?_
  rw [List.map_singleton, List.mem_singleton] at hb
  rw [hb]; unfold E2
  rw [if_neg (by simp), if_neg (by rw [hcl]; simp only; omega)]
 ·rfl
theorem Adj {n p : Nat} {v : Int} (hn : 2 ≤ n ∧ n ≤ 4) (hp : 1 ≤ p ∧ p < n) (hv : 0 ≤ v ∧ v ≤ 255) (hc : (A2 (Cz n 1)).2 = 0) : ∃ v0, (Av (Cz n 1) (I8 n p v) []).2.1 = [⟨0, ⟨2, 0, v⟩, v0⟩, ⟨(p : Int), ⟨1, 0, 0⟩, v⟩] := by
 have hw := M4 hn hp hv hc
 obtain ⟨_, m, nl, m1, m2, m3, m4, ⟨M, _, hD⟩, _, _, hof⟩ := G5 (picks := []) hw (by simp)
 have e1 : (nl : Int) = 1 := (congrArg Config.lines m3).symm
 have e2 : nl = 1 := by omega
 rw [M5] at m4
 subst e2 m4
 obtain ⟨n', nl', a1, a2, a3, a4, a5, a6, a7⟩ := Q7 hw
 have b1 : n' = n := by rw [M5] at a5; exact a5.symm
 have b2 : (1 : Int) = nl' := congrArg Config.lines a3
 have b3 : nl' = 1 := by omega
 subst b1 b3
 have ht := Qe _ a6
 have hK : ((tot (I8 n' p v) : Nat) : Int) < 65535 := by rw [a5] at ht; omega
 obtain ⟨a, s, f1, f2, f3⟩ := (RI.start a1 a2 a5).first hK a7 a1.1 rfl rfl
 have e : (Av (Cz n' 1) (I8 n' p v) []).2.1 = a ++ s := by
  unfold Av; rw [if_neg (by rw [hw]; decide), if_neg (by simp)]
  show (Lj (Cz n' 1) (I8 n' p v) []).done = _
  unfold Lj; rw [a4, a5]; exact f1
 rw [Ib hp.2 hp.1, if_neg (by omega), if_pos rfl] at f2
 generalize (Av (Cz n' 1) (I8 n' p v) []).2.1 = d at e hof hD
 have hl2 : ∀ q, (Ax d q).map Done.op = atL (I8 n' p v) q := hof
 obtain ⟨x1, ea, g1⟩ := Sz f2
 subst ea
 have g2 : x1.core = 0 := f3 x1 (by simp)
 have hp' := hl2 (p : Int)
 have h0' := hl2 0
 unfold atL at hp' h0'
 rw [if_neg (by omega), Int.toNat_natCast, Ib hp.2 hp.1, if_pos rfl] at hp'
 rw [if_neg (by omega), show (0 : Int).toNat = 0 from rfl, Ib hp.2 hp.1, if_neg (by omega), if_pos rfl] at h0'
 have hin : ∀ y ∈ s, y.core = (p : Int) := fun y hy => by
  have hy2 : y ∈ d := by rw [e]; exact List.mem_append.2 (.inr hy)
  have hc2 := Py hl2 hy2
  have h9 := hl2 y.core
  unfold atL at h9
  rw [if_neg (by omega), Ib hp.2 hp.1] at h9
  have hne : (Ax d y.core).map Done.op ≠ [] := by
   have : y ∈ Ax d y.core := List.mem_filter.2 ⟨hy2, by simp⟩
   intro h3; rw [List.map_eq_nil_iff] at h3; rw [h3] at this; exact absurd this (by simp)
  rw [h9] at hne
  by_cases k1 : y.core.toNat = p
  ·omega
  ·rw [if_neg k1] at hne
   by_cases k2 : y.core.toNat = 0
   ·exfalso
    have k3 : y.core = 0 := by omega
    have k4 := congrArg List.length h0'
    rw [e] at k4
    unfold Ax at k4
    have k5 : y ∈ s.filter (fun d => d.core == 0) := List.mem_filter.2 ⟨hy, by simp [k3]⟩
    have k6 := List.length_pos_of_mem k5
    rw [List.filter_append] at k4
    simp [g2] at k4
    simp [k4] at k6
    exact k4 y hy k3
   ·rw [if_neg k2] at hne; exact absurd rfl hne
 have hfs : Ax d (p : Int) = s := by
  have q1 : [x1].filter (fun d => d.core == (p : Int)) = [] := List.filter_eq_nil_iff.2 (fun y hy => by rw [List.mem_singleton.1 hy, g2]; simp; omega)
  have q2 : s.filter (fun d => d.core == (p : Int)) = s := List.filter_eq_self.2 (fun y hy => by rw [hin y hy]; simp)
  rw [e]; unfold Ax
  rw [List.filter_append, q1, q2, List.nil_append]
 rw [hfs] at hp'
 obtain ⟨x2, es, g3⟩ := Sz hp'
 subst es
 have g4 := hin x2 (by simp)
 rw [e] at hD
 obtain ⟨c1, o1, v1⟩ := x1
 obtain ⟨c2, o2, v2⟩ := x2
 simp only at g1 g2 g3 g4
 subst g1 g2 g3 g4
 simp [Cn, Be] at hD
 refine ⟨v1, ?_⟩
 rw [e]
 have : v2 = v := by omega
 rw [this]; rfl
end Go.Proofs.Ytkgijpngobgfjaa
namespace Go.Proofs.Ytkgijpngobgfjaa
open Abs
def Aha (l : Line) : Prop := l.want = 2 ∨ (l.want = 0 ∧ l.state = 2)
structure Only (n : Nat) (x : Chip) : Prop where
 oth : ∀ q, 1 ≤ q → q < n → (lin x 0 q).want = 0
 me : Aha (lin x 0 0)
theorem Ze (c : Core) (id home : Int) (m : Msg) : ((c.lines.getD 0 zLine).want = 0 → ((Ac c id home m).1.lines.getD 0 zLine).want = 0) ∧
  ((m.kind = 5 ∨ m.kind = 6 → m.line.toNat = 0 → (c.lines.getD 0 zLine).want = 0 → ¬ E3 (c.lines.getD 0 zLine) m.turn) → Aha (c.lines.getD 0 zLine) → Aha ((Ac c id home m).1.lines.getD 0 zLine)) := by
 have set : ∀ (l : Line) (w : Op) {K : Prop}, ¬ (m.line < 0 ∨ (c.lines.length : Int) ≤ m.line) → (0 = m.line.toNat → ((c.lines.getD 0 zLine).want = 0 → l.want = 0) ∧ (K → Aha (c.lines.getD 0 zLine) → Aha l)) → ((c.lines.getD 0 zLine).want = 0 → ((Ce c m.line l w).lines.getD 0 zLine).want = 0) ∧ (K → Aha (c.lines.getD 0 zLine) → Aha ((Ce c m.line l w).lines.getD 0 zLine)) := by
  intro l w K hg hl
  unfold Ce; simp only
  rw [Bi _ _ _ _ _ (by omega)]
  split
  ·rename_i e; exact hl e
  ·exact ⟨fun h => h, fun _ h => h⟩
 have hat : 0 = m.line.toNat → Bo c m.line = c.lines.getD 0 zLine := fun e => by unfold Bo; rw [← e]
 generalize hl0 : c.lines.getD 0 zLine = l0 at *
 unfold Aha at *
 unfold Ac
 split
 ·exact ZdM
 rename_i hg
 split
 ·refine set _ _ hg fun e => ?_
  rw [hat e]
  unfold C4
  split
  ·split
   ·exact ⟨fun h => h, fun _ h => by simp only; omega⟩
   ·exact ⟨fun h => h, fun _ h => h⟩
  ·exact ⟨fun h => h, fun _ h => h⟩
 split
 ·rename_i hk
  split
  ·rename_i hf
   refine set _ _ hg fun e => ?_
   rw [hat e] at hf ⊢
   unfold Cv
   split
   ·exact ⟨fun _ => rfl, fun _ h => by omega⟩
   ·split
    ·exact ZdQ
    ·exact ZdQ
  ·split <;> (rw [hl0]; exact ⟨fun h => h, fun _ h => h⟩)
 split
 ·split
  ·exact ZdM
  ·split
   ·rename_i ha
    refine set _ _ hg fun e => ?_
    rw [hat e] at ha ⊢
    refine ⟨fun _ => rfl, fun _ h => .inr ⟨rfl, ?_⟩⟩
    have h2 := ha.2
    have ht : m.alone = true := by
     rcases h2 with h2 | h2
     ·omega
     ·exact h2.2
    unfold Ic; rw [ht]; rfl
   ·exact ZdM
 split
 ·rename_i hk
  refine set _ _ hg fun e => ?_
  have h3 := hk.2.1
  rw [hat e] at h3
  exact ⟨fun _ => rfl, fun _ h => by omega⟩
 ·exact ZdM
section
variable {n : Nat} {x : Chip} {M : List Int}
theorem Aib (h : Inv n 1 x M) {s : Step} (hk : s.kind ≠ 1) (hok : (Ag x s).2.2 = 0) (hg : Only n x) : Only n (Ag x s).1 := by
 by_cases h2 : s.kind = 2
 ·revert hok
  unfold Ag
  rw [if_neg hk, if_pos h2]
  split
  ·intro hc; exact absurd hc (by simp)
  rename_i hnf
  intro _
  simp only
  unfold A6
  split
  ·exact ⟨hg.oth, hg.me⟩
  split
  ·exact ⟨hg.oth, hg.me⟩
  rename_i hp hd
  have hcf : Aq ⟨x.cores, x.home, x.frames.eraseIdx s.n.toNat⟩ = Cz n 1 := Aam (x := x) h
  rw [hcf] at hp hd ⊢
  have hpe : Ad (Cz n 1) (Cg x.frames s.n) = ((Ad (Cz n 1) (Cg x.frames s.n)).1, 0) := by
   have := Decidable.not_not.1 hp
   rw [← this]
  have hmx := (h.mi _ (H2 hnf)).2 _ hpe
  have hw := Ec (El hpe).2.2.2.2.1
  generalize (Ad (Cz n 1) (Cg x.frames s.n)).1 = m at *
  have hnc : Az ⟨x.cores, x.home, x.frames.eraseIdx s.n.toNat⟩ = (n : Int) := by unfold Az; simp only; rw [h.nc]
  rw [hnc] at hd ⊢
  have hca : Ap ⟨x.cores, x.home, x.frames.eraseIdx s.n.toNat⟩ m.dst = cor x m.dst.toNat := rfl
  rw [hca]
  have hdst : 0 ≤ m.dst ∧ m.dst < n := by have := hw.2.1; simp only [Cz] at this; omega
  have hlne : m.line.toNat = 0 := by have := hw.2.2.1; simp only [Cz] at this; omega
  have hpeer : I5 n m = m.dst.toNat := by unfold I5; rw [if_neg hd]
  have hln : ∀ q, lin x 0 q = (cor x q).lines.getD 0 zLine := fun q => rfl
  have hear := Ze (cor x m.dst.toNat) m.dst n m
  generalize hc : Ac (cor x m.dst.toNat) m.dst n m = z at *
  have hl : ∀ q, lin (Cf ⟨x.cores, x.home, x.frames.eraseIdx s.n.toNat⟩ m.dst z.1 z.2.1) 0 q = if q = m.dst.toNat then z.1.lines.getD 0 zLine else lin x 0 q := fun q => by
   show ((x.cores.set m.dst.toNat z.1).getD q Fa).lines.getD 0 zLine = _
   rw [Bi _ _ _ _ _ (by rw [h.nc]; omega)]
   split
   ·rfl
   ·rfl
  refine ⟨fun q h1 hq => ?_, ?_⟩
  ·rw [hl]; split
   ·rename_i e; exact hear.1 (by rw [← e]; exact hg.oth q h1 hq)
   ·exact hg.oth q h1 hq
  ·rw [hl]; split
   ·rename_i e
    rw [← e, ← hln] at hear
    refine hear.2 (fun hk5 _ hw0 hf => ?_) hg.me
    unfold MX at hmx
    rw [hlne, hpeer, ← e] at hmx
    have hlt := hf.2.1
    obtain ⟨_, hph, hown, _⟩ : m.turn = (ab (ent x 0)).turn ∧ (ab (ent x 0)).phase = 1 ∧ (ab (ent x 0)).owner = (0 : Nat) ∧ m.kind = 5 + (ab (ent x 0)).alone := (hmx.fet hk5).2 hlt
    have hgi := h.gi 0 (by omega)
    have hf1 := hgi.f1 hph
    have hwr := hgi.whor (by omega)
    obtain ⟨q, hq⟩ : ∃ q : Nat, (ab (ent x 0)).who = q := ⟨(ab (ent x 0)).who.toNat, by omega⟩
    have hci := (h.ci 0 (by omega) q (by omega)).cur (by omega) hq
    have ho := hg.oth q (by omega) (by omega)
    have hal := hgi.al
    rcases hci.2 with hci | hci
    ·rw [ho] at hci; omega
    ·omega
   ·exact hg.me
 ·obtain ⟨e1, e2⟩ := Vm hk h2 hok
  exact ⟨fun q h1 hq => by rw [Uv e1]; exact hg.oth q h1 hq, by rw [Uv e1]; exact hg.me⟩
def Ia (n : Nat) (v : Int) : List (List Op) := (List.replicate n []).set 0 [⟨2, 0, v⟩]
structure HI (n : Nat) (v : Int) (x : Chip) : Prop where
 ri : ∃ D, RI n 1 (Ia n v) 1 1 ⟨x, List.replicate n [], D⟩
 on : Only n x
theorem HI.doS {v : Int} (h : HI n v x) {s : Step} (hk : s.kind ≠ 1) (hok : (Ag x s).2.2 = 0) : HI n v (Ag x s).1 := by
 obtain ⟨D, hR⟩ := h.ri
 obtain ⟨M, hI, _⟩ := hR.inv
 have h1 := hR.doS (by omega) hk
 unfold Agb at h1
 rw [if_pos hok] at h1
 exact ⟨⟨_, h1⟩, Aib hI hk hok h.on⟩
theorem HI.all {v : Int} : ∀ (l : List Step) {x : Chip}, (∀ s ∈ l, s.kind ≠ 1) → HI n v x → HI n v (Bu x l).1
 | [], x, _, h => by simpa [Bu] using h
 | s :: l, x, hs, h => by
  have hk := hs s (List.mem_cons_self ..)
  have hr := fun t ht => hs t (List.mem_cons_of_mem _ ht)
  by_cases hok : (Ag x s).2.2 = 0
  ·rw [Dq hok]; exact HI.all l hr (h.doS hk hok)
  ·rw [Ep hok]; exact HI.all l hr h
theorem HI.lost {v : Int} (h : HI n v x) : HI n v ⟨x.cores, x.home, []⟩ := by
 obtain ⟨D, hR⟩ := h.ri
 obtain ⟨M, hI, hD⟩ := hR.inv
 exact ⟨⟨D, ⟨M, hI.frames (by simp) (fun b hb => absurd hb (by simp)), hD⟩, hR.ti.same rfl rfl, hR.ln, hR.ord, hR.cnt⟩, h.on.oth, h.on.me⟩
theorem HI.round {v : Int} (h : HI n v x) : HI n v (As x).1 := by
 obtain ⟨ls, h1, h2⟩ := Mg x
 rw [← h2]; exact HI.all ls h1 h
def Lq (x : Chip) : Nat → Chip
 | 0 => x
 | k + 1 => (As ⟨(Lq x k).cores, (Lq x k).home, []⟩).1
theorem HI.lose {v : Int} (h : HI n v x) : ∀ k, HI n v (Lq x k)
 | 0 => h
 | k + 1 => (h.lose k).lost.round
theorem HI.facts {v : Int} (h : HI n v x) : ∃ M, Inv n 1 x M ∧ TI n 1 1 x := by
 obtain ⟨D, hR⟩ := h.ri
 obtain ⟨M, hI, _⟩ := hR.inv
 exact ⟨M, hI, hR.ti⟩
theorem M3 {v : Int} (hn : 1 ≤ n) (q : Nat) : (Ia n v).getD q [] = if q = 0 then [⟨2, 0, v⟩] else [] := by
 unfold Ia
 rw [Bi _ _ _ _ _ (by rw [List.length_replicate]; omega)]
 split
 ·rfl
 ·exact Fn _ _ _
theorem HI.ends {v : Int} (hn : 1 ≤ n) (h : HI n v x) : (settle x).1.cores.length = n ∧ (lin (settle x).1 0 0).state = 2 ∧ (lin (settle x).1 0 0).value = v := by
 obtain ⟨D, hR⟩ := h.ri
 obtain ⟨M, hI, _⟩ := hR.inv
 obtain ⟨⟨ls, l1, l2⟩, _⟩ := Gi hI (by omega) hR.ti
 have hO : Only n (settle x).1 := by
  have := (HI.all ls l1 h).on
  rw [l2] at this; exact this
 obtain ⟨hS, hc, _⟩ := hR.settle (by omega)
 obtain ⟨M', hI', hD'⟩ := hS.inv
 have hX : (Bf ⟨x, List.replicate n [], D⟩).x = (settle x).1 := rfl
 rw [hX] at hI' hc
 have hw0 := Aan hI' hc (j := 0) (q := 0) (by omega) (by omega)
 have hst : (lin (settle x).1 0 0).state = 2 := by
  rcases hO.me with h | h
  ·omega
  ·exact h.2
 have hval := ((hI'.ci 0 (by omega) 0 (by omega)).alo (.inl hst)).2
 have hops : ∀ p, (Ax (Bf ⟨x, List.replicate n [], D⟩).done p).map Done.op = atL (Ia n v) p := fun p => by
  have h1 := hS.ord p
  rw [hX, G1 hc, List.append_nil] at h1
  have h2 : atL (Bf ⟨x, List.replicate n [], D⟩).left p = [] := by
   show atL (List.replicate n []) p = []
   unfold atL; split
   ·rfl
   ·exact Fn _ _ _
  rw [h2, List.append_nil] at h1; exact h1
 generalize (Bf ⟨x, List.replicate n [], D⟩).done = E at hops hD'
 have h0 : ∀ d ∈ E, d.core = 0 := fun d hd => by
  have h3 := Py hops hd
  have h4 : d.op ∈ atL (Ia n v) d.core := by rw [← hops d.core]; exact List.mem_map.2 ⟨d, List.mem_filter.2 ⟨hd, by simp⟩, rfl⟩
  unfold atL at h4
  rw [if_neg (by omega), M3 hn] at h4
  split at h4
  ·omega
  ·exact absurd h4 (by simp)
 have hE : Ax E 0 = E := List.filter_eq_self.2 fun d hd => by rw [h0 d hd]; rfl
 have h5 := hops 0
 rw [hE] at h5
 have h6 : atL (Ia n v) 0 = [⟨2, 0, v⟩] := by
  unfold atL; rw [if_neg (by omega)]; exact M3 hn 0
 rw [h6] at h5
 obtain ⟨d, e1, e2⟩ := Sz h5
 rw [e1] at hD'
 have hv : M'.getD 0 0 = v := by
  obtain ⟨c, o, u⟩ := d
  simp only at e2
  subst e2
  simp [Cn, Be] at hD'
  rw [hD'.2.2]; rfl
 exact ⟨hI'.nc, hst, by rw [hval, hv]⟩
theorem U2 {v : Int} (hn : 1 ≤ n ∧ n ≤ 4) (hv : 0 ≤ v ∧ v ≤ 255) : (Ag (Bb n 1) (opS 0 ⟨2, 0, v⟩)).2.2 = 0 ∧ HI n v (Ag (Bb n 1) (opS 0 ⟨2, 0, v⟩)).1 := by
 have hI := Pe hn (show 1 ≤ 1 ∧ 1 ≤ 4 by omega)
 have hlen : (Ia n v).length = n := by unfold Ia; simp
 have hc : C1 (Bb n 1) = true := by
  refine calmR_iff.2 ⟨fun i hi => ?_, fun p hp => ?_⟩
  ·rw [hI.nh] at hi
   show ((List.replicate 1 { A5 with last := List.replicate n 0 } : List Entry).getD i A5).phase = 0
   rw [Cy _ _ _ _ hi]; rfl
  ·rw [hI.nc] at hp
   show ((List.replicate n (⟨List.replicate 1 zLine, zOp⟩ : Core)).getD p Fa).wait.kind = 0
   rw [Cy _ _ _ _ hp]; rfl
 have hoo : Uo 1 ⟨2, 0, v⟩ := by unfold Uo; simp only; omega
 have hok := op_ok hI (by omega) Afy hc (p := 0) (by omega) hoo
 refine ⟨hok, ?_, ?_⟩
 ·have hR := RI.start hn (show 1 ≤ 1 ∧ 1 ≤ 4 by omega) hlen
  have ht : tot (Ia n v) = 1 := by
   obtain ⟨k, rfl⟩ : ∃ k, n = k + 1 := ⟨n - 1, by omega⟩
   unfold Ia tot
   rw [List.replicate_succ, List.set_cons_zero, List.map_cons, List.sum_cons, List.map_replicate]
   simp
  have hg : (Ia n v).getD 0 [] = [⟨2, 0, v⟩] := M3 hn.1 0
  have hb := hR.begin (by omega) (p := 0) (by omega)
  obtain ⟨B', hb⟩ := hb
  have e : Bg ⟨Bb n 1, Ia n v, []⟩ 0 = ⟨(Ag (Bb n 1) (opS 0 ⟨2, 0, v⟩)).1, List.replicate n [], [] ++ (Ag (Bb n 1) (opS 0 ⟨2, 0, v⟩)).2.1⟩ := by
   have e1 : Bg ⟨Bb n 1, Ia n v, []⟩ 0 = if (Ag (Bb n 1) (opS 0 ⟨2, 0, v⟩)).2.2 = 0 then ⟨(Ag (Bb n 1) (opS 0 ⟨2, 0, v⟩)).1, (Ia n v).set 0 [], [] ++ (Ag (Bb n 1) (opS 0 ⟨2, 0, v⟩)).2.1⟩ else ⟨Bb n 1, Ia n v, []⟩ := by
    unfold Bg
    show (if (Ia n v).getD 0 [] = [] then _ else _) = _
    rw [hg, if_neg (by simp)]; rfl
   rw [e1, if_pos hok]
   congr 1
   obtain ⟨k, rfl⟩ : ∃ k, n = k + 1 := ⟨n - 1, by omega⟩
   unfold Ia
   rw [List.replicate_succ, List.set_cons_zero, List.set_cons_zero]
  rw [e] at hb
  have hcnt := hb.cnt
  rw [ht] at hcnt
  have htz : tot (List.replicate n ([] : List Op)) = 0 := by unfold tot; rw [List.map_replicate]; simp
  simp only at hcnt
  rw [htz] at hcnt
  refine ⟨_, hb.inv, hb.ti.mono (by omega), hb.ln, hb.ord, ?_⟩
  simp only; rw [htz]; omega
 ·obtain ⟨p, i, hp, hi, e1, e2, _, _, hl⟩ := R8 hI (s := opS 0 ⟨2, 0, v⟩) rfl hok
  have hp0 : p = 0 := by have : (0 : Int) = p := e1; omega
  have hi0 : i = 0 := by omega
  subst hp0 hi0
  have hz : ∀ q, q < n → lin (Bb n 1) 0 q = zLine := fun q hq => by
   show ((List.replicate n (⟨List.replicate 1 zLine, zOp⟩ : Core)).getD q Fa).lines.getD 0 zLine = zLine
   rw [Cy _ _ _ _ hq]; rfl
  refine ⟨fun q h1 hq => ?_, ?_⟩
  ·rw [hl, if_neg (by omega), hz q hq]; rfl
  ·rw [hl, if_pos ⟨rfl, rfl⟩, hz 0 (by omega)]; exact .inl rfl
end
set_option maxHeartbeats 1000000
set_option maxRecDepth 8000
variable {L : List Chunk} {R : List Fact} {w : World}
theorem Zh {n : Nat} {v : Int} (hn : 1 ≤ n ∧ n ≤ 4) (hv : 0 ≤ v ∧ v ≤ 255) : (C0 ⟨(n : Int), 1⟩ [(opS 0 ⟨2, 0, v⟩)]).1 = (Ag (Bb n 1) (opS 0 ⟨2, 0, v⟩)).1 ∧ (C0 ⟨(n : Int), 1⟩ [(opS 0 ⟨2, 0, v⟩)]).2.2.2 = 0 := by
 have hc : A2 ⟨(n : Int), 1⟩ = (Bb n 1, 0) := by
  unfold A2
  have h0 : Bw ⟨(n : Int), 1⟩ = 0 := by unfold Bw; rw [if_neg (by simp only; omega)]
  rw [if_neg (by rw [h0]; decide)]
  rfl
 have h := (U2 hn hv).1
 unfold C0
 rw [hc, if_neg (by simp), if_neg (by simp)]
 refine ⟨?_, rfl⟩
 show (Bu (Bb n 1) [(opS 0 ⟨2, 0, v⟩)]).1 = _
 rw [Dq h]; rfl
theorem U5 {n : Nat} (hn : 1 ≤ n ∧ n ≤ 4) : (A2 (Cz n 1)).2 = 0 := by
 unfold A2
 have h0 : Bw (Cz n 1) = 0 := by unfold Bw Cz; rw [if_neg (by simp only; omega)]
 rw [if_neg (by rw [h0]; decide)]
theorem Adi {n p : Nat} {v : Int} (hn : 2 ≤ n ∧ n ≤ 4) (hp : 1 ≤ p ∧ p < n) (hv : 0 ≤ v ∧ v ≤ 255) : (Av ⟨(n : Int), 1⟩ (I8 n p v) []).2.2 = 0 ∧ ∃ v0, (Av ⟨(n : Int), 1⟩ (I8 n p v) []).2.1 = [⟨0, ⟨2, 0, v⟩, v0⟩, ⟨(p : Int), ⟨1, 0, 0⟩, v⟩] :=
 ⟨(G5 (c := Cz n 1) (picks := []) (M4 hn hp hv (U5 (by omega))) (by simp)).1, Adj hn hp hv (U5 (by omega))⟩
theorem Abo {n p : Nat} {v : Int} (hs : St (L) R w) (hn : 2 ≤ n ∧ n ≤ 4) (hp : 1 ≤ p ∧ p < n) (hv : 0 ≤ v ∧ v ≤ 255) : Calls Try.prog 15 [vi (n : Int), vi (p : Int), vi v].toArray w (Cd (fun g : Value => g) (fun g => L) (fun g => sl g (I8 n p v) :: R)) := by
 refine Ah Try.func15 rfl Try.ntmps15 rfl hs ?_
 clear hs
 refine Zam ?_
 refine Ue (α := List Op) (x0 := []) (zc := [.slice none 0 0]) Rt rfl (by decide) rfl rfl rfl (fun j => ⟨_, rfl, none, 0, rfl, ⟨Nat.zero_le _, Nat.le_refl _⟩, fun h => absurd rfl h⟩) (a := (n : Int)) (by omega) (by omega) ?_; intro v9
 rw [Int.toNat_natCast]
 refine Gb1 ?_
 refine rn3 ?_
 refine li (α := Op) [⟨2, 0, v⟩] Kd rfl (Wh (by unfold Op.wf An; simp only; omega)) ?_; intro v13
 refine ob (Gb (i := 0) X9) ?_
 refine s_Sr (ys := ([⟨2, 0, v⟩] : List Op)) (i := 0) Try.sizeOf58 rfl rfl mm pkk (by rw [List.length_replicate]; omega) ?_
 refine Gm ?_
 refine rn3 ?_
 refine li (α := Op) [⟨1, 0, 0⟩] Kd rfl (Wh (by unfold Op.wf An; decide)) ?_; intro v18
 refine ob (Gb (i := p) X9 (h1 := by rw [List.length_set, List.length_replicate]; omega)) ?_
 refine s_Sr (ys := ([⟨1, 0, 0⟩] : List Op)) (i := p) Try.sizeOf58 rfl rfl mm pkk (by rw [List.length_set, List.length_replicate]; omega) ?_
 refine Gl ?_
 refine JC.shut (v := v9) pkk ?_
 refine Zaq ?_
 exact Bq v9
theorem Qf {cores v lose : Int} (hs : St (L) R w) (hc : An cores) (hv : An v) (hlo : An lose) : Calls Try.prog 3 [vi cores, vi v, vi lose].toArray w (Cd (fun _ : Unit => .bool true) (fun _ => L) (fun _ => R)) := by
 refine Ah Try.func3 rfl Try.ntmps3 rfl hs ?_
 clear hs
 refine ZM ?_
 refine Ak Try.call9 rfl (fun w hs => P6 hs) ?_; intro _
 refine Gc1 ?_
 refine Zbx ?_
 refine Dn 40 (.bool (decide ((cores < 2) ∨ (4 < cores) ∨ (v < 0) ∨ (255 < v) ∨ (lose < 0) ∨ (8 < lose)))) ?_ ?_
 ·rcases (show ((cores < 2)) ∨ (¬ (cores < 2) ∧ (4 < cores)) ∨ (¬ (cores < 2) ∧ ¬ (4 < cores) ∧ (v < 0)) ∨ (¬ (cores < 2) ∧ ¬ (4 < cores) ∧ ¬ (v < 0) ∧ (255 < v)) ∨ (¬ (cores < 2) ∧ ¬ (4 < cores) ∧ ¬ (v < 0) ∧ ¬ (255 < v) ∧ (lose < 0)) ∨ (¬ (cores < 2) ∧ ¬ (4 < cores) ∧ ¬ (v < 0) ∧ ¬ (255 < v) ∧ ¬ (lose < 0) ∧ (8 < lose)) ∨ (¬ (cores < 2) ∧ ¬ (4 < cores) ∧ ¬ (v < 0) ∧ ¬ (255 < v) ∧ ¬ (lose < 0) ∧ ¬ (8 < lose)) from by omega) with hm | hm | hm | hm | hm | hm | hm
  ·refine Za2 ?_
   refine Ga20 ?_
   exact ZcO
  ·refine ZY ?_
   refine Ft ?_
   refine Ga17 ?_
   exact ZcO
  ·refine Zbx ?_
   refine ZY ?_
   refine De ?_
   refine ZF ?_
   refine Dt ?_
   refine Ga13 ?_
   exact ZcO
  ·refine ZY ?_
   refine ZaR ?_
   refine Ft ?_
   refine Ga9 ?_
   exact ZcO
  ·refine Zbx ?_
   refine ZY ?_
   refine ZaR ?_
   refine De ?_
   refine ZF ?_
   refine Dt ?_
   refine Ga5 ?_
   exact ZcO
  ·refine ZY ?_
   refine ZaR ?_
   refine ZaR ?_
   exact Zd3
  ·refine Zbx ?_
   refine ZY ?_
   refine ZaR ?_
   refine ZaR ?_
   exact Zd4
 ·refine Bc ?_
  refine Gl ?_
  first | (refine cdx (p := ?p1) (hd := ?d1) ?e1 ?_ ?_; case e1 => exact rfl) | (refine Cc (b := ?b1) ?e1 ?_ ?_; case e1 => exact rfl)
  ·intro ht40
   exact ZdW
  ·intro ht40
   refine Gl ?_
   obtain ⟨n, rfl⟩ : ∃ n : Nat, cores = (n : Int) := ⟨cores.toNat, by omega⟩
   have hn : 2 ≤ n ∧ n ≤ 4 := by omega
   have hvv : 0 ≤ v ∧ v ≤ 255 := by omega
   have hstart := (U2 (n := n) (by omega) hvv).2
   obtain ⟨e1, e2⟩ := Zh (n := n) (by omega) hvv
   refine ZL ?_
   refine Ak Try.call11 rfl (fun w hs => topOp (p := 0) (kind := 2) (line := 0) (v := v) hs) ?_; intro _
   refine li (α := Step) [(opS 0 ⟨2, 0, v⟩)] eo_40 rfl (fun j hj => ⟨⟨_, rfl, rfl, by unfold Step.wf An opS; simp only; omega⟩, trivial⟩) ?_; intro v46
   refine Ak Try.call10 rfl (fun w hs => by have h := Oe (c := ⟨(n : Int), 1⟩) (l := [(opS 0 ⟨2, 0, v⟩)]) hs mm (by unfold Config.wf An; simp only; omega); rw [e1, e2] at h; exact h) ?_; intro v47
   refine J.know (p := v47.1.oneCell' = true ∧ v47.2.1.oneCell' = true ∧ v47.2.2.1.oneCell' = true) (fun w hs => ⟨isSlice.one (hs.fact (.head _)), isSlice.one (hs.fact (.tail _ (.head _))), isSlice.one (hs.fact (.tail _ (.tail _ (.head _))))⟩) (fun h12 => ?_)
   obtain ⟨honev471, honev472, honev473⟩ := h12
   refine rn5 ?_
   refine Zbc ?_;intro b7
   refine s_B (cs := [v47.1, v47.2.1, v47.2.2.1]) Try.sizeOf27 ?_
   refine Ga3 ?_
   refine kp [0, 1, 2, 6, 7, 10, 52, 53] ?_
   refine ZC ?_
   refine Zaj ?_
   refine Gmc ?_
   refine Ga2 ?_
   refine Bs (γ := Nat × Value × Value × Value) (fun g => (g.1 : Int) ≤ lose) (fun g => blk b7 27 [g.2.1, g.2.2.1, g.2.2.2] :: L) (fun g => sl g.2.1 (Lq (Ag (Bb n 1) (opS 0 ⟨2, 0, v⟩)).1 g.1).cores :: sl g.2.2.1 (Lq (Ag (Bb n 1) (opS 0 ⟨2, 0, v⟩)).1 g.1).home :: sl g.2.2.2 (Lq (Ag (Bb n 1) (opS 0 ⟨2, 0, v⟩)).1 g.1).frames :: R) (fun g => [(0, vi (n : Int)), (1, vi v), (7, bp b7 0), (54, vi lose), (55, vi (g.1 : Int))]) (fun g => lose.toNat - g.1) (0, v47.1, v47.2.1, v47.2.2.1) (by show (0 : Int) ≤ lose; omega) alT (fun w hs => Ae hs) ?_
   rintro ⟨k, cv, hv, fv⟩ hk
   try simp only at hk ⊢
   refine ZB ?_
   refine cdy ?_ ?_
   ·intro ht56
    refine ZJ ?_
    refine sc ?_
    refine Gl ?_
    refine ZaG ?_
    obtain ⟨Mk, hIk, _⟩ := (hstart.lose k).lost.facts
    refine ZC ?_
    refine Ak Try.call12 rfl (fun w hs => Aga (x := ⟨(Lq (Ag (Bb n 1) (opS 0 ⟨2, 0, v⟩)).1 k).cores, (Lq (Ag (Bb n 1) (opS 0 ⟨2, 0, v⟩)).1 k).home, []⟩) hs mm mm mm hIk) ?_; intro v60
    refine J.know (p := v60.1.oneCell' = true ∧ v60.2.1.oneCell' = true ∧ v60.2.2.1.oneCell' = true) (fun w hs => ⟨isSlice.one (hs.fact (.head _)), isSlice.one (hs.fact (.tail _ (.head _))), isSlice.one (hs.fact (.tail _ (.tail _ (.head _))))⟩) (fun h12 => ?_)
    obtain ⟨honev601, honev602, honev603⟩ := h12
    refine rn3 ?_
    refine al_ (cs := [.slice none 0 0, .slice none 0 0, .slice none 0 0]) Try.zeroValue27 ?_; intro b11
    refine s_B (cs := [v60.1, v60.2.1, v60.2.2.1]) Try.sizeOf27 ?_
    refine Za0 ?_
    refine s_B (cs := [v60.1, v60.2.1, v60.2.2.1]) Try.sizeOf27 ?_
    refine ZD ?_
    refine A7 (k + 1, v60.1, v60.2.1, v60.2.2.1) (by show ((k + 1 : Nat) : Int) ≤ lose; omega) (by show lose.toNat - (k + 1) < lose.toNat - k; omega) alT (fun w hs => Ae hs)
   ·intro ht56
    refine Gl ?_
    have hkl : (k : Int) = lose := by omega
    obtain ⟨MK, hIK, hTK⟩ := (hstart.lose k).facts
    obtain ⟨hXn, hst, hval⟩ := (hstart.lose k).ends (by omega)
    obtain ⟨MS, hIS, _⟩ := Ob hIK (by decide) hTK
    have hXl := hIS.ncl 0 (by omega)
    refine ZC ?_
    refine Ak Try.call13 rfl (fun w hs => Mj (x := (Lq (Ag (Bb n 1) (opS 0 ⟨2, 0, v⟩)).1 k)) hs mm mm mm hIK) ?_; intro v67
    refine J.know (p := v67.1.oneCell' = true ∧ v67.2.1.oneCell' = true ∧ v67.2.2.1.oneCell' = true) (fun w hs => ⟨isSlice.one (hs.fact (.head _)), isSlice.one (hs.fact (.tail _ (.head _))), isSlice.one (hs.fact (.tail _ (.tail _ (.head _))))⟩) (fun h12 => ?_)
    obtain ⟨honev671, honev672, honev673⟩ := h12
    refine rn4 ?_
    refine s_B (cs := [v67.1, v67.2.1, v67.2.2.1]) Try.sizeOf27 ?_
    refine ZB ?_
    refine Bs (γ := Nat) (fun p => 1 ≤ p ∧ p ≤ n) (fun _ => blk b7 27 [v67.1, v67.2.1, v67.2.2.1] :: L) (fun _ => sl v67.1 (settle (Lq (Ag (Bb n 1) (opS 0 ⟨2, 0, v⟩)).1 k)).1.cores :: R) (fun p => [(0, vi (n : Int)), (1, vi v), (7, bp b7 0), (13, vi (p : Int))]) (fun p => n - p) 1 (by omega) alT (fun w hs => Ae hs) ?_
    intro p hp
    refine Zac ?_
    refine cdy ?_ ?_
    ·intro ht73
     refine Gl ?_
     obtain ⟨he, v0, hhl⟩ := Adi (n := n) (p := p) hn (by omega) hvv
     refine JC.slNil Int ?_
     refine Zal ?_
     refine Ak Try.call15 rfl (fun w hs => Abo (n := n) (p := p) (v := v) hs hn (by omega) hvv) ?_; intro v82
     refine Ak Try.call14 rfl (fun w hs => by have h := Jk (c := ⟨(n : Int), 1⟩) (l := I8 n p v) (picks := []) hs mm mm (by unfold Config.wf An; simp only; omega); rw [hhl, he] at h; exact h) ?_; intro v83
     refine J.know (p := v83.1.oneCell' = true ∧ v83.2.1.oneCell' = true ∧ v83.2.2.1.oneCell' = true) (fun w hs => ⟨isSlice.one (hs.fact (.head _)), isSlice.one (hs.fact (.tail _ (.head _))), isSlice.one (hs.fact (.tail _ (.tail _ (.head _))))⟩) (fun h12 => ?_)
     obtain ⟨honev831, honev832, honev833⟩ := h12
     refine rn4 ?_
     refine al_ (cs := [.slice none 0 0, .slice none 0 0, .slice none 0 0]) Try.zeroValue27 ?_; intro b14
     refine s_B (cs := [v83.1, v83.2.1, v83.2.2.1]) Try.sizeOf27 ?_
     refine Ga2 ?_
     refine JC.open0 (xs := ([⟨0, ⟨2, 0, v⟩, v0⟩, ⟨(p : Int), ⟨1, 0, 0⟩, v⟩] : List Done)) (v := v83.2.2.2) 1 mm (by simp) (fun _ => ?_)
     refine kp [0, 1, 6, 7, 13, 14, 15, 16, 71, 72, 73, 76, 77, 78, 79, 80, 81, 82, 83, 84, 85, 86, 87, 88, 89, 90, 91, 92, 93, 94, 95, 96, 97, 98, 99, 100, 101, 102, 103, 104, 105, 106, 107, 108, 109] ?_
     refine ZC ?_
     refine Zaj ?_
     refine ZF ?_
     refine Zaj ?_
     refine ZF ?_
     refine ob (Gb (i := 1) L8) ?_
     refine ZF ?_
     refine Zaj ?_
     refine ZF ?_
     refine ob (Gb (i := 1) L8) ?_
     refine ZF ?_
     refine Zaj ?_
     refine Gd1 ?_
     refine Ga3 ?_
     refine A7 (p + 1) (by omega) (by omega) alT (fun w hs => Ae hs)
    ·intro ht73
     refine Gl ?_
     refine Lw 0 (x := (settle (Lq (Ag (Bb n 1) (opS 0 ⟨2, 0, v⟩)).1 k)).1) (v := v67.1) mm (by omega) (fun hwt u honeu => ?_)
     refine Acg 0 (x := (settle (Lq (Ag (Bb n 1) (opS 0 ⟨2, 0, v⟩)).1 k)).1) (p := 0) (u := u) mm (by omega) (fun hlw => ?_)
     refine ZI ?_
     refine ob (Al rfl rfl (Ay (by rw [hXn]))) ?_
     refine ZF ?_
     refine ob (Gb (i := 0) Ya) ?_
     refine ZN ?_
     refine ob (Gb (i := 0) Lo) ?_
     refine ZN ?_
     refine ob (Al rfl rfl (Ay hst)) ?_
     refine ZE ?_
     refine ob (Gb (i := 0) Ya) ?_
     refine ZN ?_
     refine ob (Gb (i := 0) Lo) ?_
     refine ZF ?_
     refine ob (Al rfl rfl (Ay hval)) ?_
     refine Ga2 ?_
     exact Bq ()
end Go.Proofs.Ytkgijpngobgfjaa
