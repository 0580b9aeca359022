/- This file proves parts of what its law needs: each part is told ahead of it. No conditions. -/
import Derived.Test.YtehpekiedfpnkaaVM5
import Derived.Test.YtehpekiedfpnkaaVM3
import Derived.Test.YtehpekiedfpnkaaVM4
import Derived.Test.YtehpekiedfpnkaaVM1
set_option linter.unusedVariables false
set_option linter.unusedSimpArgs false
set_option maxHeartbeats 1000000
set_option maxRecDepth 8000
namespace Go.Proofs.Ytehpekiedfpnkaa
open Go
variable {L : List Chunk} {R : List Fact} {w : World}
theorem O6 {n nl : Nat} {M : List Int} {cv hv fv : Value} {x : Chip} {s : Step} (hs : St (L) R w) (hc : sl cv x.cores ∈ R) (hh : sl hv x.home ∈ R) (hf : sl fv x.frames ∈ R) (h : Inv n nl x M) (hsw : s.wf) : Calls Try.prog 20 [.agg #[cv, hv, fv], .agg s.cells.toArray].toArray w (Bu (fun v : Value × Value × Value × Value => .tuple #[.agg #[v.1, v.2.1, v.2.2.1], v.2.2.2, vi (Ak x s).2.2]) (fun v => L) (fun v => sl v.1 (Ak x s).1.cores :: sl v.2.1 (Ak x s).1.home :: sl v.2.2.1 (Ak x s).1.frames :: sl v.2.2.2 (Ak x s).2.1 :: R)) := by
 by_cases h1 : s.kind = 1
 ·exact Aaz hs hc hh hf h hsw h1
 by_cases h2 : s.kind = 2
 ·exact Aay hs hc hh hf h hsw h2
 by_cases h3 : s.kind = 3
 ·exact Aax hs hc hh hf h hsw h3
 by_cases h4 : s.kind = 4
 ·exact Aaw hs hc hh hf h hsw h4
 by_cases h5 : s.kind = 5
 ·exact Aav hs hc hh hf h hsw h5
 by_cases h6 : s.kind = 6
 ·exact Aau hs hc hh hf h hsw h6
 exact Aba hs hc hh hf h hsw ⟨h1, h2, h3, h4, h5, h6⟩
def bAt (c : Config) (l : List Step) (k : Nat) : Chip × List Done := C0 (A8 c).1 (l.take k)
theorem Fu {x : Chip} {a : Step} {l : List Step} (h : (Ak x a).2.2 = 0) : C0 x (a :: l) = ((C0 (Ak x a).1 l).1, (Ak x a).2.1 ++ (C0 (Ak x a).1 l).2) := by simp only [C0]; rw [if_pos h]
theorem Fv {x : Chip} {a : Step} {l : List Step} (h : ¬ (Ak x a).2.2 = 0) : C0 x (a :: l) = C0 x l := by simp only [C0]; rw [if_neg h]
theorem Ig (s : Step) : ∀ (l : List Step) (x : Chip), (Ak (C0 x l).1 s).2.2 = 0 → C0 x (l ++ [s]) = ((Ak (C0 x l).1 s).1, (C0 x l).2 ++ (Ak (C0 x l).1 s).2.1)
 | [], x, h => by
  have h' : (Ak x s).2.2 = 0 := h
  rw [List.nil_append, Fu h']; simp [C0]
 | a :: l, x, h => by
  by_cases h1 : (Ak x a).2.2 = 0
  ·rw [Fu h1] at h ⊢
   rw [List.cons_append, Fu h1, Ig s l _ h]; simp
  ·rw [Fv h1] at h ⊢
   rw [List.cons_append, Fv h1]; exact Ig s l x h
theorem Qc (s : Step) : ∀ (l : List Step) (x : Chip), ¬ (Ak (C0 x l).1 s).2.2 = 0 → C0 x (l ++ [s]) = C0 x l
 | [], x, h => by
  have h' : ¬ (Ak x s).2.2 = 0 := h
  rw [List.nil_append, Fv h']
 | a :: l, x, h => by
  by_cases h1 : (Ak x a).2.2 = 0
  ·rw [Fu h1] at h ⊢
   rw [List.cons_append, Fu h1, Qc s l _ h]
  ·rw [Fv h1] at h ⊢
   rw [List.cons_append, Fv h1]; exact Qc s l x h
theorem Qs {c : Config} {l : List Step} {k : Nat} (h : k < l.length) (h0 : (Ak (bAt c l k).1 (l.getD k zStep)).2.2 = 0) : bAt c l (k + 1) = ((Ak (bAt c l k).1 (l.getD k zStep)).1, (bAt c l k).2 ++ (Ak (bAt c l k).1 (l.getD k zStep)).2.1) := by
 unfold bAt at h0 ⊢; rw [Fk zStep h]; exact Ig _ _ _ h0
theorem Vp {c : Config} {l : List Step} {k : Nat} (h : k < l.length) (h0 : ¬ (Ak (bAt c l k).1 (l.getD k zStep)).2.2 = 0) : bAt c l (k + 1) = bAt c l k := by
 unfold bAt at h0 ⊢; rw [Fk zStep h]; exact Qc _ _ _ h0
theorem Zs (c : Core) (id home : Int) (o : Op) : (Aj c id home o).2.2.1.length ≤ 1 := by
 unfold Aj
 split
 ·simp
 split
 ·simp
 split
 ·simp
 split <;> simp
theorem Ack (c : Core) (id home : Int) (m : Msg) : (Ae c id home m).2.2.length ≤ 1 := by
 unfold Ae
 split
 ·simp
 split
 ·simp
 split
 ·split
  ·simp only; split <;> simp
  split <;> simp
 split
 ·split
  ·simp
  split <;> simp
 split <;> simp
theorem Ke (x : Chip) (s : Step) : (Ak x s).2.1.length ≤ 1 := by
 unfold Ak
 split
 ·split
  ·simp
  split
  ·simp
  ·exact Zs ..
 split
 ·split
  ·simp
  ·simp only
   unfold Az
   split
   ·simp
   split
   ·simp
   ·exact Ack ..
 split
 ·split <;> simp
 split
 ·split <;> simp
 split
 ·split
  ·simp
  split
  ·simp
  split <;> simp
 split
 ·split
  ·simp
  split <;> simp
 ·simp
theorem Lr (c : Config) (l : List Step) : ∀ k, (bAt c l k).2.length ≤ k
 | 0 => by unfold bAt; simp [C0]
 | k + 1 => by
  have ih := Lr c l k
  by_cases h : k < l.length
  ·by_cases h0 : (Ak (bAt c l k).1 (l.getD k zStep)).2.2 = 0
   ·have := Ke (bAt c l k).1 (l.getD k zStep)
    rw [Qs h h0]
    simp only [List.length_append]; omega
   ·rw [Vp h h0]; omega
  ·unfold bAt at ih ⊢
   rw [List.take_of_length_le (by omega)]
   rw [List.take_of_length_le (by omega)] at ih
   omega
theorem Uh {c : Config} (l : List Step) (h : (A8 c).2 = 0) (k : Nat) : ∃ n nl M, Inv n nl (bAt c l k).1 M := by
 obtain ⟨n, nl, h1, h2, _, h4⟩ := Ih h
 obtain ⟨M, h5, _⟩ := Gy (l.take k) (Nq h1 h2)
 exact ⟨n, nl, M, by unfold bAt; rw [h4]; exact h5⟩
theorem Jp {c : Config} (h : (A8 c).2 ≠ 0) : A8 c = (Dn, 3) := by
 unfold A8 at h ⊢
 split
 ·rfl
 ·rename_i h1; rw [if_neg h1] at h; exact absurd rfl h
theorem Vl {c : Config} {l : List Step} {k : Nat} (h : (A8 c).2 = 0) (hk : l.take k = l.take 300) : build c l = bAt c l k := by
 unfold build bAt; rw [if_neg (by rw [h]; decide), hk]
theorem Qn {c : Config} {l : List Step} (h : (A8 c).2 ≠ 0) : build c l = ((A8 c).1, []) := by
 unfold build; rw [if_pos h, Jp h]
theorem Kv {vl : Value} {c : Config} {l : List Step} (hs : St (L) R w) (hl : sl vl l ∈ R) (hcw : c.wf) : Calls Try.prog 14 [.agg c.cells.toArray, vl].toArray w (Bu (fun v : Value × Value × Value × Value => .tuple #[.agg #[v.1, v.2.1, v.2.2.1], v.2.2.2]) (fun v => L) (fun v => sl v.1 (build c l).1.cores :: sl v.2.1 (build c l).1.home :: sl v.2.2.1 (build c l).1.frames :: sl v.2.2.2 (build c l).2 :: R)) := by
 have hlen := Bj hl hs
 refine Ai Try.func14 rfl Try.ntmps14 rfl hs ?_
 clear hs
 refine Zay ?_;intro b2
 refine Zcm ?_;intro b4
 refine Zat ?_
 refine Am Try.call16 rfl (fun w hs => Xu (c := c) hs hcw) ?_; intro v16
 refine J.know (p := v16.1.oneCell' = true ∧ v16.2.oneCell' = true) (fun w hs => ⟨isSlice.one (hs.fact (.head _)), isSlice.one (hs.fact (.tail _ (.head _)))⟩) (fun h12 => ?_)
 obtain ⟨hone1, hone2⟩ := h12
 refine rn3 ?_
 refine al_ (cs := [.slice none 0 0, .slice none 0 0, .slice none 0 0]) Try.zeroValue33 ?_; intro b6
 refine s_B (cs := [v16.1, v16.2, .slice none 0 0]) Try.sizeOf33 ?_
 refine ZF ?_
 refine cdy ?_ ?_
 ·intro ht20
  refine Gl ?_
  refine ZN ?_
  refine ZC ?_
  refine s_B (cs := [v16.1, v16.2, .slice none 0 0]) Try.sizeOf33 ?_
  refine Ga1 ?_
  rw [Qn ht20]
  exact G7 (v16.1, v16.2, .slice none 0 0, .slice none 0 0) Try.isAgg33 Try.sizeOf33
 ·intro ht20
  refine ZP ?_
  refine Ga3 ?_
  have hok : (A8 c).2 = 0 := Decidable.not_not.1 ht20
  have e0 : bAt c l 0 = ((A8 c).1, []) := by unfold bAt; simp [C0]
  refine Zal ?_
  refine Bl (γ := Nat × Value × Value × Value × Value) (fun g => g.1 ≤ l.length ∧ g.1 ≤ 300) (fun g => row 66 g.2.2.2.2 (bAt c l g.1).2 :: blk b6 33 [g.2.1, g.2.2.1, g.2.2.2.1] :: blk b4 33 [.slice none 0 0, .slice none 0 0, .slice none 0 0] :: L) (fun g => sl g.2.1 (bAt c l g.1).1.cores :: sl g.2.2.1 (bAt c l g.1).1.home :: sl g.2.2.2.1 (bAt c l g.1).1.frames :: R) (fun g => [(4, bp b4 0), (6, bp b6 0), (8, g.2.2.2.2), (22, vl), (23, vi (l.length : Int)), (24, vi (g.1 : Int))]) (fun g => l.length - g.1) (0, v16.1, v16.2, .slice none 0 0, .slice none 0 0) ⟨Nat.zero_le _, by show 0 ≤ 300; omega⟩ alT (fun w hs => by rw [e0]; exact Ah hs) ?_
  rintro ⟨k, cv, hv, fv, dv⟩ ⟨hk, hk3⟩
  try simp only at hk hk3 ⊢
  refine ZA ?_
  refine cdy ?_ ?_
  ·intro ht25
   refine Gl ?_
   refine ZcG ?_;intro hsw
   refine ZJ ?_
   refine al_ (cs := zStep.cells) Try.zeroValue28 ?_; intro b10
   refine rn1 ?_
   refine ZcD ?_
   refine ZD ?_
   refine cdy ?_ ?_
   ·intro ht30
    exact Zf1
   ·intro ht30
    refine ZI ?_
    obtain ⟨n, nl, M, hI⟩ := Uh l hok k
    refine Am Try.call20 rfl (fun w hs => O6 (x := (bAt c l k).1) (s := (l.getD k zStep)) hs mm mm mm hI hsw) ?_; intro v34
    refine J.know (p := v34.1.oneCell' = true ∧ v34.2.1.oneCell' = true ∧ v34.2.2.1.oneCell' = true) (fun w hs => ⟨isSlice.one (hs.fact (.head _)), isSlice.one (hs.fact (.tail _ (.head _))), isSlice.one (hs.fact (.tail _ (.tail _ (.head _))))⟩) (fun h12 => ?_)
    obtain ⟨hone1, hone2, hone3⟩ := h12
    refine rn4 ?_
    refine Zd3 ?_;intro b11
    refine s_B (cs := [v34.1, v34.2.1, v34.2.2.1]) Try.sizeOf33 ?_
    refine Ga2 ?_
    refine kp [4, 5, 6, 8, 9, 10, 11, 12, 13, 22, 23, 24, 25, 26, 27, 28, 29, 30, 31, 32, 33, 34, 35, 36, 37, 38, 39] ?_
    refine ZR ?_
    refine cdy ?_ ?_
    ·intro ht39
     refine ZL ?_
     refine s_B (cs := [v34.1, v34.2.1, v34.2.2.1]) Try.sizeOf33 ?_
     refine ZI ?_
     refine ap Ff (hb := fun w hs => by have : maxN = 16777216 := rfl; have h8 := Lr c l k; have h9 := Ke (bAt c l k).1 (l.getD k zStep); omega) (k := ?_); intro v43
     refine ZF ?_
     have e1 := Qs (c := c) (l := l) (k := k) (by omega) ht39
     refine A6 (k + 1, v34.1, v34.2.1, v34.2.2.1, v43) ⟨by show k + 1 ≤ l.length; omega, by show k + 1 ≤ 300; omega⟩ (by show l.length - (k + 1) < l.length - k; omega) alT (fun w hs => ?_)
     exact ZfG
    ·intro ht39
     refine ZD ?_
     have e1 := Vp (c := c) (l := l) (k := k) (by omega) ht39
     refine A6 (k + 1, cv, hv, fv, dv) ⟨by show k + 1 ≤ l.length; omega, by show k + 1 ≤ 300; omega⟩ (by show l.length - (k + 1) < l.length - k; omega) alT (fun w hs => ?_)
     exact ZfG
  ·intro ht25
   exact Zf1
def hE0 : List Entry := [⟨0, -1, 0, 0, 0, 0, false, 0, 0, [0, 0]⟩]
theorem X8 (e : Entry) : (Bi e).phase = 1 ∨ (Bi e).phase = 2 ∨ (Bi e).phase = 3 := by
 unfold Bi; split
 ·exact .inl rfl
 split
 ·exact .inr (.inl rfl)
 ·exact .inr (.inr rfl)
theorem Ajf {s k : Int} (h0 : 0 ≤ s) (h1 : s < 16) (h2 : 0 ≤ k) (h3 : k < 4) : La (Hv s k) k = false := by
 exact ZeT
theorem Adj : ∀ (s : _root_.Fin 16) (k j : _root_.Fin 4), La (Hv (Hv (s.val : Int) (k.val : Int)) (j.val : Int)) (k.val : Int) = false := by decide
theorem Adi {s k j : Int} (h0 : 0 ≤ s) (h1 : s < 16) (h2 : 0 ≤ k) (h3 : k < 4) (h4 : 0 ≤ j) (h5 : j < 4) : La (Hv (Hv s k) j) k = false := by
 obtain ⟨a, rfl⟩ := Int.eq_ofNat_of_zero_le h0
 obtain ⟨b, rfl⟩ := Int.eq_ofNat_of_zero_le h2
 obtain ⟨c, rfl⟩ := Int.eq_ofNat_of_zero_le h4
 exact Adj ⟨a, by omega⟩ ⟨b, by omega⟩ ⟨c, by omega⟩
theorem Wm {e : Entry} {id : Int} {m : Msg} (he : EB e) (hs : 0 ≤ m.src ∧ m.src < 4) (hsl : m.src < (e.last.length : Int)) : (Ag (Ag e id m).1 id m).1 = (Ag e id m).1 := by
 have hE := he
 unfold EB at hE
 by_cases k12 : m.kind = 1 ∨ m.kind = 2
 ·by_cases c : e.phase ≠ 0 ∨ m.serial ≤ Dx e m.src ∨ 65535 ≤ e.turn
  ·have h1 : Ag e id m = (e, []) := by unfold Ag; rw [if_pos k12, if_pos c]
   rw [h1]; rw [h1]
  ·have h1 : (Ag e id m).1 = K3 e m := by unfold Ag; rw [if_pos k12, if_neg c]
   rw [h1]
   have h2 : (K3 e m).phase ≠ 0 := by unfold K3; rcases X8 { e with last := e.last.set m.src.toNat m.serial, who := m.src, serial := m.serial, alone := m.kind == 2, turn := e.turn + 1 } with h | h | h <;> rw [h] <;> decide
   unfold Ag; rw [if_pos k12, if_pos (.inl h2)]
 by_cases k3 : m.kind = 3
 ·by_cases c : e.phase ≠ 0
  ·have h1 : Ag e id m = (e, []) := by unfold Ag; rw [if_neg k12, if_pos k3, if_pos c]
   rw [h1]; rw [h1]
  ·have h1 : (Ag e id m).1 = E1 e m := by unfold Ag; rw [if_neg k12, if_pos k3, if_neg c]
   rw [h1]
   have h3 : (E1 e m).phase = e.phase := by unfold E1; split <;> (try split) <;> rfl
   have h4 : ¬ Dx (E1 e m) m.src < m.serial := by
    unfold E1
    by_cases d : Dx e m.src < m.serial
    ·rw [if_pos d]
     have : ∀ z : Entry, z.last = e.last.set m.src.toNat m.serial → ¬ Dx z m.src < m.serial := by
      intro z hz
      unfold Dx; rw [hz, List.getD_eq_getElem?_getD, List.getElem?_set_self (by omega)]
      exact Int.lt_irrefl _
     split <;> exact this _ rfl
    ·rw [if_neg d]; exact d
   have h5 : (Ag (E1 e m) id m).1 = E1 (E1 e m) m := by unfold Ag; rw [if_neg k12, if_pos k3, if_neg (by rw [h3]; exact c)]
   rw [h5]
   generalize E1 e m = z at h4
   unfold E1; rw [if_neg h4]
 by_cases k9 : m.kind = 9 ∧ m.turn = e.turn ∧ e.phase = 1 ∧ m.src = e.owner
 ·have h1 : (Ag e id m).1 = F5 e m := by unfold Ag; rw [if_neg k12, if_neg k3, if_pos k9]
  rw [h1]
  have h2 : (F5 e m).owner = -1 := by unfold F5; rw [(Jw _).2.2.2.1]
  unfold Ag
  rw [if_neg k12, if_neg k3, if_neg (by rw [h2]; omega), if_neg (by omega), if_neg (by omega)]
 by_cases k8 : m.kind = 8 ∧ m.turn = e.turn ∧ e.phase = 2 ∧ La e.need m.src = true
 ·by_cases c : (Co e m).need = 0
  ·have h1 : (Ag e id m).1 = Bi (Co e m) := by unfold Ag; rw [if_neg k12, if_neg k3, if_neg k9, if_pos k8, if_pos c]
   rw [h1]
   have h2 : (Bi (Co e m)).phase = 2 → La (Bi (Co e m)).need m.src = false := by
    unfold Bi
    split
    ·intro h; simp at h
    split
    ·intro _
     exact Adi hE.2.1.1 hE.2.1.2 hs.1 hs.2 hE.2.2.2.1.1 hE.2.2.2.1.2
    ·intro h; simp at h
   unfold Ag
   rw [if_neg k12, if_neg k3, if_neg (by omega), if_neg (fun h => by rw [h2 h.2.2.1] at h; exact absurd h.2.2.2 (by decide)), if_neg (by omega)]
  ·have h1 : (Ag e id m).1 = Co e m := by unfold Ag; rw [if_neg k12, if_neg k3, if_neg k9, if_pos k8, if_neg c]
   rw [h1]
   have h2 : La (Co e m).need m.src = false := Ajf hE.2.2.1.1 hE.2.2.1.2 hs.1 hs.2
   unfold Ag
   rw [if_neg k12, if_neg k3, if_neg (by omega), if_neg (fun h => by rw [h2] at h; exact absurd h.2.2.2 (by decide)), if_neg (by omega)]
 by_cases k10 : m.kind = 10 ∧ m.turn = e.turn ∧ e.phase = 3 ∧ m.src = e.who
 ·have h1 : (Ag e id m).1 = Di e := by unfold Ag; rw [if_neg k12, if_neg k3, if_neg k9, if_neg k8, if_pos k10]
  rw [h1]
  have h2 : (Di e).phase = 0 := by unfold Di; split <;> rfl
  unfold Ag
  rw [if_neg k12, if_neg k3, if_neg (by omega), if_neg (by omega), if_neg (by omega)]
 ·have h1 : Ag e id m = (e, []) := by unfold Ag; rw [if_neg k12, if_neg k3, if_neg k9, if_neg k8, if_neg k10]
  rw [h1]; rw [h1]
theorem Abz (e : Entry) (id : Int) (m : Msg) : (Ag e id m).1.last.length = e.last.length := by
 unfold Ag
 split
 ·split
  ·rfl
  ·simp only [K3, Dl, List.length_set]
 split
 ·split
  ·rfl
  ·simp only [E1]; split
   ·split <;> simp
   ·rfl
 split
 ·simp only [F5, Dl]
 split
 ·split
  ·simp only [Dl]; rfl
  ·rfl
 split
 ·simp only [Di]; split <;> rfl
 ·rfl
theorem Wd {l : List Entry} {id : Int} {m : Msg} (hb : ∀ i, i < l.length → EB (l.getD i A7) ∧ (l.getD i A7).last.length ≤ 4) : (Al (Al l id m).1 id m).1 = (Al l id m).1 := by
 by_cases c : m.line < 0 ∨ (l.length : Int) ≤ m.line ∨ m.src < 0 ∨ ((Ad l m.line).last.length : Int) ≤ m.src
 ·have h1 : Al l id m = (l, []) := by unfold Al; rw [if_pos c]
  rw [h1]; rw [h1]
 ·have h1 : (Al l id m).1 = l.set m.line.toNat (Ag (Ad l m.line) id m).1 := by unfold Al; rw [if_neg c]
  obtain ⟨h2, h3⟩ := hb m.line.toNat (by omega)
  have h4 : Ad (l.set m.line.toNat (Ag (Ad l m.line) id m).1) m.line = (Ag (Ad l m.line) id m).1 := by
   unfold Ad; rw [List.getD_eq_getElem?_getD, List.getElem?_set_self (by omega)]; rfl
  have h3' : (Ad l m.line).last.length ≤ 4 := h3
  have h5 := Wm (id := id) (m := m) (e := Ad l m.line) h2 (by omega) (by omega)
  rw [h1]
  have h6 : (Al (l.set m.line.toNat (Ag (Ad l m.line) id m).1) id m).1 = (l.set m.line.toNat (Ag (Ad l m.line) id m).1).set m.line.toNat (Ag (Ad (l.set m.line.toNat (Ag (Ad l m.line) id m).1) m.line) id m).1 := by
   have h7 := Abz (Ad l m.line) id m
   unfold Al; rw [if_neg (by rw [List.length_set, h4, h7]; exact c)]
  rw [h6, h4, h5, List.set_set]
theorem Ach (l : List Entry) (id : Int) (m : Msg) : (Al l id m).1.length = l.length := by unfold Al; split <;> simp
theorem Aco {m : Msg} (hs : St (L) R w) (hin : MsgIn m) : Calls Try.prog 72 [.agg m.cells.toArray].toArray w (Bu (fun v : Value => v) (fun v => L) (fun v => sl v (Ce m) :: R)) := by
 obtain ⟨k0, k1, k2, k3, k4, k5, k6⟩ := hin
 refine Ai Try.func72 rfl Try.ntmps72 rfl hs ?_
 clear hs
 refine Gm ?_
 refine bx ?_; intro b1
 refine Gb1 ?_
 refine ZF ?_
 refine Bo (b := ?b1) ?e1 ?_ ?_; case e1 => exact rfl
 ·intro ht7
  refine Aa ?_
  refine Za8 ?_
  refine ZdT ?_
  refine liO (α := UInt8) ([u8 m.kind, u8 (16 * m.src + m.dst % 16), u8 m.line, u8 (m.serial / 256), u8 m.serial, u8 (m.turn / 256), u8 m.turn, u8 m.value, 1, 0] : List UInt8) Hp rfl (fun j hj => ⟨⟨_, rfl, rfl⟩, ⟨_, rfl, rfl⟩, ⟨_, rfl, rfl⟩, ⟨_, rfl, rfl⟩, ⟨_, rfl, rfl⟩, ⟨_, rfl, rfl⟩, ⟨_, rfl, rfl⟩, ⟨_, rfl, rfl⟩, ⟨_, rfl, rfl⟩, ⟨_, rfl, rfl⟩, trivial⟩) ?_; intro v40
  have hxs : ([u8 m.kind, u8 (16 * m.src + m.dst % 16), u8 m.line, u8 (m.serial / 256), u8 m.serial, u8 (m.turn / 256), u8 m.turn, u8 m.value, 1, 0] : List UInt8) = Ct m := by unfold Ct; rw [ht7, show 16 * m.src + m.dst % 16 = 16 * m.src + m.dst by omega]; rfl
  rw [hxs]
  have hsm := Ow (Ct m)
  refine Ga1 ?_
  refine kp [2, 4, 5, 41, 42] ?_
  refine ZC ?_
  refine Am (γ := Unit) (val := fun _ => vi (Ik (Ct m))) Try.call99 rfl (fun w hs => lend .hd (fun L R w hs hf _ => H2 hs hf) hs) ?_; intro _
  refine Zei ?_;intro v49
  refine ap Hp (hb := fun w hs => by have : maxN = 16777216 := rfl; rw [Jz]; simp only [List.length_cons, List.length_nil]; omega) (k := ?_); intro v50
  refine Ga1 ?_
  exact Bg v50 (hs := fun w hs => Ah (St.shut (hs.pick pkk)))
 ·intro ht7
  refine ZI ?_
  refine ZdT ?_
  refine liO (α := UInt8) ([u8 m.kind, u8 (16 * m.src + m.dst % 16), u8 m.line, u8 (m.serial / 256), u8 m.serial, u8 (m.turn / 256), u8 m.turn, u8 m.value, 0, 0] : List UInt8) Hp rfl (fun j hj => ⟨⟨_, rfl, rfl⟩, ⟨_, rfl, rfl⟩, ⟨_, rfl, rfl⟩, ⟨_, rfl, rfl⟩, ⟨_, rfl, rfl⟩, ⟨_, rfl, rfl⟩, ⟨_, rfl, rfl⟩, ⟨_, rfl, rfl⟩, ⟨_, rfl, rfl⟩, ⟨_, rfl, rfl⟩, trivial⟩) ?_; intro v40
  have hxs : ([u8 m.kind, u8 (16 * m.src + m.dst % 16), u8 m.line, u8 (m.serial / 256), u8 m.serial, u8 (m.turn / 256), u8 m.turn, u8 m.value, 0, 0] : List UInt8) = Ct m := by unfold Ct; rw [ht7, show 16 * m.src + m.dst % 16 = 16 * m.src + m.dst by omega]; rfl
  rw [hxs]
  have hsm := Ow (Ct m)
  refine Ga1 ?_
  refine kp [2, 4, 5, 41, 42] ?_
  refine ZC ?_
  refine Am (γ := Unit) (val := fun _ => vi (Ik (Ct m))) Try.call99 rfl (fun w hs => lend .hd (fun L R w hs hf _ => H2 hs hf) hs) ?_; intro _
  refine Zei ?_;intro v49
  refine ap Hp (hb := fun w hs => by have : maxN = 16777216 := rfl; rw [Jz]; simp only [List.length_cons, List.length_nil]; omega) (k := ?_); intro v50
  refine Ga1 ?_
  exact Bg v50 (hs := fun w hs => Ah (St.shut (hs.pick pkk)))
theorem Ln {c : Config} (hs : St (L) R w) : Calls Try.prog 18 [.agg c.cells.toArray].toArray w (Bu (fun _ : Unit => vi (Dz c)) (fun _ => L) (fun _ => R)) := by
 refine Ai Try.func18 rfl Try.ntmps18 rfl hs ?_
 clear hs
 refine Gm ?_
 refine bx ?_; intro b1
 refine Ga1 ?_
 refine Zd1 ?_
 refine Ds 20 (.bool (decide ((c.cores < 1) ∨ (4 < c.cores) ∨ (c.lines < 1) ∨ (4 < c.lines)))) ?_ ?_
 ·rcases (show ((c.cores < 1)) ∨ (¬ (c.cores < 1) ∧ (4 < c.cores)) ∨ (¬ (c.cores < 1) ∧ ¬ (4 < c.cores) ∧ (c.lines < 1)) ∨ (¬ (c.cores < 1) ∧ ¬ (4 < c.cores) ∧ ¬ (c.lines < 1) ∧ (4 < c.lines)) ∨ (¬ (c.cores < 1) ∧ ¬ (4 < c.cores) ∧ ¬ (c.lines < 1) ∧ ¬ (4 < c.lines)) from by omega) with hm | hm | hm | hm | hm
  ·refine ZZ ?_
   refine Ga15 ?_
   exact Zfa
  ·refine Zbf ?_
   refine Ga11 ?_
   exact Zfa
  ·refine Zd1 ?_
   refine Zaw ?_
   refine ZaD ?_
   refine Ga6 ?_
   exact Zfa
  ·refine Zaw ?_
   refine ZaT ?_
   refine Ga1 ?_
   exact Zfa
  ·refine Zd1 ?_
   refine Zaw ?_
   refine Za0 ?_
   refine Ga1 ?_
   exact Zfc
 ·refine Ax ?_
  refine Gl ?_
  first | (refine cdx (p := ?p1) (hd := ?d1) ?e1 ?_ ?_; case e1 => exact rfl) | (refine Bo (b := ?b1) ?e1 ?_ ?_; case e1 => exact rfl)
  ·intro ht20
   refine ZA ?_
   have er : Dz c = 3 := by unfold Dz; rw [if_pos ht20]
   exact ZfO
  ·intro ht20
   refine ZA ?_
   have er : Dz c = 0 := by unfold Dz; rw [if_neg ht20]
   exact ZfO
theorem Ql {c : Config} (hs : St (L) R w) (hcw : c.wf) : Calls Try.prog 15 [.agg c.cells.toArray].toArray w (Bu (fun v : Value × Value => .tuple #[.agg #[v.1, v.2, .slice none 0 0], vi (A8 c).2]) (fun v => L) (fun v => sl v.1 (A8 c).1.cores :: sl v.2 (A8 c).1.home :: sl (.slice none 0 0) (A8 c).1.frames :: R)) := by
 refine Ai Try.func15 rfl Try.ntmps15 rfl hs ?_
 clear hs
 refine Zbv ?_;intro b1 b2
 refine Zat ?_
 refine Am Try.call18 rfl (fun w hs => Ln hs) ?_; intro _
 refine ZF ?_
 refine cdy ?_ ?_
 ·intro ht9
  have h3 : Dz c = 3 := by revert ht9; unfold Dz; split <;> simp
  refine Zcl ?_
  refine Gm ?_
  refine ZaG ?_
  refine rn1 ?_
  refine s_B Try.sizeOf33 ?_
  refine Ga1 ?_
  have h3 : Dz c = 3 := by revert ht9; unfold Dz; split <;> simp
  have er : A8 c = (Dn, 3) := by unfold A8; rw [if_pos ht9]
  rw [er, h3]
  exact G7 (.slice none 0 0, .slice none 0 0) Try.isAgg33 Try.sizeOf33
 ·intro ht9
  have hcg : ¬ (c.cores < 1 ∨ 4 < c.cores ∨ c.lines < 1 ∨ 4 < c.lines) := by revert ht9; unfold Dz; split <;> simp_all
  refine Zan ?_
  refine Am Try.call39 rfl (fun w hs => Aci (cores := c.cores) (lines := c.lines) hs (by omega) (by omega)) ?_; intro v16
  refine J.know (p := v16.oneCell' = true) (fun w hs => isSlice.one (hs.fact (.head _))) (fun hone16 => ?_)
  refine rn1 ?_
  refine ZbU ?_;intro b5
  refine s_B (cs := [.slice none 0 0, v16, .slice none 0 0]) Try.sizeOf33 ?_
  refine ZU ?_
  refine JC.rowNil 57 Core ?_
  refine Bl (γ := Nat × Value) (fun g => (g.1 : Int) ≤ c.cores) (fun g => row 57 g.2 (List.replicate g.1 (Ex c.lines)) :: blk b5 33 [g.2, v16, .slice none 0 0] :: blk b2 33 [.slice none 0 0, .slice none 0 0, .slice none 0 0] :: blk b1 23 c.cells :: L) (fun _ => sl v16 (Ns c.cores c.lines) :: R) (fun g => [(1, bp b1 0), (2, bp b2 0), (5, bp b5 0), (19, vi c.cores), (20, vi (g.1 : Int))]) (fun g => c.cores.toNat - g.1) (0, .slice none 0 0) (by show (0 : Int) ≤ c.cores; omega) alT (fun w hs => Ah hs) ?_
  rintro ⟨k, vs⟩ hk
  try simp only at hk ⊢
  refine ZA ?_
  refine cdy ?_ ?_
  ·intro ht21
   refine Gl ?_
   refine cq_ (blk b5 33 [vs, v16, .slice none 0 0] :: row 57 vs (List.replicate k (Ex c.lines)) :: blk b2 33 [.slice none 0 0, .slice none 0 0, .slice none 0 0] :: blk b1 23 c.cells :: L) ?_
   refine jd_ (fun ρ S => blk b5 33 (bif S 8 then [(Gh.dec (γ := Value) (ρ 6)), v16, .slice none 0 0] else [vs, v16, .slice none 0 0]) :: (bif S 6 then row 57 (Gh.dec (γ := Value) (ρ 6)) ((List.replicate k (Ex c.lines)) ++ [(Ex c.lines)]) else row 57 vs (List.replicate k (Ex c.lines))) :: blk b2 33 [.slice none 0 0, .slice none 0 0, .slice none 0 0] :: blk b1 23 c.cells :: L) ?_
   refine dn1 ?_
   refine I5 (v := vs) (fun ρ S hS hB hA => by have h8 : S 8 = false := hA 8 ⟨0, rfl⟩; simp only [h8, cond_false]; exact Da (hc := A9 pkk (by repeat (first | exact rfl | refine Dk rfl ?_))) Try.isAgg29) (fun _ _ _ _ _ => rfl) ?_
   refine dn2 ?_
   refine Cd (γ := Value) (val := fun v => .agg (Core.cells v (Ex c.lines)).toArray) (F := fun v => [sl v (Ex c.lines).lines]) Try.call40 (fun _ => rfl) (fun ρ L R w hd hs => Adg (lines := c.lines) hs (by omega)) (fun _ _ _ _ _ => rfl) ?_
   refine F6 ([(Ex c.lines)] : List Core) Si rfl (fun _ => rfl) rfl (fun _ => rfl) rfl rfl (fun ρ R hd j hj => ⟨⟨_, rfl, ⟨_, rfl, hj (sl (Gh.dec (γ := Value) (ρ 4)) (Ex c.lines).lines) (hd.dep (it := ⟨4, _, _, _, _⟩) (by repeat (first | exact List.Mem.head _ | refine List.Mem.tail _ ?_)) ⟨9, rfl⟩ (List.Mem.head _)), by unfold Ex zOp Op.wf Ap; simp only; omega⟩⟩, trivial⟩) (fun _ _ _ _ _ => rfl) ?_
   refine F7 (e := 57) (xs := (List.replicate k (Ex c.lines))) (ys := [(Ex c.lines)]) (v := vs) Si (fun _ => rfl) (fun _ => rfl) rfl (by decide) (fun ρ R hd => (hd.dep (it := ⟨5, _, _, _, _⟩) (by repeat (first | exact List.Mem.head _ | refine List.Mem.tail _ ?_)) ⟨9, rfl⟩ (List.Mem.head _))) (by have : maxN = 16777216 := rfl; simp only [List.length_cons, List.length_nil, List.length_replicate]; omega) (fun ρ g S hS hB hA => ?_) ?_
   ·have ui : upS S 6 6 = true := rfl; have u8 : upS S 6 8 = S 8 := rfl; have h8 : S 8 = false := hA 8 ⟨0, rfl⟩; have rs : (Gh.dec (γ := Value) (Rho.set ρ 6 (Gh.enc g) 6)) = g := rfl
    simp only [ui, hS, u8, h8, rs, cond_true, cond_false]
    exact pex
   refine dn1 ?_
   refine Er (T0 := 33) (f := 0) (vs := fun ρ => [vs, v16, .slice none 0 0]) (v := fun ρ => (Gh.dec (γ := Value) (ρ 6))) (fun ρ => b5) Try.sizeOf29 (fun _ => rfl) (fun _ => rfl) (fun ρ S R w L9 hB hd hs => by have h6 : S 6 = true := hB 6 ⟨9, rfl⟩; simp only [h6, cond_true] at hs; exact Cm pkk hs) (fun _ => rfl) (fun ρ g S hS hB hA => ?_) ?_
   ·have ui : upS S 8 8 = true := rfl; have u6 : upS S 8 6 = S 6 := rfl; have r6 : Rho.set ρ 8 g 6 = ρ 6 := rfl
    simp only [ui, hS, u6, r6, cond_true, cond_false]
    exact pex
   refine dnl ?_; intro ρ
   refine xq_ (blk b5 33 [(Gh.dec (γ := Value) (ρ 6)), v16, .slice none 0 0] :: row 57 (Gh.dec (γ := Value) (ρ 6)) ((List.replicate k (Ex c.lines)) ++ [(Ex c.lines)]) :: blk b2 33 [.slice none 0 0, .slice none 0 0, .slice none 0 0] :: blk b1 23 c.cells :: L) ?_
   generalize (Gh.dec (γ := Value) (ρ 4)) = v26
   generalize (Gh.dec (γ := Value) (ρ 5)) = v27
   generalize (Gh.dec (γ := Value) (ρ 6)) = v28
   refine ZD ?_
   refine A6 (k + 1, v28) (by show ((k + 1 : Nat) : Int) ≤ c.cores; omega) (by show c.cores.toNat - (k + 1) < c.cores.toNat - k; omega) alT (fun w hs => ?_)
   try simp only
   rw [Mh]; exact Ah hs
  ·intro ht21
   refine Gl ?_
   refine JC.know (p := vs.oneCell' = true) (fun w hs => Cm .hd hs) (fun hones => ?_)
   refine JC.shut (v := vs) .hd ?_
   refine JC.slNil (List UInt8) ?_
   refine ZC ?_
   refine s_B (cs := [vs, v16, .slice none 0 0]) Try.sizeOf33 ?_
   refine Ga1 ?_
   have er : A8 c = (⟨List.replicate k (Ex c.lines), Ns c.cores c.lines, []⟩, 0) := by unfold A8; rw [if_neg ht9, show c.cores.toNat = k by omega]
   rw [er]
   exact G7 (vs, v16) Try.isAgg33 Try.sizeOf33
theorem Ajk {b : Nat} {cv hv fv : Value} {x : Chip} (hs : St (row 57 cv x.cores :: blk b 33 [cv, hv, fv] :: L) R w) (hhv : sl hv x.home ∈ R) : Calls Try.prog 75 [bp b 0].toArray w (Bu (fun _ : Unit => .agg (Aq x).cells.toArray) (fun _ => row 57 cv x.cores :: blk b 33 [cv, hv, fv] :: L) (fun _ => R)) := by
 refine Ai Try.func75 rfl Try.ntmps75 rfl hs ?_
 clear hs
 refine Gm ?_
 refine al_ (cs := zConfig.cells) Try.zeroValue23 ?_; intro b2
 refine Gl ?_
 refine cq_ (blk b2 23 zConfig.cells :: row 57 cv x.cores :: blk b 33 [cv, hv, fv] :: L) ?_
 refine jd_ (fun ρ S => blk b2 23 (bif S 11 then [vi (x.cores.length : Int), vi (x.home.length : Int)] else zConfig.cells) :: row 57 cv x.cores :: blk b 33 [cv, hv, fv] :: L) ?_
 refine Ze6 ?_;intro ρ
 refine xq_ (blk b2 23 [vi (x.cores.length : Int), vi (x.home.length : Int)] :: row 57 cv x.cores :: blk b 33 [cv, hv, fv] :: L) ?_
 refine Gl ?_
 exact M9 () Try.isAgg23 Try.sizeOf23
theorem Adt {b : Nat} {cv hv fv : Value} {x : Chip} (hs : St (blk b 33 [cv, hv, fv] :: L) R w) (hcv : sl cv x.cores ∈ R) (hhv : sl hv x.home ∈ R) : Calls Try.prog 75 [bp b 0].toArray w (Bu (fun _ : Unit => .agg (Aq x).cells.toArray) (fun _ => blk b 33 [cv, hv, fv] :: L) (fun _ => R)) := by
 refine Ai Try.func75 rfl Try.ntmps75 rfl hs ?_
 clear hs
 refine Gm ?_
 refine al_ (cs := zConfig.cells) Try.zeroValue23 ?_; intro b2
 refine Gl ?_
 refine cq_ (blk b2 23 zConfig.cells :: blk b 33 [cv, hv, fv] :: L) ?_
 refine jd_ (fun ρ S => blk b2 23 (bif S 11 then [vi (x.cores.length : Int), vi (x.home.length : Int)] else zConfig.cells) :: blk b 33 [cv, hv, fv] :: L) ?_
 refine Ze6 ?_;intro ρ
 refine xq_ (blk b2 23 [vi (x.cores.length : Int), vi (x.home.length : Int)] :: blk b 33 [cv, hv, fv] :: L) ?_
 refine Gl ?_
 exact M9 () Try.isAgg23 Try.sizeOf23
theorem K8 {b : Nat} {cv hv fv vm : Value} {fs : Frames} {ms : List Msg} (hs : St (blk b 33 [cv, hv, fv] :: L) R w) (hfv : sl fv fs ∈ R) (hvm : sl vm ms ∈ R) (hmi : ∀ a ∈ ms, MsgIn a) : Calls Try.prog 43 [bp b 0, vm].toArray w (Bu (fun v : Value => .tuple #[]) (fun v => blk b 33 [cv, hv, v] :: L) (fun v => sl v (way fs ms) :: R)) := by
 have hlen := Bj hvm hs
 refine Ai Try.func43 rfl Try.ntmps43 rfl hs ?_
 clear hs
 refine ZU ?_
 refine Bl (γ := Nat × Value) (fun g => g.1 ≤ ms.length) (fun g => blk b 33 [cv, hv, g.2] :: L) (fun g => sl g.2 (way fs (ms.take g.1)) :: R) (fun g => [(0, bp b 0), (6, vm), (7, vi (ms.length : Int)), (8, vi (g.1 : Int))]) (fun g => ms.length - g.1) (0, fv) (Nat.zero_le _) alT (fun w hs => hs.sub .refl (fun f hf => by rcases List.mem_cons.1 hf with e | e; rw [e]; exact hfv; exact e)) ?_
 rintro ⟨k, gv⟩ hk
 try simp only at hk ⊢
 refine ZA ?_
 refine cdy ?_ ?_
 ·intro ht9
  refine Gl ?_
  refine JC.open0 (xs := ms) (v := vm) k mm (by omega) (fun hmw => ?_)
  have hkm : (ms.getD k zMsg) ∈ ms := by rw [List.getD_eq_getElem?_getD, List.getElem?_eq_getElem (by omega)]; exact List.getElem_mem _
  refine ZB ?_
  refine al_ (cs := zMsg.cells) Try.zeroValue49 ?_; intro b5
  refine s_B (cs := (ms.getD k zMsg).cells) Try.sizeOf49 ?_
  refine Gl ?_
  refine cq_ (blk b 33 [cv, hv, gv] :: blk b5 49 (ms.getD k zMsg).cells :: L) ?_
  refine jd_ (fun ρ S => blk b 33 (bif S 10 then [cv, hv, (Gh.dec (γ := Value) (ρ 7))] else [cv, hv, gv]) :: blk b5 49 (ms.getD k zMsg).cells :: L) ?_
  refine dn4 ?_
  refine I5 (v := gv) (fun ρ S hS hB hA => by have h10 : S 10 = false := hA 10 ⟨0, rfl⟩; simp only [h10, cond_false]; exact Da (hc := A9 pkk (by repeat (first | exact rfl | refine Dk rfl ?_))) Try.isAgg31) (fun _ _ _ _ _ => rfl) ?_
  refine dn1 ?_
  refine Cd (γ := Value) (val := fun v => v) (F := fun v => [sl v (Ce (ms.getD k zMsg))]) Try.call72 (fun _ => rfl) (fun ρ L R w hd hs => Aco hs (hmi _ hkm)) (fun _ _ _ _ _ => rfl) ?_
  refine Cd (γ := Value) (val := fun v => v) (F := fun v => [sl v (C3 (way fs (ms.take k)) (Ce (ms.getD k zMsg)))]) Try.call71 (fun _ => rfl) (fun ρ L R w hd hs => frz (Uy hs (hd.base mm) (hd.dep (it := ⟨6, _, _, _, _⟩) (by repeat (first | exact List.Mem.head _ | refine List.Mem.tail _ ?_)) ⟨9, rfl⟩ (List.Mem.head _)))) (fun ρ g S hS hA => by have u10 : upS S 7 10 = S 10 := rfl; have h10 : S 10 = false := hA 10 ⟨0, rfl⟩; simp only [u10, h10, cond_false]) ?_
  refine dn2 ?_
  refine Er (T0 := 33) (f := 2) (vs := fun ρ => [cv, hv, gv]) (v := fun ρ => (Gh.dec (γ := Value) (ρ 7))) (fun ρ => b) Try.sizeOf31 (fun _ => rfl) (fun _ => rfl) (fun ρ S R w L9 hB hd hs => isSlice.one (hs.fact (hd.dep (it := ⟨7, _, _, _, _⟩) (by repeat (first | exact List.Mem.head _ | refine List.Mem.tail _ ?_)) ⟨9, rfl⟩ (List.Mem.head _)))) (fun _ => rfl) (fun ρ g S hS hB hA => ?_) ?_
  ·have ui : upS S 10 10 = true := rfl; have r7 : Rho.set ρ 10 g 7 = ρ 7 := rfl
   simp only [ui, hS, r7, cond_true, cond_false]
   exact pex
  refine dnl ?_; intro ρ
  refine xq_ (blk b 33 [cv, hv, (Gh.dec (γ := Value) (ρ 7))] :: blk b5 49 (ms.getD k zMsg).cells :: L) ?_
  generalize (Gh.dec (γ := Value) (ρ 6)) = v18
  generalize (Gh.dec (γ := Value) (ρ 7)) = v19
  refine ZD ?_
  refine A6 (k + 1, v19) (by show k + 1 ≤ ms.length; omega) (by show ms.length - (k + 1) < ms.length - k; omega) alT (fun w hs => ?_)
  try simp only
  rw [Fk zMsg (by omega), Jt]; exact Ah hs
 ·intro ht9
  refine Gl ?_
  have hkl : k = ms.length := by omega
  refine Bs (.inl rfl) (fun B w hs => Ja rfl _ w) (fun w hs => ⟨gv, rfl, by rw [hkl, List.take_length] at hs; exact Ah hs⟩)
theorem Tu {c : Core} {i : Int} {l : Line} {w : Op} (h0 : 0 ≤ i) (h : i < (c.lines.length : Int)) : Ac (Ay c i l w) i = l := by
 unfold Ac Ay
 rw [List.getD_eq_getElem?_getD, List.getElem?_set_self (by omega)]; rfl
theorem Xd {c : Core} {i : Int} {l l' : Line} {w w' : Op} : Ay (Ay c i l w) i l' w' = Ay c i l' w' := by
 unfold Ay; rw [List.set_set]
theorem Aab {c : Core} {i : Int} {l : Line} {w : Op} : ((Ay c i l w).lines.length : Int) = c.lines.length := by unfold Ay; rw [List.length_set]
theorem core_twice {c : Core} {id home : Int} {m : Msg} : (Ae (Ae c id home m).1 id home m).1 = (Ae c id home m).1 ∧ (Ae (Ae c id home m).1 id home m).2.2 = [] := by
 by_cases o : m.line < 0 ∨ (c.lines.length : Int) ≤ m.line
 ·have h1 : Ae c id home m = (c, [], []) := by unfold Ae; rw [if_pos o]
  exact Zg3
 have hg : ∀ l w, ¬ (m.line < 0 ∨ ((Ay c m.line l w).lines.length : Int) ≤ m.line) := fun l w => by rw [Aab]; exact o
 have hla : ∀ l w, Ac (Ay c m.line l w) m.line = l := fun l w => Tu (by omega) (by omega)
 by_cases k4 : m.kind = 4
 ·have h1 : (Ae c id home m).1 = Ay c m.line (Cu (Ac c m.line) m.turn) c.wait := by unfold Ae; rw [if_neg o, if_pos k4]
  rw [h1]
  have h2 : Cu (Cu (Ac c m.line) m.turn) m.turn = Cu (Ac c m.line) m.turn := by
   generalize Ac c m.line = l
   by_cases a : l.seen < m.turn
   ·have hs : (Cu l m.turn).seen = m.turn := by unfold Cu; rw [if_pos a]; split <;> rfl
    generalize Cu l m.turn = z at hs
    unfold Cu; rw [if_neg (by omega)]
   ·have hs : Cu l m.turn = l := by unfold Cu; rw [if_neg a]
    rw [hs, hs]
  have h3 : Ae (Ay c m.line (Cu (Ac c m.line) m.turn) c.wait) id home m = (Ay c m.line (Cu (Ac c m.line) m.turn) c.wait, [Bm 8 id home m.line m.turn 0], []) := by
   unfold Ae; rw [if_neg (hg _ _), if_pos k4, hla, h2, Xd]; rfl
  rw [h3]; exact ⟨rfl, rfl⟩
 by_cases k5 : m.kind = 5 ∨ m.kind = 6
 ·by_cases f : Dt (Ac c m.line) m.turn
  ·have h1 : ∃ w, (Ae c id home m).1 = Ay c m.line (Cx (Ac c m.line) m.kind m.turn) w := ⟨_, by unfold Ae; rw [if_neg o, if_neg k4, if_pos k5, if_pos f]⟩
   obtain ⟨w, h1⟩ := h1
   rw [h1]
   have h2 : ¬ Dt (Cx (Ac c m.line) m.kind m.turn) m.turn := by
    have : (Cx (Ac c m.line) m.kind m.turn).seen = m.turn := by unfold Cx; split <;> (try split) <;> rfl
    unfold Dt; omega
   unfold Ae
   rw [if_neg (hg _ _), if_neg k4, if_pos k5, hla, if_neg h2]
   split <;> exact ⟨rfl, rfl⟩
  ·have h1 : (Ae c id home m).1 = c ∧ (Ae c id home m).2.2 = [] := by
    unfold Ae; rw [if_neg o, if_neg k4, if_pos k5, if_neg f]; split <;> exact ⟨rfl, rfl⟩
   rw [h1.1]; exact h1
 by_cases k7 : m.kind = 7
 ·by_cases s : (Ac c m.line).serial < m.serial
  ·have h1 : Ae c id home m = (c, [], []) := by unfold Ae; rw [if_neg o, if_neg k4, if_neg k5, if_pos k7, if_pos s]
   exact Zg3
  by_cases a : Gn (Ac c m.line) m
  ·have h1 : (Ae c id home m).1 = Ay c m.line (F4 (Ac c m.line) m c.wait) zOp := by unfold Ae; rw [if_neg o, if_neg k4, if_neg k5, if_pos k7, if_neg s, if_pos a]
   rw [h1]
   have h2 : ¬ Gn (F4 (Ac c m.line) m c.wait) m := by
    have : (F4 (Ac c m.line) m c.wait).want = 0 := rfl
    unfold Gn; omega
   have h3 : (F4 (Ac c m.line) m c.wait).serial = (Ac c m.line).serial := rfl
   unfold Ae
   rw [if_neg (hg _ _), if_neg k4, if_neg k5, if_pos k7, hla, if_neg (by omega), if_neg h2]
   exact ⟨rfl, rfl⟩
  ·have h1 : Ae c id home m = (c, [Bm 10 id home m.line m.turn 0], []) := by unfold Ae; rw [if_neg o, if_neg k4, if_neg k5, if_pos k7, if_neg s, if_neg a]
   exact Zg3
 by_cases k11 : m.kind = 11 ∧ (Ac c m.line).want = 3 ∧ m.serial = (Ac c m.line).serial
 ·have h1 : (Ae c id home m).1 = Ay c m.line { Ac c m.line with state := 0, value := 0, want := 0 } zOp := by unfold Ae; rw [if_neg o, if_neg k4, if_neg k5, if_neg k7, if_pos k11]
  rw [h1]
  unfold Ae
  rw [if_neg (hg _ _), if_neg k4, if_neg k5, if_neg k7, hla, if_neg (fun h => absurd (show (0 : Int) = 3 from h.2.1) (by decide))]
  exact ⟨rfl, rfl⟩
 ·have h1 : Ae c id home m = (c, [], []) := by unfold Ae; rw [if_neg o, if_neg k4, if_neg k5, if_neg k7, if_neg k11]
  exact Zg3
def SB (x : Chip) (N : Nat) : Prop := ∀ c ∈ x.cores, ∀ l ∈ c.lines, l.serial ≤ (N : Int)
theorem SB.mono {x : Chip} {N K : Nat} (h : SB x N) (hk : N ≤ K) : SB x K := fun c hc l hl => Int.le_trans (h c hc l hl) (by omega)
theorem SB.set {x : Chip} {N : Nat} {p : Nat} {c : Core} (h : SB x N) (hc : ∀ l ∈ c.lines, l.serial ≤ (N : Int)) {hm : List Entry} {fr : Frames} : SB ⟨x.cores.set p c, hm, fr⟩ N := by
 intro d hd l hl
 rcases List.mem_or_eq_of_mem_set hd with h1 | h1
 ·exact h d h1 l hl
 ·subst h1; exact hc l hl
theorem SB.line {c : Core} {N : Int} (h : ∀ l ∈ c.lines, l.serial ≤ N) (h0 : 0 ≤ N) (i : Int) : (Ac c i).serial ≤ N := by
 unfold Ac
 rw [List.getD_eq_getElem?_getD]
 cases e : c.lines[i.toNat]? with
 | none => exact h0
 | some l => exact h l (List.mem_of_getElem? e)
theorem SB.at {x : Chip} {N : Nat} (h : SB x N) (p : Int) : ∀ l ∈ (Ar x p).lines, l.serial ≤ (N : Int) := by
 unfold Ar
 rw [List.getD_eq_getElem?_getD]
 cases e : x.cores[p.toNat]? with
 | none => intro l hl; cases hl
 | some c => exact h c (List.mem_of_getElem? e)
theorem SB.wl {c : Core} {N K : Int} (h : ∀ l ∈ c.lines, l.serial ≤ N) (hk : N ≤ K) {i : Int} {l : Line} {w : Op} (hl : l.serial ≤ K) : ∀ l' ∈ (Ay c i l w).lines, l'.serial ≤ K := by
 intro l' h'
 rcases List.mem_or_eq_of_mem_set h' with h1 | h1
 ·exact Int.le_trans (h l' h1) hk
 ·subst h1; exact hl
theorem SB.hear {c : Core} {N : Nat} (h : ∀ l ∈ c.lines, l.serial ≤ (N : Int)) {id home : Int} {m : Msg} : ∀ l ∈ (Ae c id home m).1.lines, l.serial ≤ (N : Int) := by
 have h0 := SB.line h (by omega) m.line
 unfold Ae
 split
 ·exact h
 split
 ·refine SB.wl h (Int.le_refl _) ?_
  unfold Cu; split <;> (try split) <;> exact h0
 split
 ·split
  ·refine SB.wl h (Int.le_refl _) ?_
   unfold Cx; split <;> (try split) <;> exact h0
  split <;> exact h
 split
 ·split
  ·exact h
  split
  ·exact SB.wl h (Int.le_refl _) h0
  ·exact h
 split
 ·exact SB.wl h (Int.le_refl _) h0
 ·exact h
theorem SB.begin {c : Core} {N : Nat} (h : ∀ l ∈ c.lines, l.serial ≤ (N : Int)) {id home : Int} {o : Op} : ∀ l ∈ (Aj c id home o).1.lines, l.serial ≤ ((N + 1 : Nat) : Int) := by
 have h0 := SB.line h (by omega) o.line
 have h1 : (Ba (Ac c o.line) o).serial ≤ ((N + 1 : Nat) : Int) := by
  unfold Ba
  split <;> (try split) <;> (simp only; omega)
 unfold Aj
 split
 ·intro l hl; cases hl
 split
 ·intro l hl; cases hl
 split
 ·intro l hl; cases hl
 split
 ·exact SB.wl h (by omega) h1
 ·exact SB.wl h (by omega) h1
theorem SB.zero {N : Nat} : SB Dn N := fun c hc => by cases hc
theorem SB.step {x : Chip} {N : Nat} (h : SB x N) (s : Step) : SB (Ak x s).1 (N + 1) := by
 have hc : ∀ fr b, SB (Az ⟨x.cores, x.home, fr⟩ b).1 N := by
  intro fr b
  unfold Az
  split
  ·exact h
  split
  ·exact h
  ·exact SB.set h (SB.hear (SB.at h _))
 unfold Ak
 split
 ·split
  ·exact SB.zero
  split
  ·exact SB.zero
  ·exact SB.set (h.mono (by omega)) (SB.begin (SB.at h _))
 split
 ·split
  ·exact SB.zero
  ·exact (hc _ _).mono (by omega)
 split
 ·split
  ·exact SB.zero
  ·exact Zgj
 split
 ·split
  ·exact SB.zero
  ·exact Zgj
 split
 ·split
  ·exact SB.zero
  split
  ·exact SB.zero
  split
  ·exact SB.zero
  ·exact Zgj
 split
 ·split
  ·exact SB.zero
  split
  ·exact Zgj
  ·exact Zgj
 ·exact SB.zero
theorem SB.all : ∀ (l : List Step) {x : Chip} {N : Nat}, SB x N → SB (C0 x l).1 (N + l.length)
 | [], _, _, h => h
 | s :: r, x, N, h => by
  unfold C0
  split
  ·refine (SB.all r (SB.step h s)).mono ?_
   rw [List.length_cons]; omega
  ·exact (SB.all r h).mono (by rw [List.length_cons]; omega)
theorem SB.build (c : Config) (l : List Step) : SB (build c l).1 300 := by
 unfold Go.Proofs.Ytehpekiedfpnkaa.build
 split
 ·exact SB.zero
 ·rename_i hg
  have h0 : SB (A8 c).1 0 := by
   intro k hk l hl
   unfold A8 at hk
   split at hk
   ·cases hk
   ·have e := List.eq_of_mem_replicate hk
    subst e
    have e2 := List.eq_of_mem_replicate hl
    subst e2
    exact Int.le_refl _
  refine (SB.all (l.take 300) h0).mono ?_
  rw [List.length_take]; omega
def Oe (f : Nat → Bool) : Nat → Bool
 | 0 => true
 | k + 1 => Oe f k && f k
theorem allN_iff {f : Nat → Bool} : ∀ {k : Nat}, Oe f k = true ↔ ∀ i, i < k → f i = true
 | 0 => ⟨fun _ i hi => absurd hi (by omega), fun _ => rfl⟩
 | k + 1 => by
  simp only [Oe, Bool.and_eq_true, allN_iff (k := k)]
  refine ⟨fun h i hi => ?_, fun h => ⟨fun i hi => h i (by omega), h k (by omega)⟩⟩
  by_cases e : i = k
  ·rw [e]; exact h.2
  ·exact h.1 i (by omega)
theorem Uj {f : Nat → Bool} {k i : Nat} (hi : i < k) (h : f i = false) : Oe f k = false := by
 cases e : Oe f k with
 | false => rfl
 | true => rw [allN_iff.1 e i hi] at h; cases h
theorem Od {f : Nat → Bool} {k : Nat} (h : Oe f k = true) (h2 : f k = true) : Oe f (k + 1) = true := by simp only [Oe, h, h2, Bool.and_self]
structure CX (x : Chip) : Prop where
 n4 : x.cores.length ≤ 4
 h4 : x.home.length ≤ 4
 ln : ∀ p, p < x.cores.length → (cor x p).lines.length = x.home.length
 la : ∀ i, i < x.home.length → (ent x i).last.length = x.cores.length
 ow : ∀ i, i < x.home.length → (ent x i).phase = 1 → 0 ≤ (ent x i).owner ∧ (ent x i).owner < (x.cores.length : Int)
 sh : ∀ i, i < x.home.length → 0 ≤ (ent x i).sharers ∧ (ent x i).sharers < 16
def stN (x : Chip) (i p : Nat) : Int := (lin x i p).state
def ownB (x : Chip) (i p : Nat) : Bool := stN x i p == 2 || (stN x i p == 3 && decide ((ent x i).last.getD p 0 < (lin x i p).serial))
def valN (x : Chip) (i : Nat) : Nat → Option Int
 | 0 => none
 | k + 1 => match valN x i k with
  | some v => some v
  | none => if ownB x i k then some (lin x i k).value else none
def valE (x : Chip) (i : Nat) : Int := if (ent x i).phase = 1 ∧ (lin x i (ent x i).owner.toNat).gave = (ent x i).turn then (lin x i (ent x i).owner.toNat).given else (ent x i).value
def Adk (x : Chip) (i : Nat) : Int := (valN x i x.cores.length).getD (valE x i)
def stale (x : Chip) (i p : Nat) : Bool := stN x i p == 1 && (lin x i p).value != Adk x i
def sameAt (x : Chip) (i : Nat) : Bool := Oe (fun p => !stale x i p) x.cores.length
def Ka (x : Chip) (i : Nat) : Bool := (ent x i).phase == 0
def I2 (x : Chip) (p : Nat) : Bool := (cor x p).wait.kind == 0
def Gz (x : Chip) : Bool := Oe (Ka x) x.home.length && Oe (I2 x) x.cores.length
def G4 (x : Chip) : Bool := Oe (Ka x) x.home.length && (decide (x.frames.length = 0) && Oe (I2 x) x.cores.length)
theorem T7 (x : Chip) : G4 x = (decide (x.frames.length = 0) && Gz x) := by
 unfold G4 Gz
 cases Oe (Ka x) x.home.length <;> cases decide (x.frames.length = 0) <;> simp
section
open Abs
variable {n nl : Nat} {x : Chip} {M : List Int}
theorem Inv.cx (h : Inv n nl x M) : CX x := by
 have h1 := h.nc
 have h2 := h.nh
 have h3 := h.n1
 have h4 := h.l1
 refine ⟨by omega, by omega, fun p hp => ?_, fun i hi => ?_, fun i hi h0 => ?_, fun i hi => ?_⟩
 ·rw [h.ncl p (by omega), h2]
 ·rw [h.nla i (by omega), h1]
 ·have hg := h.gi i (by omega)
  have := hg.f1 h0
  have := hg.own
  simp only [ab] at *
  omega
 ·have hb := h.bit i (by omega)
  have := Mc h3.2 hb.1
  exact this
end
theorem Rk : ∀ {d : List Done} {M M' : List Int} {i : Int}, E7 M d M' → Gr M i d = (M', -1)
 | [], M, M', i, h => by rw [show M' = M from h]; rfl
 | d :: r, M, M', i, ⟨h1, h2, h3, h4, h5⟩ => by
  have e : Cg M d.op = (M.set d.op.line.toNat (A0 (M.getD d.op.line.toNat 0) d.op).1, (A0 (M.getD d.op.line.toNat 0) d.op).2, 0) := by
   unfold Cg; rw [if_neg (by omega), if_neg (by omega)]
  have e2 : (A0 (M.getD d.op.line.toNat 0) d.op).2 = d.value := by
   rw [h4]; split
   ·rename_i k; unfold A0; rw [if_neg (by omega), if_neg (by omega), if_neg (by omega)]
   ·rfl
  rw [Nh (by rw [e]; simp only; rw [e2]; simp), e]
  exact Rk h5
theorem do_err {x : Chip} {s : Step} (h : (Ak x s).2.2 ≠ 0) : (Ak x s).1 = Dn ∧ (Ak x s).2.1 = [] := by
 revert h; unfold Ak
 repeat' split
 all_goals (intro h; first | exact ⟨rfl, rfl⟩ | exact absurd rfl h)
theorem Aee (c : Core) (id home : Int) (o : Op) : (Aj c id home o).2.2.1.length ≤ 1 := by
 unfold Aj
 repeat' split
 all_goals simp
theorem Agw (c : Core) (id home : Int) (m : Msg) : (Ae c id home m).2.2.length ≤ 1 := by
 unfold Ae
 repeat' split
 all_goals simp
theorem Adu (x : Chip) (b : List UInt8) : (Az x b).2.length ≤ 1 := by
 unfold Az
 split
 ·simp
 split
 ·simp
 ·exact Agw ..
theorem do_dl (x : Chip) (s : Step) : (Ak x s).2.1.length ≤ 1 := by
 unfold Ak
 repeat' split
 all_goals first | exact Aee .. | exact Adu .. | simp
section
variable {n nl : Nat} {x : Chip} {M : List Int}
theorem Aiz (h : Inv n nl x M) {s : Step} (hok : (Ak x s).2.2 = 0) : (Ak x s).1.cores.length = x.cores.length ∧ (Ak x s).1.home.length = x.home.length ∧ (Ak x s).1.frames.length ≤ 40 ∧ (Ak x s).2.1.length ≤ 1 := by
 obtain ⟨M', h', _⟩ := Jk h hok
 exact ⟨by rw [h'.nc, h.nc], by rw [h'.nh, h.nh], h'.fr, do_dl x s⟩
end
theorem Sd {α : Type} : ∀ (l : List α) (i : Nat) (a : α), (l.set i a).eraseIdx i = l.eraseIdx i
 | [], _, _ => rfl
 | _ :: _, 0, _ => rfl
 | b :: l, i + 1, a => by simp [Sd l i a]
theorem Yb {l : Frames} {n : Int} {b : List UInt8} (h0 : 0 ≤ n) (h : n < (l.length : Int)) : Aw (l.set n.toNat b) n = b := by
 unfold Aw
 rw [List.getD_eq_getElem?_getD, List.getElem?_set_self (by omega)]; rfl
theorem S7 {x : Chip} {n bit : Int} (hr : ¬ By x n) (hp : (Af (Aq x) (Aw x.frames n)).2 = 0) (hok : (Ak x ⟨5, 0, n, bit, zOp⟩).2.2 = 0) :
  Ak (Ak x ⟨5, 0, n, bit, zOp⟩).1 ⟨2, 0, n, 0, zOp⟩ = (⟨x.cores, x.home, x.frames.eraseIdx n.toNat⟩, [], 0) ∧ Ak x ⟨3, 0, n, 0, zOp⟩ = (⟨x.cores, x.home, x.frames.eraseIdx n.toNat⟩, [], 0) := by
 have hr' : ¬ (n < 0 ∨ (x.frames.length : Int) ≤ n) := hr
 have hl : (Aw x.frames n).length = 12 := by
  refine Classical.byContradiction fun c => ?_
  have : Af (Aq x) (Aw x.frames n) = (zMsg, 2) := by unfold Af; rw [if_pos c]
  rw [this] at hp; exact absurd hp (by decide)
 have e1 : Ak x ⟨5, 0, n, bit, zOp⟩ = if (Br x.frames n bit).2 ≠ 0 then (Dn, [], (Br x.frames n bit).2) else (⟨x.cores, x.home, (Br x.frames n bit).1⟩, [], 0) := by
  unfold Ak
  rw [if_neg (by simp), if_neg (by simp), if_neg (by simp), if_neg (by simp), if_pos rfl, if_neg hr, if_neg (by simpa using hp)]
 have hs : ¬ (Br x.frames n bit).2 ≠ 0 := fun c => by
  rw [e1, if_pos c] at hok; exact c hok
 rw [e1, if_neg hs]
 have hb : ¬ (bit < 0 ∨ 8 * ((Aw x.frames n).length : Int) ≤ bit) := fun c => by
  apply hs; unfold Br; rw [if_neg hr', if_pos c]; decide
 have e2 : (Br x.frames n bit).1 = x.frames.set n.toNat (Bz (Aw x.frames n) bit) := by
  unfold Br; rw [if_neg hr', if_neg hb]
 rw [e2]
 refine ⟨?_, ?_⟩
 ·unfold Ak
  rw [if_neg (by simp), if_pos rfl, if_neg (by unfold By; simp only [List.length_set]; exact hr')]
  simp only
  rw [Yb (by omega) (by omega), Sd]
  unfold Az
  have hm : Af (Aq x) (Aw x.frames n) = ((Af (Aq x) (Aw x.frames n)).1, 0) := by rw [← hp]
  rw [Ov hm (by omega) (by omega)]
  rw [if_pos (by simp)]
 ·unfold Ak
  rw [if_neg (by simp), if_neg (by simp), if_pos rfl, if_neg hr]
theorem Xe : ∀ (ms : List Msg) (l : Frames) (i : Nat), i < l.length → (way l ms)[i]? = l[i]? ∧ l.length ≤ (way l ms).length
 | [], l, i, h => ⟨rfl, Nat.le_refl _⟩
 | m :: r, l, i, h => by
  have h1 : l.length ≤ (C3 l (Ce m)).length := by unfold C3; split <;> simp
  have h2 := Xe r (C3 l (Ce m)) i (by omega)
  refine ⟨?_, by simp only [way]; omega⟩
  simp only [way]
  rw [h2.1]; unfold C3; split
  ·rw [List.getElem?_append_left h]
  ·rfl
theorem Adv (x : Chip) (b : List UInt8) (fs gs : Frames) : (Az ⟨x.cores, x.home, fs⟩ b).1.cores = (Az ⟨x.cores, x.home, gs⟩ b).1.cores ∧ (Az ⟨x.cores, x.home, fs⟩ b).1.home = (Az ⟨x.cores, x.home, gs⟩ b).1.home ∧ (Az ⟨x.cores, x.home, fs⟩ b).2 = (Az ⟨x.cores, x.home, gs⟩ b).2 := by
 unfold Az Aq Bd Cy Ar
 simp only
 repeat' split
 all_goals exact ⟨rfl, rfl, rfl⟩
theorem Vk (x : Chip) (b : List UInt8) : (Az x b).1.frames = x.frames ∨ ∃ ms, (Az x b).1.frames = way x.frames ms := by
 unfold Az Cy
 repeat' split
 ·exact .inl rfl
 ·exact .inr ⟨_, rfl⟩
 ·exact .inr ⟨_, rfl⟩
theorem Adw {x : Chip} {b : List UInt8} {i : Nat} (h : i < x.frames.length) : (Az x b).1.frames[i]? = x.frames[i]? ∧ x.frames.length ≤ (Az x b).1.frames.length := by
 rcases Vk x b with e | ⟨ms, e⟩
 ·rw [e]; exact ⟨rfl, Nat.le_refl _⟩
 ·rw [e]; exact Xe ms _ _ h
section
variable {n nl : Nat} {x : Chip} {M : List Int}
theorem set_at {α : Type} (l : List α) (i : Nat) (a d : α) (h : i < l.length) : (l.set i a).getD i d = a := by
 rw [List.getD_eq_getElem?_getD, List.getElem?_set_self h]; rfl
theorem T6 (h : Inv n nl x M) (b : List UInt8) (fs gs : Frames) : (Az ⟨(Az ⟨x.cores, x.home, fs⟩ b).1.cores, (Az ⟨x.cores, x.home, fs⟩ b).1.home, gs⟩ b).1.cores = (Az ⟨x.cores, x.home, fs⟩ b).1.cores ∧
  (Az ⟨(Az ⟨x.cores, x.home, fs⟩ b).1.cores, (Az ⟨x.cores, x.home, fs⟩ b).1.home, gs⟩ b).1.home = (Az ⟨x.cores, x.home, fs⟩ b).1.home ∧ (Az ⟨(Az ⟨x.cores, x.home, fs⟩ b).1.cores, (Az ⟨x.cores, x.home, fs⟩ b).1.home, gs⟩ b).2 = [] := by
 have hc0 : ∀ cs es (fs : Frames), Aq ⟨cs, es, fs⟩ = ⟨(cs.length : Int), (es.length : Int)⟩ := fun _ _ _ => rfl
 have hn0 : ∀ cs es (fs : Frames), Bd ⟨cs, es, fs⟩ = (cs.length : Int) := fun _ _ _ => rfl
 by_cases hp : (Af (Aq x) b).2 ≠ 0
 ·have e1 : ∀ gs : Frames, Az ⟨x.cores, x.home, gs⟩ b = (⟨x.cores, x.home, gs⟩, []) := fun gs => by
   have hcf : Aq ⟨x.cores, x.home, gs⟩ = Aq x := rfl
   unfold Az; rw [hcf, if_pos hp]
  rw [e1 fs]; simp only; rw [e1 gs]; exact ⟨rfl, rfl, rfl⟩
 generalize hm : (Af (Aq x) b).1 = m at *
 by_cases hd : m.dst = Bd x
 ·have e1 : ∀ es (gs : Frames), es.length = x.home.length → Az ⟨x.cores, es, gs⟩ b = (⟨x.cores, (Al es (Bd x) m).1, way gs (Al es (Bd x) m).2⟩, []) := fun es gs he => by
   have hcf : Aq ⟨x.cores, es, gs⟩ = Aq x := by rw [hc0, he]; rfl
   have hnc : Bd ⟨x.cores, es, gs⟩ = Bd x := rfl
   unfold Az
   rw [hcf, hnc, hm, if_neg hp, if_pos hd]
  rw [e1 x.home fs rfl]; simp only
  rw [e1 _ gs (Ach _ _ _)]
  refine ⟨?_, ?_, ?_⟩ <;> first | trivial | exact Wd fun i hi => ⟨(h.ebs i hi).1, (h.ebs i hi).2.2.2.2⟩
 ·have hpar : Af (Aq x) b = (m, 0) := by
   rw [← hm]
   have : (Af (Aq x) b).2 = 0 := Classical.byContradiction hp
   rw [← this]
  have hdn : 0 ≤ m.dst ∧ m.dst < (x.cores.length : Int) := by
   have hw := (Gs hpar).2.2.2.2.1
   have hc2 : (Aq x).cores = (x.cores.length : Int) := rfl
   have hd' : ¬ m.dst = (x.cores.length : Int) := hd
   have := Gp hw
   omega
  have e1 : ∀ cs (gs : Frames), cs.length = x.cores.length → Az ⟨cs, x.home, gs⟩ b = (Cy ⟨cs, x.home, gs⟩ m.dst (Ae (cs.getD m.dst.toNat E8) m.dst (Bd x) m).1 (Ae (cs.getD m.dst.toNat E8) m.dst (Bd x) m).2.1, (Ae (cs.getD m.dst.toNat E8) m.dst (Bd x) m).2.2) := fun cs gs he => by
   have hcf : Aq ⟨cs, x.home, gs⟩ = Aq x := by rw [hc0, he]; rfl
   have hnc : Bd ⟨cs, x.home, gs⟩ = Bd x := by rw [hn0, he]; rfl
   unfold Az
   rw [hcf, hnc, hm, if_neg hp, if_neg hd]; rfl
  rw [e1 x.cores fs rfl]; simp only [Cy]
  rw [e1 _ gs (by rw [List.length_set])]
  simp only [Cy]
  rw [set_at _ _ _ _ (show m.dst.toNat < x.cores.length by omega), core_twice.1, core_twice.2, List.set_set]
  refine ⟨?_, ?_, ?_⟩ <;> trivial
theorem Se {α : Type} : ∀ (l : List α) (i : Nat) (b : α), i < l.length → (l ++ [b]).eraseIdx i = l.eraseIdx i ++ [b]
 | [], _, _, h => absurd h (by simp)
 | a :: l, 0, b, _ => rfl
 | a :: l, i + 1, b, h => by
  simp only [List.cons_append, List.eraseIdx_cons_succ]
  rw [Se l i b (by simpa using h)]
def Rq (x : Chip) (k : Int) : Chip × List Done × Int := Ak x ⟨2, 0, k, 0, zOp⟩
def Z3 (x : Chip) (k : Int) : Chip × List Done × Int := Ak x ⟨4, 0, k, 0, zOp⟩
theorem Tn {x : Chip} {k : Int} (hr : ¬ By x k) : Rq x k = ((Az ⟨x.cores, x.home, x.frames.eraseIdx k.toNat⟩ (Aw x.frames k)).1, (Az ⟨x.cores, x.home, x.frames.eraseIdx k.toNat⟩ (Aw x.frames k)).2, 0) := by
 unfold Rq Ak
 rw [if_neg (by simp), if_pos rfl, if_neg hr]
theorem Vu (h : Inv n nl x M) {k : Int} (hr : ¬ By x k) (hf : x.frames.length < 40) : (Rq x k).2.2 = 0 ∧ (Z3 x k).2.2 = 0 ∧ (Rq (Z3 x k).1 k).2.2 = 0 ∧ (Rq (Rq (Z3 x k).1 k).1 ((x.frames.length : Int) - 1)).2.2 = 0 ∧
  (Rq (Z3 x k).1 k).2.1 = (Rq x k).2.1 ∧ (Rq (Rq (Z3 x k).1 k).1 ((x.frames.length : Int) - 1)).2.1 = [] ∧
  (Rq (Rq (Z3 x k).1 k).1 ((x.frames.length : Int) - 1)).1.cores = (Rq x k).1.cores ∧ (Rq (Rq (Z3 x k).1 k).1 ((x.frames.length : Int) - 1)).1.home = (Rq x k).1.home := by
 have hr' : 0 ≤ k ∧ k < (x.frames.length : Int) := by
  have : ¬ (k < 0 ∨ (x.frames.length : Int) ≤ k) := hr
  omega
 obtain ⟨b, hb⟩ : ∃ b, Aw x.frames k = b := ⟨_, rfl⟩
 have et : Z3 x k = (⟨x.cores, x.home, x.frames ++ [b]⟩, [], 0) := by
  unfold Z3 Ak
  rw [if_neg (by simp), if_neg (by simp), if_neg (by simp), if_pos rfl, if_neg hr]
  simp only
  rw [hb]; unfold C3; rw [if_pos hf]
 have hr2 : ¬ By ⟨x.cores, x.home, x.frames ++ [b]⟩ k := by unfold By; simp; omega
 have hb2 : Aw (x.frames ++ [b]) k = b := by
  rw [← hb]; unfold Aw
  rw [List.getD_eq_getElem?_getD, List.getD_eq_getElem?_getD, List.getElem?_append_left (by omega)]
 have e2 := Tn hr2
 simp only at e2
 rw [hb2, Se _ _ _ (by omega)] at e2
 have e1 := Tn hr
 rw [hb] at e1
 rw [et]; simp only
 rw [e2, e1]; simp only
 have hel : (x.frames.eraseIdx k.toNat).length = x.frames.length - 1 := by rw [List.length_eraseIdx, if_pos (by omega)]
 have hat := Adw (x := ⟨x.cores, x.home, x.frames.eraseIdx k.toNat ++ [b]⟩) (b := b) (i := x.frames.length - 1) (by simp; omega)
 simp only at hat
 rw [List.getElem?_append_right (by omega), show x.frames.length - 1 - (x.frames.eraseIdx k.toNat).length = 0 by omega] at hat
 have hr3 : ¬ By (Az ⟨x.cores, x.home, x.frames.eraseIdx k.toNat ++ [b]⟩ b).1 ((x.frames.length : Int) - 1) := by
  unfold By
  have := hat.2
  simp at this
  omega
 have hb3 : Aw (Az ⟨x.cores, x.home, x.frames.eraseIdx k.toNat ++ [b]⟩ b).1.frames ((x.frames.length : Int) - 1) = b := by
  unfold Aw
  rw [List.getD_eq_getElem?_getD, show ((x.frames.length : Int) - 1).toNat = x.frames.length - 1 by omega, hat.1]; rfl
 have e3 := Tn hr3
 rw [hb3] at e3
 rw [e3]; simp only
 obtain ⟨c1, c2, c3⟩ := Adv x b (x.frames.eraseIdx k.toNat ++ [b]) (x.frames.eraseIdx k.toNat)
 obtain ⟨d1, d2, d3⟩ := T6 h b (x.frames.eraseIdx k.toNat ++ [b]) ((Az ⟨x.cores, x.home, x.frames.eraseIdx k.toNat ++ [b]⟩ b).1.frames.eraseIdx ((x.frames.length : Int) - 1).toNat)
 exact ⟨trivial, trivial, trivial, trivial, c3, d3, by rw [d1, c1], by rw [d2, c2]⟩
end
theorem Zd {v u : Value} {cs : List Core} {i : Nat} (c : Core) (hu : sl u c.lines ∈ R) (hw : c.wait.wf) (hs : St (foc 57 v cs i (Core.cells u c) :: L) R w) : St (row 57 v (cs.set i c) :: L) R w := hs.unfocus (fun j hj => ⟨u, rfl, hj _ hu, hw⟩)
theorem Sn {v u : Value} {cs : List Core} {i : Nat} (hu : sl u (cs.getD i E8).lines ∈ R) (hw : (cs.getD i E8).wait.wf) (hs : St (foc 57 v cs i (Core.cells u (cs.getD i E8)) :: L) R w) : St (row 57 v cs :: L) R w := by
 have h := Zd _ hu hw hs
 rwa [Ks] at h
theorem Mx {id : Int} : ∀ (l : List Entry) (i : Int), (∀ k, k < l.length → ∀ a ∈ Gb (l.getD k A7) (i + (k : Int)) id, MsgIn a) → ∀ a ∈ De id i l, MsgIn a
 | [], i, h, a, ha => by cases ha
 | e :: r, i, h, a, ha => by
  simp only [De, List.mem_append] at ha
  rcases ha with ha | ha
  ·exact h 0 (by simp) a (by simpa using ha)
  ·refine Mx r (i + 1) (fun k hk a ha => h (k + 1) (by simpa using hk) a ?_) a ha
   rw [show i + ((k + 1 : Nat) : Int) = i + 1 + (k : Int) by omega]; exact ha
def Ma (x : Chip) (node : Int) : Int := if node < 0 ∨ Bd x < node then 5 else 0
def F0 (x : Chip) (node : Int) : Frames := if node < 0 ∨ Bd x < node then x.frames else if node = Bd x then way x.frames (Hn x.home node) else way x.frames (D6 (Ar x node) node (Bd x))
def Mb (x : Chip) (s : Step) : Frames × Int := if By x s.n then ([], 5) else if (Af (Aq x) (Aw x.frames s.n)).2 ≠ 0 then ([], 6) else Br x.frames s.n s.bit
theorem W6 {b : Nat} {cv hv fv : Value} {x : Chip} {node : Int} {n nl : Nat} {M : List Int} (hs : St (row 57 cv x.cores :: blk b 33 [cv, hv, fv] :: L) R w) (hhv : sl hv x.home ∈ R) (hfv : sl fv x.frames ∈ R) (h : Inv n nl x M) : Calls Try.prog 48 [bp b 0, vi node].toArray w (Bu (fun v : Value => vi (Ma x node)) (fun v => row 57 cv x.cores :: blk b 33 [cv, hv, v] :: L) (fun v => sl v (F0 x node) :: R)) := by
 have hnc := h.nc
 have hnh := h.nh
 have hn1 := h.n1
 have hn2 := h.l1
 refine Ai Try.func48 rfl Try.ntmps48 rfl hs ?_
 clear hs
 refine ZA ?_
 rcases (show (node < 0) ∨ (0 ≤ node ∧ (x.cores.length : Int) < node) ∨ (0 ≤ node ∧ node ≤ (x.cores.length : Int)) from by omega) with hc | hc | hc
 ·refine ZC ?_
  refine D2 ?_
  refine Gd10 ?_
  exact ZfX
 ·refine ZC ?_
  refine Bh ?_
  refine ZaN ?_
  refine G3 ?_
  refine Gd2 ?_
  exact ZfX
 ·refine ZC ?_
  refine Bh ?_
  refine ZaN ?_
  refine Ei ?_
  refine Gd2 ?_
  refine Ga8 ?_
  refine cdy ?_ ?_
  ·intro ht33
   refine Zam ?_
   refine Am Try.call79 rfl (fun w hs => We (l := x.home) (id := node) hs mm (fun i hi => (h.ebs i hi).1) (by omega) (by unfold Ap; omega)) ?_; intro vt
   refine Am Try.call43 rfl (fun w hs => K8 (cv := cv) (hv := hv) (fv := fv) (fs := x.frames) (ms := Hn x.home node) (Ah (L' := blk b 33 [cv, hv, fv] :: row 57 cv x.cores :: L) hs) mm mm (Mx _ 0 (fun k hk a ha => h.says_in k hk a (by rw [Int.zero_add] at ha; rw [← hnc, ← ht33]; exact ha)))) ?_; intro vs
   refine ZA ?_
   have er : Ma x node = 0 ∧ F0 x node = way x.frames (Hn x.home node) := by unfold Ma F0 Bd; rw [if_neg (by omega), if_neg (by omega), if_pos ht33]; exact ⟨rfl, rfl⟩
   rw [er.1, er.2]
   exact Bg vs
  ·intro ht33
   refine JC.focus1 (T := 57) (v := cv) (xs := x.cores) node.toNat pkk (by omega) (fun hwt u => ?_)
   have hkb : KB (Ar x node) := h.kb (p := node.toNat) (by omega)
   have hlb := h.lbs (p := node) (by omega)
   refine Zav ?_
   refine dj ?_
   refine dc (fun _ _ => Jg (v := cv) (i := node) Q0 (hl := D4 (α := Core) (xs := x.cores) pkk)) ?_
   refine djc (fun _ _ => Z4 (cs := Core.cells u (Ar x node)) Try.isAgg57 Try.sizeOf57) ?_
   refine dn5 ?_
   refine djc (fun _ _ => Ri Try.underlying29 rfl (D4 (α := Core) (xs := x.cores) pkk)) ?_
   refine dj ?_
   refine I3 (γ := Value) (val := fun v => v) (F := fun v => [sl v (D6 (Ar x node) node (x.cores.length : Int))]) (C := fun _ => []) Try.call80 (fun _ => rfl) (fun _ _ _ _ => rfl) (fun ρ L R w hd hs => Wz (c := (Ar x node)) (id := node) (home := (x.cores.length : Int)) (u := u) hs (hd.base mm) (by have := hkb.n; omega) (by unfold Ap; omega) (by unfold Ap; omega)) ?_
   refine dtl ?_; intro ρ
   have hkn := hkb.n
   generalize (Gh.dec (γ := Value) (ρ 14)) = vt
   refine Am Try.call43 rfl (fun w hs => K8 (cv := cv) (hv := hv) (fv := fv) (fs := x.frames) (ms := (D6 (Ar x node) node (x.cores.length : Int))) (Ah (L' := blk b 33 [cv, hv, fv] :: foc 57 cv x.cores node.toNat (Core.cells u (Ar x node)) :: L) hs) mm mm (Pk (by omega) (by omega) _ 0 (by omega) (by omega) (U7 (d := zLine) hlb))) ?_; intro vs
   refine Gl ?_
   refine kp [4] ?_
   refine ZX ?_
   have er : Ma x node = 0 ∧ F0 x node = way x.frames (D6 (Ar x node) node (x.cores.length : Int)) := by unfold Ma F0 Bd; rw [if_neg (by omega), if_neg (by omega), if_neg ht33]; exact ⟨rfl, rfl⟩
   rw [er.1, er.2]
   exact Bg vs (hs := fun w hs => Ah (Sn mm hwt (hs.pick pkk)))
theorem W7 {b : Nat} {cv hv fv : Value} {x : Chip} {s : Step} (hs : St (blk b 33 [cv, hv, fv] :: L) R w) (hcv : sl cv x.cores ∈ R) (hhv : sl hv x.home ∈ R) (hfv : sl fv x.frames ∈ R) (hsn : s.wf) : Calls Try.prog 47 [bp b 0, .agg s.cells.toArray].toArray w (Bu (fun v : Value => .tuple #[v, vi (Mb x s).2]) (fun v => blk b 33 [cv, hv, fv] :: L) (fun v => sl v (Mb x s).1 :: R)) := by
 refine Ai Try.func47 rfl Try.ntmps47 rfl hs ?_
 clear hs
 refine Zah ?_;intro b3
 refine Ga2 ?_
 rcases (show (By x s.n) ∨ (¬ By x s.n) from by exact Decidable.em _) with hc | hc
 ·refine Zdv ?_;intro hnt
  refine Ze4 ?_
  refine Cd (γ := Value × Value) (val := fun v => .tuple #[v.1, v.2, vi 5]) (F := fun v => [sl v.1 ([] : Frames), sl v.2 ([] : List UInt8)]) Try.call44 (fun _ => rfl) (fun ρ L R w hd hs => by have h := Jx (l := x.frames) (n := s.n) hs (hd.base mm) hsn.2.2.1; rw [hnt] at h; exact frz h) (fun _ _ _ _ _ => rfl) ?_
  refine e_p (v := fun ρ => .tuple #[(Gh.dec (γ := Value × Value) (ρ 6)).1, (Gh.dec (γ := Value × Value) (ρ 6)).2, vi 5]) (fun _ _ => Qw) (Ind.gh (h := fun g => (.tuple #[(Gh.dec (γ := Value × Value) g).1, (Gh.dec (γ := Value × Value) g).2, vi 5] : Value)) 6 0 rfl) (fun _ _ _ _ _ => rfl) ?_
  refine ZcU ?_
  refine Kd (v := vi 5) (fun _ _ => q_x) (fun _ _ _ _ _ => rfl) ?_
  refine ZcV ?_
  refine Kd (v := vi 5) (fun _ _ => D1) (fun _ _ _ _ _ => rfl) ?_
  refine dnl ?_; intro ρ
  refine xq_ (blk b3 28 s.cells :: blk b 33 [cv, hv, fv] :: L) ?_
  generalize (Gh.dec (γ := Value × Value) (ρ 6)) = vq
  refine ZL ?_
  refine ob (Ao rfl rfl (Gk (by decide))) ?_
  refine Glc ?_
  refine JC.slNil (List UInt8) ?_
  refine Za7 ?_
  have er : Mb x s = ([], 5) := by unfold Mb; rw [if_pos hc]
  rw [er]
  exact Cn (.slice none 0 0)
 ·refine Zdl ?_;intro hnt
  refine Ze4 ?_
  refine Cd (γ := Value × Value) (val := fun v => .tuple #[v.1, v.2, vi 0]) (F := fun v => [sl v.1 (x.frames.eraseIdx s.n.toNat), sl v.2 (Aw x.frames s.n)]) Try.call44 (fun _ => rfl) (fun ρ L R w hd hs => by have h := Jx (l := x.frames) (n := s.n) hs (hd.base mm) hsn.2.2.1; rw [hnt] at h; exact frz h) (fun _ _ _ _ _ => rfl) ?_
  refine e_p (v := fun ρ => .tuple #[(Gh.dec (γ := Value × Value) (ρ 6)).1, (Gh.dec (γ := Value × Value) (ρ 6)).2, vi 0]) (fun _ _ => Qw) (Ind.gh (h := fun g => (.tuple #[(Gh.dec (γ := Value × Value) g).1, (Gh.dec (γ := Value × Value) g).2, vi 0] : Value)) 6 0 rfl) (fun _ _ _ _ _ => rfl) ?_
  refine ZcU ?_
  refine Kd (v := vi 0) (fun _ _ => q_x) (fun _ _ _ _ _ => rfl) ?_
  refine ZcV ?_
  refine Kd (v := vi 0) (fun _ _ => D1) (fun _ _ _ _ _ => rfl) ?_
  refine dnl ?_; intro ρ
  refine xq_ (blk b3 28 s.cells :: blk b 33 [cv, hv, fv] :: L) ?_
  generalize (Gh.dec (γ := Value × Value) (ρ 6)) = vq
  refine ZL ?_
  refine ob (Ao rfl rfl (Cv rfl)) ?_
  refine ZaQ ?_
  refine Am Try.call75 rfl (fun w hs => Adt (x := x) (cv := cv) (hv := hv) (fv := fv) (Ah (L' := blk b 33 [cv, hv, fv] :: blk b3 28 s.cells :: L) hs) mm mm) ?_; intro _
  refine rn1 ?_
  refine Am Try.call74 rfl (fun w hs => U8 (c := Aq x) (b := Aw x.frames s.n) hs mm) ?_; intro _
  refine rn3 ?_
  refine al_ (cs := zMsg.cells) Try.zeroValue49 ?_; intro b9
  refine Zdz ?_
  refine cdy ?_ ?_
  ·intro ht33
   refine Gl ?_
   refine JC.slNil (List UInt8) ?_
   refine kp [0, 3, 4, 5] ?_
   refine ZR ?_
   have er : Mb x s = ([], 6) := by unfold Mb; rw [if_neg hc, if_pos ht33]
   rw [er]
   exact Cn (.slice none 0 0)
  ·intro ht33
   refine Gl ?_
   refine kp [0, 3, 4, 5, 34, 35, 36, 37, 38, 39, 40, 41, 42, 43, 44] ?_
   refine cq_ (blk b9 49 (Af (Aq x) (Aw x.frames s.n)).1.cells :: blk b3 28 s.cells :: blk b 33 [cv, hv, fv] :: L) ?_
   refine jd_ (fun ρ S => blk b9 49 (Af (Aq x) (Aw x.frames s.n)).1.cells :: blk b3 28 s.cells :: blk b 33 [cv, hv, fv] :: L) ?_
   refine dn8 ?_
   refine Cd (γ := Value) (val := fun v => .tuple #[v, vi (Br x.frames s.n s.bit).2]) (F := fun v => [sl v (Br x.frames s.n s.bit).1]) Try.call78 (fun _ => rfl) (fun ρ L R w hd hs => frz (X9 (l := x.frames) (n := s.n) (bit := s.bit) hs (hd.base mm) hsn.2.2.1 hsn.2.2.2.1)) (fun _ _ _ _ _ => rfl) ?_
   refine e_p (v := fun ρ => (Gh.dec (γ := Value) (ρ 8))) (fun _ _ => q_x) (Ind.gh (h := fun g => ((Gh.dec (γ := Value) g) : Value)) 8 0 rfl) (fun _ _ _ _ _ => rfl) ?_
   refine Kd (v := vi (Br x.frames s.n s.bit).2) (fun _ _ => q_x) (fun _ _ _ _ _ => rfl) ?_
   refine epg 8 0 ?_
   refine Kd (v := vi (Br x.frames s.n s.bit).2) (fun _ _ => D1) (fun _ _ _ _ _ => rfl) ?_
   refine dnl ?_; intro ρ
   refine xq_ (blk b9 49 (Af (Aq x) (Aw x.frames s.n)).1.cells :: blk b3 28 s.cells :: blk b 33 [cv, hv, fv] :: L) ?_
   generalize (Gh.dec (γ := Value) (ρ 8)) = vz
   refine Gl ?_
   have er : Mb x s = (Br x.frames s.n s.bit) := by unfold Mb; rw [if_neg hc, if_neg ht33]
   rw [er]
   exact Cn vz
theorem fs_A {a b p : Fact} {R : List Fact} (ha : a ∈ R) (hb : b ∈ R) : ∀ f ∈ a :: b :: p :: R, f ∈ p :: R := fun f hf => by
 simp only [List.mem_cons] at hf ⊢
 rcases hf with e | e | e | e
 ·rw [e]; exact .inr ha
 ·rw [e]; exact .inr hb
 ·exact .inl e
 ·exact .inr e
theorem fs_B {a p q : Fact} {R : List Fact} (ha : a ∈ R) : ∀ f ∈ a :: p :: q :: R, f ∈ p :: q :: R := fun f hf => by
 simp only [List.mem_cons] at hf ⊢
 rcases hf with e | e | e | e
 ·rw [e]; exact .inr (.inr ha)
 ·exact .inl e
 ·exact .inr (.inl e)
 ·exact .inr (.inr e)
theorem Zp {b : Nat} {cv hv fv : Value} {x : Chip} {vb : Value} {bt : List UInt8} {n nl : Nat} {M : List Int} (hs : St (row 57 cv x.cores :: blk b 33 [cv, hv, fv] :: L) R w) (hhv : sl hv x.home ∈ R) (hfv : sl fv x.frames ∈ R) (hvb : sl vb bt ∈ R) (h : Inv n nl x M) : Calls Try.prog 45 [bp b 0, vb].toArray w (Bu (fun g : Value × Value × Value => g.2.2) (fun g => row 57 cv (Az x bt).1.cores :: blk b 33 [cv, g.1, g.2.1] :: L) (fun g => sl g.1 (Az x bt).1.home :: sl g.2.1 (Az x bt).1.frames :: sl g.2.2 (Az x bt).2 :: R)) := by
 have hnc := h.nc
 have hnh := h.nh
 have hn1 := h.n1
 have hn2 := h.l1
 have honec : cv.oneCell' = true := Cm .hd hs
 have honeh : hv.oneCell' = true := isSlice.one (hs.fact hhv)
 have honef : fv.oneCell' = true := isSlice.one (hs.fact hfv)
 have hn64 : Ap (x.cores.length : Int) := by unfold Ap; omega
 refine Ai Try.func45 rfl Try.ntmps45 rfl hs ?_
 clear hs
 refine ZaS ?_
 refine Am Try.call75 rfl (fun w hs => Ajk (x := x) (cv := cv) (hv := hv) (fv := fv) hs mm) ?_; intro _
 refine rn1 ?_
 refine Am Try.call74 rfl (fun w hs => U8 (c := Aq x) (b := bt) hs mm) ?_; intro _
 refine rn3 ?_
 refine al_ (cs := zMsg.cells) Try.zeroValue49 ?_; intro b5
 refine s_B (cs := (Af (Aq x) bt).1.cells) Try.sizeOf49 ?_
 refine ZF ?_
 refine cdy ?_ ?_
 ·intro ht21
  refine Gl ?_
  refine ZN ?_
  refine ZX ?_
  have er : Az x bt = (x, []) := by unfold Az; rw [if_pos ht21]
  rw [er]
  exact Bg (hv, fv, .slice none 0 0) (hs := fun w hs => (Ah hs : St _ (sl (.slice none 0 0) ([] : List Done) :: R) w).sub .refl (fs_A hhv hfv))
 ·intro ht21
  refine Gl ?_
  have hp0 : (Af (Aq x) bt).2 = 0 := Decidable.not_not.1 ht21
  have hpk := Gs (c := Aq x) (b := bt) (m := (Af (Aq x) bt).1) (by rw [← hp0])
  have hwk := Gp hpk.2.2.2.2.1
  have hpw : (Af (Aq x) bt).1.wf := by rw [hpk.2.2.2.2.2]; exact P0 _
  have ecn : (Aq x).cores = (x.cores.length : Int) := rfl
  rw [ecn] at hwk
  refine Aa ?_
  refine Gb6 ?_
  refine Ga4 ?_
  refine cdy ?_ ?_
  ·intro ht30
   refine Gl ?_
   refine cq_ (blk b5 49 (Af (Aq x) bt).1.cells :: row 57 cv x.cores :: blk b 33 [cv, hv, fv] :: L) ?_
   refine jd_ (fun ρ S => blk b5 49 (Af (Aq x) bt).1.cells :: row 57 cv x.cores :: blk b 33 [cv, hv, fv] :: L) ?_
   refine dn6 ?_
   refine Cd (γ := Value × Value) (val := fun v => .tuple #[v.1, v.2]) (F := fun v => [sl v.1 (Al x.home (x.cores.length : Int) (Af (Aq x) bt).1).1, sl v.2 (Al x.home (x.cores.length : Int) (Af (Aq x) bt).1).2]) Try.call76 (fun _ => rfl) (fun ρ L R w hd hs => R4 (l := x.home) (id := (x.cores.length : Int)) (m := (Af (Aq x) bt).1) hs (hd.base mm) (fun i hi => (h.ebs i hi).1) (fun i hi => (h.ebs i hi).2.2.2.2) hpw hn64) (fun _ _ _ _ _ => rfl) ?_
   refine e_p (v := fun ρ => .tuple #[(Gh.dec (γ := Value × Value) (ρ 6)).1, (Gh.dec (γ := Value × Value) (ρ 6)).2]) (fun _ _ => Qw) (Ind.gh (h := fun g => (.tuple #[(Gh.dec (γ := Value × Value) g).1, (Gh.dec (γ := Value × Value) g).2] : Value)) 6 0 rfl) (fun _ _ _ _ _ => rfl) ?_
   refine ZcU ?_
   refine ZcV ?_
   refine dnl ?_; intro ρ
   refine xq_ (blk b5 49 (Af (Aq x) bt).1.cells :: row 57 cv x.cores :: blk b 33 [cv, hv, fv] :: L) ?_
   generalize (Gh.dec (γ := Value × Value) (ρ 6)) = vh
   refine Gl ?_
   refine JC.know (p := vh.1.oneCell' = true) (fun w hs => isSlice.one (hs.fact (mm (f := sl vh.1 (Al x.home (x.cores.length : Int) (Af (Aq x) bt).1).1)))) (fun honeh1 => ?_)
   refine kp [0, 4, 5, 7, 8, 9, 41, 42, 43, 44] ?_
   refine ZE ?_
   refine sc ?_
   refine ZI ?_
   refine Am Try.call43 rfl (fun w hs => K8 (cv := cv) (hv := vh.1) (fv := fv) (fs := x.frames) (ms := (Al x.home (x.cores.length : Int) (Af (Aq x) bt).1).2) (Ah (L' := blk b 33 [cv, vh.1, fv] :: row 57 cv x.cores :: L) hs) mm mm (Nt (by omega) (by omega) h.ebs hwk.2.2.2.1 hwk.2.2.2.2.2.1)) ?_; intro vs
   refine Gl ?_
   refine ZN ?_
   refine ZX ?_
   have er : Az x bt = (⟨x.cores, (Al x.home (x.cores.length : Int) (Af (Aq x) bt).1).1, way x.frames (Al x.home (x.cores.length : Int) (Af (Aq x) bt).1).2⟩, []) := by unfold Az Bd; rw [if_neg ht21, if_pos ht30]
   rw [er]
   exact Bg (vh.1, vs, .slice none 0 0)
  ·intro ht30
   refine Gl ?_
   refine JC.focus1 (T := 57) (v := cv) (xs := x.cores) (Af (Aq x) bt).1.dst.toNat pkk (by omega) (fun hwt u => ?_)
   have hkb : KB (Ar x (Af (Aq x) bt).1.dst) := h.kb (p := (Af (Aq x) bt).1.dst.toNat) (by omega)
   have hlb := h.lbs (p := (Af (Aq x) bt).1.dst) (by omega)
   have hk4 := hkb.n
   have hpd64 : Ap (Af (Aq x) bt).1.dst := by unfold Ap; omega
   refine cq_ (foc 57 cv x.cores (Af (Aq x) bt).1.dst.toNat (Core.cells u (Ar x (Af (Aq x) bt).1.dst)) :: blk b5 49 (Af (Aq x) bt).1.cells :: blk b 33 [cv, hv, fv] :: L) ?_
   refine jd_ (fun ρ S => foc 57 cv x.cores (Af (Aq x) bt).1.dst.toNat (Core.cells u (Ar x (Af (Aq x) bt).1.dst)) :: blk b5 49 (Af (Aq x) bt).1.cells :: blk b 33 [cv, hv, fv] :: ((bif S 17 then [blk (Gh.dec (γ := Nat) (ρ 17)) 57 (bif S 18 then [(Gh.dec (γ := Value × Value × Value) (ρ 12)).1, vi (Ae (Ar x (Af (Aq x) bt).1.dst) (Af (Aq x) bt).1.dst (x.cores.length : Int) (Af (Aq x) bt).1).1.wait.kind, vi (Ae (Ar x (Af (Aq x) bt).1.dst) (Af (Aq x) bt).1.dst (x.cores.length : Int) (Af (Aq x) bt).1).1.wait.line, vi (Ae (Ar x (Af (Aq x) bt).1.dst) (Af (Aq x) bt).1.dst (x.cores.length : Int) (Af (Aq x) bt).1).1.wait.value] else [.slice none 0 0, vi 0, vi 0, vi 0])] else []) ++ (L))) ?_
   refine dn6 ?_
   refine epc (fun _ _ => Jg (v := cv) (i := (Af (Aq x) bt).1.dst) Q0 (hl := D4 (α := Core) (xs := x.cores) pkk)) ?_
   refine epc (fun _ _ => Z4 (cs := Core.cells u (Ar x (Af (Aq x) bt).1.dst)) Try.isAgg57 Try.sizeOf57) ?_
   refine dn4 ?_
   refine Cd (γ := Value × Value × Value) (val := fun v => .tuple #[.agg (Core.cells v.1 (Ae (Ar x (Af (Aq x) bt).1.dst) (Af (Aq x) bt).1.dst (x.cores.length : Int) (Af (Aq x) bt).1).1).toArray, v.2.1, v.2.2]) (F := fun v => [sl v.1 (Ae (Ar x (Af (Aq x) bt).1.dst) (Af (Aq x) bt).1.dst (x.cores.length : Int) (Af (Aq x) bt).1).1.lines, sl v.2.1 (Ae (Ar x (Af (Aq x) bt).1.dst) (Af (Aq x) bt).1.dst (x.cores.length : Int) (Af (Aq x) bt).1).2.1, sl v.2.2 (Ae (Ar x (Af (Aq x) bt).1.dst) (Af (Aq x) bt).1.dst (x.cores.length : Int) (Af (Aq x) bt).1).2.2]) Try.call77 (fun _ => rfl) (fun ρ L R w hd hs => Zf (c := (Ar x (Af (Aq x) bt).1.dst)) (id := (Af (Aq x) bt).1.dst) (home := (x.cores.length : Int)) (m := (Af (Aq x) bt).1) (u := u) hs (hd.base mm) hkb.kh hpd64 hn64 hpw) (fun ρ g S hS hA => by have u17 : upS S 12 17 = S 17 := rfl; have u18 : upS S 12 18 = S 18 := rfl; have r17 : Rho.set ρ 12 g 17 = ρ 17 := rfl; have h18 : S 18 = false := hA 18 ⟨0, rfl⟩; simp only [u17, u18, r17, h18, cond_false]) ?_
   refine e_p (v := fun ρ => .tuple #[.agg (Core.cells (Gh.dec (γ := Value × Value × Value) (ρ 12)).1 (Ae (Ar x (Af (Aq x) bt).1.dst) (Af (Aq x) bt).1.dst (x.cores.length : Int) (Af (Aq x) bt).1).1).toArray, (Gh.dec (γ := Value × Value × Value) (ρ 12)).2.1, (Gh.dec (γ := Value × Value × Value) (ρ 12)).2.2]) (fun _ _ => Qw) (Ind.gh (h := fun g => (.tuple #[.agg (Core.cells (Gh.dec (γ := Value × Value × Value) g).1 (Ae (Ar x (Af (Aq x) bt).1.dst) (Af (Aq x) bt).1.dst (x.cores.length : Int) (Af (Aq x) bt).1).1).toArray, (Gh.dec (γ := Value × Value × Value) g).2.1, (Gh.dec (γ := Value × Value × Value) g).2.2] : Value)) 12 0 rfl) (fun _ _ _ _ _ => rfl) ?_
   refine e_p (v := fun ρ => .agg (Core.cells (Gh.dec (γ := Value × Value × Value) (ρ 12)).1 (Ae (Ar x (Af (Aq x) bt).1.dst) (Af (Aq x) bt).1.dst (x.cores.length : Int) (Af (Aq x) bt).1).1).toArray) (fun _ _ => q_x) (Ind.gh (h := fun g => (.agg (Core.cells (Gh.dec (γ := Value × Value × Value) g).1 (Ae (Ar x (Af (Aq x) bt).1.dst) (Af (Aq x) bt).1.dst (x.cores.length : Int) (Af (Aq x) bt).1).1).toArray : Value)) 12 1 rfl) (fun _ _ _ _ _ => rfl) ?_
   refine e_p (v := fun ρ => (Gh.dec (γ := Value × Value × Value) (ρ 12)).2.1) (fun _ _ => q_x) (Ind.gh (h := fun g => ((Gh.dec (γ := Value × Value × Value) g).2.1 : Value)) 12 1 rfl) (fun _ _ _ _ _ => rfl) ?_
   refine e_p (v := fun ρ => (Gh.dec (γ := Value × Value × Value) (ρ 12)).2.2) (fun _ _ => q_x) (Ind.gh (h := fun g => ((Gh.dec (γ := Value × Value × Value) g).2.2 : Value)) 12 1 rfl) (fun _ _ _ _ _ => rfl) ?_
   refine Hq (cs := [.slice none 0 0, vi 0, vi 0, vi 0]) Try.zeroValue57 rfl (fun ρ b S hS hA => ?_) ?_
   ·have ui : upS S 17 17 = true := rfl; have u18 : upS S 17 18 = S 18 := rfl; have r12 : Rho.set ρ 17 (Gh.enc b) 12 = ρ 12 := rfl; have h18 : S 18 = false := hA 18 ⟨0, rfl⟩; have rs : (Gh.dec (γ := Nat) (Rho.set ρ 17 (Gh.enc b) 17)) = b := rfl
    simp only [ui, hS, u18, r12, h18, rs, cond_true, cond_false, List.nil_append]
    exact Zfb
   refine es_ 57 0 [17] [] (fun ρ => (Gh.dec (γ := Nat) (ρ 17))) (fun ρ => [.slice none 0 0, vi 0, vi 0, vi 0]) (fun ρ => [(Gh.dec (γ := Value × Value × Value) (ρ 12)).1, vi (Ae (Ar x (Af (Aq x) bt).1.dst) (Af (Aq x) bt).1.dst (x.cores.length : Int) (Af (Aq x) bt).1).1.wait.kind, vi (Ae (Ar x (Af (Aq x) bt).1.dst) (Af (Aq x) bt).1.dst (x.cores.length : Int) (Af (Aq x) bt).1).1.wait.line, vi (Ae (Ar x (Af (Aq x) bt).1.dst) (Af (Aq x) bt).1.dst (x.cores.length : Int) (Af (Aq x) bt).1).1.wait.value]) Try.sizeOf57 (h1 := (fun ρ R w L' hd hs => Bp (isSlice.one (hs.fact (hd.dep (it := ⟨12, _, _, _, _⟩) (by repeat (first | exact List.Mem.head _ | refine List.Mem.tail _ ?_)) ⟨9, rfl⟩ (List.Mem.head _)))) (by repeat (first | exact D8 | refine Bp rfl ?_)))) ?_
   refine e_p (v := fun ρ => (Gh.dec (γ := Value × Value × Value) (ρ 12)).2.1) (fun _ _ => D1) (Ind.gh (h := fun g => ((Gh.dec (γ := Value × Value × Value) g).2.1 : Value)) 12 0 rfl) (fun _ _ _ _ _ => rfl) ?_
   refine e_p (v := fun ρ => (Gh.dec (γ := Value × Value × Value) (ρ 12)).2.2) (fun _ _ => D1) (Ind.gh (h := fun g => ((Gh.dec (γ := Value × Value × Value) g).2.2 : Value)) 12 0 rfl) (fun _ _ _ _ _ => rfl) ?_
   refine dnl ?_; intro ρ
   refine xq_ (foc 57 cv x.cores (Af (Aq x) bt).1.dst.toNat (Core.cells u (Ar x (Af (Aq x) bt).1.dst)) :: blk b5 49 (Af (Aq x) bt).1.cells :: blk b 33 [cv, hv, fv] :: (blk (Gh.dec (γ := Nat) (ρ 17)) 57 [(Gh.dec (γ := Value × Value × Value) (ρ 12)).1, vi (Ae (Ar x (Af (Aq x) bt).1.dst) (Af (Aq x) bt).1.dst (x.cores.length : Int) (Af (Aq x) bt).1).1.wait.kind, vi (Ae (Ar x (Af (Aq x) bt).1.dst) (Af (Aq x) bt).1.dst (x.cores.length : Int) (Af (Aq x) bt).1).1.wait.line, vi (Ae (Ar x (Af (Aq x) bt).1.dst) (Af (Aq x) bt).1.dst (x.cores.length : Int) (Af (Aq x) bt).1).1.wait.value] :: L)) ?_
   generalize (Gh.dec (γ := Value × Value × Value) (ρ 12)) = vk
   generalize (Gh.dec (γ := Nat) (ρ 17)) = b10
   refine Gl ?_
   refine JC.conseq (L' := row 57 cv x.cores :: blk b10 57 (Core.cells vk.1 (Ae (Ar x (Af (Aq x) bt).1.dst) (Af (Aq x) bt).1.dst (x.cores.length : Int) (Af (Aq x) bt).1).1) :: blk b5 49 (Af (Aq x) bt).1.cells :: blk b 33 [cv, hv, fv] :: L) (fun w hs => Ah (Sn mm hwt (hs.pick pkk))) ?_
   refine kp [0, 4, 5, 10, 11, 12, 65, 66, 67, 68, 69, 70, 71, 72] ?_
   refine Zac ?_
   refine dtl ?_; intro ρ
   refine s_W (α := Core) (Ae (Ar x (Af (Aq x) bt).1.dst) (Af (Aq x) bt).1.dst (x.cores.length : Int) (Af (Aq x) bt).1).1 Try.sizeOf57 rfl rfl rfl pkk (by omega) (Xx mm (R5 hkb.wwf)) ?_
   refine ZI ?_
   refine Am Try.call43 rfl (fun w hs => K8 (cv := cv) (hv := hv) (fv := fv) (fs := x.frames) (ms := (Ae (Ar x (Af (Aq x) bt).1.dst) (Af (Aq x) bt).1.dst (x.cores.length : Int) (Af (Aq x) bt).1).2.1) (Ah (L' := blk b 33 [cv, hv, fv] :: row 57 cv (x.cores.set (Af (Aq x) bt).1.dst.toNat (Ae (Ar x (Af (Aq x) bt).1.dst) (Af (Aq x) bt).1.dst (x.cores.length : Int) (Af (Aq x) bt).1).1) :: L) hs) mm mm (Yn (by omega) (by omega) hk4 hlb hwk.2.2.2.2.1)) ?_; intro vs
   refine ZD ?_
   have er : Az x bt = (Cy x (Af (Aq x) bt).1.dst (Ae (Ar x (Af (Aq x) bt).1.dst) (Af (Aq x) bt).1.dst (x.cores.length : Int) (Af (Aq x) bt).1).1 (Ae (Ar x (Af (Aq x) bt).1.dst) (Af (Aq x) bt).1.dst (x.cores.length : Int) (Af (Aq x) bt).1).2.1, (Ae (Ar x (Af (Aq x) bt).1.dst) (Af (Aq x) bt).1.dst (x.cores.length : Int) (Af (Aq x) bt).1).2.2) := by unfold Az Bd; rw [if_neg ht21, if_neg ht30]
   rw [er]
   exact Bg (hv, vs, vk.2.2) (hs := fun w hs => (Ah hs : St _ (sl vs (way x.frames (Ae (Ar x (Af (Aq x) bt).1.dst) (Af (Aq x) bt).1.dst (x.cores.length : Int) (Af (Aq x) bt).1).2.1) :: sl vk.2.2 (Ae (Ar x (Af (Aq x) bt).1.dst) (Af (Aq x) bt).1.dst (x.cores.length : Int) (Af (Aq x) bt).1).2.2 :: R) w).sub .refl (fs_B hhv))
theorem kv_row {v : Value} {ks : List KV} {cs : List Core} (h : ks.map KV.c = cs) (hs : St (row 57 v ks :: (ks.map Z8 ++ L)) R w) : St (row 57 v cs :: L) R w := by
 subst h
 have h1 : St (ks.map Z8 ++ (row 57 v ks :: L)) R w := hs.perm List.perm_middle.symm
 have h2 := Rv ks h1
 have h3 := V3 (fun x hx => List.mem_append.2 (.inl (List.mem_map.2 ⟨x, hx, rfl⟩))) h2
 exact h3.sub .refl (fun f hf => List.mem_append.2 (.inr hf))
theorem Hd {cv hv fv : Value} {x : Chip} (hs : St L R w) (hcv : sl cv x.cores ∈ R) (hhv : sl hv x.home ∈ R) (hfv : sl fv x.frames ∈ R) (hn4 : x.cores.length ≤ 1000) : Calls Try.prog 22 [.agg #[cv, hv, fv]].toArray w (Bu (fun g : Value × Value × Value => .agg #[g.1, g.2.1, g.2.2]) (fun g => row 57 g.1 x.cores :: L) (fun g => sl g.2.2 x.frames :: sl g.2.1 x.home :: R)) :=
 J1 (Ajj hs hcv hhv hfv hn4) (fun g w' hs' => ⟨(g.1, g.2.1, g.2.2.1), rfl, by
  have h1 := H8 (.head _) hs'
  exact (kv_row h1 hs').sub .refl (fun f hf => .tail _ hf)⟩)
theorem Acd {n nl : Nat} {x : Chip} {M : List Int} (h : Inv n nl x M) (i : Nat) : Inv n nl ⟨x.cores, x.home, x.frames.eraseIdx i⟩ M :=
 ⟨h.n1, h.l1, h.nc, h.nh, h.ncl, h.nla, h.ml, h.mv, h.bit, h.gi, h.ci, h.cw, by have := h.fr; have := List.length_eraseIdx_le x.frames i; simp only; omega, fun b hb => h.mi b (List.mem_of_mem_eraseIdx hb)⟩
theorem Adr {cv hv fv : Value} {x : Chip} {s : Step} {n nl : Nat} {M : List Int} (hs : St (L) R w) (hcv : sl cv x.cores ∈ R) (hhv : sl hv x.home ∈ R) (hfv : sl fv x.frames ∈ R) (hsn : s.wf) (h : Inv n nl x M) (hk : s.kind = 1) : Calls Try.prog 19 [.agg #[cv, hv, fv], .agg s.cells.toArray].toArray w (Bu (fun v : Value × Value × Value × Value => .tuple #[.agg #[v.1, v.2.1, v.2.2.1], v.2.2.2, vi (Ak x s).2.2]) (fun v => L) (fun v => sl v.1 (Ak x s).1.cores :: sl v.2.1 (Ak x s).1.home :: sl v.2.2.1 (Ak x s).1.frames :: sl v.2.2.2 (Ak x s).2.1 :: R)) := by
 refine Zbn ?_;intro hnc hnh hn1 hn2 honec honeh honef hn64 hop
 clear hs
 refine ZaW ?_;intro b2 b3 b4
 refine rn1 ?_
 refine Am Try.call22 rfl (fun w hs => Hd (x := x) (cv := cv) (hv := hv) (fv := fv) hs mm mm mm (by omega)) ?_; intro ⟨cY, hY, fY⟩
 refine Zbr ?_;intro h12
 obtain ⟨honeY1, honeY2, honeY3⟩ := h12
 refine Zby ?_;intro b7
 refine Gb2 ?_
 refine ZaI ?_
 rcases (show (s.node < 0) ∨ (0 ≤ s.node ∧ (x.cores.length : Int) ≤ s.node) ∨ (0 ≤ s.node ∧ s.node < (x.cores.length : Int)) from by omega) with hc | hc | hc
 ·refine ZZ ?_
  refine Gc8 ?_
  exact ZgH
 ·refine Zag ?_
  refine ZaL ?_
  refine Gc1 ?_
  exact ZgH
 ·refine Za9 ?_
  refine Gc1 ?_
  refine Zdj ?_;intro hwt u hkb hlb hk4
  refine cq_ (row 57 cY x.cores :: blk b7 33 [cY, hY, fY] :: blk b4 33 [.slice none 0 0, .slice none 0 0, .slice none 0 0] :: blk b3 28 s.cells :: blk b2 33 [cv, hv, fv] :: L) ?_
  refine jd_ (fun ρ S => row 57 cY x.cores :: blk b7 33 [cY, hY, fY] :: blk b4 33 [.slice none 0 0, .slice none 0 0, .slice none 0 0] :: blk b3 28 s.cells :: blk b2 33 [cv, hv, fv] :: ((bif S 19 then [blk (Gh.dec (γ := Nat) (ρ 19)) 57 (bif S 20 then [(Gh.dec (γ := Value × Value × Value) (ρ 13)).1, vi (Aj (Ar x s.node) s.node (x.cores.length : Int) s.op).1.wait.kind, vi (Aj (Ar x s.node) s.node (x.cores.length : Int) s.op).1.wait.line, vi (Aj (Ar x s.node) s.node (x.cores.length : Int) s.op).1.wait.value] else [.slice none 0 0, vi 0, vi 0, vi 0])] else []) ++ (L))) ?_
  refine dn13 ?_
  refine Cd (γ := Value × Value × Value) (val := fun v => .tuple #[.agg (Core.cells v.1 (Aj (Ar x s.node) s.node (x.cores.length : Int) s.op).1).toArray, v.2.1, v.2.2, vi (Aj (Ar x s.node) s.node (x.cores.length : Int) s.op).2.2.2]) (F := fun v => [sl v.1 (Aj (Ar x s.node) s.node (x.cores.length : Int) s.op).1.lines, sl v.2.1 (Aj (Ar x s.node) s.node (x.cores.length : Int) s.op).2.1, sl v.2.2 (Aj (Ar x s.node) s.node (x.cores.length : Int) s.op).2.2.1]) Try.call42 (fun _ => rfl) (fun ρ L R w hd hs => W1 (c := (Ar x s.node)) (id := s.node) (home := (x.cores.length : Int)) (q := s.op) (u := u) hs (hd.base mm) hkb hsn.2.1 hn64 hop) (fun ρ g S hS hA => by have u19 : upS S 13 19 = S 19 := rfl; have u20 : upS S 13 20 = S 20 := rfl; have r19 : Rho.set ρ 13 g 19 = ρ 19 := rfl; have h20 : S 20 = false := hA 20 ⟨0, rfl⟩; simp only [u19, u20, r19, h20, cond_false]) ?_
  refine e_p (v := fun ρ => .tuple #[.agg (Core.cells (Gh.dec (γ := Value × Value × Value) (ρ 13)).1 (Aj (Ar x s.node) s.node (x.cores.length : Int) s.op).1).toArray, (Gh.dec (γ := Value × Value × Value) (ρ 13)).2.1, (Gh.dec (γ := Value × Value × Value) (ρ 13)).2.2, vi (Aj (Ar x s.node) s.node (x.cores.length : Int) s.op).2.2.2]) (fun _ _ => Qw) (Ind.gh (h := fun g => (.tuple #[.agg (Core.cells (Gh.dec (γ := Value × Value × Value) g).1 (Aj (Ar x s.node) s.node (x.cores.length : Int) s.op).1).toArray, (Gh.dec (γ := Value × Value × Value) g).2.1, (Gh.dec (γ := Value × Value × Value) g).2.2, vi (Aj (Ar x s.node) s.node (x.cores.length : Int) s.op).2.2.2] : Value)) 13 0 rfl) (fun _ _ _ _ _ => rfl) ?_
  refine e_p (v := fun ρ => .agg (Core.cells (Gh.dec (γ := Value × Value × Value) (ρ 13)).1 (Aj (Ar x s.node) s.node (x.cores.length : Int) s.op).1).toArray) (fun _ _ => q_x) (Ind.gh (h := fun g => (.agg (Core.cells (Gh.dec (γ := Value × Value × Value) g).1 (Aj (Ar x s.node) s.node (x.cores.length : Int) s.op).1).toArray : Value)) 13 1 rfl) (fun _ _ _ _ _ => rfl) ?_
  refine e_p (v := fun ρ => (Gh.dec (γ := Value × Value × Value) (ρ 13)).2.1) (fun _ _ => q_x) (Ind.gh (h := fun g => ((Gh.dec (γ := Value × Value × Value) g).2.1 : Value)) 13 1 rfl) (fun _ _ _ _ _ => rfl) ?_
  refine e_p (v := fun ρ => (Gh.dec (γ := Value × Value × Value) (ρ 13)).2.2) (fun _ _ => q_x) (Ind.gh (h := fun g => ((Gh.dec (γ := Value × Value × Value) g).2.2 : Value)) 13 1 rfl) (fun _ _ _ _ _ => rfl) ?_
  refine ZeK ?_
  refine Hq (cs := [.slice none 0 0, vi 0, vi 0, vi 0]) Try.zeroValue57 rfl (fun ρ b S hS hA => ?_) ?_
  ·have ui : upS S 19 19 = true := rfl; have u20 : upS S 19 20 = S 20 := rfl; have r13 : Rho.set ρ 19 (Gh.enc b) 13 = ρ 13 := rfl; have h20 : S 20 = false := hA 20 ⟨0, rfl⟩; have rs : (Gh.dec (γ := Nat) (Rho.set ρ 19 (Gh.enc b) 19)) = b := rfl
   simp only [ui, hS, u20, r13, h20, rs, cond_true, cond_false, List.nil_append]
   exact Zfb
  refine es_ 57 0 [19] [] (fun ρ => (Gh.dec (γ := Nat) (ρ 19))) (fun ρ => [.slice none 0 0, vi 0, vi 0, vi 0]) (fun ρ => [(Gh.dec (γ := Value × Value × Value) (ρ 13)).1, vi (Aj (Ar x s.node) s.node (x.cores.length : Int) s.op).1.wait.kind, vi (Aj (Ar x s.node) s.node (x.cores.length : Int) s.op).1.wait.line, vi (Aj (Ar x s.node) s.node (x.cores.length : Int) s.op).1.wait.value]) Try.sizeOf57 (h1 := (fun ρ R w L' hd hs => Bp (isSlice.one (hs.fact (hd.dep (it := ⟨13, _, _, _, _⟩) (by repeat (first | exact List.Mem.head _ | refine List.Mem.tail _ ?_)) ⟨9, rfl⟩ (List.Mem.head _)))) (by repeat (first | exact D8 | refine Bp rfl ?_)))) ?_
  refine e_p (v := fun ρ => (Gh.dec (γ := Value × Value × Value) (ρ 13)).2.1) (fun _ _ => D1) (Ind.gh (h := fun g => ((Gh.dec (γ := Value × Value × Value) g).2.1 : Value)) 13 0 rfl) (fun _ _ _ _ _ => rfl) ?_
  refine e_p (v := fun ρ => (Gh.dec (γ := Value × Value × Value) (ρ 13)).2.2) (fun _ _ => D1) (Ind.gh (h := fun g => ((Gh.dec (γ := Value × Value × Value) g).2.2 : Value)) 13 0 rfl) (fun _ _ _ _ _ => rfl) ?_
  refine Kd (v := vi (Aj (Ar x s.node) s.node (x.cores.length : Int) s.op).2.2.2) (fun _ _ => D1) (fun _ _ _ _ _ => rfl) ?_
  refine dnl ?_; intro ρ
  refine xq_ (row 57 cY x.cores :: blk b7 33 [cY, hY, fY] :: blk b4 33 [.slice none 0 0, .slice none 0 0, .slice none 0 0] :: blk b3 28 s.cells :: blk b2 33 [cv, hv, fv] :: (blk (Gh.dec (γ := Nat) (ρ 19)) 57 [(Gh.dec (γ := Value × Value × Value) (ρ 13)).1, vi (Aj (Ar x s.node) s.node (x.cores.length : Int) s.op).1.wait.kind, vi (Aj (Ar x s.node) s.node (x.cores.length : Int) s.op).1.wait.line, vi (Aj (Ar x s.node) s.node (x.cores.length : Int) s.op).1.wait.value] :: L)) ?_
  generalize (Gh.dec (γ := Value × Value × Value) (ρ 13)) = vk
  generalize (Gh.dec (γ := Nat) (ρ 19)) = b10
  refine Gl ?_
  refine kp [2, 3, 4, 5, 6, 7, 8, 9, 10, 11, 12, 13, 20, 54, 55] ?_
  refine ZR ?_
  refine cdy ?_ ?_
  ·intro ht55
   refine Gl ?_
   refine Zaa ?_
   refine Zb0 ?_
   have er : Ak x s = (Dn, [], (Aj (Ar x s.node) s.node (x.cores.length : Int) s.op).2.2.2) := by unfold Ak Bd; rw [if_pos (by omega), if_neg (by omega), if_pos ht55]
   rw [er]
   exact Zfl
  ·intro ht55
   refine Gm ?_
   refine rn6 ?_
   refine s_W (α := Core) (Aj (Ar x s.node) s.node (x.cores.length : Int) s.op).1 Try.sizeOf57 rfl rfl rfl pkk (by omega) (Xx mm (Pe hop)) ?_
   refine ZL ?_
   refine Am Try.call43 rfl (fun w hs => K8 (cv := cY) (hv := hY) (fv := fY) (fs := x.frames) (ms := (Aj (Ar x s.node) s.node (x.cores.length : Int) s.op).2.1) (Ah (L' := blk b7 33 [cY, hY, fY] :: row 57 cY (x.cores.set s.node.toNat (Aj (Ar x s.node) s.node (x.cores.length : Int) s.op).1) :: blk b4 33 [.slice none 0 0, .slice none 0 0, .slice none 0 0] :: blk b3 28 s.cells :: blk b2 33 [cv, hv, fv] :: L) hs) mm mm (Vm (by omega) (by omega) hk4 hlb)) ?_; intro vs
   refine Gm ?_
   refine Zax ?_
   refine ZbG ?_
   refine JC.shut (v := cY) (xs := (x.cores.set s.node.toNat (Aj (Ar x s.node) s.node (x.cores.length : Int) s.op).1)) pkk ?_
   refine JC.know (p := vs.oneCell' = true) (fun w hs => isSlice.one (hs.fact (mm (f := sl vs (way x.frames (Aj (Ar x s.node) s.node (x.cores.length : Int) s.op).2.1))))) (fun honevs => ?_)
   refine ZB ?_
   refine s_B (cs := [cY, hY, vs]) Try.sizeOf33 ?_
   refine Ga2 ?_
   have er : Ak x s = (Cy x s.node (Aj (Ar x s.node) s.node (x.cores.length : Int) s.op).1 (Aj (Ar x s.node) s.node (x.cores.length : Int) s.op).2.1, (Aj (Ar x s.node) s.node (x.cores.length : Int) s.op).2.2.1, 0) := by unfold Ak Bd; rw [if_pos (by omega), if_neg (by omega), if_neg ht55]
   rw [er]
   exact Cl (cY, hY, vs, vk.2.2) Try.isAgg33 Try.sizeOf33
theorem Ads {cv hv fv : Value} {x : Chip} {s : Step} {n nl : Nat} {M : List Int} (hs : St (L) R w) (hcv : sl cv x.cores ∈ R) (hhv : sl hv x.home ∈ R) (hfv : sl fv x.frames ∈ R) (hsn : s.wf) (h : Inv n nl x M) (hk : s.kind < 1 ∨ 6 < s.kind) : Calls Try.prog 19 [.agg #[cv, hv, fv], .agg s.cells.toArray].toArray w (Bu (fun v : Value × Value × Value × Value => .tuple #[.agg #[v.1, v.2.1, v.2.2.1], v.2.2.2, vi (Ak x s).2.2]) (fun v => L) (fun v => sl v.1 (Ak x s).1.cores :: sl v.2.1 (Ak x s).1.home :: sl v.2.2.1 (Ak x s).1.frames :: sl v.2.2.2 (Ak x s).2.1 :: R)) := by
 refine Zbn ?_;intro hnc hnh hn1 hn2 honec honeh honef hn64 hop
 clear hs
 refine ZaW ?_;intro b2 b3 b4
 refine rn1 ?_
 refine Am Try.call22 rfl (fun w hs => Hd (x := x) (cv := cv) (hv := hv) (fv := fv) hs mm mm mm (by omega)) ?_; intro ⟨cY, hY, fY⟩
 refine Zbr ?_;intro h12
 obtain ⟨honeY1, honeY2, honeY3⟩ := h12
 refine Zby ?_;intro b7
 refine Zaj ?_
 refine ZH ?_
 refine ZH ?_
 refine ZH ?_
 refine Zat ?_
 refine Zbb ?_
 refine Zb0 ?_
 have er : Ak x s = (Dn, [], 1) := by unfold Ak Bd; rw [if_neg (by omega), if_neg (by omega), if_neg (by omega), if_neg (by omega), if_neg (by omega), if_neg (by omega)]
 rw [er]
 exact Zfl
theorem Adq {cv hv fv : Value} {x : Chip} {s : Step} {n nl : Nat} {M : List Int} (hs : St (L) R w) (hcv : sl cv x.cores ∈ R) (hhv : sl hv x.home ∈ R) (hfv : sl fv x.frames ∈ R) (hsn : s.wf) (h : Inv n nl x M) (hk : s.kind = 2) : Calls Try.prog 19 [.agg #[cv, hv, fv], .agg s.cells.toArray].toArray w (Bu (fun v : Value × Value × Value × Value => .tuple #[.agg #[v.1, v.2.1, v.2.2.1], v.2.2.2, vi (Ak x s).2.2]) (fun v => L) (fun v => sl v.1 (Ak x s).1.cores :: sl v.2.1 (Ak x s).1.home :: sl v.2.2.1 (Ak x s).1.frames :: sl v.2.2.2 (Ak x s).2.1 :: R)) := by
 refine Zbn ?_;intro hnc hnh hn1 hn2 honec honeh honef hn64 hop
 clear hs
 refine ZaW ?_;intro b2 b3 b4
 refine rn1 ?_
 refine Am Try.call22 rfl (fun w hs => Hd (x := x) (cv := cv) (hv := hv) (fv := fv) hs mm mm mm (by omega)) ?_; intro ⟨cY, hY, fY⟩
 refine Zbr ?_;intro h12
 obtain ⟨honeY1, honeY2, honeY3⟩ := h12
 refine Zby ?_;intro b7
 refine Gb2 ?_
 refine Zau ?_
 rcases (show (By x s.n) ∨ (¬ By x s.n) from by exact Classical.em _) with hc | hc
 ·refine Zdv ?_;intro hnt
  refine ZE ?_
  refine Am (γ := Value × Value) (val := fun v => .tuple #[v.1, v.2, vi 5]) (Rf := fun v => sl v.1 ([] : Frames) :: sl v.2 ([] : List UInt8) :: _) Try.call44 rfl (fun w hs => by have h := Jx (v0 := fv) (l := x.frames) (n := s.n) hs mm hsn.2.2.1; rw [hnt] at h; exact frz h) ?_; intro ⟨va, vb⟩
  refine Gb7 ?_
  refine rn1 ?_
  refine Zbb ?_
  refine kp [2, 3, 4, 5, 6, 7, 8, 9, 14, 15, 16, 20, 81, 82] ?_
  refine Zb0 ?_
  have er : Ak x s = (Dn, [], 5) := by unfold Ak Bd; rw [if_neg (by omega), if_pos (by omega)]; rw [if_pos hc]
  rw [er]
  exact Zfl
 ·refine Zdl ?_;intro hnt
  refine ZE ?_
  refine Am (γ := Value × Value) (val := fun v => .tuple #[v.1, v.2, vi 0]) (Rf := fun v => sl v.1 (x.frames.eraseIdx s.n.toNat) :: sl v.2 (Aw x.frames s.n) :: _) Try.call44 rfl (fun w hs => by have h := Jx (v0 := fv) (l := x.frames) (n := s.n) hs mm hsn.2.2.1; rw [hnt] at h; exact frz h) ?_; intro ⟨va, vb⟩
  refine Gb7 ?_
  refine rn1 ?_
  refine ZbG ?_
  refine JC.know (p := va.oneCell' = true) (fun w hs => isSlice.one (hs.fact (mm (f := sl va (x.frames.eraseIdx s.n.toNat))))) (fun honeva => ?_)
  refine kp [2, 3, 4, 5, 6, 7, 8, 9, 14, 15, 20, 83, 84] ?_
  refine ZB ?_
  refine sc ?_
  refine ZI ?_
  refine Cj ?_
  refine ZaQ ?_
  refine Am Try.call45 rfl (fun w hs => Zp (x := ⟨x.cores, x.home, x.frames.eraseIdx s.n.toNat⟩) (cv := cY) (hv := hY) (fv := va) (bt := (Aw x.frames s.n)) (Ah (L' := row 57 cY x.cores :: blk b7 33 [cY, hY, va] :: blk b4 33 [.slice none 0 0, .slice none 0 0, .slice none 0 0] :: blk b3 28 s.cells :: blk b2 33 [cv, hv, fv] :: L) hs) mm mm mm (Acd h _)) ?_; intro ⟨vh, vf, vd⟩
  refine Zat ?_
  refine ZbG ?_
  refine JC.shut (v := cY) (xs := (Az ⟨x.cores, x.home, x.frames.eraseIdx s.n.toNat⟩ (Aw x.frames s.n)).1.cores) pkk ?_
  refine JC.know (p := vh.oneCell' = true) (fun w hs => isSlice.one (hs.fact (mm (f := sl vh (Az ⟨x.cores, x.home, x.frames.eraseIdx s.n.toNat⟩ (Aw x.frames s.n)).1.home)))) (fun honevh => ?_)
  refine JC.know (p := vf.oneCell' = true) (fun w hs => isSlice.one (hs.fact (mm (f := sl vf (Az ⟨x.cores, x.home, x.frames.eraseIdx s.n.toNat⟩ (Aw x.frames s.n)).1.frames)))) (fun honevf => ?_)
  refine ZB ?_
  refine s_B (cs := [cY, vh, vf]) Try.sizeOf33 ?_
  refine Ga2 ?_
  have er : Ak x s = ((Az ⟨x.cores, x.home, x.frames.eraseIdx s.n.toNat⟩ (Aw x.frames s.n)).1, (Az ⟨x.cores, x.home, x.frames.eraseIdx s.n.toNat⟩ (Aw x.frames s.n)).2, 0) := by unfold Ak Bd; rw [if_neg (by omega), if_pos (by omega)]; rw [if_neg hc]
  rw [er]
  exact Cl (cY, vh, vf, vd) Try.isAgg33 Try.sizeOf33
theorem Adp {cv hv fv : Value} {x : Chip} {s : Step} {n nl : Nat} {M : List Int} (hs : St (L) R w) (hcv : sl cv x.cores ∈ R) (hhv : sl hv x.home ∈ R) (hfv : sl fv x.frames ∈ R) (hsn : s.wf) (h : Inv n nl x M) (hk : s.kind = 3) : Calls Try.prog 19 [.agg #[cv, hv, fv], .agg s.cells.toArray].toArray w (Bu (fun v : Value × Value × Value × Value => .tuple #[.agg #[v.1, v.2.1, v.2.2.1], v.2.2.2, vi (Ak x s).2.2]) (fun v => L) (fun v => sl v.1 (Ak x s).1.cores :: sl v.2.1 (Ak x s).1.home :: sl v.2.2.1 (Ak x s).1.frames :: sl v.2.2.2 (Ak x s).2.1 :: R)) := by
 refine Zbn ?_;intro hnc hnh hn1 hn2 honec honeh honef hn64 hop
 clear hs
 refine ZaW ?_;intro b2 b3 b4
 refine rn1 ?_
 refine Am Try.call22 rfl (fun w hs => Hd (x := x) (cv := cv) (hv := hv) (fv := fv) hs mm mm mm (by omega)) ?_; intro ⟨cY, hY, fY⟩
 refine Zbr ?_;intro h12
 obtain ⟨honeY1, honeY2, honeY3⟩ := h12
 refine Zby ?_;intro b7
 refine Gb2 ?_
 refine ZH ?_
 refine Zau ?_
 rcases (show (By x s.n) ∨ (¬ By x s.n) from by exact Classical.em _) with hc | hc
 ·refine Zdv ?_;intro hnt
  refine ZE ?_
  refine Am (γ := Value × Value) (val := fun v => .tuple #[v.1, v.2, vi 5]) (Rf := fun v => sl v.1 ([] : Frames) :: sl v.2 ([] : List UInt8) :: _) Try.call44 rfl (fun w hs => by have h := Jx (v0 := fv) (l := x.frames) (n := s.n) hs mm hsn.2.2.1; rw [hnt] at h; exact frz h) ?_; intro ⟨va, vb⟩
  refine Ga7 ?_
  refine kp [2, 3, 4, 5, 6, 7, 8, 9, 14, 15, 16, 20, 79, 80] ?_
  refine ZC ?_
  refine Zbb ?_
  refine Zb0 ?_
  have er : Ak x s = (Dn, [], 5) := by unfold Ak Bd; rw [if_neg (by omega), if_neg (by omega), if_pos (by omega)]; rw [if_pos hc]
  rw [er]
  exact Zfl
 ·refine Zdl ?_;intro hnt
  refine ZE ?_
  refine Am (γ := Value × Value) (val := fun v => .tuple #[v.1, v.2, vi 0]) (Rf := fun v => sl v.1 (x.frames.eraseIdx s.n.toNat) :: sl v.2 (Aw x.frames s.n) :: _) Try.call44 rfl (fun w hs => by have h := Jx (v0 := fv) (l := x.frames) (n := s.n) hs mm hsn.2.2.1; rw [hnt] at h; exact frz h) ?_; intro ⟨va, vb⟩
  refine Ga7 ?_
  refine kp [2, 3, 4, 5, 6, 7, 8, 9, 14, 15, 16, 20, 79, 80] ?_
  refine ZC ?_
  refine ZbG ?_
  refine JC.know (p := va.oneCell' = true) (fun w hs => isSlice.one (hs.fact (mm (f := sl va (x.frames.eraseIdx s.n.toNat))))) (fun honeva => ?_)
  refine ZB ?_
  refine sc ?_
  refine ZI ?_
  refine Av ?_
  refine ZaQ ?_
  refine ZbG ?_
  refine Zdn ?_
  have er : Ak x s = (⟨x.cores, x.home, x.frames.eraseIdx s.n.toNat⟩, [], 0) := by unfold Ak Bd; rw [if_neg (by omega), if_neg (by omega), if_pos (by omega)]; rw [if_neg hc]
  exact ZgX
theorem Ado {cv hv fv : Value} {x : Chip} {s : Step} {n nl : Nat} {M : List Int} (hs : St (L) R w) (hcv : sl cv x.cores ∈ R) (hhv : sl hv x.home ∈ R) (hfv : sl fv x.frames ∈ R) (hsn : s.wf) (h : Inv n nl x M) (hk : s.kind = 4) : Calls Try.prog 19 [.agg #[cv, hv, fv], .agg s.cells.toArray].toArray w (Bu (fun v : Value × Value × Value × Value => .tuple #[.agg #[v.1, v.2.1, v.2.2.1], v.2.2.2, vi (Ak x s).2.2]) (fun v => L) (fun v => sl v.1 (Ak x s).1.cores :: sl v.2.1 (Ak x s).1.home :: sl v.2.2.1 (Ak x s).1.frames :: sl v.2.2.2 (Ak x s).2.1 :: R)) := by
 refine Zbn ?_;intro hnc hnh hn1 hn2 honec honeh honef hn64 hop
 clear hs
 refine ZaW ?_;intro b2 b3 b4
 refine rn1 ?_
 refine Am Try.call22 rfl (fun w hs => Hd (x := x) (cv := cv) (hv := hv) (fv := fv) hs mm mm mm (by omega)) ?_; intro ⟨cY, hY, fY⟩
 refine Zbr ?_;intro h12
 obtain ⟨honeY1, honeY2, honeY3⟩ := h12
 refine Zby ?_;intro b7
 refine Zaj ?_
 refine ZaI ?_
 rcases (show (By x s.n) ∨ (¬ By x s.n) from by exact Classical.em _) with hc | hc
 ·have hnt : Ft x.frames s.n = ([], 5) := by unfold Ft; rw [if_pos (show s.n < 0 ∨ (x.frames.length : Int) ≤ s.n from hc)]
  refine ZE ?_
  refine Am (γ := Value) (val := fun v => .tuple #[v, vi 5]) (Rf := fun v => sl v ([] : Frames) :: _) Try.call46 rfl (fun w hs => by have h := Rt (v0 := fv) (l := x.frames) (n := s.n) hs mm hsn.2.2.1; rw [hnt] at h; exact frz h) ?_; intro va
  refine Zdh ?_;intro honeva
  refine ZC ?_
  refine Zbb ?_
  refine Zb0 ?_
  have er : Ak x s = (Dn, [], 5) := by unfold Ak Bd; rw [if_neg (by omega), if_neg (by omega), if_neg (by omega), if_pos (by omega)]; rw [if_pos hc]
  rw [er]
  exact Zfl
 ·have hnt : Ft x.frames s.n = (C3 x.frames (Aw x.frames s.n), 0) := by unfold Ft; rw [if_neg (show ¬ (s.n < 0 ∨ (x.frames.length : Int) ≤ s.n) from hc)]
  refine ZE ?_
  refine Am (γ := Value) (val := fun v => .tuple #[v, vi 0]) (Rf := fun v => sl v (C3 x.frames (Aw x.frames s.n)) :: _) Try.call46 rfl (fun w hs => by have h := Rt (v0 := fv) (l := x.frames) (n := s.n) hs mm hsn.2.2.1; rw [hnt] at h; exact frz h) ?_; intro va
  refine Zdh ?_;intro honeva
  refine ZC ?_
  refine ZbG ?_
  refine Zdn ?_
  have er : Ak x s = (⟨x.cores, x.home, C3 x.frames (Aw x.frames s.n)⟩, [], 0) := by unfold Ak Bd; rw [if_neg (by omega), if_neg (by omega), if_neg (by omega), if_pos (by omega)]; rw [if_neg hc]
  exact ZgX
theorem Adn {cv hv fv : Value} {x : Chip} {s : Step} {n nl : Nat} {M : List Int} (hs : St (L) R w) (hcv : sl cv x.cores ∈ R) (hhv : sl hv x.home ∈ R) (hfv : sl fv x.frames ∈ R) (hsn : s.wf) (h : Inv n nl x M) (hk : s.kind = 5) : Calls Try.prog 19 [.agg #[cv, hv, fv], .agg s.cells.toArray].toArray w (Bu (fun v : Value × Value × Value × Value => .tuple #[.agg #[v.1, v.2.1, v.2.2.1], v.2.2.2, vi (Ak x s).2.2]) (fun v => L) (fun v => sl v.1 (Ak x s).1.cores :: sl v.2.1 (Ak x s).1.home :: sl v.2.2.1 (Ak x s).1.frames :: sl v.2.2.2 (Ak x s).2.1 :: R)) := by
 refine Zbn ?_;intro hnc hnh hn1 hn2 honec honeh honef hn64 hop
 clear hs
 refine ZaW ?_;intro b2 b3 b4
 refine rn1 ?_
 refine Am Try.call22 rfl (fun w hs => Hd (x := x) (cv := cv) (hv := hv) (fv := fv) hs mm mm mm (by omega)) ?_; intro ⟨cY, hY, fY⟩
 refine Zbr ?_;intro h12
 obtain ⟨honeY1, honeY2, honeY3⟩ := h12
 refine Zby ?_;intro b7
 refine Zaj ?_
 refine ZaA ?_
 refine rn1 ?_
 refine Am Try.call47 rfl (fun w hs => W7 (x := x) (cv := cv) (hv := hv) (fv := fv) (s := s) (Ah (L' := blk b2 33 [cv, hv, fv] :: row 57 cY x.cores :: blk b7 33 [cY, hY, fY] :: blk b4 33 [.slice none 0 0, .slice none 0 0, .slice none 0 0] :: blk b3 28 s.cells :: L) hs) mm mm mm hsn) ?_; intro va
 refine Zdh ?_;intro honeva
 refine ZR ?_
 refine cdy ?_ ?_
 ·intro ht115
  refine Gl ?_
  refine Zaa ?_
  refine Zb0 ?_
  have er : Ak x s = (Dn, [], (Mb x s).2) := by unfold Ak Bd; rw [if_neg (by omega), if_neg (by omega), if_neg (by omega), if_neg (by omega), if_pos (by omega)]; revert ht115; unfold Mb; (repeat' split) <;> simp_all
  rw [er]
  exact Cl (.slice none 0 0, .slice none 0 0, .slice none 0 0, .slice none 0 0) Try.isAgg33 Try.sizeOf33
 ·intro ht115
  refine Gl ?_
  refine Zdn ?_
  have er : Ak x s = (⟨x.cores, x.home, (Mb x s).1⟩, [], 0) := by unfold Ak Bd; rw [if_neg (by omega), if_neg (by omega), if_neg (by omega), if_neg (by omega), if_pos (by omega)]; revert ht115; unfold Mb; (repeat' split) <;> simp_all
  rw [er]
  exact Cl (cY, hY, va, .slice none 0 0) Try.isAgg33 Try.sizeOf33
theorem Adm {cv hv fv : Value} {x : Chip} {s : Step} {n nl : Nat} {M : List Int} (hs : St (L) R w) (hcv : sl cv x.cores ∈ R) (hhv : sl hv x.home ∈ R) (hfv : sl fv x.frames ∈ R) (hsn : s.wf) (h : Inv n nl x M) (hk : s.kind = 6) : Calls Try.prog 19 [.agg #[cv, hv, fv], .agg s.cells.toArray].toArray w (Bu (fun v : Value × Value × Value × Value => .tuple #[.agg #[v.1, v.2.1, v.2.2.1], v.2.2.2, vi (Ak x s).2.2]) (fun v => L) (fun v => sl v.1 (Ak x s).1.cores :: sl v.2.1 (Ak x s).1.home :: sl v.2.2.1 (Ak x s).1.frames :: sl v.2.2.2 (Ak x s).2.1 :: R)) := by
 refine Zbn ?_;intro hnc hnh hn1 hn2 honec honeh honef hn64 hop
 clear hs
 refine ZaW ?_;intro b2 b3 b4
 refine rn1 ?_
 refine Am Try.call22 rfl (fun w hs => Hd (x := x) (cv := cv) (hv := hv) (fv := fv) hs mm mm mm (by omega)) ?_; intro ⟨cY, hY, fY⟩
 refine Zbr ?_;intro h12
 obtain ⟨honeY1, honeY2, honeY3⟩ := h12
 refine Zby ?_;intro b7
 refine Zaj ?_
 refine ZH ?_
 refine ZaA ?_
 refine rn2 ?_
 refine Am Try.call48 rfl (fun w hs => W6 (x := x) (cv := cY) (hv := hY) (fv := fY) (node := s.node) (Ah (L' := row 57 cY x.cores :: blk b7 33 [cY, hY, fY] :: blk b4 33 [.slice none 0 0, .slice none 0 0, .slice none 0 0] :: blk b3 28 s.cells :: blk b2 33 [cv, hv, fv] :: L) hs) mm mm h) ?_; intro va
 refine J.know (p := va.oneCell' = true) (fun w hs => isSlice.one (hs.fact (.head _))) (fun honeva => ?_)
 refine ZF ?_
 refine cdy ?_ ?_
 ·intro ht115
  refine Gl ?_
  refine Zaa ?_
  refine kp [4, 5, 6, 7, 8, 9, 116, 117] ?_
  refine Zb0 ?_
  have er : Ak x s = (Dn, [], (Ma x s.node)) := by unfold Ak Bd; rw [if_neg (by omega), if_neg (by omega), if_neg (by omega), if_neg (by omega), if_neg (by omega), if_pos (by omega)]; revert ht115; unfold Ma Bd; split <;> simp_all
  rw [er]
  exact Cl (.slice none 0 0, .slice none 0 0, .slice none 0 0, .slice none 0 0) Try.isAgg33 Try.sizeOf33
 ·intro ht115
  refine Gl ?_
  refine JC.shut (v := cY) (xs := x.cores) pkk ?_
  refine ZN ?_
  refine kp [4, 5, 6, 7, 8, 118, 119] ?_
  refine ZB ?_
  refine s_B (cs := [cY, hY, va]) Try.sizeOf33 ?_
  refine Ga2 ?_
  have er : Ak x s = (⟨x.cores, x.home, F0 x s.node⟩, [], 0) := by unfold Ak Bd; rw [if_neg (by omega), if_neg (by omega), if_neg (by omega), if_neg (by omega), if_neg (by omega), if_pos (by omega)]; revert ht115; unfold Ma F0 Bd; split <;> simp_all; split <;> rfl
  rw [er]
  exact Cl (cY, hY, va, .slice none 0 0) Try.isAgg33 Try.sizeOf33
theorem Dm {cv hv fv : Value} {x : Chip} {s : Step} {n nl : Nat} {M : List Int} (hs : St (L) R w) (hcv : sl cv x.cores ∈ R) (hhv : sl hv x.home ∈ R) (hfv : sl fv x.frames ∈ R) (hsn : s.wf) (h : Inv n nl x M) : Calls Try.prog 19 [.agg #[cv, hv, fv], .agg s.cells.toArray].toArray w (Bu (fun v : Value × Value × Value × Value => .tuple #[.agg #[v.1, v.2.1, v.2.2.1], v.2.2.2, vi (Ak x s).2.2]) (fun v => L) (fun v => sl v.1 (Ak x s).1.cores :: sl v.2.1 (Ak x s).1.home :: sl v.2.2.1 (Ak x s).1.frames :: sl v.2.2.2 (Ak x s).2.1 :: R)) := by
 by_cases h1 : s.kind = 1
 ·exact Adr hs hcv hhv hfv hsn h h1
 by_cases h2 : s.kind = 2
 ·exact Adq hs hcv hhv hfv hsn h h2
 by_cases h3 : s.kind = 3
 ·exact Adp hs hcv hhv hfv hsn h h3
 by_cases h4 : s.kind = 4
 ·exact Ado hs hcv hhv hfv hsn h h4
 by_cases h5 : s.kind = 5
 ·exact Adn hs hcv hhv hfv hsn h h5
 by_cases h6 : s.kind = 6
 ·exact Adm hs hcv hhv hfv hsn h h6
 exact Ads hs hcv hhv hfv hsn h (by omega)
theorem Q3 {u0 u1 : Value} {a : Core} (hs : St L R w) (h0 : sl u0 a.lines ∈ R) (h1 : sl u1 a.lines ∈ R) : Calls Try.prog 25 [.agg (a.cells u0).toArray, .agg (a.cells u1).toArray].toArray w (Bu (fun _ : Unit => .bool true) (fun _ => L) (fun _ => R)) := by
 have h := Aal hs h0 h1; rw [decide_eq_true rfl] at h; exact h
theorem Q2 {v0 v1 : Value} {a : List Entry} (hs : St L R w) (h0 : sl v0 a ∈ R) (h1 : sl v1 a ∈ R) : Calls Try.prog 26 [v0, v1].toArray w (Bu (fun _ : Unit => .bool true) (fun _ => L) (fun _ => R)) := by
 have h := Aaj hs h0 h1; rw [decide_eq_true rfl] at h; exact h
theorem Tc {v0 v1 : Value} {a : Frames} (hs : St L R w) (h0 : sl v0 a ∈ R) (h1 : sl v1 a ∈ R) : Calls Try.prog 41 [v0, v1].toArray w (Bu (fun _ : Unit => .bool true) (fun _ => L) (fun _ => R)) := by
 have h := Vy hs h0 h1; rw [decide_eq_true rfl] at h; exact h
theorem Xp {c1 h1 f1 c2 h2 f2 : Value} {a : Chip} (hs : St (L) R w) (ha : sl c1 a.cores ∈ R) (hb : sl h1 a.home ∈ R) (hc : sl f1 a.frames ∈ R) (hd : sl c2 a.cores ∈ R) (he : sl h2 a.home ∈ R) (hf : sl f2 a.frames ∈ R) : Calls Try.prog 17 [.agg #[c1, h1, f1], .agg #[c2, h2, f2]].toArray w (Bu (fun _ : Unit => .bool true) (fun _ => L) (fun _ => R)) := by
 have hla := Bj ha hs
 have honec1 : c1.oneCell' = true := isSlice.one (hs.fact ha)
 have honeh1 : h1.oneCell' = true := isSlice.one (hs.fact hb)
 have honef1 : f1.oneCell' = true := isSlice.one (hs.fact hc)
 have honec2 : c2.oneCell' = true := isSlice.one (hs.fact hd)
 have honeh2 : h2.oneCell' = true := isSlice.one (hs.fact he)
 have honef2 : f2.oneCell' = true := isSlice.one (hs.fact hf)
 refine Ai Try.func17 rfl Try.ntmps17 rfl hs ?_
 clear hs
 refine Zay ?_;intro b2
 refine bx ?_; intro b3
 refine Gb1 ?_
 refine rn6 ?_
 refine ob (Ao rfl rfl (Cv (by simp))) ?_
 refine ZO ?_
 refine Am Try.call26 rfl (fun w hs => Q2 (a := a.home) hs mm mm) ?_; intro _
 refine ZaN ?_
 refine Am Try.call41 rfl (fun w hs => Tc (a := a.frames) hs mm mm) ?_; intro _
 refine Gd2 ?_
 refine Ga4 ?_
 refine Bl (γ := Nat) (fun k => k ≤ a.cores.length) (fun _ => blk b2 33 [c1, h1, f1] :: blk b3 33 [c2, h2, f2] :: L) (fun _ => R) (fun k => [(2, bp b2 0), (3, bp b3 0), (31, vi (a.cores.length : Int)), (32, vi (k : Int))]) (fun k => a.cores.length - k) 0 (Nat.zero_le _) alT (fun w hs => Ah hs) ?_
 rintro k hk
 refine ZA ?_
 refine cdy ?_ ?_
 ·intro ht33
  refine Gl ?_
  refine kp [2, 3, 4, 5, 31, 32, 33, 34] ?_
  refine ZR ?_
  refine Iq k (v := c1) mm (by omega) (fun _ ua honeua => ?_)
  refine Iq k (v := c2) mm (by omega) (fun _ ub honeub => ?_)
  refine Cf ?_
  refine Y5 ?_
  refine dj ?_
  refine I3 (γ := Unit) (val := fun _ => .bool true) (F := fun _ => []) (C := fun _ => []) Try.call25 (fun _ => rfl) (fun _ _ _ _ => rfl) (fun ρ L R w hd hs => Q3 (a := cor a k) hs (hd.base mm) (hd.base mm)) ?_
  exact ZfS
 ·intro ht33
  refine Gl ?_
  refine kp [2, 3, 4, 5, 31, 32, 33, 34, 35, 36, 37, 38, 39, 40, 41, 42, 43, 44, 45, 46, 47] ?_
  refine ZX ?_
  exact Bg ()
theorem Gx {c1 h1 f1 c2 h2 f2 : Value} {a b : Chip} (e : a = b) (hs : St L R w) (ha : sl c1 a.cores ∈ R) (hb : sl h1 a.home ∈ R) (hc : sl f1 a.frames ∈ R) (hd : sl c2 b.cores ∈ R) (he : sl h2 b.home ∈ R) (hf : sl f2 b.frames ∈ R) : Calls Try.prog 17 [.agg #[c1, h1, f1], .agg #[c2, h2, f2]].toArray w (Bu (fun _ : Unit => .bool true) (fun _ => L) (fun _ => R)) := by
 subst e; exact Xp hs ha hb hc hd he hf
theorem Hi {v0 v1 : Value} {a b : List Done} (e : a = b) (hs : St L R w) (h0 : sl v0 a ∈ R) (h1 : sl v1 b ∈ R) : Calls Try.prog 21 [v0, v1].toArray w (Bu (fun _ : Unit => .bool true) (fun _ => L) (fun _ => R)) := by
 have h := Aak hs h0 h1; rw [decide_eq_true e] at h; exact h
theorem Ajl (c : Config) : Dz c = (A8 c).2 := by
 unfold A8
 split
 ·rename_i h; revert h; unfold Dz; split <;> simp
 ·rename_i h; exact Decidable.not_not.1 h
theorem Oq {vl : Value} {c : Config} {l : List Step} {s : Step} (hs : St (L) R w) (hl : sl vl l ∈ R) (hcw : c.wf) (hsw : s.wf) : Calls Try.prog 3 [.agg c.cells.toArray, vl, .agg s.cells.toArray].toArray w (Bu (fun _ : Unit => .bool true) (fun _ => L) (fun _ => R)) := by
 refine Ai Try.func3 rfl Try.ntmps3 rfl hs ?_
 clear hs
 refine Zah ?_;intro b3
 refine bx ?_; intro b5
 refine Za8 ?_
 refine Am Try.call14 rfl (fun w hs => Kv (c := c) (l := l) hs mm hcw) ?_; intro v20
 refine Zej ?_;intro h12
 obtain ⟨hone1, hone2, hone3⟩ := h12
 refine rn3 ?_
 refine Za6 ?_;intro b7
 refine s_B (cs := [v20.1, v20.2.1, v20.2.2.1]) Try.sizeOf33 ?_
 refine Zat ?_
 refine Am Try.call15 rfl (fun w hs => Ql (c := c) hs hcw) ?_; intro v25
 refine J.know (p := v25.1.oneCell' = true ∧ v25.2.oneCell' = true) (fun w hs => ⟨isSlice.one (hs.fact (.head _)), isSlice.one (hs.fact (.tail _ (.head _)))⟩) (fun h12 => ?_)
 obtain ⟨honev251, honev252⟩ := h12
 refine rn3 ?_
 refine Zbw ?_;intro b9
 refine s_B (cs := [v25.1, v25.2, .slice none 0 0]) Try.sizeOf33 ?_
 refine Zat ?_
 refine Am Try.call16 rfl (fun w hs => Xu (c := c) hs hcw) ?_; intro v30
 refine J.know (p := v30.1.oneCell' = true ∧ v30.2.oneCell' = true) (fun w hs => ⟨isSlice.one (hs.fact (.head _)), isSlice.one (hs.fact (.tail _ (.head _)))⟩) (fun h12 => ?_)
 obtain ⟨honev301, honev302⟩ := h12
 refine rn3 ?_
 refine Zd3 ?_;intro b11
 refine s_B (cs := [v30.1, v30.2, .slice none 0 0]) Try.sizeOf33 ?_
 refine Za8 ?_
 refine ob (Ao rfl rfl (Cv rfl)) ?_
 refine ZM ?_
 refine Am Try.call17 rfl (fun w hs => Gx (a := (A8 c).1) rfl hs mm mm mm mm mm mm) ?_; intro _
 refine ZG ?_
 refine Am Try.call18 rfl (fun w hs => Ln hs) ?_; intro _
 refine ZaH ?_
 refine ob (Ao rfl rfl (Cv (Ajl c))) ?_
 refine Gc1 ?_
 refine kp [5, 6, 7, 10, 12, 48, 49] ?_
 refine ZR ?_
 refine cdy ?_ ?_
 ·intro ht49
  refine ZA ?_
  exact Bg ()
 ·intro ht49
  have hok : (A8 c).2 = 0 := Decidable.not_not.1 ht49
  obtain ⟨n, nl, hcc, M, hI, _⟩ := Nr (l := l) hok
  refine ZI ?_
  refine Am Try.call19 rfl (fun w hs => Dm (x := (build c l).1) (s := s) hs mm mm mm hsw hI) ?_; intro v53
  refine Zek ?_;intro h12
  obtain ⟨honev531, honev532, honev533⟩ := h12
  refine rn4 ?_
  refine al_ (cs := [.slice none 0 0, .slice none 0 0, .slice none 0 0]) Try.zeroValue33 ?_; intro b13
  refine s_B (cs := [v53.1, v53.2.1, v53.2.2.1]) Try.sizeOf33 ?_
  refine Gb2 ?_
  refine rn2 ?_
  refine Am Try.call20 rfl (fun w hs => O6 (x := (build c l).1) (s := s) hs mm mm mm hI hsw) ?_; intro v60
  refine J.know (p := v60.1.oneCell' = true ∧ v60.2.1.oneCell' = true ∧ v60.2.2.1.oneCell' = true) (fun w hs => ⟨isSlice.one (hs.fact (.head _)), isSlice.one (hs.fact (.tail _ (.head _))), isSlice.one (hs.fact (.tail _ (.tail _ (.head _))))⟩) (fun h12 => ?_)
  obtain ⟨honev601, honev602, honev603⟩ := h12
  refine rn4 ?_
  refine al_ (cs := [.slice none 0 0, .slice none 0 0, .slice none 0 0]) Try.zeroValue33 ?_; intro b15
  refine s_B (cs := [v60.1, v60.2.1, v60.2.2.1]) Try.sizeOf33 ?_
  refine Ga2 ?_
  refine Zao ?_
  refine djc (fun _ _ => Ao rfl rfl (Be rfl)) ?_
  refine djm ?_
  refine dn2 ?_
  refine dj (dgy ?_)
  refine I3 (γ := Unit) (val := fun _ => .bool true) (F := fun _ => []) (C := fun _ => []) Try.call17 (fun _ => rfl) (fun _ _ _ _ => rfl) (fun ρ L R w hd hs => Gx (a := (Ak (build c l).1 s).1) rfl hs (hd.base mm) (hd.base mm) (hd.base mm) (hd.base mm) (hd.base mm) (hd.base mm)) ?_
  refine Zak ?_
  refine dn2 ?_
  refine dj (dgy ?_)
  refine I3 (γ := Unit) (val := fun _ => .bool true) (F := fun _ => []) (C := fun _ => []) Try.call21 (fun _ => rfl) (fun _ _ _ _ => rfl) (fun ρ L R w hd hs => Hi (a := (Ak (build c l).1 s).2.1) rfl hs (hd.base mm) (hd.base mm)) ?_
  refine Zak ?_
  refine dn1 ?_
  refine dj (dgy ?_)
  refine I3 (γ := Value × Value × Value) (val := fun v => .agg #[v.1, v.2.1, v.2.2]) (F := fun v => [sl v.1 (build c l).1.cores, sl v.2.2 (build c l).1.frames, sl v.2.1 (build c l).1.home]) (C := fun _ => []) Try.call22 (fun _ => rfl) (fun _ _ _ _ => rfl) (fun ρ L R w hd hs => frz (Hd (x := (build c l).1) hs (hd.base mm) (hd.base mm) (hd.base mm) (by have := hI.nc; have := hI.n1; omega))) ?_
  refine dn1 ?_
  refine dj (dgy ?_)
  refine I3 (γ := Unit) (val := fun _ => .bool true) (F := fun _ => []) (C := fun _ => []) Try.call17 (fun _ => rfl) (fun _ _ _ _ => rfl) (fun ρ L R w hd hs => Gx (a := (build c l).1) (b := (build c l).1) rfl hs (hd.dep (it := ⟨15, _, _, _, _⟩) (by repeat (first | exact List.Mem.head _ | refine List.Mem.tail _ ?_)) ⟨9, rfl⟩ (List.Mem.head _)) (hd.dep (it := ⟨15, _, _, _, _⟩) (by repeat (first | exact List.Mem.head _ | refine List.Mem.tail _ ?_)) ⟨9, rfl⟩ (.tail _ (.tail _ (.head _)))) (hd.dep (it := ⟨15, _, _, _, _⟩) (by repeat (first | exact List.Mem.head _ | refine List.Mem.tail _ ?_)) ⟨9, rfl⟩ (.tail _ (.head _))) (hd.base mm) (hd.base mm) (hd.base mm)) ?_
  refine ZS ?_
  refine ZT ?_;intro ρ
  refine Gl ?_
  exact Bg ()
theorem q_fld {P : Program} {n : Nat} {L : List Chunk} {R : List Fact} {al : List (Nat × Value)} {d : Nat} {x : Operand} {T ty : TypeId} {pos : String} {aft : Array Edge} {fld off : Nat} {cs : List Value} {v : Value} {fs : Array Field} {fl : Field} (ht : P.underlying T = some (.struct fs)) (hf : fs[fld]? = some fl) (ho : fl.offset = off) (hg : ∀ w, (isAgg fl.type).run P w = .ok false w) (hc : cs[off]? = some v) (hx : ev n al x = some (.agg cs.toArray)) : Bb P n al L R ⟨some d, .field T x fld, ty, pos, aft, none⟩ v :=
 ⟨rfl, fun ρ w h _ => by
  have e : (Instr.field T (.agg cs.toArray) fld).run P w = .ok v w := by
   simp [Instr.field, C9 ht, hf, ho, part, hg, hc, asAgg]
  show (Instr.field T (ρ x) fld >>= fun v => Pure.pure (Next.value v)).run P w = _
  rw [h x (by simp [Op.operands]) _ hx, Sem.run_bind, e]; rfl⟩
def hX : Chip := Ew 1 1
def hS : Step := ⟨1, 0, 0, 0, ⟨1, 0, 0⟩⟩
def hY : Chip := (Ak hX hS).1
theorem h_new : A8 ⟨1, 1⟩ = (hX, 0) := by decide
theorem h_do : Ak hX hS = (hY, [], 0) := Prod.ext rfl (Prod.ext (by decide) (by decide))
theorem h_inv : Inv 1 1 hX [0] := Nq (by decide) (by decide)
theorem h_fr : (hY.frames.length : Int) = 1 := by decide
theorem h_co : (hX.cores.length : Int) = 1 := by decide
theorem h_cy : hY.cores.length ≤ 1000 := by decide
theorem h_wr : Dz ⟨0, 0⟩ = 3 := by decide
theorem Og  (hs : St (L) R w) : Calls Try.prog 23 [].toArray w (Bu (fun _ : Unit => .bool true) (fun _ => L) (fun _ => R)) := by
 refine Ai Try.func23 rfl Try.ntmps23 rfl hs ?_
 clear hs
 refine ZaS ?_
 refine Am Try.call15 rfl (fun w hs => by have h := Ql (c := ⟨1, 1⟩) hs (by unfold Config.wf Ap; decide); rw [h_new] at h; exact h) ?_; intro v8
 refine J.know (p := v8.1.oneCell' = true ∧ v8.2.oneCell' = true) (fun w hs => ⟨isSlice.one (hs.fact (.head _)), isSlice.one (hs.fact (.tail _ (.head _)))⟩) (fun h12 => ?_)
 obtain ⟨honev81, honev82⟩ := h12
 refine rn3 ?_
 refine al_ (cs := [.slice none 0 0, .slice none 0 0, .slice none 0 0]) Try.zeroValue33 ?_; intro b1
 refine s_B (cs := [v8.1, v8.2, .slice none 0 0]) Try.sizeOf33 ?_
 refine Gb1 ?_
 refine rn3 ?_
 refine Am Try.call19 rfl (fun w hs => by have h := Dm (x := hX) (s := hS) hs mm mm mm (by unfold Step.wf Ap; decide) h_inv; rw [h_do] at h; exact h) ?_; intro v15
 refine J.know (p := v15.1.oneCell' = true ∧ v15.2.1.oneCell' = true ∧ v15.2.2.1.oneCell' = true) (fun w hs => ⟨isSlice.one (hs.fact (.head _)), isSlice.one (hs.fact (.tail _ (.head _))), isSlice.one (hs.fact (.tail _ (.tail _ (.head _))))⟩) (fun h12 => ?_)
 obtain ⟨honev151, honev152, honev153⟩ := h12
 refine rn4 ?_
 refine al_ (cs := [.slice none 0 0, .slice none 0 0, .slice none 0 0]) Try.zeroValue33 ?_; intro b3
 refine s_B (cs := [v15.1, v15.2.1, v15.2.2.1]) Try.sizeOf33 ?_
 refine Zax ?_
 refine Cj ?_
 refine Zab ?_
 refine Zaz ?_
 refine ZG ?_
 refine Zaz ?_
 refine ZO ?_
 refine ob (Ao rfl rfl (Be h_fr)) ?_
 refine ZO ?_
 refine ob (Ao rfl rfl (Be h_co)) ?_
 refine ZM ?_
 refine Am Try.call22 rfl (fun w hs => frz (Hd (x := hY) hs mm mm mm h_cy)) ?_; intro v44
 refine gy ?_
 refine ob (q_fld (fs := _) (fl := _) (cs := [v44.1, v44.2.1, v44.2.2]) (off := 2) Try.underlying33 rfl rfl Try.isAgg31 rfl rfl) ?_
 refine ZaH ?_
 refine ob (Ao rfl rfl (Be h_fr)) ?_
 refine Zab ?_
 refine ob (Ej (cs := zConfig.cells) st_23) ?_
 refine gy ?_
 refine Am Try.call18 rfl (fun w hs => by have h := Ln (c := ⟨0, 0⟩) hs; rw [h_wr] at h; exact h) ?_; intro _u
 refine gy ?_
 refine Cj ?_
 refine Ga2 ?_
 exact Bg ()
theorem Jq (c : Config) (l : List Step) : (build c l).1.cores = [] ∨ ∃ n nl : Nat, c = G5 n nl ∧ ∃ M, Inv n nl (build c l).1 M := by
 exact Zgg
theorem Md {vl : Value} {c : Config} {l : List Step} {s : Step} (hs : St (L) R w) (hl : sl vl l ∈ R) (hcw : c.wf) (hsw : s.wf) : Calls Try.prog 6 [.agg c.cells.toArray, vl, .agg s.cells.toArray].toArray w (Bu (fun _ : Unit => .bool true) (fun _ => L) (fun _ => R)) := by
 refine Ai Try.func6 rfl Try.ntmps6 rfl hs ?_
 clear hs
 refine Zah ?_;intro b3
 refine bx ?_; intro b5
 refine Gb1 ?_
 refine Am Try.call23 rfl (fun w hs => Og hs) ?_; intro _
 refine Gd1 ?_
 refine rn2 ?_
 refine Am Try.call14 rfl (fun w hs => Kv (c := c) (l := l) hs mm hcw) ?_; intro v17
 refine Zel ?_;intro h12
 obtain ⟨hone1, hone2, hone3⟩ := h12
 refine rn3 ?_
 refine Za6 ?_;intro b7
 refine s_B (cs := [v17.1, v17.2.1, v17.2.2.1]) Try.sizeOf33 ?_
 refine Ga1 ?_
 rcases (show ((build c l).1.cores = []) ∨ (¬ (build c l).1.cores = []) from by exact Classical.em _) with hc | hc
 ·refine ZJ ?_
  refine ob (Ao rfl rfl (Be (by rw [hc]; rfl))) ?_
  refine Gmc ?_
  exact ZfP
 ·obtain ⟨n_, nl, hcc, M, hI⟩ := (Jq c l).resolve_left hc
  refine ZJ ?_
  refine ob (Ao rfl rfl (Cc (fun h => hc (List.length_eq_zero_iff.1 (by omega))))) ?_
  refine Gmc ?_
  refine rn2 ?_
  refine Am Try.call19 rfl (fun w hs => Dm (x := (build c l).1) (s := s) hs mm mm mm hsw hI) ?_; intro v27
  refine Zem ?_;intro h12
  obtain ⟨honev271, honev272, honev273⟩ := h12
  refine rn4 ?_
  refine Zbw ?_;intro b9
  refine s_B (cs := [v27.1, v27.2.1, v27.2.2.1]) Try.sizeOf33 ?_
  refine Gb2 ?_
  refine Ga2 ?_
  refine cdy ?_ ?_
  ·intro ht32
   have hd0 := do_err ht32
   refine Gl ?_
   refine Zcl ?_
   refine kp [6, 7, 9, 10, 33, 34, 35, 36, 37, 38, 39, 40] ?_
   refine ZC ?_
   refine ZaG ?_
   refine Am Try.call17 rfl (fun w hs => Gx (a := (Ak (build c l).1 s).1) (b := Dn) hd0.1 hs mm mm mm mm mm mm) ?_; intro _u
   refine ZM ?_
   refine ob (Ao rfl rfl (Be (by rw [hd0.2]; rfl))) ?_
   refine Ga2 ?_
   exact Bg ()
  ·intro ht32
   have hd1 := Aiz hI (Decidable.not_not.1 ht32)
   refine Gl ?_
   refine kp [6, 7, 9, 10, 41, 42, 43, 44, 45, 46, 47, 48, 49, 50, 51, 52, 53, 54, 55, 56, 57, 58, 59, 60, 61, 62, 63, 64, 65, 66, 67] ?_
   refine Zam ?_
   refine ob (Ao rfl rfl (Be (by rw [hd1.1]))) ?_
   refine ZaN ?_
   refine ob (Ao rfl rfl (Be (by rw [hd1.2.1]))) ?_
   refine ZO ?_
   refine ob (Ao rfl rfl (Lq (by have := hd1.2.2.1; omega))) ?_
   refine ZG ?_
   refine ob (Ao rfl rfl (Lq (by have := hd1.2.2.2; omega))) ?_
   refine Ga2 ?_
   exact Bg ()
theorem N4 {vl : Value} {c : Config} {l : List Step} {n bit : Int} (hs : St (L) R w) (hl : sl vl l ∈ R) (hcw : c.wf) (hn : Ap n) (hb : Ap bit) : Calls Try.prog 4 [.agg c.cells.toArray, vl, vi n, vi bit].toArray w (Bu (fun _ : Unit => .bool true) (fun _ => L) (fun _ => R)) := by
 refine Ai Try.func4 rfl Try.ntmps4 rfl hs ?_
 clear hs
 refine Gm ?_
 refine bx ?_; intro b4
 refine Gb1 ?_
 refine Am Try.call23 rfl (fun w hs => Og hs) ?_; intro _
 refine Gd1 ?_
 refine rn2 ?_
 refine Am Try.call14 rfl (fun w hs => Kv (c := c) (l := l) hs mm hcw) ?_; intro v26
 refine J.know (p := v26.1.oneCell' = true ∧ v26.2.1.oneCell' = true ∧ v26.2.2.1.oneCell' = true) (fun w hs => ⟨isSlice.one (hs.fact (.head _)), isSlice.one (hs.fact (.tail _ (.head _))), isSlice.one (hs.fact (.tail _ (.tail _ (.head _))))⟩) (fun h12 => ?_)
 obtain ⟨hone1, hone2, hone3⟩ := h12
 refine rn3 ?_
 refine Zbw ?_;intro b9
 refine s_B (cs := [v26.1, v26.2.1, v26.2.2.1]) Try.sizeOf33 ?_
 refine Ga1 ?_
 rcases (show (((build c l).1.cores.length : Int) = 0) ∨ (((build c l).1.cores.length : Int) ≠ 0 ∧ n < 0) ∨ (((build c l).1.cores.length : Int) ≠ 0 ∧ 0 ≤ n ∧ ((build c l).1.frames.length : Int) ≤ n) ∨ (((build c l).1.cores.length : Int) ≠ 0 ∧ 0 ≤ n ∧ n < ((build c l).1.frames.length : Int)) from by omega) with hc | hc | hc | hc
 ·refine ZJ ?_
  refine Cj ?_
  refine Gd11 ?_
  exact ZfP
 ·refine Zb2 ?_
  refine D2 ?_
  refine Gd8 ?_
  exact ZfP
 ·refine Zb2 ?_
  refine Bh ?_
  refine ZaL ?_
  refine Gd1 ?_
  exact ZfP
 ·obtain ⟨n_, nl, hcc, M, hI⟩ := (Jq c l).resolve_left (fun h => by rw [h, List.length_nil] at hc; omega)
  refine Zb2 ?_
  refine ZaX ?_
  refine Gc1 ?_
  generalize (build c l).1 = X at hI hc ⊢
  have hr : ¬ By X n := by unfold By; omega
  have hcx : Aq X = c := by
   show (⟨((X.cores.length : Nat) : Int), ((X.home.length : Nat) : Int)⟩ : Config) = c
   rw [hI.nc, hI.nh]; exact hcc.symm
  refine JC.open1 (xs := X.frames) (v := v26.2.2.1) n.toNat mm (by omega) (fun _ fu => ?_)
  refine cq_ (blk b9 33 [v26.1, v26.2.1, v26.2.2.1] :: blk b4 23 c.cells :: L) ?_
  refine jd_ (fun ρ S => blk b9 33 [v26.1, v26.2.1, v26.2.2.1] :: blk b4 23 c.cells :: ((bif S 10 then [blk (Gh.dec (γ := Nat) (ρ 10)) 49 (bif S 11 then (Af c (X.frames.getD n.toNat [])).1.cells else zMsg.cells)] else []) ++ (L))) ?_
  refine dn6 ?_
  refine Cd (γ := Unit) (val := fun _ => .tuple #[.agg (Af c (X.frames.getD n.toNat [])).1.cells.toArray, vi (Af c (X.frames.getD n.toNat [])).2]) (F := fun _ => []) Try.call24 (fun _ => rfl) (fun ρ L R w hd hs => Pp (c := c) hs (hd.base mm) hcw) (fun _ _ _ _ _ => rfl) ?_
  first | refine epc (fun _ _ => Qw) ?_ | refine epp (fun _ _ => Qw) ?_
  first | refine epc (fun _ _ => q_x) ?_ | refine epp (fun _ _ => q_x) ?_
  first | refine epc (fun _ _ => q_x) ?_ | refine epp (fun _ _ => q_x) ?_
  refine Hq (cs := zMsg.cells) Try.zeroValue49 rfl (fun ρ b S hS hA => ?_) ?_
  ·have ui : upS S 10 10 = true := rfl; have u11 : upS S 10 11 = S 11 := rfl; have h11 : S 11 = false := hA 11 ⟨0, rfl⟩; have rs : (Gh.dec (γ := Nat) (Rho.set ρ 10 (Gh.enc b) 10)) = b := rfl
   simp only [ui, hS, u11, h11, rs, cond_true, cond_false, List.nil_append]
   exact Zfb
  refine es_ 49 0 [10] [] (fun ρ => (Gh.dec (γ := Nat) (ρ 10))) (fun ρ => zMsg.cells) (fun ρ => (Af c (X.frames.getD n.toNat [])).1.cells) Try.sizeOf49 ?_
  first | refine epc (fun _ _ => D1) ?_ | refine epp (fun _ _ => D1) ?_
  refine dnl ?_; intro ρ
  refine xq_ (blk b9 33 [v26.1, v26.2.1, v26.2.2.1] :: blk b4 23 c.cells :: (blk (Gh.dec (γ := Nat) (ρ 10)) 49 (Af c (X.frames.getD n.toNat [])).1.cells :: L)) ?_
  generalize (Gh.dec (γ := Nat) (ρ 10)) = b11
  refine Gl ?_
  refine kp [2, 3, 8, 9, 12, 54, 55] ?_
  refine ZR ?_
  refine cdy ?_ ?_
  ·intro ht55
   refine ZA ?_
   exact Bg ()
  ·intro ht55
   have hp : (Af (Aq X) (Aw X.frames n)).2 = 0 := by rw [hcx]; exact Decidable.not_not.1 ht55
   obtain ⟨A5, e5⟩ : ∃ a, Ak X ⟨5, 0, n, bit, zOp⟩ = a := ⟨_, rfl⟩
   refine Zan ?_
   refine Am Try.call19 rfl (fun w hs => by have h := Dm (x := X) (s := ⟨5, 0, n, bit, zOp⟩) hs mm mm mm (by have := hn; have := hb; unfold Step.wf Ap zOp at *; simp only; omega) hI; rw [e5] at h; exact h) ?_; intro v61
   refine Zda ?_;intro h12
   obtain ⟨honev611, honev612, honev613⟩ := h12
   refine rn4 ?_
   refine al_ (cs := [.slice none 0 0, .slice none 0 0, .slice none 0 0]) Try.zeroValue33 ?_; intro b13
   refine s_B (cs := [v61.1, v61.2.1, v61.2.2.1]) Try.sizeOf33 ?_
   refine Gb2 ?_
   refine Ga2 ?_
   refine cdy ?_ ?_
   ·intro ht66
    refine ZA ?_
    exact Bg ()
   ·intro ht66
    have hok : (Ak X ⟨5, 0, n, bit, zOp⟩).2.2 = 0 := by rw [e5]; exact Decidable.not_not.1 ht66
    have hsl := S7 hr hp hok
    obtain ⟨M5, hI5, _⟩ := Jk hI hok
    rw [e5] at hsl hI5
    refine Zaf ?_
    refine Am Try.call19 rfl (fun w hs => by have h := Dm (x := A5.1) (s := ⟨2, 0, n, 0, zOp⟩) hs mm mm mm (by have := hn; unfold Step.wf Ap zOp at *; simp only; omega) hI5; rw [hsl.1] at h; exact h) ?_; intro v71
    refine J.know (p := v71.1.oneCell' = true ∧ v71.2.1.oneCell' = true ∧ v71.2.2.1.oneCell' = true) (fun w hs => ⟨isSlice.one (hs.fact (.head _)), isSlice.one (hs.fact (.tail _ (.head _))), isSlice.one (hs.fact (.tail _ (.tail _ (.head _))))⟩) (fun h12 => ?_)
    obtain ⟨honev711, honev712, honev713⟩ := h12
    refine rn4 ?_
    refine al_ (cs := [.slice none 0 0, .slice none 0 0, .slice none 0 0]) Try.zeroValue33 ?_; intro b16
    refine s_B (cs := [v71.1, v71.2.1, v71.2.2.1]) Try.sizeOf33 ?_
    refine Gb2 ?_
    refine rn3 ?_
    refine Am Try.call19 rfl (fun w hs => by have h := Dm (x := X) (cv := v26.1) (hv := v26.2.1) (fv := v26.2.2.1) (s := ⟨3, 0, n, 0, zOp⟩) hs mm mm mm (by have := hn; unfold Step.wf Ap zOp at *; simp only; omega) hI; rw [hsl.2] at h; exact h) ?_; intro v79
    refine J.know (p := v79.1.oneCell' = true ∧ v79.2.1.oneCell' = true ∧ v79.2.2.1.oneCell' = true) (fun w hs => ⟨isSlice.one (hs.fact (.head _)), isSlice.one (hs.fact (.tail _ (.head _))), isSlice.one (hs.fact (.tail _ (.tail _ (.head _))))⟩) (fun h12 => ?_)
    obtain ⟨honev791, honev792, honev793⟩ := h12
    refine rn4 ?_
    refine al_ (cs := [.slice none 0 0, .slice none 0 0, .slice none 0 0]) Try.zeroValue33 ?_; intro b18
    refine s_B (cs := [v79.1, v79.2.1, v79.2.2.1]) Try.sizeOf33 ?_
    refine Ga2 ?_
    refine kp [8, 15, 16, 17, 18, 20, 83, 84, 85, 86, 87, 88, 89, 90, 91, 92, 93, 94, 95, 96, 97, 98] ?_
    refine ZC ?_
    refine Zaz ?_
    refine Zab ?_
    refine Zaz ?_
    refine ZG ?_
    refine Zaz ?_
    refine ZG ?_
    refine Am Try.call17 rfl (fun w hs => Gx (a := ⟨X.cores, X.home, X.frames.eraseIdx n.toNat⟩) rfl hs mm mm mm mm mm mm) ?_; intro _u
    refine Ga2 ?_
    exact Bg ()
theorem Vz {u0 u1 : Value} {a b : Core} (e : a = b) (hs : St L R w) (h0 : sl u0 a.lines ∈ R) (h1 : sl u1 b.lines ∈ R) : Calls Try.prog 25 [.agg (a.cells u0).toArray, .agg (b.cells u1).toArray].toArray w (Bu (fun _ : Unit => .bool true) (fun _ => L) (fun _ => R)) := by
 subst e; exact Q3 hs h0 h1
theorem Vx {v0 v1 : Value} {a b : List Entry} (e : a = b) (hs : St L R w) (h0 : sl v0 a ∈ R) (h1 : sl v1 b ∈ R) : Calls Try.prog 26 [v0, v1].toArray w (Bu (fun _ : Unit => .bool true) (fun _ => L) (fun _ => R)) := by
 subst e; exact Q2 hs h0 h1
theorem Oo {vl : Value} {c : Config} {l : List Step} {n : Int} (hs : St (L) R w) (hl : sl vl l ∈ R) (hcw : c.wf) (hn : Ap n) : Calls Try.prog 5 [.agg c.cells.toArray, vl, vi n].toArray w (Bu (fun _ : Unit => .bool true) (fun _ => L) (fun _ => R)) := by
 refine Ai Try.func5 rfl Try.ntmps5 rfl hs ?_
 clear hs
 refine Zah ?_;intro b3
 refine Gb1 ?_
 refine Am Try.call23 rfl (fun w hs => Og hs) ?_; intro _
 refine Gd1 ?_
 refine rn2 ?_
 refine Am Try.call14 rfl (fun w hs => Kv (c := c) (l := l) hs mm hcw) ?_; intro v25
 refine Zdb ?_;intro h12
 obtain ⟨hone1, hone2, hone3⟩ := h12
 refine rn3 ?_
 refine Za6 ?_;intro b7
 refine s_B (cs := [v25.1, v25.2.1, v25.2.2.1]) Try.sizeOf33 ?_
 refine Ga1 ?_
 rcases (show (((build c l).1.cores.length : Int) = 0) ∨ (((build c l).1.cores.length : Int) ≠ 0 ∧ n < 0) ∨ (((build c l).1.cores.length : Int) ≠ 0 ∧ 0 ≤ n ∧ ((build c l).1.frames.length : Int) ≤ n) ∨ (((build c l).1.cores.length : Int) ≠ 0 ∧ 0 ≤ n ∧ n < ((build c l).1.frames.length : Int) ∧ 40 ≤ ((build c l).1.frames.length : Int)) ∨ (((build c l).1.cores.length : Int) ≠ 0 ∧ 0 ≤ n ∧ n < ((build c l).1.frames.length : Int) ∧ ((build c l).1.frames.length : Int) < 40) from by omega) with hc | hc | hc | hc | hc
 ·refine ZJ ?_
  refine Cj ?_
  refine Gc17 ?_
  exact Zgm
 ·refine Zb2 ?_
  refine D2 ?_
  refine Gc14 ?_
  exact Zgm
 ·refine Zb2 ?_
  refine Bh ?_
  refine ZaL ?_
  refine Gc7 ?_
  exact Zgm
 ·refine Zb2 ?_
  refine ZaX ?_
  refine ZO ?_
  refine Hm ?_
  refine Gc1 ?_
  exact Zgm
 ·obtain ⟨n_, nl, hcc, M, hI⟩ := (Jq c l).resolve_left (fun h => by rw [h, List.length_nil] at hc; omega)
  refine Zb2 ?_
  refine ZaX ?_
  refine ZO ?_
  refine Dq ?_
  refine Gc1 ?_
  generalize (build c l).1 = X at hI hc ⊢
  have hr : ¬ By X n := by unfold By; omega
  have hto := Vu hI hr (by omega)
  unfold Rq Z3 at hto
  obtain ⟨A1, eA1⟩ : ∃ a, Ak X ⟨2, 0, n, 0, zOp⟩ = a := ⟨_, rfl⟩
  obtain ⟨A2, eA2⟩ : ∃ a, Ak X ⟨4, 0, n, 0, zOp⟩ = a := ⟨_, rfl⟩
  rw [eA1, eA2] at hto
  obtain ⟨A3, eA3⟩ : ∃ a, Ak A2.1 ⟨2, 0, n, 0, zOp⟩ = a := ⟨_, rfl⟩
  rw [eA3] at hto
  obtain ⟨A4, eA4⟩ : ∃ a, Ak A3.1 ⟨2, 0, ((X.frames.length : Int) - 1), 0, zOp⟩ = a := ⟨_, rfl⟩
  rw [eA4] at hto
  obtain ⟨h1_, h2_, h3_, h4_, h5_, h6_, h7_, h8_⟩ := hto
  obtain ⟨M2, hI2, _⟩ := Jk hI (s := ⟨4, 0, n, 0, zOp⟩) (by rw [eA2]; exact h2_)
  rw [eA2] at hI2
  obtain ⟨M3, hI3, _⟩ := Jk hI2 (s := ⟨2, 0, n, 0, zOp⟩) (by rw [eA3]; exact h3_)
  rw [eA3] at hI3
  obtain ⟨M4, hI4, _⟩ := Jk hI3 (s := ⟨2, 0, ((X.frames.length : Int) - 1), 0, zOp⟩) (by rw [eA4]; exact h4_)
  rw [eA4] at hI4
  have hn4 : A4.1.cores.length ≤ 4 := by rw [hI4.nc]; exact hI4.n1.2
  have hl4 : A4.2.1.length = 0 := by rw [h6_]; rfl
  have hlc : A4.1.cores.length = A1.1.cores.length := by rw [h7_]
  refine kp [2, 6, 7, 9, 10, 11, 49, 50, 51, 52, 53, 54, 55, 56] ?_
  refine ZJ ?_
  refine Am Try.call19 rfl (fun w hs => by have h := Dm (x := X) (s := ⟨2, 0, n, 0, zOp⟩) hs mm mm mm (by have := hn; unfold Step.wf Ap zOp at *; simp only; omega) hI; rw [eA1] at h; exact h) ?_; intro v53
  refine Zek ?_;intro h12
  obtain ⟨honev531, honev532, honev533⟩ := h12
  refine rn4 ?_
  refine Zbw ?_;intro b9
  refine s_B (cs := [v53.1, v53.2.1, v53.2.2.1]) Try.sizeOf33 ?_
  refine Gb2 ?_
  refine rn3 ?_
  refine Am Try.call19 rfl (fun w hs => by have h := Dm (x := X) (s := ⟨4, 0, n, 0, zOp⟩) hs mm mm mm (by have := hn; unfold Step.wf Ap zOp at *; simp only; omega) hI; rw [eA2] at h; exact h) ?_; intro v61
  refine Zda ?_;intro h12
  obtain ⟨honev611, honev612, honev613⟩ := h12
  refine rn4 ?_
  refine al_ (cs := [.slice none 0 0, .slice none 0 0, .slice none 0 0]) Try.zeroValue33 ?_; intro b12
  refine s_B (cs := [v61.1, v61.2.1, v61.2.2.1]) Try.sizeOf33 ?_
  refine Zax ?_
  refine ob (Ao rfl rfl (Cv h1_)) ?_
  refine Zab ?_
  refine ob (Ao rfl rfl (Cv h2_)) ?_
  refine Gd1 ?_
  refine rn3 ?_
  refine Am Try.call19 rfl (fun w hs => by have h := Dm (x := A2.1) (s := ⟨2, 0, n, 0, zOp⟩) hs mm mm mm (by have := hn; unfold Step.wf Ap zOp at *; simp only; omega) hI2; rw [eA3] at h; exact h) ?_; intro v75
  refine J.know (p := v75.1.oneCell' = true ∧ v75.2.1.oneCell' = true ∧ v75.2.2.1.oneCell' = true) (fun w hs => ⟨isSlice.one (hs.fact (.head _)), isSlice.one (hs.fact (.tail _ (.head _))), isSlice.one (hs.fact (.tail _ (.tail _ (.head _))))⟩) (fun h12 => ?_)
  obtain ⟨honev751, honev752, honev753⟩ := h12
  refine rn4 ?_
  refine s_B (cs := [v75.1, v75.2.1, v75.2.2.1]) Try.sizeOf33 ?_
  refine Ga2 ?_
  refine kp [6, 7, 9, 10, 12, 14, 15, 16, 17, 18, 79, 80, 81, 82, 83, 84, 85, 86, 87, 88, 89] ?_
  refine Zam ?_
  refine Am Try.call19 rfl (fun w hs => by have h := Dm (x := A3.1) (s := ⟨2, 0, ((X.frames.length : Int) - 1), 0, zOp⟩) hs mm mm mm (by unfold Step.wf Ap zOp; simp only; omega) hI3; rw [eA4] at h; exact h) ?_; intro v86
  refine J.know (p := v86.1.oneCell' = true ∧ v86.2.1.oneCell' = true ∧ v86.2.2.1.oneCell' = true) (fun w hs => ⟨isSlice.one (hs.fact (.head _)), isSlice.one (hs.fact (.tail _ (.head _))), isSlice.one (hs.fact (.tail _ (.tail _ (.head _))))⟩) (fun h12 => ?_)
  obtain ⟨honev861, honev862, honev863⟩ := h12
  refine rn4 ?_
  refine al_ (cs := [.slice none 0 0, .slice none 0 0, .slice none 0 0]) Try.zeroValue33 ?_; intro b16
  refine s_B (cs := [v86.1, v86.2.1, v86.2.2.1]) Try.sizeOf33 ?_
  refine Zax ?_
  refine ob (Ao rfl rfl (Cv h3_)) ?_
  refine Zab ?_
  refine ob (Ao rfl rfl (Cv h4_)) ?_
  refine ZG ?_
  refine Am Try.call21 rfl (fun w hs => Hi h5_.symm hs mm mm) ?_; intro _u
  refine ZO ?_
  refine Ei ?_
  refine rn8 ?_
  refine gy ?_
  refine Ib ?_
  refine Gc1 ?_
  refine kp [6, 9, 16, 116, 117, 118, 119] ?_
  refine Aa ?_
  refine Ga4 ?_
  refine Bl (γ := Nat) (fun k => k ≤ A4.1.cores.length) (fun _ => blk b16 33 [v86.1, v86.2.1, v86.2.2.1] :: blk b9 33 [v53.1, v53.2.1, v53.2.2.1] :: L) (fun _ => sl v86.1 A4.1.cores :: sl v86.2.1 A4.1.home :: sl v53.1 A1.1.cores :: sl v53.2.1 A1.1.home :: R) (fun k => [(9, bp b9 0), (16, bp b16 0), (118, vi (A4.1.cores.length : Int)), (119, vi (k : Int))]) (fun k => A4.1.cores.length - k) 0 (Nat.zero_le _) alT (fun w hs => Ah hs) ?_
  rintro k hk
  refine ZA ?_
  refine cdy ?_ ?_
  ·intro ht120
   refine ZD ?_
   refine Iq k (x := A4.1) (v := v86.1) mm (by omega) (fun _ ua honeua => ?_)
   refine Iq k (x := A1.1) (v := v53.1) mm (by omega) (fun _ ub honeub => ?_)
   have hck : cor A4.1 k = cor A1.1 k := by unfold cor; rw [h7_]
   refine Cf ?_
   refine Y5 ?_
   refine dj ?_
   refine I3 (γ := Unit) (val := fun _ => .bool true) (F := fun _ => []) (C := fun _ => []) Try.call25 (fun _ => rfl) (fun _ _ _ _ => rfl) (fun ρ L R w hd hs => Vz hck hs (hd.base mm) (hd.base mm)) ?_
   exact ZfS
  ·intro ht120
   refine Zan ?_
   refine Am Try.call26 rfl (fun w hs => Vx h8_ hs mm mm) ?_; intro _u
   refine Ga1 ?_
   exact Bg ()
instance instGhV5 : Gh (Value × Value × Value × Value × Value) := ⟨fun g => (g.a, g.b, g.c, match g.d with | .tuple x => (x.getD 0 undef, x.getD 1 undef) | _ => (undef, undef)), fun v => ⟨v.1, v.2.1, v.2.2.1, .tuple #[v.2.2.2.1, v.2.2.2.2], 0⟩, fun _ => rfl⟩
theorem rdAns {R : List Fact} {e : Answer} (hw : e.wf) : ∀ j, (∀ q ∈ R, q.p j) → RdV [e] [.agg e.cells.toArray] j := fun j _ => ⟨⟨_, rfl, rfl, hw⟩, trivial⟩
def Ga : Chip → List Step → List Answer
 | _, [] => []
 | x, s :: r => ⟨(Ak x s).2.2, ((Ak x s).2.1.length : Int)⟩ :: Ga (if (Ak x s).2.2 = 0 then (Ak x s).1 else x) r
def Qu (x : Chip) (s : Step) : Answer := ⟨(Ak x s).2.2, ((Ak x s).2.1.length : Int)⟩
theorem Kn (s : Step) : ∀ (l : List Step) (x : Chip), Ga x (l ++ [s]) = Ga x l ++ [Qu (C0 x l).1 s]
 | [], x => rfl
 | a :: l, x => by
  rw [List.cons_append]; unfold Ga
  rw [List.cons_append]; congr 1
  by_cases h : (Ak x a).2.2 = 0
  ·rw [if_pos h, Fu h]; exact Kn s l _
  ·rw [if_neg h, Fv h]; exact Kn s l _
theorem J5 : ∀ (l : List Step) (x : Chip), (Ga x l).length = l.length
 | [], _ => rfl
 | a :: l, x => by unfold Ga; rw [List.length_cons, J5 l, List.length_cons]
def aAt (c : Config) (l : List Step) (k : Nat) : List Answer := Ga (A8 c).1 (l.take k)
theorem Vs {c : Config} {l : List Step} {k : Nat} (h : k < l.length) : aAt c l (k + 1) = aAt c l k ++ [Qu (bAt c l k).1 (l.getD k zStep)] := by
 unfold aAt bAt; rw [Fk zStep h]; exact Kn ..
theorem Akd {c : Config} {l : List Step} {k : Nat} (h : k ≤ l.length) : (aAt c l k).length = k := by
 unfold aAt; rw [J5, List.length_take]; omega
def An (c : Config) (l : List Step) : Chip × List Answer × List Done × Int :=
 if (A8 c).2 ≠ 0 then (Dn, [], [], (A8 c).2)
 else if 300 < l.length then (Dn, [], [], 4)
 else ((C0 (A8 c).1 l).1, Ga (A8 c).1 l, (C0 (A8 c).1 l).2, 0)
theorem Afa {c : Config} {l : List Step} (h : (A8 c).2 ≠ 0) : An c l = (Dn, [], [], (A8 c).2) := if_pos h
theorem pS_2 {c : Config} {l : List Step} (h : (A8 c).2 = 0) (h2 : 300 < l.length) : An c l = (Dn, [], [], 4) := by unfold An; rw [if_neg (by rw [h]; decide), if_pos h2]
theorem pS_3 {c : Config} {l : List Step} (h : (A8 c).2 = 0) (h2 : l.length ≤ 300) : An c l = ((bAt c l l.length).1, aAt c l l.length, (bAt c l l.length).2, 0) := by
 unfold An bAt aAt; rw [if_neg (by rw [h]; decide), if_neg (by omega), List.take_length]
theorem Zt (c : Core) (id home : Int) (o : Op) : 0 ≤ (Aj c id home o).2.2.2 ∧ (Aj c id home o).2.2.2 ≤ 8 := by
 unfold Aj
 repeat' split
 all_goals exact ⟨by simp, by simp⟩
theorem Xj (l : Frames) (k b : Int) : 0 ≤ (Br l k b).2 ∧ (Br l k b).2 ≤ 8 := by
 unfold Br
 repeat' split
 all_goals exact ⟨by simp, by simp⟩
theorem Aja (x : Chip) (s : Step) : 0 ≤ (Ak x s).2.2 ∧ (Ak x s).2.2 ≤ 8 := by
 have h1 := Xj x.frames s.n s.bit
 have h2 := Zt (Ar x s.node) s.node (Bd x) s.op
 unfold Ak
 generalize Br x.frames s.n s.bit = z at *
 generalize Aj (Ar x s.node) s.node (Bd x) s.op = y at *
 repeat' split
 all_goals first | exact h1 | exact h2 | exact ⟨by simp, by simp⟩
theorem Ael (x : Chip) (s : Step) : (Qu x s).wf := by
 have h1 := Aja x s; have h2 := Ke x s
 unfold Answer.wf Qu Ap; simp only; omega
def Dd (l : List Done) (p : Int) : List Done := l.filter (fun d => d.core == p)
theorem Vh {l : List Done} {p : Int} {k : Nat} (h : k < l.length) (hd : (l.getD k zDone).core = p) : Dd (l.take (k + 1)) p = Dd (l.take k) p ++ [l.getD k zDone] := by
 unfold Dd; rw [Fk zDone h, List.filter_append]; congr 1; generalize l.getD k zDone = d at hd ⊢; simp [hd]
theorem Vi {l : List Done} {p : Int} {k : Nat} (h : k < l.length) (hd : ¬ (l.getD k zDone).core = p) : Dd (l.take (k + 1)) p = Dd (l.take k) p := by
 unfold Dd; rw [Fk zDone h, List.filter_append]; generalize l.getD k zDone = d at hd ⊢; simp [hd]
theorem Pb (l : List Done) (p : Int) (k : Nat) : (Dd (l.take k) p).length ≤ l.length := by
 unfold Dd
 exact Nat.le_trans (List.length_filter_le _ _) (by rw [List.length_take]; omega)
theorem He {vl : Value} {c : Config} {l : List Step} (hs : St (L) R w) (hl : sl vl l ∈ R) (hcw : c.wf) : Calls Try.prog 27 [.agg c.cells.toArray, vl].toArray w (Bu (fun v : Value × Value × Value × Value × Value => .tuple #[.agg #[v.1, v.2.1, v.2.2.1], v.2.2.2.1, v.2.2.2.2, vi (An c l).2.2.2]) (fun v => L) (fun v => sl v.1 (An c l).1.cores :: sl v.2.1 (An c l).1.home :: sl v.2.2.1 (An c l).1.frames :: sl v.2.2.2.1 (An c l).2.1 :: sl v.2.2.2.2 (An c l).2.2.1 :: R)) := by
 have hlen := Bj hl hs
 refine Ai Try.func27 rfl Try.ntmps27 rfl hs ?_
 clear hs
 refine Zay ?_;intro b2
 refine Zcm ?_;intro b4
 refine Gb3 ?_
 refine rn1 ?_
 refine Am Try.call15 rfl (fun w hs => Ql (c := c) hs hcw) ?_; intro v19
 refine J.know (p := v19.1.oneCell' = true ∧ v19.2.oneCell' = true) (fun w hs => ⟨isSlice.one (hs.fact (.head _)), isSlice.one (hs.fact (.tail _ (.head _)))⟩) (fun h12 => ?_)
 obtain ⟨honev191, honev192⟩ := h12
 refine rn3 ?_
 refine al_ (cs := [.slice none 0 0, .slice none 0 0, .slice none 0 0]) Try.zeroValue33 ?_; intro b8
 refine s_B (cs := [v19.1, v19.2, .slice none 0 0]) Try.sizeOf33 ?_
 refine ZF ?_
 refine cdy ?_ ?_
 ·intro ht23
  refine Gl ?_
  refine Zaa ?_
  refine JC.slNil Answer ?_
  refine Aa ?_
  refine ZaG ?_
  refine rn1 ?_
  refine ZaB ?_
  refine Ga3 ?_
  rw [Afa ht23]
  exact Zgv
 ·intro ht23
  refine ZU ?_
  refine cdy ?_ ?_
  ·intro ht28
   refine Gl ?_
   refine Zaa ?_
   refine JC.slNil Answer ?_
   refine Aa ?_
   refine ZaG ?_
   refine ZaB ?_
   refine Ga3 ?_
   rw [pS_2 (Decidable.not_not.1 ht23) (by omega)]
   exact Zgv
  ·intro ht28
   refine ZP ?_
   refine Za1 ?_
   have hok : (A8 c).2 = 0 := Decidable.not_not.1 ht23
   have hl3 : l.length ≤ 300 := by omega
   have e0 : bAt c l 0 = ((A8 c).1, []) := by unfold bAt; simp [C0]
   have e0a : aAt c l 0 = [] := by unfold aAt; simp [Ga]
   refine Zal ?_
   refine JC.rowNil 64 Answer ?_
   refine Bl (γ := Nat × Value × Value × Value × Value × Value) (fun g => g.1 ≤ l.length) (fun g => row 64 g.2.2.2.2.1 (aAt c l g.1) :: row 66 g.2.2.2.2.2 (bAt c l g.1).2 :: blk b8 33 [g.2.1, g.2.2.1, g.2.2.2.1] :: blk b4 33 [.slice none 0 0, .slice none 0 0, .slice none 0 0] :: L) (fun g => sl g.2.1 (bAt c l g.1).1.cores :: sl g.2.2.1 (bAt c l g.1).1.home :: sl g.2.2.2.1 (bAt c l g.1).1.frames :: R) (fun g => [(4, bp b4 0), (8, bp b8 0), (10, g.2.2.2.2.1), (11, g.2.2.2.2.2), (30, vl), (31, vi (l.length : Int)), (32, vi (g.1 : Int))]) (fun g => l.length - g.1) (0, v19.1, v19.2, .slice none 0 0, .slice none 0 0, .slice none 0 0) (Nat.zero_le _) alT (fun w hs => by rw [e0, e0a]; exact Ah hs) ?_
   rintro ⟨k, cv, hv, fv, av, dv⟩ hk
   try simp only at hk ⊢
   refine ZA ?_
   refine cdy ?_ ?_
   ·intro ht33
    refine Gl ?_
    refine ZcG ?_;intro hsw
    refine ZB ?_
    refine al_ (cs := zStep.cells) Try.zeroValue28 ?_; intro b13
    refine ZcD ?_
    refine ZI ?_
    obtain ⟨n, nl, M, hI⟩ := Uh l hok k
    have hle := Akd (c := c) (l := l) (k := k) (by omega)
    have h8 := Lr c l k
    have h9 := Ke (bAt c l k).1 (l.getD k zStep)
    refine Am Try.call19 rfl (fun w hs => Dm (x := (bAt c l k).1) (s := (l.getD k zStep)) hs mm mm mm hsw hI) ?_; intro v39
    refine Zen ?_;intro h12
    obtain ⟨honev391, honev392, honev393⟩ := h12
    refine rn4 ?_
    refine al_ (cs := [.slice none 0 0, .slice none 0 0, .slice none 0 0]) Try.zeroValue33 ?_; intro b14
    refine ZcC ?_
    refine Ga2 ?_
    refine kp [4, 5, 6, 7, 8, 10, 11, 13, 14, 15, 16, 30, 31, 32, 33, 34, 35, 36, 37, 38, 39, 40, 41, 42, 43, 44, 45, 46, 47, 48, 49] ?_
    refine Za2 ?_
    refine li (α := Answer) ([Qu (bAt c l k).1 (l.getD k zStep)] : List Answer) eo_60 rfl (rdAns (Ael _ _)) ?_; intro v48
    refine ap eo_60 (hb := fun w hs => by have : maxN = 16777216 := rfl; (try simp only [List.length_cons, List.length_nil]); omega) (k := ?_); intro v49
    refine ZF ?_
    refine cdy ?_ ?_
    ·intro ht51
     refine ZL ?_
     refine ZcC ?_
     refine ZI ?_
     refine ap Ff (hb := fun w hs => by have : maxN = 16777216 := rfl; (try simp only [List.length_cons, List.length_nil]); omega) (k := ?_); intro v55
     refine ZF ?_
     have e1 := Qs (c := c) (l := l) (k := k) (by omega) ht51
     have e2 := Vs (c := c) (l := l) (k := k) (by omega)
     refine A6 (k + 1, v39.1, v39.2.1, v39.2.2.1, v49, v55) (by show k + 1 ≤ l.length; omega) (by show l.length - (k + 1) < l.length - k; omega) alT (fun w hs => ?_)
     try simp only
     rw [e1, e2]; exact Ah hs
    ·intro ht51
     refine ZD ?_
     have e1 := Vp (c := c) (l := l) (k := k) (by omega) ht51
     have e2 := Vs (c := c) (l := l) (k := k) (by omega)
     refine A6 (k + 1, cv, hv, fv, v49, dv) (by show k + 1 ≤ l.length; omega) (by show l.length - (k + 1) < l.length - k; omega) alT (fun w hs => ?_)
     try simp only
     rw [e1, e2]; exact Ah hs
   ·intro ht33
    refine Gl ?_
    have hkl : k = l.length := by omega
    subst hkl
    refine JC.shut (v := av) pkk ?_
    refine JC.shut (v := dv) pkk ?_
    refine JC.know (p := cv.oneCell' = true ∧ hv.oneCell' = true ∧ fv.oneCell' = true) (fun w hs => ⟨isSlice.one (hs.fact (mm (f := sl cv (bAt c l l.length).1.cores))), isSlice.one (hs.fact (mm (f := sl hv (bAt c l l.length).1.home))), isSlice.one (hs.fact (mm (f := sl fv (bAt c l l.length).1.frames)))⟩) (fun h12 => ?_)
    obtain ⟨hone1, hone2, hone3⟩ := h12
    refine ZJ ?_
    refine Zbz ?_
    refine Ga3 ?_
    rw [pS_3 hok hl3]
    exact E4 (cv, hv, fv, av, dv) Try.isAgg33 Try.sizeOf33
theorem Pu {v0 : Value} {l : List Done} {p : Int} (hs : St (L) R w) (h0 : sl v0 l ∈ R) (hlb : l.length ≤ 1000) (hp : Ap p) : Calls Try.prog 28 [v0, vi p].toArray w (Bu (fun v : Value => v) (fun v => L) (fun v => sl v (Dd l p) :: R)) := by
 have hlen := Bj h0 hs
 refine Ai Try.func28 rfl Try.ntmps28 rfl hs ?_
 clear hs
 refine ZP ?_
 refine Za1 ?_
 refine Zal ?_
 refine Bl (γ := Nat × Value) (fun g => g.1 ≤ l.length) (fun g => row 66 g.2 (Dd (l.take g.1) p) :: L) (fun _ => R) (fun g => [(1, vi p), (5, g.2), (8, v0), (9, vi (l.length : Int)), (10, vi (g.1 : Int))]) (fun g => l.length - g.1) (0, .slice none 0 0) (Nat.zero_le _) alT (fun w hs => Ah hs) ?_
 rintro ⟨k, v⟩ hk
 try simp only at hk ⊢
 have hdl := Pb l p k
 refine ZA ?_
 refine cdy ?_ ?_
 ·intro ht11
  refine Gl ?_
  refine JC.open0 (xs := l) (v := v0) k mm (by omega) (fun hdw => ?_)
  refine ZB ?_
  refine al_ (cs := zDone.cells) Try.zeroValue66 ?_; intro b7
  refine s_B (cs := (l.getD k zDone).cells) Try.sizeOf66 ?_
  refine ZaP ?_
  refine cdy ?_ ?_
  ·intro ht17
   refine ZB ?_
   refine li (α := Done) ([(l.getD k zDone)] : List Done) Ff rfl (Gg hdw) ?_; intro v20
   refine ap Ff (hb := fun w hs => by have : maxN = 16777216 := rfl; (try simp only [List.length_cons, List.length_nil]); omega) (k := ?_); intro v21
   refine ZF ?_
   have e1 := Vh (l := l) (k := k) (by omega) ht17
   refine A6 (k + 1, v21) (by show k + 1 ≤ l.length; omega) (by show l.length - (k + 1) < l.length - k; omega) alT (fun w hs => ?_)
   try simp only
   rw [e1]; exact Ah hs
  ·intro ht17
   refine ZD ?_
   have e1 := Vi (l := l) (k := k) (by omega) ht17
   refine A6 (k + 1, v) (by show k + 1 ≤ l.length; omega) (by show l.length - (k + 1) < l.length - k; omega) alT (fun w hs => ?_)
   exact ZfG
 ·intro ht11
  refine Gl ?_
  refine JC.shut (v := v) pkk ?_
  refine ZR ?_
  have hkl : k = l.length := by omega
  subst hkl
  rw [List.take_length]
  exact Bg v
theorem Aga {v1 : Value} {l : List Done} {lines : Int} (hs : St (L) R w) (h1 : sl v1 l ∈ R) (hl0 : 0 ≤ lines) (hl4 : lines ≤ 100) : Calls Try.prog 30 [vi lines, v1].toArray w (Bu (fun v : Value => .tuple #[v, vi (Hy lines l).2]) (fun v => L) (fun v => sl v (Hy lines l).1 :: R)) := by
 have hlen := Bj h1 hs
 refine Ai Try.func30 rfl Try.ntmps30 rfl hs ?_
 clear hs
 refine Zbg ?_
 refine Zat ?_
 refine ob (q_mx (a := lines) rfl hl0) ?_
 refine Ga1 ?_
 refine JC.rowNil 3 Int ?_
 refine Bl (γ := Nat × Value) (fun g => (g.1 : Int) ≤ lines) (fun g => row 3 g.2 (List.replicate g.1 (0 : Int)) :: L) (fun _ => R) (fun g => [(1, v1), (6, g.2), (13, vi lines), (14, vi (g.1 : Int))]) (fun g => lines.toNat - g.1) (0, .slice none 0 0) (by show (0 : Int) ≤ lines; omega) alT (fun w hs => Ah hs) ?_
 rintro ⟨k, v6⟩ hk
 try simp only at hk ⊢
 refine ZA ?_
 refine cdy ?_ ?_
 ·intro ht15
  refine ZL ?_
  refine li (α := Int) ([0] : List Int) E6 rfl (fun j hj => ⟨⟨_, rfl, rfl, by unfold Ap; decide⟩, trivial⟩) ?_; intro v17
  refine ap E6 (hb := fun w hs => by have : maxN = 16777216 := rfl; simp only [List.length_cons, List.length_nil, List.length_replicate]; omega) (k := ?_); intro v18
  refine ZF ?_
  refine A6 (k + 1, v18) (by show ((k + 1 : Nat) : Int) ≤ lines; omega) (by show lines.toNat - (k + 1) < lines.toNat - k; omega) alT (fun w hs => ?_)
  try simp only
  rw [List.replicate_succ']; exact Ah hs
 ·intro ht15
  refine Gl ?_
  have hkl : lines.toNat = k := by omega
  refine JC.shut (v := v6) pkk ?_
  rw [show List.replicate k (0 : Int) = Vt lines by unfold Vt; rw [hkl]]
  refine Za7 ?_
  refine Bl (γ := Nat × Value × List Int) (fun g => g.1 ≤ l.length ∧ g.2.2.length ≤ 16777216 ∧ Hy lines l = Gr g.2.2 (g.1 : Int) (l.drop g.1)) (fun _ => L) (fun g => sl g.2.1 g.2.2 :: R) (fun g => [(6, g.2.1), (20, v1), (21, vi (l.length : Int)), (22, vi (g.1 : Int))]) (fun g => l.length - g.1) (0, v6, Vt lines) ⟨by simp, by unfold Vt; rw [List.length_replicate]; omega, rfl⟩ alT (fun w hs => Ah hs) ?_
  rintro ⟨j, v, mk⟩ ⟨hj, hmk, hpl⟩
  try simp only at hj hmk hpl ⊢
  refine ZA ?_
  refine cdy ?_ ?_
  ·intro ht23
   refine Gl ?_
   refine JC.open0 (xs := l) (v := v1) j mm (by omega) (fun hdw => ?_)
   have hd : l[j]? = some (l.getD j zDone) := by rw [List.getD_eq_getElem?_getD, List.getElem?_eq_getElem (by omega)]; rfl
   refine ZJ ?_
   refine al_ (cs := zDone.cells) Try.zeroValue66 ?_; intro b8
   refine rn1 ?_
   refine s_B (cs := (l.getD j zDone).cells) Try.sizeOf66 ?_
   refine ZI ?_
   refine ZbF ?_
   refine Am Try.call66 rfl (fun w hs => refDo (m := mk) (o := (l.getD j zDone).op) hs mm) ?_; intro v31
   refine Ga7 ?_
   refine kp [4, 5, 6, 7, 8, 9, 10, 11, 20, 21, 22, 23, 24, 25, 26, 27, 28, 29, 30, 31, 32, 33, 34, 35, 36, 37, 38, 39, 40, 41, 42] ?_
   refine Ds 42 (.bool (decide (((Cg mk (l.getD j zDone).op).2.2 ≠ 0) ∨ ((Cg mk (l.getD j zDone).op).2.1 ≠ (l.getD j zDone).value)))) ?_ ?_
   ·rcases (show (((Cg mk (l.getD j zDone).op).2.2 ≠ 0)) ∨ (¬ ((Cg mk (l.getD j zDone).op).2.2 ≠ 0) ∧ ((Cg mk (l.getD j zDone).op).2.1 ≠ (l.getD j zDone).value)) ∨ (¬ ((Cg mk (l.getD j zDone).op).2.2 ≠ 0) ∧ ¬ ((Cg mk (l.getD j zDone).op).2.1 ≠ (l.getD j zDone).value)) from by omega) with hm | hm | hm
    ·refine ZC ?_
     refine Ia ?_
     refine Ga6 ?_
     exact Zfa
    ·refine ZC ?_
     refine Ib ?_
     refine ZG ?_
     refine Ia ?_
     refine Ga1 ?_
     exact Zfa
    ·refine ZC ?_
     refine Ib ?_
     refine ZG ?_
     refine Ib ?_
     refine Ga1 ?_
     exact Zfc
   ·refine Ax ?_
    refine Gl ?_
    first | (refine cdx (p := ?p3) (hd := ?d3) ?e3 ?_ ?_; case e3 => exact rfl) | (refine Bo (b := ?b3) ?e3 ?_ ?_; case e3 => exact rfl)
    ·intro ht42
     refine ZaP ?_
     have er : Hy lines l = (mk, (j : Int)) := by rw [hpl, Y1 hd, Pv (by omega)]
     rw [er]
     exact Cn v
    ·intro ht42
     refine Zbg ?_
     refine Ga2 ?_
     refine A6 (j + 1, v31, (Cg mk (l.getD j zDone).op).1) ⟨by show j + 1 ≤ l.length; omega, Nat.le_trans Wq hmk, ?_⟩ (by show l.length - (j + 1) < l.length - j; omega) alT (fun w hs => Ah hs)
     show Hy lines l = Gr (Cg mk (l.getD j zDone).op).1 ((j + 1 : Nat) : Int) (l.drop (j + 1))
     rw [hpl, Y1 hd, Nh (by rintro (h | h) <;> omega)]; rfl
  ·intro ht23
   refine ZU ?_
   have er : Hy lines l = (mk, -1) := by rw [hpl, List.drop_of_length_le (by omega)]; rfl
   rw [er]
   exact Cn v
theorem pS_err {c : Config} {l : List Step} (h : (An c l).2.2.2 ≠ 0) : (An c l).2.2.1 = [] ∧ (An c l).2.1 = [] := by
 by_cases h1 : (A8 c).2 = 0
 ·by_cases h2 : 300 < l.length
  ·rw [pS_2 h1 h2]; exact ⟨rfl, rfl⟩
  ·rw [pS_3 h1 (by omega)] at h; exact absurd rfl h
 ·rw [Afa h1]; exact ⟨rfl, rfl⟩
theorem X5 {c : Config} {l : List Step} (h : (An c l).2.2.2 = 0) : ∃ n nl : Nat, (1 ≤ n ∧ n ≤ 4) ∧ (1 ≤ nl ∧ nl ≤ 4) ∧ c = G5 n nl ∧ l.length ≤ 300 ∧ An c l = ((C0 (Ew n nl) l).1, Ga (Ew n nl) l, (C0 (Ew n nl) l).2, 0) := by
 by_cases h1 : (A8 c).2 = 0
 ·by_cases h2 : 300 < l.length
  ·rw [pS_2 h1 h2] at h; exact absurd h (by decide)
  ·obtain ⟨n, nl, a1, a2, a3, a4⟩ := Ih h1
   refine ⟨n, nl, a1, a2, a3, by omega, ?_⟩
   unfold An
   rw [if_neg (by rw [h1]; decide), if_neg h2, a4]
 ·rw [Afa h1] at h; exact absurd h h1
theorem Agf {c : Config} {l : List Step} (h : (An c l).2.2.2 = 0) : (0 ≤ c.lines ∧ c.lines ≤ 100) ∧ (Hy c.lines (An c l).2.2.1).2 = -1 := by
 obtain ⟨n, nl, h1, h2, h3, h4, h5⟩ := X5 h
 obtain ⟨M, _, h7⟩ := Gy l (Nq h1 h2)
 have hc : c.lines = (nl : Int) := by rw [h3]; rfl
 refine ⟨by omega, ?_⟩
 rw [h5, hc]; unfold Hy Vt
 rw [Int.toNat_natCast]; simp only
 rw [Rk h7]
theorem K5 : ∀ (a b : List Step) (x : Chip), C0 x (a ++ b) = ((C0 (C0 x a).1 b).1, (C0 x a).2 ++ (C0 (C0 x a).1 b).2)
 | [], b, x => by rw [List.nil_append]; simp [C0]
 | s :: a, b, x => by
  rw [List.cons_append]
  by_cases h : (Ak x s).2.2 = 0
  ·rw [Fu h, Fu h, K5 a b]; simp
  ·rw [Fv h, Fv h, K5 a b]
theorem Pf : ∀ (a b : List Step) (x : Chip), ∃ r, Ga x (a ++ b) = Ga x a ++ r
 | [], b, x => ⟨_, rfl⟩
 | s :: a, b, x => by
  rw [List.cons_append]; unfold Ga
  obtain ⟨r, hr⟩ := Pf a b (if (Ak x s).2.2 = 0 then (Ak x s).1 else x)
  exact ⟨r, by rw [hr]; rfl⟩
theorem Rp {c : Config} {l : List Step} {n : Nat} (hn : n ≤ l.length) (h : (An c l).2.2.2 = 0) : (An c (l.take n)).2.2.2 = 0 ∧ (∃ r, (An c l).2.2.1 = (An c (l.take n)).2.2.1 ++ r) ∧ (∃ r, (An c l).2.1 = (An c (l.take n)).2.1 ++ r) ∧ (An c (l.take n)).2.1.length = n ∧ (An c l).2.1.length = l.length := by
 obtain ⟨m, nl, h1, h2, h3, h4, h5⟩ := X5 h
 have hc : A8 c = (Ew m nl, 0) := by
  by_cases h6 : (A8 c).2 = 0
  ·obtain ⟨m', nl', _, _, b3, b4⟩ := Ih h6
   rw [h3] at b3
   have e1 : (m : Int) = m' := congrArg Config.cores b3
   have e2 : (nl : Int) = nl' := congrArg Config.lines b3
   rw [b4, show m = m' by omega, show nl = nl' by omega]
  ·rw [Afa h6] at h; exact absurd h h6
 have e : An c (l.take n) = ((C0 (Ew m nl) (l.take n)).1, Ga (Ew m nl) (l.take n), (C0 (Ew m nl) (l.take n)).2, 0) := by
  unfold An
  rw [if_neg (by rw [hc]; exact fun h => h rfl), if_neg (by rw [List.length_take]; omega), hc]
 rw [e, h5]; simp only
 have hl : l = l.take n ++ l.drop n := (List.take_append_drop n l).symm
 refine ⟨trivial, ?_, ?_, ?_, ?_⟩
 ·conv => enter [1, r, 1]; rw [hl, K5]
  exact ⟨_, rfl⟩
 ·conv => enter [1, r, 1]; rw [hl]
  exact Pf _ _ _
 ·rw [J5, List.length_take]; omega
 ·exact J5 _ _
def Ni (x : Chip) (p : Int) : List Op := if 0 ≤ p ∧ p < Bd x ∧ (Ar x p).wait.kind ≠ 0 then [(Ar x p).wait] else []
theorem Abm (x : Chip) (p : Int) : (Ni x p).length ≤ 1 := by unfold Ni; split <;> simp
def G0 (x : Chip) (s : Step) (p : Int) : List Op := if s.kind = 1 ∧ s.node = p ∧ (Ak x s).2.2 = 0 then [s.op] else []
def Fi : Chip → List Step → Int → List Op
 | _, [], _ => []
 | x, s :: r, p => G0 x s p ++ Fi (if (Ak x s).2.2 = 0 then (Ak x s).1 else x) r p
theorem I0 (s : Step) (p : Int) : ∀ (l : List Step) (x : Chip), Fi x (l ++ [s]) p = Fi x l p ++ G0 (C0 x l).1 s p
 | [], x => by rw [List.nil_append]; simp [Fi, C0]
 | a :: l, x => by
  rw [List.cons_append]; unfold Fi
  rw [List.append_assoc]; congr 1
  by_cases h : (Ak x a).2.2 = 0
  ·rw [if_pos h, Fu h]; exact I0 s p l _
  ·rw [if_neg h, Fv h]; exact I0 s p l _
theorem R9 {α : Type} (l : List α) (q p : Int) (a d : α) (h0 : 0 ≤ q) (hq : q < (l.length : Int)) (hp : 0 ≤ p) : (l.set q.toNat a).getD p.toNat d = if p = q then a else l.getD p.toNat d := by
 have h1 := Df l q.toNat p.toNat a d (by omega)
 rw [h1]
 by_cases e : p = q
 ·rw [if_pos (by omega), if_pos e]
 ·rw [if_neg (by omega), if_neg e]
theorem Ut {x : Chip} {q p : Int} {k : Core} {h : List Entry} {f : Frames} (h0 : 0 ≤ q) (hq : q < Bd x) (hp : 0 ≤ p) : Ni ⟨x.cores.set q.toNat k, h, f⟩ p = if p = q then (if k.wait.kind ≠ 0 then [k.wait] else []) else Ni x p := by
 unfold Ni Bd Ar at *
 simp only [List.length_set]
 rw [R9 x.cores q p k E8 h0 hq hp]
 by_cases e : p = q
 ·subst e
  rw [if_pos rfl, if_pos rfl]
  by_cases w : k.wait.kind ≠ 0
  ·rw [if_pos ⟨hp, hq, w⟩, if_pos w]
  ·rw [if_neg (fun h => w h.2.2), if_neg w]
 ·rw [if_neg e, if_neg e]
theorem Uu {x : Chip} {p : Int} (h : p < 0) : Ni x p = [] := by unfold Ni; rw [if_neg (by omega)]
theorem Rm {x y : Chip} (p : Int) (h : y.cores = x.cores) : Ni y p = Ni x p := by unfold Ni Bd Ar; rw [h]
theorem Py (p : Int) : Dd [] p = [] := rfl
theorem Uw (d : Done) (p : Int) : (Dd [d] p).map Done.op = if d.core = p then [d.op] else [] := by
 unfold Dd; by_cases h : d.core = p <;> simp [h]
theorem of_app (a b : List Done) (p : Int) : Dd (a ++ b) p = Dd a p ++ Dd b p := List.filter_append ..
theorem Sw {c : Core} {id home : Int} {o : Op} (h : (Aj c id home o).2.2.2 = 0) : c.wait.kind = 0 ∧ o.kind ≠ 0 ∧ (((Aj c id home o).1.wait = zOp ∧ ∃ v, (Aj c id home o).2.2.1 = [⟨id, o, v⟩]) ∨ ((Aj c id home o).1.wait = o ∧ (Aj c id home o).2.2.1 = [])) := by
 revert h; unfold Aj
 split
 ·intro h; exact absurd h (by simp)
 split
 ·intro h; exact absurd h (by simp)
 split
 ·intro h; exact absurd h (by simp)
 rename_i h1 h2 h3
 split
 ·intro _; exact ⟨by omega, by omega, .inl ⟨rfl, _, rfl⟩⟩
 ·intro _; exact ⟨by omega, by omega, .inr ⟨rfl, rfl⟩⟩
theorem Acj {c : Core} {id home : Int} {m : Msg} (hw : ∀ i : Nat, i < c.lines.length → (c.lines.getD i zLine).want ≠ 0 → c.wait.kind ≠ 0) : ((Ae c id home m).1.wait = c.wait ∧ (Ae c id home m).2.2 = []) ∨ (c.wait.kind ≠ 0 ∧ (Ae c id home m).1.wait = zOp ∧ ∃ v, (Ae c id home m).2.2 = [⟨id, c.wait, v⟩]) := by
 have hz : ¬ (m.line < 0 ∨ (c.lines.length : Int) ≤ m.line) → (Ac c m.line).want ≠ 0 → c.wait.kind ≠ 0 := fun h => hw m.line.toNat (by omega)
 unfold Ae
 split
 ·exact Zgq
 rename_i h0
 have hz := hz h0
 split
 ·exact Zgq
 split
 ·split
  ·by_cases w : (Ac c m.line).want = 3
   ·rw [if_pos w, if_pos w]
    exact .inr ⟨hz (by omega), rfl, _, rfl⟩
   ·rw [if_neg w, if_neg w]
    exact Zgq
  split
  ·exact Zgq
  ·exact Zgq
 split
 ·split
  ·exact Zgq
  split
  ·rename_i ha
   exact .inr ⟨hz (by have := ha.2; omega), rfl, _, rfl⟩
  ·exact Zgq
 split
 ·rename_i ha
  exact .inr ⟨hz (by have := ha.2.1; omega), rfl, _, rfl⟩
 ·exact Zgq
section
variable {n nl : Nat} {x : Chip} {M : List Int}
theorem Yg (h : Inv n nl x M) {p : Int} (h0 : 0 ≤ p) (hp : p < Bd x) : ∀ i : Nat, i < (Ar x p).lines.length → ((Ar x p).lines.getD i zLine).want ≠ 0 → (Ar x p).wait.kind ≠ 0 := by
 have hn := h.nc; unfold Bd at hp
 have hp' : p.toNat < n := by omega
 intro i hi hw
 have hl := h.ncl p.toNat hp'
 exact (Qf (h.cw p.toNat hp') (by rw [← hl]; exact hi) hw).1
theorem Aag (h : Inv n nl x M) (s : Step) (p : Int) (hok : (Ak x s).2.2 = 0) : Ni x p ++ G0 x s p = (Dd (Ak x s).2.1 p).map Done.op ++ Ni (Ak x s).1 p := by
 have hn := h.nc
 have hnc : Bd x = (n : Int) := by unfold Bd; rw [hn]
 by_cases hp0 : p < 0
 ·rw [Uu hp0, Uu hp0, List.nil_append, List.append_nil]
  have hb : G0 x s p = [] := by
   unfold G0; rw [if_neg]; intro ⟨b1, b2, b3⟩
   unfold Ak at b3; rw [if_pos b1, if_pos (by omega)] at b3; exact absurd b3 (by decide)
  rw [hb]
  have hd : ∀ d ∈ (Ak x s).2.1, d.core ≠ p := by
   intro d hd
   revert hd; unfold Ak
   split
   ·split
    ·simp
    split
    ·simp
    ·rename_i a1 a2 a3
     rcases (Sw (Decidable.not_not.1 a3)).2.2 with ⟨_, v, e⟩ | ⟨_, e⟩
     ·rw [e]; intro hd; rw [List.mem_singleton.1 hd]; simp only; omega
     ·rw [e]; simp
   split
   ·split
    ·simp
    ·simp only
     unfold Az
     split
     ·simp
     split
     ·simp
     ·simp only
      intro hd
      by_cases hm : (Af (Aq ⟨x.cores, x.home, x.frames.eraseIdx s.n.toNat⟩) (Aw x.frames s.n)).1.dst < 0
      ·rename_i b1 b2
       have hpar : Af (Aq ⟨x.cores, x.home, x.frames.eraseIdx s.n.toNat⟩) (Aw x.frames s.n) = ((Af (Aq ⟨x.cores, x.home, x.frames.eraseIdx s.n.toNat⟩) (Aw x.frames s.n)).1, 0) := by
        rw [← Decidable.not_not.1 b1]
       have hw := Gp (Gs hpar).2.2.2.2.1
       omega
      ·generalize (Af (Aq ⟨x.cores, x.home, x.frames.eraseIdx s.n.toNat⟩) (Aw x.frames s.n)).1 = m at *
       revert hd; unfold Ae
       repeat' split
       all_goals first | (simp; done) | (intro hd; rw [List.mem_singleton.1 hd]; simp only; omega)
   all_goals (repeat' split) <;> simp
  have : Dd (Ak x s).2.1 p = [] := List.filter_eq_nil_iff.2 fun d hm => by simp [hd d hm]
  rw [this]; rfl
 have hp0' : 0 ≤ p := by omega
 have hno : ∀ fr hm, Ni ⟨x.cores, hm, fr⟩ p = Ni x p := fun fr hm => Rm p rfl
 by_cases k1 : s.kind = 1
 ·unfold G0
  revert hok
  unfold Ak
  rw [if_pos k1]
  split
  ·intro hok; exact absurd hok (by simp)
  split
  ·intro hok; exact absurd hok (by assumption)
  rename_i a1 a2
  intro _
  simp only [true_and, and_true, k1]
  have hb := Sw (Decidable.not_not.1 a2)
  obtain ⟨w0, w1, w2⟩ := hb
  unfold Cy
  rw [Ut (by omega) (by omega) hp0']
  by_cases e : p = s.node
  ·subst e
   rw [if_pos rfl, if_pos rfl]
   have hx : Ni x s.node = [] := by unfold Ni; rw [if_neg (fun h => h.2.2 w0)]
   rw [hx, List.nil_append]
   rcases w2 with ⟨e1, v, e2⟩ | ⟨e1, e2⟩
   ·rw [e1, e2, Uw]; simp [zOp]
   ·rw [e1, e2, Py, if_pos w1]; rfl
  ·rw [if_neg (fun h => e h.symm), if_neg e, List.append_nil]
   rcases w2 with ⟨_, v, e2⟩ | ⟨_, e2⟩
   ·rw [e2, Uw, if_neg (fun h => e h.symm)]; rfl
   ·rw [e2]; rfl
 have hb1 : G0 x s p = [] := by unfold G0; rw [if_neg (fun h => k1 h.1)]
 rw [hb1, List.append_nil]
 by_cases k2 : s.kind = 2
 ·revert hok
  unfold Ak
  rw [if_neg k1, if_pos k2]
  split
  ·intro hok; exact absurd hok (by simp)
  intro _
  simp only
  unfold Az
  split
  ·rw [Py, hno]; rfl
  split
  ·rw [Py, hno]; rfl
  rename_i b1 b2
  have hpar : Af (Aq ⟨x.cores, x.home, x.frames.eraseIdx s.n.toNat⟩) (Aw x.frames s.n) = ((Af (Aq ⟨x.cores, x.home, x.frames.eraseIdx s.n.toNat⟩) (Aw x.frames s.n)).1, 0) := by
   rw [← Decidable.not_not.1 b1]
  have hw := Gp (Gs hpar).2.2.2.2.1
  generalize (Af (Aq ⟨x.cores, x.home, x.frames.eraseIdx s.n.toNat⟩) (Aw x.frames s.n)).1 = m at *
  have hc2 : (Aq ⟨x.cores, x.home, x.frames.eraseIdx s.n.toNat⟩).cores = Bd x := rfl
  have hn2 : Bd ⟨x.cores, x.home, x.frames.eraseIdx s.n.toNat⟩ = Bd x := rfl
  have hca : Ar ⟨x.cores, x.home, x.frames.eraseIdx s.n.toNat⟩ m.dst = Ar x m.dst := rfl
  rw [hn2] at b2 ⊢
  rw [hca]
  have hd : 0 ≤ m.dst ∧ m.dst < Bd x := by rw [hc2] at hw; omega
  unfold Cy
  simp only
  rw [Ut hd.1 hd.2 hp0']
  have ho := Acj (id := m.dst) (home := Bd x) (m := m) (Yg h hd.1 hd.2)
  by_cases e : p = m.dst
  ·subst e
   rw [if_pos rfl]
   rcases ho with ⟨e1, e2⟩ | ⟨w, e1, v, e2⟩
   ·rw [e1, e2, Py]; unfold Ni
    by_cases w : (Ar x m.dst).wait.kind ≠ 0
    ·rw [if_pos ⟨hd.1, hd.2, w⟩, if_pos w]; rfl
    ·rw [if_neg (fun h => w h.2.2), if_neg w]; rfl
   ·rw [e1, e2, Uw, if_pos rfl]; unfold Ni; rw [if_pos ⟨hd.1, hd.2, w⟩]; simp [zOp]
  ·rw [if_neg e]
   rcases ho with ⟨_, e2⟩ | ⟨_, _, v, e2⟩
   ·rw [e2]; rfl
   ·rw [e2, Uw, if_neg (fun h => e h.symm)]; rfl
 have hcs : (Ak x s).1.cores = x.cores ∧ (Ak x s).2.1 = [] := by
  revert hok
  unfold Ak
  rw [if_neg k1, if_neg k2]
  repeat' split
  all_goals (intro hok; first | exact ⟨rfl, rfl⟩ | exact absurd hok (by assumption) | exact absurd hok (by simp))
 rw [hcs.2, Rm p hcs.1]; rfl
theorem Ui (p : Int) : ∀ (l : List Step) {x : Chip} {M : List Int}, Inv n nl x M → Ni x p ++ Fi x l p = (Dd (C0 x l).2 p).map Done.op ++ Ni (C0 x l).1 p
 | [], x, M, h => by simp [Fi, C0, Dd]
 | s :: l, x, M, h => by
  unfold Fi
  by_cases hok : (Ak x s).2.2 = 0
  ·obtain ⟨M', h', _⟩ := Jk h hok
   rw [if_pos hok, Fu hok, of_app, List.map_append, ← List.append_assoc, Aag h s p hok, List.append_assoc, Ui p l h', List.append_assoc]
  ·have hb : G0 x s p = [] := by unfold G0; rw [if_neg (fun h => hok h.2.2)]
   rw [if_neg hok, Fv hok, hb, List.nil_append]
   exact Ui p l h
end
theorem Abl (n nl : Nat) (p : Int) : Ni (Ew n nl) p = [] := by
 unfold Ni; rw [if_neg]
 intro ⟨h1, h2, h3⟩
 apply h3
 unfold Ar Ew Bd at *
 simp only [List.length_replicate] at h2 ⊢
 rw [List.getD_eq_getElem?_getD, List.getElem?_replicate, if_pos (by omega)]; rfl
theorem X7 {c : Config} {l : List Step} (p : Int) (h : (An c l).2.2.2 = 0) : ∃ w, Fi (A8 c).1 l p = (Dd (An c l).2.2.1 p).map Done.op ++ w ∧ w.length ≤ 1 := by
 obtain ⟨n, nl, h1, h2, h3, h4, h5⟩ := X5 h
 have hc : (A8 c).2 = 0 := Classical.byContradiction fun h6 => by rw [Afa h6] at h; exact h6 h
 have e : An c l = ((C0 (A8 c).1 l).1, Ga (A8 c).1 l, (C0 (A8 c).1 l).2, 0) := by
  unfold An; rw [if_neg (by rw [hc]; decide), if_neg (by omega)]
 obtain ⟨m, ml, g1, g2, _, g4⟩ := Ih hc
 refine ⟨Ni (C0 (A8 c).1 l).1 p, ?_, Abm _ _⟩
 rw [e]; simp only
 rw [g4]; simp only
 have := Ui p l (Nq g1 g2)
 rw [Abl, List.nil_append] at this
 exact this
def gAt (c : Config) (l : List Step) (p : Int) (k : Nat) : List Op := Fi (A8 c).1 (l.take k) p
theorem P6 {c : Config} {l : List Step} {p : Int} {k : Nat} (h : k < l.length) : gAt c l p (k + 1) = gAt c l p k ++ G0 (bAt c l k).1 (l.getD k zStep) p := by
 unfold gAt bAt; rw [Fk zStep h]; exact I0 ..
theorem Ys (c : Config) (l : List Step) (p : Int) : ∀ k, k ≤ l.length → (gAt c l p k).length ≤ k
 | 0, _ => by simp [gAt, Fi]
 | k + 1, h => by
  have ih := Ys c l p k (by omega)
  rw [P6 (by omega), List.length_append]
  have : (G0 (bAt c l k).1 (l.getD k zStep) p).length ≤ 1 := by unfold G0; split <;> simp
  omega
theorem Agz {c : Config} {l : List Step} {p : Int} : gAt c l p l.length = Fi (A8 c).1 l p := by unfold gAt; rw [List.take_length]
theorem Afq : ∀ (l : List Step) (x : Chip) (k : Nat), k < l.length → (Ga x l).getD k zAnswer = Qu (C0 x (l.take k)).1 (l.getD k zStep)
 | [], _, _, h => absurd h (by simp)
 | s :: l, x, 0, _ => rfl
 | s :: l, x, k + 1, h => by
  have ih := Afq l (if (Ak x s).2.2 = 0 then (Ak x s).1 else x) k (by simpa using h)
  unfold Ga
  rw [List.take_succ_cons]
  show (Ga _ l).getD k zAnswer = _
  rw [ih]
  by_cases h1 : (Ak x s).2.2 = 0
  ·rw [if_pos h1, Fu h1]; rfl
  ·rw [if_neg h1, Fv h1]; rfl
theorem Aez {c : Config} {l : List Step} (h : (An c l).2.2.2 = 0) {k : Nat} (hk : k < l.length) : (An c l).2.1.getD k zAnswer = Qu (bAt c l k).1 (l.getD k zStep) := by
 obtain ⟨n, nl, h1, h2, h3, h4, h5⟩ := X5 h
 have hc : (A8 c).2 = 0 := Classical.byContradiction fun h6 => by rw [Afa h6] at h; exact h6 h
 have e : An c l = ((C0 (A8 c).1 l).1, Ga (A8 c).1 l, (C0 (A8 c).1 l).2, 0) := by
  unfold An; rw [if_neg (by rw [hc]; decide), if_neg (by omega)]
 rw [e]; exact Afq _ _ _ hk
theorem Tm {c : Config} {l : List Step} (h : (An c l).2.2.2 = 0) : (An c l).2.1.length = l.length ∧ (An c l).2.2.1.length ≤ l.length ∧ l.length ≤ 300 := by
 have h2 := (Rp (Nat.le_refl _) h).2.2.2.2
 obtain ⟨n, nl, _, _, _, h4, h5⟩ := X5 h
 have hc : (A8 c).2 = 0 := Classical.byContradiction fun h6 => by rw [Afa h6] at h; exact h6 h
 refine ⟨h2, ?_, h4⟩
 rw [pS_3 hc h4]
 exact Lr c l l.length
def pL : List Step := [⟨1, 0, 0, 0, ⟨4, 0, 0⟩⟩, ⟨2, 0, 0, 0, ⟨0, 0, 0⟩⟩]
def pX : Chip := (An ⟨1, 1⟩ pL).1
def pA : List Answer := [⟨0, 1⟩, ⟨5, 0⟩]
def pD : List Done := [⟨0, ⟨4, 0, 0⟩, 0⟩]
theorem p_al : An ⟨1, 1⟩ pL = (pX, pA, pD, 0) := Prod.ext rfl (Prod.ext (by decide) (Prod.ext (by decide) (by decide)))
theorem p_co : (pX.cores.length : Int) = 1 := by decide
theorem p_o0 : ((Dd pD 0).length : Int) = 1 := by decide
theorem p_o1 : ((Dd pD 1).length : Int) = 0 := by decide
theorem rdOp' {R : List Fact} {e : Op} (hw : e.wf) : ∀ j, (∀ q ∈ R, q.p j) → RdV [e] [.agg e.cells.toArray] j := fun j _ => ⟨⟨_, rfl, rfl, hw⟩, trivial⟩
theorem Of  (hs : St (L) R w) : Calls Try.prog 29 [].toArray w (Bu (fun _ : Unit => .bool true) (fun _ => L) (fun _ => R)) := by
 refine Ai Try.func29 rfl Try.ntmps29 rfl hs ?_
 clear hs
 refine ZP ?_
 refine rn4 ?_
 refine li (α := Step) pL eo_24 rfl (fun j hj => ⟨⟨_, rfl, rfl, by unfold Step.wf Ap; decide⟩, ⟨_, rfl, rfl, by unfold Step.wf Ap; decide⟩, trivial⟩) ?_; intro v10
 refine Am Try.call27 rfl (fun w hs => by have h := He (c := ⟨1, 1⟩) (l := pL) hs mm (by unfold Config.wf Ap; decide); rw [p_al] at h; exact h) ?_; intro v11
 refine J.know (p := v11.1.oneCell' = true ∧ v11.2.1.oneCell' = true ∧ v11.2.2.1.oneCell' = true) (fun w hs => ⟨isSlice.one (hs.fact (.head _)), isSlice.one (hs.fact (.tail _ (.head _))), isSlice.one (hs.fact (.tail _ (.tail _ (.head _))))⟩) (fun h12 => ?_)
 obtain ⟨honev111, honev112, honev113⟩ := h12
 refine rn5 ?_
 refine al_ (cs := [.slice none 0 0, .slice none 0 0, .slice none 0 0]) Try.zeroValue33 ?_; intro b1
 refine s_B (cs := [v11.1, v11.2.1, v11.2.2.1]) Try.sizeOf33 ?_
 refine Ga3 ?_
 refine JC.open0 (xs := pA) (v := v11.2.2.2.1) 0 mm (by decide) (fun _ => ?_)
 refine JC.open0 (xs := pA) (v := v11.2.2.2.1) 1 mm (by decide) (fun _ => ?_)
 refine ZC ?_
 refine Zaz ?_
 refine ZM ?_
 refine Zaz ?_
 refine ZM ?_
 refine ob (Gc (i := 0) Afs) ?_
 refine Zab ?_
 refine Zaz ?_
 refine ZM ?_
 refine ob (Gc (i := 1) Afs) ?_
 refine Zab ?_
 refine Zaz ?_
 refine ZG ?_
 refine Zaz ?_
 refine ZO ?_
 refine ob (Ao rfl rfl (Be p_co)) ?_
 refine ZM ?_
 refine Am Try.call28 rfl (fun w hs => Pu (l := pD) (p := 0) hs mm (by decide) (by unfold Ap; decide)) ?_; intro v50
 refine ZaH ?_
 refine ob (Ao rfl rfl (Be p_o0)) ?_
 refine ZM ?_
 refine Am Try.call28 rfl (fun w hs => Pu (l := pD) (p := 1) hs mm (by decide) (by unfold Ap; decide)) ?_; intro v56
 refine ZaH ?_
 refine ob (Ao rfl rfl (Be p_o1)) ?_
 refine Ga2 ?_
 exact Bg ()
theorem Rl {vl : Value} {c : Config} {l : List Step} (hs : St (L) R w) (hl : sl vl l ∈ R) (hcw : c.wf) : Calls Try.prog 8 [.agg c.cells.toArray, vl].toArray w (Bu (fun _ : Unit => .bool true) (fun _ => L) (fun _ => R)) := by
 refine Ai Try.func8 rfl Try.ntmps8 rfl hs ?_
 clear hs
 refine Zay ?_;intro b2
 refine Gb1 ?_
 refine Am Try.call29 rfl (fun w hs => Of hs) ?_; intro _
 refine Gd1 ?_
 refine rn2 ?_
 refine Am Try.call27 rfl (fun w hs => He (c := c) (l := l) hs mm hcw) ?_; intro v16
 refine Zeo ?_;intro h12
 obtain ⟨honev161, honev162, honev163⟩ := h12
 refine rn5 ?_
 refine ZbU ?_;intro b5
 refine s_B (cs := [v16.1, v16.2.1, v16.2.2.1]) Try.sizeOf33 ?_
 refine Gb3 ?_
 refine Ga2 ?_
 refine cdy ?_ ?_
 ·intro ht22
  have hpe := (pS_err ht22).1
  refine ZI ?_
  refine ob (Ao rfl rfl (Be (by rw [hpe]; rfl))) ?_
  exact ZfP
 ·intro ht22
  have hpp := Agf (Decidable.not_not.1 ht22)
  refine Zaf ?_
  refine Am Try.call30 rfl (fun w hs => by have h := Aga (l := (An c l).2.2.1) (lines := c.lines) hs mm hpp.1.1 hpp.1.2; rw [hpp.2] at h; exact h) ?_; intro v30
  refine Gb5 ?_
  refine rn1 ?_
  refine D2 ?_
  exact ZfP
theorem Om {vl : Value} {c : Config} {l : List Step} {p : Int} (hs : St (L) R w) (hl : sl vl l ∈ R) (hcw : c.wf) (hp : Ap p) : Calls Try.prog 9 [.agg c.cells.toArray, vl, vi p].toArray w (Bu (fun _ : Unit => .bool true) (fun _ => L) (fun _ => R)) := by
 have hlen := Bj hl hs
 refine Ai Try.func9 rfl Try.ntmps9 rfl hs ?_
 clear hs
 refine Zah ?_;intro b3
 refine Gb1 ?_
 refine Am Try.call29 rfl (fun w hs => Of hs) ?_; intro _
 refine Gd1 ?_
 refine rn2 ?_
 refine Am Try.call27 rfl (fun w hs => He (c := c) (l := l) hs mm hcw) ?_; intro v22
 refine J.know (p := v22.1.oneCell' = true ∧ v22.2.1.oneCell' = true ∧ v22.2.2.1.oneCell' = true) (fun w hs => ⟨isSlice.one (hs.fact (.head _)), isSlice.one (hs.fact (.tail _ (.head _))), isSlice.one (hs.fact (.tail _ (.tail _ (.head _))))⟩) (fun h12 => ?_)
 obtain ⟨honev221, honev222, honev223⟩ := h12
 refine rn5 ?_
 refine Za6 ?_;intro b7
 refine s_B (cs := [v22.1, v22.2.1, v22.2.2.1]) Try.sizeOf33 ?_
 refine Ga3 ?_
 rcases (show ((An c l).2.2.2 ≠ 0) ∨ ((An c l).2.2.2 = 0) from by omega) with hc | hc
 ·refine ZC ?_
  refine Ia ?_
  refine Gd7 ?_
  refine rn1 ?_
  refine Ia ?_
  exact ZfP
 ·have hal := Tm hc
  refine ZC ?_
  refine Ib ?_
  refine ZO ?_
  refine ob (Ao rfl rfl (Cv (by rw [hal.1]))) ?_
  refine Gd1 ?_
  refine Za1 ?_
  have e0 : gAt c l p 0 = [] := by unfold gAt; simp [Fi]
  refine JC.rowNil 26 Op ?_
  refine Bl (γ := Nat × Value) (fun g => g.1 ≤ l.length) (fun g => row 26 g.2 (gAt c l p g.1) :: L) (fun _ => sl v22.2.2.2.1 (An c l).2.1 :: sl v22.2.2.2.2 (An c l).2.2.1 :: R) (fun g => [(2, vi p), (8, v22.2.2.2.1), (9, v22.2.2.2.2), (11, g.2), (38, vl), (39, vi (l.length : Int)), (40, vi (g.1 : Int))]) (fun g => l.length - g.1) (0, .slice none 0 0) (Nat.zero_le _) alT (fun w hs => by rw [e0]; exact Ah hs) ?_
  rintro ⟨k, vb⟩ hk
  try simp only at hk ⊢
  have hgl := Ys c l p k hk
  refine ZA ?_
  refine cdy ?_ ?_
  ·intro ht41
   refine Gl ?_
   have hans := Aez hc (k := k) (by omega)
   refine ZcG ?_;intro hsw
   refine kp [2, 6, 8, 9, 11, 12, 13, 38, 39, 40, 41, 42, 43, 44] ?_
   refine ZJ ?_
   refine al_ (cs := zStep.cells) Try.zeroValue28 ?_; intro b13
   refine rn1 ?_
   refine ZcD ?_
   refine Gl ?_
   refine JC.open0 (xs := (An c l).2.1) (v := v22.2.2.2.1) k mm (by omega) (fun _ => ?_)
   refine ZeH ?_
   refine Ds 61 (.bool (decide (((l.getD k zStep).kind = 1) ∧ ((l.getD k zStep).node = p) ∧ (((An c l).2.1.getD k (El0.df (α := Answer))).err = 0)))) ?_ ?_
   ·rcases (show (¬ ((l.getD k zStep).kind = 1)) ∨ (((l.getD k zStep).kind = 1) ∧ ¬ ((l.getD k zStep).node = p)) ∨ (((l.getD k zStep).kind = 1) ∧ ((l.getD k zStep).node = p) ∧ ¬ (((An c l).2.1.getD k (El0.df (α := Answer))).err = 0)) ∨ (((l.getD k zStep).kind = 1) ∧ ((l.getD k zStep).node = p) ∧ (((An c l).2.1.getD k (El0.df (α := Answer))).err = 0)) from by omega) with hm | hm | hm | hm
    ·refine ZB ?_
     refine Av ?_
     refine Ga14 ?_
     exact Zfc
    ·refine ZB ?_
     refine Cj ?_
     refine ZG ?_
     refine Av ?_
     refine Ga9 ?_
     exact Zfc
    ·refine ZeH ?_
     refine ZB ?_
     refine Cj ?_
     refine ZG ?_
     refine Cj ?_
     refine ZaN ?_
     refine Av ?_
     refine Ga1 ?_
     exact Zfc
    ·refine ZB ?_
     refine Cj ?_
     refine ZG ?_
     refine Cj ?_
     refine ZaN ?_
     refine Cj ?_
     refine Ga1 ?_
     exact Zfa
   ·refine Ax ?_
    first | (refine cdx (p := ?p2) (hd := ?d2) ?e2 ?_ ?_; case e2 => exact rfl) | (refine Bo (b := ?b2) ?e2 ?_ ?_; case e2 => exact rfl)
    ·intro ht61
     refine kp [2, 6, 8, 9, 11, 12, 13, 38, 39, 40, 41, 42, 43, 44, 45, 46, 47, 48, 49, 50, 51, 52, 53, 54, 55, 56, 57, 58, 59, 60, 61, 62, 63, 64, 65, 66] ?_
     refine ZB ?_
     refine ZbF ?_
     refine li (α := Op) ([(l.getD k zStep).op] : List Op) eo_72 rfl (rdOp' ⟨hsw.2.2.2.2.1, hsw.2.2.2.2.2.1, hsw.2.2.2.2.2.2⟩) ?_; intro v65
     refine ap eo_72 (hb := fun w hs => by have : maxN = 16777216 := rfl; (try simp only [List.length_cons, List.length_nil]); omega) (k := ?_); intro v66
     refine ZF ?_
     have e1 := P6 (c := c) (l := l) (p := p) (k := k) (by omega)
     have e2 : G0 (bAt c l k).1 (l.getD k zStep) p = [(l.getD k zStep).op] := by
      have h9 : ((An c l).2.1.getD k zAnswer).err = (Ak (bAt c l k).1 (l.getD k zStep)).2.2 := by rw [hans]; rfl
      unfold G0; rw [if_pos ⟨ht61.1, ht61.2.1, h9.symm.trans ht61.2.2⟩]
     rw [e2] at e1
     refine A6 (k + 1, v66) (by show k + 1 ≤ l.length; omega) (by show l.length - (k + 1) < l.length - k; omega) alT (fun w hs => ?_)
     try simp only
     rw [e1]; exact Ah hs
    ·intro ht61
     refine Gl ?_
     refine kp [2, 6, 8, 9, 11, 12, 13, 38, 39, 40, 41, 42, 43, 44, 45, 46, 47, 48, 49, 50, 51, 52, 53, 54, 55, 56, 57, 58, 59, 60, 61, 62, 63, 64, 65, 66, 67] ?_
     refine ZR ?_
     have e1 := P6 (c := c) (l := l) (p := p) (k := k) (by omega)
     have e2 : G0 (bAt c l k).1 (l.getD k zStep) p = [] := by
      have h9 : ((An c l).2.1.getD k zAnswer).err = (Ak (bAt c l k).1 (l.getD k zStep)).2.2 := by rw [hans]; rfl
      unfold G0; rw [if_neg (fun h => ht61 ⟨h.1, h.2.1, h9.trans h.2.2⟩)]
     rw [e2, List.append_nil] at e1
     refine A6 (k + 1, vb) (by show k + 1 ≤ l.length; omega) (by show l.length - (k + 1) < l.length - k; omega) alT (fun w hs => ?_)
     exact ZfG
  ·intro ht41
   refine Gl ?_
   have hkl : k = l.length := by omega
   subst hkl
   refine JC.shut (v := vb) pkk ?_
   obtain ⟨wx, how, hwl⟩ := X7 p hc
   rw [← Agz] at how
   have hbl : (gAt c l p l.length).length = (Dd (An c l).2.2.1 p).length + wx.length := by rw [how, List.length_append, List.length_map]
   refine kp [2, 6, 8, 9, 11, 12, 13, 14, 38, 39, 40, 41, 42, 43, 44, 45, 46, 47, 48, 49, 50, 51, 52, 53, 54, 55, 56, 57, 58, 59, 60, 61, 62, 63, 64, 65, 66, 67, 68, 69, 70] ?_
   refine ZB ?_
   refine Am Try.call28 rfl (fun w hs => Pu (l := (An c l).2.2.1) (p := p) hs mm (by omega) hp) ?_; intro v70
   refine Gb1 ?_
   refine rn4 ?_
   refine Ei ?_
   refine rn6 ?_
   refine gy ?_
   refine Ei ?_
   refine Gd1 ?_
   refine Ga3 ?_
   refine Bl (γ := Nat) (fun j => j ≤ (Dd (An c l).2.2.1 p).length) (fun _ => L) (fun _ => sl v70 (Dd (An c l).2.2.1 p) :: sl vb (gAt c l p l.length) :: R) (fun j => [(11, vb), (84, v70), (85, vi ((Dd (An c l).2.2.1 p).length : Int)), (86, vi (j : Int))]) (fun j => (Dd (An c l).2.2.1 p).length - j) 0 (Nat.zero_le _) alT (fun w hs => Ah hs) ?_
   intro j hj
   refine ZA ?_
   refine cdy ?_ ?_
   ·intro ht87
    refine Gl ?_
    refine JC.open0 (xs := (Dd (An c l).2.2.1 p)) (v := v70) j mm (by omega) (fun hdw => ?_)
    refine ZJ ?_
    refine al_ (cs := zDone.cells) Try.zeroValue66 ?_; intro b16
    refine rn1 ?_
    refine s_B (cs := ((Dd (An c l).2.2.1 p).getD j zDone).cells) Try.sizeOf66 ?_
    refine Gl ?_
    refine JC.open0 (xs := (gAt c l p l.length)) (v := vb) j mm (by omega) (fun _ => ?_)
    have hjj : ((Dd (An c l).2.2.1 p).getD j zDone).op = ((gAt c l p l.length).getD j zOp) := by
     rw [how, List.getD_eq_getElem?_getD, List.getD_eq_getElem?_getD, List.getElem?_append_left (by rw [List.length_map]; omega), List.getElem?_map, List.getElem?_eq_getElem (by omega)]; rfl
    refine Zav ?_
    refine djc (fun _ _ => Ji rfl rfl (Aen ((Dd (An c l).2.2.1 p).getD j zDone).op ((gAt c l p l.length).getD j zOp) _) (Ud (x := ((Dd (An c l).2.2.1 p).getD j zDone).op) (y := ((gAt c l p l.length).getD j zOp)) hjj)) ?_
    refine dnl ?_; intro ρ
    refine Glc ?_
    refine kp [6, 11, 15, 16, 84, 85, 86, 87, 88, 89, 90, 91, 92, 93, 94, 95, 96, 97, 98] ?_
    refine ZR ?_
    refine A6 (j + 1) (by omega) (by omega) alT (fun w hs => Ah hs)
   ·intro ht87
    refine ZA ?_
    exact Bg ()
theorem Ol {vl : Value} {c : Config} {l : List Step} {n : Int} (hs : St (L) R w) (hl : sl vl l ∈ R) (hcw : c.wf) (hn : Ap n) : Calls Try.prog 10 [.agg c.cells.toArray, vl, vi n].toArray w (Bu (fun _ : Unit => .bool true) (fun _ => L) (fun _ => R)) := by
 have hlen := Bj hl hs
 refine Ai Try.func10 rfl Try.ntmps10 rfl hs ?_
 clear hs
 refine Zah ?_;intro b3
 refine Gb1 ?_
 refine Am Try.call29 rfl (fun w hs => Of hs) ?_; intro _
 refine Gc1 ?_
 rcases (show (n < 0) ∨ (0 ≤ n ∧ (l.length : Int) < n) ∨ (0 ≤ n ∧ n ≤ (l.length : Int)) from by omega) with hc | hc | hc
 ·refine Zcc ?_
  exact ZfP
 ·refine ZaC ?_
  refine G3 ?_
  refine Gd1 ?_
  exact ZfP
 ·refine ZaC ?_
  refine Ei ?_
  refine Gd1 ?_
  refine rn2 ?_
  refine Am Try.call27 rfl (fun w hs => He (c := c) (l := l) hs mm hcw) ?_; intro v29
  refine Zep ?_;intro h12
  obtain ⟨honev291, honev292, honev293⟩ := h12
  refine rn5 ?_
  refine Za6 ?_;intro b7
  refine s_B (cs := [v29.1, v29.2.1, v29.2.2.1]) Try.sizeOf33 ?_
  refine Ga3 ?_
  refine cq_ (blk b7 33 [v29.1, v29.2.1, v29.2.2.1] :: blk b3 23 c.cells :: L) ?_
  refine jd_ (fun ρ S => blk b7 33 [v29.1, v29.2.1, v29.2.2.1] :: blk b3 23 c.cells :: ((bif S 10 then [blk (Gh.dec (γ := Nat) (ρ 10)) 33 (bif S 11 then [(Gh.dec (γ := Value × Value × Value × Value × Value) (ρ 4)).1, (Gh.dec (γ := Value × Value × Value × Value × Value) (ρ 4)).2.1, (Gh.dec (γ := Value × Value × Value × Value × Value) (ρ 4)).2.2.1] else [.slice none 0 0, .slice none 0 0, .slice none 0 0])] else []) ++ (L))) ?_
  refine dn3 ?_
  refine dj ?_
  refine Qd (α := Step) (xs := l) (lo := 0) (hi := n.toNat) so_24 (fun _ => rfl) mm (fun _ => rfl) (fun _ => by show _ = some (vi _); rw [Int.toNat_of_nonneg (by omega)]; rfl) (by omega) (by omega) (fun _ _ _ _ => rfl) ?_
  refine Cd (γ := Value × Value × Value × Value × Value) (val := fun v => .tuple #[.agg #[v.1, v.2.1, v.2.2.1], v.2.2.2.1, v.2.2.2.2, vi (An c (l.take n.toNat)).2.2.2]) (F := fun v => [sl v.1 (An c (l.take n.toNat)).1.cores, sl v.2.1 (An c (l.take n.toNat)).1.home, sl v.2.2.1 (An c (l.take n.toNat)).1.frames, sl v.2.2.2.1 (An c (l.take n.toNat)).2.1, sl v.2.2.2.2 (An c (l.take n.toNat)).2.2.1]) Try.call27 (fun _ => rfl) (fun ρ L R w hd hs => He (c := c) (l := (l.take n.toNat)) hs (hd.dep (it := ⟨3, _, _, _, _⟩) (by repeat (first | exact List.Mem.head _ | refine List.Mem.tail _ ?_)) ⟨9, rfl⟩ (List.Mem.head _)) hcw) (fun ρ g S hS hA => by have u10 : upS S 4 10 = S 10 := rfl; have u11 : upS S 4 11 = S 11 := rfl; have r10 : Rho.set ρ 4 g 10 = ρ 10 := rfl; have h11 : S 11 = false := hA 11 ⟨0, rfl⟩; simp only [u10, u11, r10, h11, cond_false]) ?_
  refine e_p (v := fun ρ => .tuple #[.agg #[(Gh.dec (γ := Value × Value × Value × Value × Value) (ρ 4)).1, (Gh.dec (γ := Value × Value × Value × Value × Value) (ρ 4)).2.1, (Gh.dec (γ := Value × Value × Value × Value × Value) (ρ 4)).2.2.1], (Gh.dec (γ := Value × Value × Value × Value × Value) (ρ 4)).2.2.2.1, (Gh.dec (γ := Value × Value × Value × Value × Value) (ρ 4)).2.2.2.2, vi (An c (l.take n.toNat)).2.2.2]) (fun _ _ => Qw) (Ind.gh (h := fun g => (.tuple #[.agg #[(Gh.dec (γ := Value × Value × Value × Value × Value) g).1, (Gh.dec (γ := Value × Value × Value × Value × Value) g).2.1, (Gh.dec (γ := Value × Value × Value × Value × Value) g).2.2.1], (Gh.dec (γ := Value × Value × Value × Value × Value) g).2.2.2.1, (Gh.dec (γ := Value × Value × Value × Value × Value) g).2.2.2.2, vi (An c (l.take n.toNat)).2.2.2] : Value)) 4 0 rfl) (fun _ _ _ _ _ => rfl) ?_
  refine e_p (v := fun ρ => .agg #[(Gh.dec (γ := Value × Value × Value × Value × Value) (ρ 4)).1, (Gh.dec (γ := Value × Value × Value × Value × Value) (ρ 4)).2.1, (Gh.dec (γ := Value × Value × Value × Value × Value) (ρ 4)).2.2.1]) (fun _ _ => q_x) (Ind.gh (h := fun g => (.agg #[(Gh.dec (γ := Value × Value × Value × Value × Value) g).1, (Gh.dec (γ := Value × Value × Value × Value × Value) g).2.1, (Gh.dec (γ := Value × Value × Value × Value × Value) g).2.2.1] : Value)) 4 1 rfl) (fun _ _ _ _ _ => rfl) ?_
  refine e_p (v := fun ρ => (Gh.dec (γ := Value × Value × Value × Value × Value) (ρ 4)).2.2.2.1) (fun _ _ => q_x) (Ind.gh (h := fun g => ((Gh.dec (γ := Value × Value × Value × Value × Value) g).2.2.2.1 : Value)) 4 1 rfl) (fun _ _ _ _ _ => rfl) ?_
  refine e_p (v := fun ρ => (Gh.dec (γ := Value × Value × Value × Value × Value) (ρ 4)).2.2.2.2) (fun _ _ => q_x) (Ind.gh (h := fun g => ((Gh.dec (γ := Value × Value × Value × Value × Value) g).2.2.2.2 : Value)) 4 1 rfl) (fun _ _ _ _ _ => rfl) ?_
  refine Kd (v := vi (An c (l.take n.toNat)).2.2.2) (fun _ _ => q_x) (fun _ _ _ _ _ => rfl) ?_
  refine Hq (cs := [.slice none 0 0, .slice none 0 0, .slice none 0 0]) Try.zeroValue33 rfl (fun ρ b S hS hA => ?_) ?_
  ·have ui : upS S 10 10 = true := rfl; have u11 : upS S 10 11 = S 11 := rfl; have r4 : Rho.set ρ 10 (Gh.enc b) 4 = ρ 4 := rfl; have h11 : S 11 = false := hA 11 ⟨0, rfl⟩; have rs : (Gh.dec (γ := Nat) (Rho.set ρ 10 (Gh.enc b) 10)) = b := rfl
   simp only [ui, hS, u11, r4, h11, rs, cond_true, cond_false, List.nil_append]
   exact Zfb
  refine es_ 33 0 [10] [] (fun ρ => (Gh.dec (γ := Nat) (ρ 10))) (fun ρ => [.slice none 0 0, .slice none 0 0, .slice none 0 0]) (fun ρ => [(Gh.dec (γ := Value × Value × Value × Value × Value) (ρ 4)).1, (Gh.dec (γ := Value × Value × Value × Value × Value) (ρ 4)).2.1, (Gh.dec (γ := Value × Value × Value × Value × Value) (ρ 4)).2.2.1]) Try.sizeOf33 (h1 := (fun ρ R w L' hd hs => Bp (isSlice.one (hs.fact (hd.dep (it := ⟨4, _, _, _, _⟩) (by repeat (first | exact List.Mem.head _ | refine List.Mem.tail _ ?_)) ⟨9, rfl⟩ (List.Mem.head _)))) (Bp (isSlice.one (hs.fact (hd.dep (it := ⟨4, _, _, _, _⟩) (by repeat (first | exact List.Mem.head _ | refine List.Mem.tail _ ?_)) ⟨9, rfl⟩ (.tail _ (.head _))))) (Bp (isSlice.one (hs.fact (hd.dep (it := ⟨4, _, _, _, _⟩) (by repeat (first | exact List.Mem.head _ | refine List.Mem.tail _ ?_)) ⟨9, rfl⟩ (.tail _ (.tail _ (.head _)))))) D8)))) ?_
  refine e_p (v := fun ρ => (Gh.dec (γ := Value × Value × Value × Value × Value) (ρ 4)).2.2.2.1) (fun _ _ => D1) (Ind.gh (h := fun g => ((Gh.dec (γ := Value × Value × Value × Value × Value) g).2.2.2.1 : Value)) 4 0 rfl) (fun _ _ _ _ _ => rfl) ?_
  refine e_p (v := fun ρ => (Gh.dec (γ := Value × Value × Value × Value × Value) (ρ 4)).2.2.2.2) (fun _ _ => D1) (Ind.gh (h := fun g => ((Gh.dec (γ := Value × Value × Value × Value × Value) g).2.2.2.2 : Value)) 4 0 rfl) (fun _ _ _ _ _ => rfl) ?_
  refine Kd (v := vi (An c (l.take n.toNat)).2.2.2) (fun _ _ => D1) (fun _ _ _ _ _ => rfl) ?_
  refine dnl ?_; intro ρ
  refine xq_ (blk b7 33 [v29.1, v29.2.1, v29.2.2.1] :: blk b3 23 c.cells :: (blk (Gh.dec (γ := Nat) (ρ 10)) 33 [(Gh.dec (γ := Value × Value × Value × Value × Value) (ρ 4)).1, (Gh.dec (γ := Value × Value × Value × Value × Value) (ρ 4)).2.1, (Gh.dec (γ := Value × Value × Value × Value × Value) (ρ 4)).2.2.1] :: L)) ?_
  generalize (Gh.dec (γ := Value) (ρ 3)) = v38
  generalize (Gh.dec (γ := Value × Value × Value × Value × Value) (ρ 4)) = vq
  generalize (Gh.dec (γ := Nat) (ρ 10)) = b11
  refine Gl ?_
  rcases (show ((An c l).2.2.2 ≠ 0) ∨ ((An c l).2.2.2 = 0) from by omega) with hc | hc
  ·refine kp [2, 6, 8, 9, 10, 12, 13, 14, 44, 45, 46, 47, 48, 49] ?_
   refine ZC ?_
   refine Ia ?_
   refine Gd4 ?_
   refine rn1 ?_
   refine Ia ?_
   exact ZfP
  ·have hpl := Rp (n := n.toNat) (by omega) hc
   obtain ⟨rd, hrd⟩ := hpl.2.1
   obtain ⟨ra, hra⟩ := hpl.2.2.1
   have hl3 := hpl.2.2.2
   have hld := congrArg List.length hrd
   have hla := congrArg List.length hra
   rw [List.length_append] at hld hla
   have hlen300 := (Tm hc).2.2
   refine kp [2, 6, 8, 9, 10, 12, 13, 14, 44, 45, 46, 47, 48, 49] ?_
   refine ZC ?_
   refine Ib ?_
   refine Zab ?_
   refine ob (Ao rfl rfl (Cv hpl.1)) ?_
   refine Gd1 ?_
   refine rn4 ?_
   refine Ei ?_
   refine ZG ?_
   refine Ib ?_
   refine ZO ?_
   refine Bh ?_
   refine Gd1 ?_
   refine Ga3 ?_
   refine Bl (γ := Nat) (fun k => k ≤ (An c (l.take n.toNat)).2.1.length) (fun _ => L) (fun _ => sl v29.2.2.2.1 (An c l).2.1 :: sl v29.2.2.2.2 (An c l).2.2.1 :: sl vq.2.2.2.1 (An c (l.take n.toNat)).2.1 :: sl vq.2.2.2.2 (An c (l.take n.toNat)).2.2.1 :: R) (fun k => [(8, v29.2.2.2.1), (9, v29.2.2.2.2), (12, vq.2.2.2.1), (13, vq.2.2.2.2), (70, vi ((An c (l.take n.toNat)).2.1.length : Int)), (71, vi (k : Int))]) (fun k => (An c (l.take n.toNat)).2.1.length - k) 0 (Nat.zero_le _) alT (fun w hs => Ah hs) ?_
   intro k hk
   refine ZA ?_
   refine cdy ?_ ?_
   ·intro ht72
    refine ZD ?_
    refine JC.open0 (xs := (An c l).2.1) (v := v29.2.2.2.1) k mm (by omega) (fun _ => ?_)
    refine JC.open0 (xs := (An c (l.take n.toNat)).2.1) (v := vq.2.2.2.1) k mm (by omega) (fun _ => ?_)
    have hkk : (An c l).2.1.getD k zAnswer = (An c (l.take n.toNat)).2.1.getD k zAnswer := by
     rw [hra, List.getD_eq_getElem?_getD, List.getElem?_append_left (by omega), List.getD_eq_getElem?_getD]
    refine Zac ?_
    refine djc (fun _ _ => Ji rfl rfl (S5 ((An c l).2.1.getD k zAnswer) ((An c (l.take n.toNat)).2.1.getD k zAnswer) _) (N5 (x := ((An c l).2.1.getD k zAnswer)) (y := ((An c (l.take n.toNat)).2.1.getD k zAnswer)) hkk)) ?_
    refine dnl ?_; intro ρ
    refine Glc ?_
    refine kp [6, 8, 9, 12, 13, 15, 70, 71, 72, 73, 74, 75, 76, 77, 78, 79, 80, 81, 82, 83] ?_
    refine ZR ?_
    refine A6 (k + 1) (by omega) (by omega) alT (fun w hs => Ah hs)
   ·intro ht72
    refine Zaf ?_
    refine Abi (α := Done) (xs := (An c l).2.2.1) (lo := 0) (hi := (An c (l.take n.toNat)).2.2.1.length) so_34 rfl mm rfl rfl (by omega) (by omega) ?_; intro v87
    refine rn1 ?_
    refine Am Try.call21 rfl (fun w hs => Hi (a := ((An c l).2.2.1.take (An c (l.take n.toNat)).2.2.1.length).drop 0) (b := (An c (l.take n.toNat)).2.2.1) (by rw [List.drop_zero, hrd, List.take_left]) hs mm mm) ?_; intro _u
    exact ZfP
theorem Ok {vl : Value} {c : Config} {l : List Step} {p : Int} (hs : St (L) R w) (hl : sl vl l ∈ R) (hcw : c.wf) (hp : Ap p) : Calls Try.prog 7 [.agg c.cells.toArray, vl, vi p].toArray w (Bu (fun _ : Unit => .bool true) (fun _ => L) (fun _ => R)) := by
 have hlen := Bj hl hs
 refine Ai Try.func7 rfl Try.ntmps7 rfl hs ?_
 clear hs
 refine Zah ?_;intro b3
 refine Za8 ?_
 refine Am Try.call27 rfl (fun w hs => He (c := c) (l := l) hs mm hcw) ?_; intro v25
 refine Zdb ?_;intro h12
 obtain ⟨honev251, honev252, honev253⟩ := h12
 refine rn5 ?_
 refine Za6 ?_;intro b7
 refine s_B (cs := [v25.1, v25.2.1, v25.2.2.1]) Try.sizeOf33 ?_
 refine Gb3 ?_
 refine rn1 ?_
 refine Am Try.call16 rfl (fun w hs => Xu (c := c) hs hcw) ?_; intro v32
 refine J.know (p := v32.1.oneCell' = true ∧ v32.2.oneCell' = true) (fun w hs => ⟨isSlice.one (hs.fact (.head _)), isSlice.one (hs.fact (.tail _ (.head _)))⟩) (fun h12 => ?_)
 obtain ⟨honev321, honev322⟩ := h12
 refine rn3 ?_
 refine Zd3 ?_;intro b11
 refine s_B (cs := [v32.1, v32.2, .slice none 0 0]) Try.sizeOf33 ?_
 refine ZF ?_
 refine cdy ?_ ?_
 ·intro ht36
  have h1_ := Afa (l := l) ht36
  refine ZI ?_
  refine ob (Ao rfl rfl (Be (by rw [h1_]))) ?_
  refine ZM ?_
  refine ob (Ao rfl rfl (Be (by rw [h1_]; rfl))) ?_
  refine ZG ?_
  refine ob (Ao rfl rfl (Be (by rw [h1_]; rfl))) ?_
  refine Ga2 ?_
  exact Bg ()
 ·intro ht36
  have hok : (A8 c).2 = 0 := Decidable.not_not.1 ht36
  refine ZU ?_
  refine cdy ?_ ?_
  ·intro ht52
   have h2_ := pS_2 (l := l) hok (by omega)
   refine ZL ?_
   refine ob (Ao rfl rfl (Be (by rw [h2_]))) ?_
   refine ZM ?_
   refine ob (Ao rfl rfl (Be (by rw [h2_]; rfl))) ?_
   refine ZG ?_
   refine ob (Ao rfl rfl (Be (by rw [h2_]; rfl))) ?_
   refine Ga2 ?_
   exact Bg ()
  ·intro ht52
   have hl3 : l.length ≤ 300 := by omega
   have h3_ := pS_3 hok hl3
   have hE : (An c l).2.2.2 = 0 := by rw [h3_]
   have hal := Tm hE
   refine ZL ?_
   refine ob (Ao rfl rfl (Cv hE)) ?_
   refine ZO ?_
   refine ob (Ao rfl rfl (Cv (by rw [hal.1]))) ?_
   refine Gc1 ?_
   refine kp [1, 2, 6, 7, 8, 9, 11, 13, 14] ?_
   refine Aa ?_
   refine Gb2 ?_
   refine Ga3 ?_
   have e0 : bAt c l 0 = ((A8 c).1, []) := by unfold bAt; simp [C0]
   refine Zal ?_
   refine Bl (γ := Nat × Value × Value × Value × Value) (fun g => g.1 ≤ l.length) (fun g => row 66 g.2.2.2.2 (bAt c l g.1).2 :: blk b11 33 [g.2.1, g.2.2.1, g.2.2.2.1] :: blk b7 33 [v25.1, v25.2.1, v25.2.2.1] :: L) (fun g => sl g.2.1 (bAt c l g.1).1.cores :: sl g.2.2.1 (bAt c l g.1).1.home :: sl g.2.2.2.1 (bAt c l g.1).1.frames :: sl v25.1 (An c l).1.cores :: sl v25.2.1 (An c l).1.home :: sl v25.2.2.1 (An c l).1.frames :: sl v25.2.2.2.1 (An c l).2.1 :: sl v25.2.2.2.2 (An c l).2.2.1 :: R) (fun g => [(2, vi p), (7, bp b7 0), (8, v25.2.2.2.1), (9, v25.2.2.2.2), (11, bp b11 0), (13, g.2.2.2.2), (14, .slice none 0 0), (74, vl), (75, vi (l.length : Int)), (76, vi (g.1 : Int))]) (fun g => l.length - g.1) (0, v32.1, v32.2, .slice none 0 0, .slice none 0 0) (Nat.zero_le _) alT (fun w hs => by rw [e0]; exact Ah hs) ?_
   rintro ⟨k, cv, hv, fv, dv⟩ hk
   try simp only at hk ⊢
   refine ZA ?_
   refine cdy ?_ ?_
   ·intro ht77
    refine Gl ?_
    refine ZcG ?_;intro hsw
    have hans := Aez hE (k := k) (by omega)
    refine ZJ ?_
    refine al_ (cs := zStep.cells) Try.zeroValue28 ?_; intro b16
    refine rn1 ?_
    refine ZcD ?_
    refine ZI ?_
    obtain ⟨n, nl, M, hI⟩ := Uh l hok k
    have h8 := Lr c l k
    have h9 := Ke (bAt c l k).1 (l.getD k zStep)
    refine Am Try.call20 rfl (fun w hs => O6 (x := (bAt c l k).1) (s := (l.getD k zStep)) hs mm mm mm hI hsw) ?_; intro v84
    refine J.know (p := v84.1.oneCell' = true ∧ v84.2.1.oneCell' = true ∧ v84.2.2.1.oneCell' = true) (fun w hs => ⟨isSlice.one (hs.fact (.head _)), isSlice.one (hs.fact (.tail _ (.head _))), isSlice.one (hs.fact (.tail _ (.tail _ (.head _))))⟩) (fun h12 => ?_)
    obtain ⟨honev841, honev842, honev843⟩ := h12
    refine rn4 ?_
    refine al_ (cs := [.slice none 0 0, .slice none 0 0, .slice none 0 0]) Try.zeroValue33 ?_; intro b17
    refine s_B (cs := [v84.1, v84.2.1, v84.2.2.1]) Try.sizeOf33 ?_
    refine Ga2 ?_
    refine JC.open0 (xs := (An c l).2.1) (v := v25.2.2.2.1) k mm (by omega) (fun _ => ?_)
    refine Aa ?_
    refine rn8 ?_
    refine ob (Ji rfl rfl (S5 ((An c l).2.1.getD k zAnswer) (Qu (bAt c l k).1 (l.getD k zStep)) _) (N5 (x := ((An c l).2.1.getD k zAnswer)) (y := (Qu (bAt c l k).1 (l.getD k zStep))) hans)) ?_
    refine Glc ?_
    refine kp [2, 6, 7, 8, 9, 11, 13, 14, 15, 16, 17, 18, 19, 74, 75, 76, 77, 78, 79, 80, 81, 82, 83, 84, 85, 86, 87, 88, 89, 90, 91, 92, 93, 94, 95, 96, 97, 98] ?_
    refine ZR ?_
    refine cdy ?_ ?_
    ·intro ht98
     refine ZL ?_
     refine s_B (cs := [v84.1, v84.2.1, v84.2.2.1]) Try.sizeOf33 ?_
     refine ZI ?_
     refine ap Ff (hb := fun w hs => by have : maxN = 16777216 := rfl; (try simp only [List.length_cons, List.length_nil]); omega) (k := ?_); intro v102
     refine ZF ?_
     have e1 := Qs (c := c) (l := l) (k := k) (by omega) ht98
     refine A6 (k + 1, v84.1, v84.2.1, v84.2.2.1, v102) (by show k + 1 ≤ l.length; omega) (by show l.length - (k + 1) < l.length - k; omega) alT (fun w hs => ?_)
     exact ZfG
    ·intro ht98
     refine ZD ?_
     have e1 := Vp (c := c) (l := l) (k := k) (by omega) ht98
     refine A6 (k + 1, cv, hv, fv, dv) (by show k + 1 ≤ l.length; omega) (by show l.length - (k + 1) < l.length - k; omega) alT (fun w hs => ?_)
     exact ZfG
   ·intro ht77
    refine Gl ?_
    have hkl : k = l.length := by omega
    subst hkl
    refine JC.shut (v := dv) pkk ?_
    have h8 := Lr c l l.length
    refine Za7 ?_
    refine Zal ?_
    refine Bl (γ := Nat × Value) (fun g => g.1 ≤ (bAt c l l.length).2.length) (fun g => row 66 g.2 (Dd ((bAt c l l.length).2.take g.1) p) :: blk b11 33 [cv, hv, fv] :: blk b7 33 [v25.1, v25.2.1, v25.2.2.1] :: L) (fun _ => sl dv (bAt c l l.length).2 :: sl cv (bAt c l l.length).1.cores :: sl hv (bAt c l l.length).1.home :: sl fv (bAt c l l.length).1.frames :: sl v25.1 (An c l).1.cores :: sl v25.2.1 (An c l).1.home :: sl v25.2.2.1 (An c l).1.frames :: sl v25.2.2.2.1 (An c l).2.1 :: sl v25.2.2.2.2 (An c l).2.2.1 :: R) (fun g => [(2, vi p), (7, bp b7 0), (9, v25.2.2.2.2), (11, bp b11 0), (13, dv), (14, g.2), (104, dv), (105, vi ((bAt c l l.length).2.length : Int)), (106, vi (g.1 : Int))]) (fun g => (bAt c l l.length).2.length - g.1) (0, .slice none 0 0) (Nat.zero_le _) alT (fun w hs => Ah hs) ?_
    rintro ⟨j, vo⟩ hj
    try simp only at hj ⊢
    have hdl := Pb (bAt c l l.length).2 p j
    refine ZA ?_
    refine cdy ?_ ?_
    ·intro ht107
     refine Gl ?_
     refine JC.open0 (xs := (bAt c l l.length).2) (v := dv) j mm (by omega) (fun hdw => ?_)
     refine ZB ?_
     refine al_ (cs := zDone.cells) Try.zeroValue66 ?_; intro b21
     refine s_B (cs := ((bAt c l l.length).2.getD j zDone).cells) Try.sizeOf66 ?_
     refine ZaP ?_
     refine cdy ?_ ?_
     ·intro ht113
      refine ZB ?_
      refine li (α := Done) ([((bAt c l l.length).2.getD j zDone)] : List Done) Ff rfl (Gg hdw) ?_; intro v116
      refine ap Ff (hb := fun w hs => by have : maxN = 16777216 := rfl; (try simp only [List.length_cons, List.length_nil]); omega) (k := ?_); intro v117
      refine ZF ?_
      have e1 := Vh (l := (bAt c l l.length).2) (k := j) (by omega) ht113
      refine A6 (j + 1, v117) (by show j + 1 ≤ (bAt c l l.length).2.length; omega) (by show (bAt c l l.length).2.length - (j + 1) < (bAt c l l.length).2.length - j; omega) alT (fun w hs => ?_)
      try simp only
      rw [e1]; exact Ah hs
     ·intro ht113
      refine ZD ?_
      have e1 := Vi (l := (bAt c l l.length).2) (k := j) (by omega) ht113
      refine A6 (j + 1, vo) (by show j + 1 ≤ (bAt c l l.length).2.length; omega) (by show (bAt c l l.length).2.length - (j + 1) < (bAt c l l.length).2.length - j; omega) alT (fun w hs => ?_)
      exact ZfG
    ·intro ht107
     refine Gl ?_
     have hjl : j = (bAt c l l.length).2.length := by omega
     subst hjl
     refine JC.shut (v := vo) pkk ?_
     refine ZB ?_
     refine Am Try.call17 rfl (fun w hs => Gx (a := (An c l).1) (b := (bAt c l l.length).1) (by rw [h3_]) hs mm mm mm mm mm mm) ?_; intro _u
     refine ZM ?_
     refine Am Try.call21 rfl (fun w hs => Hi (a := (An c l).2.2.1) (b := (bAt c l l.length).2) (by rw [h3_]) hs mm mm) ?_; intro _u
     refine ZG ?_
     refine Am Try.call28 rfl (fun w hs => Pu (l := (bAt c l l.length).2) (p := p) hs mm (by omega) hp) ?_; intro v130
     refine ZaH ?_
     refine Am Try.call21 rfl (fun w hs => Hi (a := Dd (bAt c l l.length).2 p) (b := Dd ((bAt c l l.length).2.take (bAt c l l.length).2.length) p) (by rw [List.take_length]) hs mm mm) ?_; intro _u
     refine Ga2 ?_
     exact Bg ()
def goS : Step := ⟨2, 0, 0, 0, zOp⟩
def tmS (k : Nat) : Step := ⟨6, (k : Int), 0, 0, zOp⟩
theorem N3 : ∀ (l : List Step) (x : Chip), (C0 x l).2.length ≤ l.length
 | [], x => by simp [C0]
 | s :: l, x => by
  by_cases h : (Ak x s).2.2 = 0
  ·rw [Fu h]; have := N3 l (Ak x s).1; have := Ke x s
   simp only [List.length_append, List.length_cons]; omega
  ·rw [Fv h]; have := N3 l x; simp only [List.length_cons]; omega
theorem go_eq {x : Chip} (h : 0 < x.frames.length) : Ak x goS = ((Az ⟨x.cores, x.home, x.frames.eraseIdx 0⟩ (Aw x.frames 0)).1, (Az ⟨x.cores, x.home, x.frames.eraseIdx 0⟩ (Aw x.frames 0)).2, 0) := by
 unfold Ak goS
 rw [if_neg (by simp), if_pos rfl, if_neg (by unfold By; simp only; omega)]
 simp only
 rw [Int.toNat_zero]
theorem Aep : ∀ (ms : List Msg) (l : Frames), l.length ≤ (way l ms).length
 | [], l => Nat.le_refl _
 | m :: r, l => by
  have h1 : l.length ≤ (C3 l (Ce m)).length := by unfold C3; split <;> simp
  have h2 := Aep r (C3 l (Ce m))
  simp only [way]; omega
theorem Wo {x : Chip} (h : 0 < x.frames.length) : (Ak x goS).2.2 = 0 ∧ x.frames.length ≤ (Ak x goS).1.frames.length + 1 := by
 rw [go_eq h]
 refine ⟨rfl, ?_⟩
 have he : (x.frames.eraseIdx 0).length = x.frames.length - 1 := by rw [List.length_eraseIdx, if_pos h]
 rcases Vk ⟨x.cores, x.home, x.frames.eraseIdx 0⟩ (Aw x.frames 0) with e | ⟨ms, e⟩
 ·simp only [e]; omega
 ·simp only [e]; have := Aep ms (x.frames.eraseIdx 0); omega
def Fe (x : Chip) (k : Nat) : Chip × List Done := C0 x (List.replicate k goS)
def I7 (y : Chip) (k : Nat) : Chip × List Done := C0 y ((List.range k).map tmS)
theorem Nu {x : Chip} {k : Nat} (h : (Ak (Fe x k).1 goS).2.2 = 0) : Fe x (k + 1) = ((Ak (Fe x k).1 goS).1, (Fe x k).2 ++ (Ak (Fe x k).1 goS).2.1) := by
 unfold Fe at h ⊢; rw [List.replicate_succ']; exact Ig _ _ _ h
theorem Yu (x : Chip) : ∀ k, k ≤ x.frames.length → x.frames.length ≤ (Fe x k).1.frames.length + k
 | 0, _ => by simp [Fe, C0]
 | k + 1, h => by
  have ih := Yu x k (by omega)
  have h1 := Wo (x := (Fe x k).1) (by omega)
  rw [Nu h1.1]; simp only; omega
theorem Yt {x : Chip} {k : Nat} (h : k < x.frames.length) : (Ak (Fe x k).1 goS).2.2 = 0 := by
 have := Yu x k (by omega)
 exact (Wo (by omega)).1
theorem P7 (x : Chip) (k : Nat) : (Fe x k).2.length ≤ k := by
 unfold Fe; exact Nat.le_trans (N3 _ _) (by simp)
theorem tm_ok {x : Chip} {k : Nat} (h : k ≤ x.cores.length) : (Ak x (tmS k)).2.2 = 0 ∧ (Ak x (tmS k)).2.1 = [] ∧ (Ak x (tmS k)).1.cores = x.cores ∧ (Ak x (tmS k)).1.home = x.home := by
 unfold Ak tmS Bd
 rw [if_neg (by simp), if_neg (by simp), if_neg (by simp), if_neg (by simp), if_neg (by simp), if_pos rfl, if_neg (by simp only; omega)]
 split <;> exact ⟨rfl, rfl, rfl, rfl⟩
theorem Mv (y : Chip) : ∀ k, k ≤ y.cores.length + 1 → (I7 y k).1.cores = y.cores ∧ (I7 y k).1.home = y.home ∧ (I7 y k).2 = []
 | 0, _ => by simp [I7, C0]
 | k + 1, h => by
  obtain ⟨a, b, c⟩ := Mv y k (by omega)
  have h1 := tm_ok (x := (I7 y k).1) (k := k) (by rw [a]; omega)
  have e : I7 y (k + 1) = ((Ak (I7 y k).1 (tmS k)).1, (I7 y k).2 ++ (Ak (I7 y k).1 (tmS k)).2.1) := by
   unfold I7 at h1 ⊢; rw [List.range_succ, List.map_append]; exact Ig _ _ _ h1.1
  rw [e]; simp only
  exact ⟨by rw [h1.2.2.1, a], by rw [h1.2.2.2, b], by rw [c, h1.2.1]; rfl⟩
theorem Qz {y : Chip} {k : Nat} (h : k ≤ y.cores.length) : (Ak (I7 y k).1 (tmS k)).2.2 = 0 ∧ I7 y (k + 1) = ((Ak (I7 y k).1 (tmS k)).1, []) := by
 obtain ⟨a, b, c⟩ := Mv y k (by omega)
 have h1 := tm_ok (x := (I7 y k).1) (k := k) (by rw [a]; omega)
 refine ⟨h1.1, ?_⟩
 have e : I7 y (k + 1) = ((Ak (I7 y k).1 (tmS k)).1, (I7 y k).2 ++ (Ak (I7 y k).1 (tmS k)).2.1) := by
  unfold I7 at h1 ⊢; rw [List.range_succ, List.map_append]; exact Ig _ _ _ h1.1
 rw [e, c, h1.2.1]; rfl
def Bn (x : Chip) : Chip × List Done := ((I7 (Fe x x.frames.length).1 ((Fe x x.frames.length).1.cores.length + 1)).1, (Fe x x.frames.length).2)
theorem Td (x : Chip) : Bn x = C0 x (List.replicate x.frames.length goS ++ (List.range ((Fe x x.frames.length).1.cores.length + 1)).map tmS) := by
 rw [K5]
 have h := (Mv (Fe x x.frames.length).1 ((Fe x x.frames.length).1.cores.length + 1) (Nat.le_refl _)).2.2
 show _ = ((I7 (Fe x x.frames.length).1 _).1, (Fe x x.frames.length).2 ++ (I7 (Fe x x.frames.length).1 _).2)
 rw [h, List.append_nil]; rfl
section
variable {n nl : Nat} {x : Chip} {M : List Int}
theorem Mm (h : Inv n nl x M) (k : Nat) : ∃ M', Inv n nl (Fe x k).1 M' ∧ E7 M (Fe x k).2 M' := Gy _ h
theorem U3 (h : Inv n nl x M) (k : Nat) : ∃ M', Inv n nl (I7 x k).1 M' := by
 obtain ⟨M', h', _⟩ := Gy ((List.range k).map tmS) h; exact ⟨M', h'⟩
theorem Ry (h : Inv n nl x M) : ∃ M', Inv n nl (Bn x).1 M' ∧ E7 M (Bn x).2 M' := by
 rw [Td]; exact Gy _ h
theorem Ku (h : Inv n nl x M) : (Bn x).2.length ≤ 40 := Nat.le_trans (P7 x _) h.fr
theorem calmR_iff : Gz x = true ↔ (∀ i, i < x.home.length → (ent x i).phase = 0) ∧ ∀ p, p < x.cores.length → (cor x p).wait.kind = 0 := by
 unfold Gz
 rw [Bool.and_eq_true, allN_iff, allN_iff]
 unfold Ka I2
 simp only [beq_iff_eq]
def frW (b : List UInt8) : Nat := if 3 ≤ (b.getD 0 0).toNat ∧ (b.getD 0 0).toNat ≤ 7 then 2 else 1
def Jo : Frames → Nat
 | [] => 0
 | b :: l => frW b + Jo l
theorem Acp (b : List UInt8) : 1 ≤ frW b ∧ frW b ≤ 2 := by unfold frW; split <;> omega
theorem Vf : ∀ (a b : Frames), Jo (a ++ b) = Jo a + Jo b
 | [], b => by simp [Jo]
 | c :: a, b => by rw [List.cons_append]; simp only [Jo]; rw [Vf a b]; omega
theorem T1 : ∀ (a : Frames), Jo a ≤ 2 * a.length
 | [] => by simp [Jo]
 | c :: a => by have := T1 a; have := Acp c; simp only [Jo, List.length_cons]; omega
theorem Aha (m : Msg) (h : 8 ≤ m.kind ∧ m.kind ≤ 11) : frW (Ce m) = 1 := by
 have e : (Ce m).getD 0 0 = u8 m.kind := rfl
 unfold frW; rw [e]
 have : m.kind = 8 ∨ m.kind = 9 ∨ m.kind = 10 ∨ m.kind = 11 := by omega
 rcases this with h | h | h | h <;> rw [h] <;> decide
theorem Yv {c : Config} {b : List UInt8} {m : Msg} (h : Af c b = (m, 0)) (h3 : 3 ≤ m.kind ∧ m.kind ≤ 7) : frW b = 2 := by
 have e : m.kind = ((b.getD 0 0).toNat : Int) := by
  rw [(Gs h).2.2.2.2.2]; rfl
 unfold frW; rw [if_pos (by omega)]
theorem Yl {e : Entry} {id : Int} {m : Msg} (h0 : e.phase = 0) (hg : m.kind = 1 ∨ m.kind = 2 → m.serial ≤ Dx e m.src) : (Ag e id m).1.phase = 0 ∧ ((Ag e id m).2 = [] ∨ (m.kind = 3 ∧ ∃ m', (Ag e id m).2 = [m'] ∧ m'.kind = 11)) := by
 unfold Ag
 split
 ·rename_i hk
  rw [if_pos (.inr (.inl (hg hk)))]; exact ⟨h0, .inl rfl⟩
 split
 ·rename_i hk
  rw [if_neg (fun h => h h0)]
  refine ⟨?_, .inr ⟨hk, _, rfl, rfl⟩⟩
  simp only; unfold E1
  split
  ·split <;> exact h0
  ·exact h0
 split
 ·exact ZgM
 split
 ·exact ZgM
 split
 ·exact ZgM
 ·exact ⟨h0, .inl rfl⟩
theorem Ze {c : Core} {id home : Int} {m : Msg} (hw : ¬ (m.line < 0 ∨ (c.lines.length : Int) ≤ m.line) → (Ac c m.line).want = 0) (hf : m.kind = 5 ∨ m.kind = 6 → m.turn ≤ (Ac c m.line).seen) : (Ae c id home m).1.wait = c.wait ∧ (Ae c id home m).2.2 = [] ∧ ((Ae c id home m).2.1 = [] ∨ ((3 ≤ m.kind ∧ m.kind ≤ 7) ∧ ∃ m', (Ae c id home m).2.1 = [m'] ∧ 8 ≤ m'.kind ∧ m'.kind ≤ 11)) := by
 unfold Ae
 split
 ·exact ⟨rfl, rfl, .inl rfl⟩
 rename_i h0
 have hw := hw h0
 split
 ·rename_i hk; exact ⟨rfl, rfl, .inr ⟨by omega, _, rfl, by unfold Bm; simp only; omega⟩⟩
 split
 ·rename_i hk
  rw [if_neg (show ¬ Dt (Ac c m.line) m.turn from fun h => by have := h.2.1; have := hf hk; omega)]
  split
  ·exact ⟨by trivial, by trivial, .inr ⟨by omega, _, rfl, by unfold Bm; simp only; omega⟩⟩
  ·exact ⟨by trivial, by trivial, .inl rfl⟩
 split
 ·split
  ·exact ⟨rfl, rfl, .inl rfl⟩
  rw [if_neg (show ¬ Gn (Ac c m.line) m from fun h => by have := h.2; omega)]
  exact ⟨rfl, rfl, .inr ⟨by omega, _, rfl, by unfold Bm; simp only; omega⟩⟩
 split
 ·rename_i h; exact absurd h.2.1 (by omega)
 ·exact ⟨rfl, rfl, .inl rfl⟩
theorem Y4 (l : Frames) (m : Msg) (h : 8 ≤ m.kind ∧ m.kind ≤ 11) : Jo (C3 l (Ce m)) ≤ Jo l + 1 := by
 unfold C3; split
 ·rw [Vf]; simp only [Jo]; rw [Aha m h]; omega
 ·omega
theorem Qa {l : Frames} {ms : List Msg} {b : List UInt8} (h : ms = [] ∨ (frW b = 2 ∧ ∃ m', ms = [m'] ∧ 8 ≤ m'.kind ∧ m'.kind ≤ 11)) : Jo (way l ms) + 1 ≤ frW b + Jo l := by
 rcases h with rfl | ⟨h1, m', rfl, h2⟩
 ·have := Acp b; simp only [way]; omega
 ·simp only [way]; have := Y4 l m' h2; omega
theorem Qm (h : Inv n nl x M) (hc : Gz x = true) (hf : 0 < x.frames.length) : Gz (Ak x goS).1 = true ∧ (Ak x goS).2.1 = [] ∧ Jo (Ak x goS).1.frames + 1 ≤ Jo x.frames := by
 have hc0 := calmR_iff.1 hc
 obtain ⟨b, fs, hfr⟩ : ∃ b fs, x.frames = b :: fs := by
  cases e : x.frames with
  | nil => rw [e] at hf; exact absurd hf (by simp)
  | cons b fs => exact ⟨b, fs, rfl⟩
 rw [go_eq hf]
 have hb : Aw x.frames 0 = b := by rw [hfr]; rfl
 have he : x.frames.eraseIdx 0 = fs := by rw [hfr]; rfl
 have hd : Jo x.frames = frW b + Jo fs := by rw [hfr]; rfl
 rw [hb, he, hd]
 have hcf : Aq ⟨x.cores, x.home, fs⟩ = G5 n nl := by
  show (⟨((x.cores.length : Nat) : Int), ((x.home.length : Nat) : Int)⟩ : Config) = G5 n nl
  rw [h.nc, h.nh]; rfl
 have hmi := (h.mi b (by rw [hfr]; exact List.mem_cons_self ..)).2
 have hwant : ∀ p i, p < n → i < nl → (lin x i p).want = 0 := fun p i hp hi => ((h.cw p hp).free (hc0.2 p (by rw [h.nc]; exact hp))).2 i hi
 unfold Az
 rw [hcf]
 split
 ·exact ⟨hc, rfl, by have := Acp b; simp only; omega⟩
 rename_i hp0
 have hpar : Af (G5 n nl) b = ((Af (G5 n nl) b).1, 0) := by rw [← Decidable.not_not.1 hp0]
 have hMX := hmi _ hpar
 have hw := Gp (Gs hpar).2.2.2.2.1
 have hfw := fun h3 => Yv hpar h3
 generalize (Af (G5 n nl) b).1 = m at *
 have hnx : Bd ⟨x.cores, x.home, fs⟩ = (n : Int) := by unfold Bd; simp only; rw [h.nc]
 rw [hnx]
 have hcn : (G5 n nl).cores = (n : Int) := rfl
 have hln : (G5 n nl).lines = (nl : Int) := rfl
 rw [hcn, hln] at hw
 have hli : m.line.toNat < nl := by omega
 split
 ·rename_i hdst
  have hpe : Ro n m = m.src.toNat := by unfold Ro; rw [if_pos hdst]
  unfold MX at hMX; rw [hpe] at hMX
  have hsrc : m.src.toNat < n := by omega
  have hw0 := hwant m.src.toNat m.line.toNat hsrc hli
  have hg : m.kind = 1 ∨ m.kind = 2 → m.serial ≤ Dx (Ad x.home m.line) m.src := fun hk => by
   have h1 := (hMX.get hk).2
   refine Int.not_lt.1 fun hlt => ?_
   have h2 := (h1 hlt).2
   rw [hw0] at h2; omega
  have h00 : (Ad x.home m.line).phase = 0 := hc0.1 m.line.toNat (by rw [h.nh]; exact hli)
  have hr := Yl (e := Ad x.home m.line) (id := (n : Int)) (m := m) h00 hg
  simp only
  unfold Al
  split
  ·exact ⟨calmR_iff.2 hc0, trivial, Qa (.inl rfl)⟩
  ·refine ⟨calmR_iff.2 ⟨fun i hi => ?_, hc0.2⟩, trivial, Qa ?_⟩
   ·simp only [List.length_set] at hi
    show ((x.home.set m.line.toNat _).getD i A7).phase = 0
    rw [Df _ _ _ _ _ (by rw [h.nh]; exact hli)]
    split
    ·exact hr.1
    ·exact hc0.1 i hi
   ·simp only
    rcases hr.2 with e | ⟨h3, m', e1, e2⟩
    ·exact .inl e
    ·exact .inr ⟨hfw (by omega), m', e1, by omega⟩
 ·rename_i hdst
  have hpe : Ro n m = m.dst.toNat := by unfold Ro; rw [if_neg hdst]
  unfold MX at hMX; rw [hpe] at hMX
  have hdn : m.dst.toNat < n := by omega
  have hw0 := hwant m.dst.toNat m.line.toNat hdn hli
  have h00 : (ent x m.line.toNat).phase = 0 := hc0.1 m.line.toNat (by rw [h.nh]; exact hli)
  have hr := Ze (c := Ar ⟨x.cores, x.home, fs⟩ m.dst) (id := m.dst) (home := (n : Int)) (m := m) (fun _ => hw0) (fun hk => by
   have h1 := (hMX.fet hk).2
   refine Int.not_lt.1 fun hlt => ?_
   have h2 := (h1 hlt).2.1
   have h3 : (ab (ent x m.line.toNat)).phase = 0 := h00
   omega)
  simp only
  refine ⟨calmR_iff.2 ⟨hc0.1, fun p hp => ?_⟩, hr.2.1, ?_⟩
  ·simp only [Cy, List.length_set] at hp
   show ((x.cores.set m.dst.toNat _).getD p E8).wait.kind = 0
   rw [Df _ _ _ _ _ (by rw [h.nc]; exact hdn)]
   split
   ·rw [hr.1]; exact hc0.2 m.dst.toNat (by rw [h.nc]; exact hdn)
   ·exact hc0.2 p hp
  ·show Jo (way fs _) + 1 ≤ _
   have := Qa (l := fs) (b := b) (ms := (Ae (Ar ⟨x.cores, x.home, fs⟩ m.dst) m.dst (n : Int) m).2.1) (by
    rcases hr.2.2 with e | ⟨h3, m', e1, e2⟩
    ·exact .inl e
    ·exact .inr ⟨hfw h3, m', e1, e2⟩)
   omega
def drN : Nat → Chip → Chip
 | 0, x => x
 | k + 1, x => if x.frames.length = 0 then x else drN k (Ak x goS).1
def P9 (x : Chip) : Chip := drN (Jo x.frames) x
theorem Ve {l : Frames} (h : 0 < l.length) : 0 < Jo l := by
 cases l with
 | nil => exact absurd h (by simp)
 | cons b l => have := Acp b; simp only [Jo]; omega
theorem Qb (x : Chip) (h : x.frames.length = 0) : ∀ j, drN j x = x
 | 0 => rfl
 | j + 1 => by simp only [drN]; rw [if_pos h]
theorem Sk {l : Frames} (h : Jo l = 0) : l.length = 0 := by
 refine Classical.byContradiction fun c => ?_
 have := Ve (l := l) (by omega); omega
theorem Vg : ∀ (k j : Nat) {x : Chip} {M : List Int}, Inv n nl x M → Gz x = true → Jo x.frames ≤ k → Jo x.frames ≤ j → drN k x = drN j x
 | 0, j, x, M, _, _, hk, _ => (Qb x (Sk (by omega)) j).symm
 | k + 1, 0, x, M, _, _, _, hj => Qb x (Sk (by omega)) (k + 1)
 | k + 1, j + 1, x, M, h, hc, hk, hj => by
  simp only [drN]
  by_cases hz : x.frames.length = 0
  ·rw [if_pos hz, if_pos hz]
  ·rw [if_neg hz, if_neg hz]
   obtain ⟨c1, c2, c3⟩ := Qm h hc (by omega)
   obtain ⟨M', h', _⟩ := Jk h (Wo (x := x) (by omega)).1
   exact Vg k j h' c1 (by omega) (by omega)
theorem Sj {x : Chip} (h : x.frames.length = 0) : P9 x = x := Qb x h _
theorem Vd (h : Inv n nl x M) (hc : Gz x = true) (hf : 0 < x.frames.length) : P9 x = P9 (Ak x goS).1 := by
 obtain ⟨c1, c2, c3⟩ := Qm h hc hf
 obtain ⟨M', h', _⟩ := Jk h (Wo hf).1
 obtain ⟨d, hd⟩ : ∃ d, Jo x.frames = d + 1 := ⟨Jo x.frames - 1, by have := Ve hf; omega⟩
 unfold P9
 rw [hd]; simp only [drN]; rw [if_neg (by omega)]
 exact Vg _ _ h' c1 (by omega) (Nat.le_refl _)
end
def Eo : Nat → Chip → Chip × List Done × Nat
 | 0, x => (x, [], 0)
 | k + 1, x => if Gz x = true then (x, [], 0) else ((Eo k (Bn x).1).1, (Bn x).2 ++ (Eo k (Bn x).1).2.1, (Eo k (Bn x).1).2.2 + 1)
def Lk (k n0 : Nat) (x : Chip) (d : List Done) : Chip × List Done × Nat :=
 if (Eo k x).2.2 = k then ((Eo k x).1, d ++ (Eo k x).2.1, n0 + k) else (P9 (Eo k x).1, d ++ (Eo k x).2.1, n0 + (Eo k x).2.2)
theorem fin_0 {n0 : Nat} {x : Chip} {d : List Done} : Lk 0 n0 x d = (x, d, n0) := by unfold Lk; rw [if_pos (show (Eo 0 x).2.2 = 0 from rfl)]; simp [Eo]
theorem S8 {k : Nat} {x : Chip} (hc : Gz x = true) : Eo (k + 1) x = (x, [], 0) := by simp only [Eo]; rw [if_pos hc]
theorem Mp {k n0 : Nat} {x : Chip} {d : List Done} (hc : Gz x = true) : Lk (k + 1) n0 x d = (P9 x, d, n0) := by
 unfold Lk; rw [S8 hc, if_neg (by simp)]; simp
theorem Sb {k n0 : Nat} {x : Chip} {d : List Done} (hc : ¬ Gz x = true) : Lk (k + 1) n0 x d = Lk k (n0 + 1) (Bn x).1 (d ++ (Bn x).2) := by
 have e : Eo (k + 1) x = ((Eo k (Bn x).1).1, (Bn x).2 ++ (Eo k (Bn x).1).2.1, (Eo k (Bn x).1).2.2 + 1) := by simp only [Eo]; rw [if_neg hc]
 unfold Lk; rw [e]; simp only
 by_cases h : (Eo k (Bn x).1).2.2 = k
 ·rw [if_pos (by omega), if_pos h]; simp; omega
 ·rw [if_neg (by omega), if_neg h]; simp; omega
def Hb (x : Chip) : Nat := 12 * x.cores.length + 12
def Gf (x : Chip) : Chip × List Done × Nat := Lk (Hb x) 0 x []
theorem Lv {a b : Nat} {q : Bool} (h : a ≤ b) : a = b ∨ (a < b ∧ q = true) ∨ (a < b ∧ q = false) := by
 rcases Nat.lt_or_ge a b with h1 | h1
 ·cases q
  ·exact .inr (.inr ⟨h1, rfl⟩)
  ·exact .inr (.inl ⟨h1, rfl⟩)
 ·exact .inl (by omega)
def Wc (p : Nat → Bool) : Nat → Int
 | 0 => -1
 | k + 1 => if 0 ≤ Wc p k then Wc p k else if p k = true then (k : Int) else -1
theorem U4 {p : Nat → Bool} : ∀ {k : Nat}, (∀ i, i < k → p i = false) → Wc p k = -1
 | 0, _ => rfl
 | k + 1, h => by
  simp only [Wc]
  rw [U4 (k := k) fun i hi => h i (by omega), if_neg (by decide), if_neg (by rw [h k (by omega)]; decide)]
theorem Yk {p : Nat → Bool} {k : Nat} (h : ∀ i, i < k → p i = false) (hk : p k = true) : ∀ {n : Nat}, k < n → Wc p n = (k : Int)
 | 0, hn => absurd hn (by omega)
 | n + 1, hn => by
  simp only [Wc]
  by_cases e : k = n
  ·rw [← e, U4 h, if_neg (by decide), if_pos hk]
  ·rw [Yk h hk (n := n) (by omega), if_pos (by omega)]
theorem Yj {p : Nat → Bool} : ∀ {n : Nat}, Oe (fun k => !p k) n = false → 0 ≤ Wc p n
 | 0, e => by cases e
 | n + 1, e => by
  simp only [Oe, Bool.and_eq_false_iff] at e
  simp only [Wc]
  by_cases h : 0 ≤ Wc p n
  ·rw [if_pos h]; exact h
  ·rw [if_neg h]
   rcases e with e | e
   ·exact absurd (Yj e) h
   ·rw [if_pos (by simpa using e)]; omega
theorem Agt {p : Nat → Bool} {n : Nat} : decide (0 ≤ Wc p n) = !Oe (fun k => !p k) n := by
 cases e : Oe (fun k => !p k) n with
 | true => rw [U4 fun i hi => by have := allN_iff.1 e i hi; simpa using this]; rfl
 | false => rw [decide_eq_true (Yj e)]; rfl
theorem Agu {cv : Value} {x : Chip} {ff : Nat} {caps : List Value} {p : Nat → Bool} (hs : St (L) R w) (hv : sl cv x.cores ∈ R) (hf : ∀ args w, (callFunc ff args).run Try.prog w = .ok (.enter ff args) w) (hc : ∀ k, k < x.cores.length → (cor x k).wait.wf → ∀ uk, uk.oneCell' = true → ∀ R' w, sl uk (cor x k).lines ∈ R' → St L R' w → Calls Try.prog ff ([Value.agg (Core.cells uk (cor x k)).toArray] ++ caps).toArray w (Bu (fun _ : Unit => .bool (p k)) (fun _ => L) (fun _ => R'))) : Calls Try.prog 109 [cv, .func (.func ff) #[] caps.toArray].toArray w (Bu (fun _ : Unit => vi (Wc p x.cores.length)) (fun _ => L) (fun _ => R)) := by
 have hlen := Bj hv hs
 refine Ai Try.func109 rfl Try.ntmps109 rfl hs ?_
 clear hs
 refine ZP ?_
 refine Ga3 ?_
 refine Bl (γ := Nat) (fun k => k ≤ x.cores.length ∧ ∀ i, i < k → p i = false) (fun _ => L) (fun _ => R) (fun k => [(0, cv), (1, .func (.func ff) #[] caps.toArray), (7, vi (x.cores.length : Int)), (8, vi (k : Int))]) (fun k => x.cores.length - k) 0 ⟨Nat.zero_le _, fun i hi => absurd hi (by omega)⟩ alT (fun w hs => hs) ?_
 rintro k ⟨hk, hp0⟩
 refine ZA ?_
 refine cdy ?_ ?_
 ·intro ht9
  refine ZD ?_
  refine Iq k (v := cv) mm (by omega) (fun hwk uk honek => ?_)
  refine Za2 ?_
  refine Ci (γ := Unit) (val := fun _ => .bool (p k)) (caps := caps) (vs := [.agg (Core.cells uk (cor x k)).toArray]) rfl hf rfl (fun w hs => hc k (by omega) hwk uk honek _ w mm hs) ?_; intro _
  refine Gl ?_
  first | (refine cdx (p := ?p2) (hd := ?d2) ?e2 ?_ ?_; case e2 => exact rfl) | (refine Bo (b := ?b2) ?e2 ?_ ?_; case e2 => exact rfl)
  ·intro ht16
   refine ZD ?_
   have er : Wc p x.cores.length = (k : Int) := Yk hp0 ht16 (by omega)
   exact ZfO
  ·intro ht16
   refine ZD ?_
   refine A6 (k + 1) ⟨by omega, fun i hi => ?_⟩ (by omega) alT (fun w hs => Ah hs)
   by_cases e : i = k
   ·rw [e]; exact ht16
   ·exact hp0 i (by omega)
 ·intro ht9
  refine ZA ?_
  have er : Wc p x.cores.length = -1 := U4 fun i hi => hp0 i (by omega)
  exact ZfO
theorem Aje {cv : Value} {x : Chip} {ff : Nat} {caps : List Value} {p : Nat → Bool} (hs : St (L) R w) (hv : sl cv x.cores ∈ R) (hf : ∀ args w, (callFunc ff args).run Try.prog w = .ok (.enter ff args) w) (hc : ∀ k, k < x.cores.length → (cor x k).wait.wf → ∀ uk, uk.oneCell' = true → ∀ R' w, sl uk (cor x k).lines ∈ R' → St L R' w → Calls Try.prog ff ([Value.agg (Core.cells uk (cor x k)).toArray] ++ caps).toArray w (Bu (fun _ : Unit => .bool (p k)) (fun _ => L) (fun _ => R'))) : Calls Try.prog 94 [cv, .func (.func ff) #[] caps.toArray].toArray w (Bu (fun _ : Unit => .bool (!Oe (fun k => !p k) x.cores.length)) (fun _ => L) (fun _ => R)) := by
 refine Ai Try.func94 rfl Try.ntmps94 rfl hs ?_
 clear hs
 refine ZP ?_
 refine rn2 ?_
 refine Am Try.call109 rfl (fun w hs => Agu (ff := ff) (caps := caps) (p := p) hs hv hf hc) ?_; intro _
 refine Ga2 ?_
 rw [← Agt]
 exact Bg ()
theorem Adl {up : Value} {x : Chip} {p : Nat} (hs : St (L) R w) (honeu : up.oneCell' = true) : Calls Try.prog 95 [.agg (Core.cells up (cor x p)).toArray].toArray w (Bu (fun _ : Unit => .bool (!I2 x p)) (fun _ => L) (fun _ => R)) := by
 refine Ai Try.func95 rfl Try.ntmps95 rfl hs ?_
 clear hs
 refine Gm ?_
 refine bx ?_; intro b1
 refine Gb1 ?_
 refine Ga5 ?_
 have er : (!I2 x p) = decide ((cor x p).wait.kind ≠ 0) := by unfold I2; by_cases h : (cor x p).wait.kind = 0 <;> simp [h]
 rw [er]
 exact Bg ()
theorem Qk {cv hv fv : Value} {x : Chip} (hs : St (L) R w) (hcv : sl cv x.cores ∈ R) (hhv : sl hv x.home ∈ R) (hx : CX x) (hfv : sl fv x.frames ∈ R) (honef : fv.oneCell' = true) : Calls Try.prog 67 [.agg #[cv, hv, fv]].toArray w (Bu (fun _ : Unit => .bool (G4 x)) (fun _ => L) (fun _ => R)) := by
 refine ZcK ?_;intro honec honeh
 have hn4 := hx.n4
 have hh4 := hx.h4
 refine Ai Try.func67 rfl Try.ntmps67 rfl hs ?_
 clear hs
 refine Gm ?_
 refine bx ?_; intro b1
 refine Gb1 ?_
 refine Ga4 ?_
 refine Bl (γ := Nat) (fun i => i ≤ x.home.length ∧ Oe (Ka x) i = true) (fun _ => blk b1 33 [cv, hv, fv] :: L) (fun _ => R) (fun i => [(1, bp b1 0), (6, hv), (7, vi (x.home.length : Int)), (8, vi (i : Int))]) (fun i => x.home.length - i) 0 ⟨Nat.zero_le _, rfl⟩ alT (fun w hs => Ah hs) ?_
 rintro i ⟨hi, hal⟩
 refine ZA ?_
 refine cdy ?_ ?_
 ·intro ht9
  refine Gl ?_
  refine Zet ?_;intro hwe ue honeu b4
  refine cdy ?_ ?_
  ·intro ht14
   refine ZA ?_
   have er : G4 x = false := by unfold G4; rw [Uj (show i < x.home.length by omega) (by unfold Ka; simpa using ht14)]; rfl
   exact ZfO
  ·intro ht14
   refine ZD ?_
   refine A6 (i + 1) ⟨by omega, Od hal (by unfold Ka; simpa using ht14)⟩ (by omega) alT (fun w hs => Ah hs)
 ·intro ht9
  refine Gl ?_
  rcases (show ((x.frames.length : Int) ≠ 0) ∨ ((x.frames.length : Int) = 0) from by omega) with hc | hc
  ·refine ZJ ?_
   refine Av ?_
   refine Ga7 ?_
   have er : G4 x = false := by unfold G4; rw [decide_eq_false (show ¬ x.frames.length = 0 by omega)]; simp
   exact ZfO
  ·refine ZJ ?_
   refine Cj ?_
   refine ZM ?_
   refine Am Try.call94 rfl (fun w hs => Aje (x := x) (ff := 95) (caps := []) (p := fun p => !I2 x p) hs hcv Try.call95 (fun k hk hwk uk honek R1 w1 hu1 hs1 => Adl hs1 honek)) ?_; intro _
   refine Ga3 ?_
   have er : G4 x = Oe (I2 x) x.cores.length := by unfold G4; rw [decide_eq_true (show x.frames.length = 0 by omega), show x.home.length = i by omega, hal]; simp
   rw [er]
   refine Bg () (hv := ?_)
   simp
theorem Th {cv hv fv : Value} {x : Chip} (hs : St (L) R w) (hcv : sl cv x.cores ∈ R) (hhv : sl hv x.home ∈ R) (hn4 : x.cores.length ≤ 4) (hh4 : x.home.length ≤ 4) (honef : fv.oneCell' = true) : Calls Try.prog 37 [.agg #[cv, hv, fv]].toArray w (Bu (fun _ : Unit => .bool (Gz x)) (fun _ => L) (fun _ => R)) := by
 refine ZcK ?_;intro honec honeh
 refine Ai Try.func37 rfl Try.ntmps37 rfl hs ?_
 clear hs
 refine Gm ?_
 refine bx ?_; intro b1
 refine Gb1 ?_
 refine Ga4 ?_
 refine Bl (γ := Nat) (fun i => i ≤ x.home.length ∧ Oe (Ka x) i = true) (fun _ => blk b1 33 [cv, hv, fv] :: L) (fun _ => R) (fun i => [(1, bp b1 0), (8, hv), (9, vi (x.home.length : Int)), (10, vi (i : Int))]) (fun i => x.home.length - i) 0 ⟨Nat.zero_le _, rfl⟩ alT (fun w hs => Ah hs) ?_
 rintro i ⟨hi, hal⟩
 refine ZA ?_
 refine cdy ?_ ?_
 ·intro ht11
  refine Gl ?_
  refine Zet ?_;intro hwe ue honeu b4
  refine cdy ?_ ?_
  ·intro ht16
   refine ZA ?_
   have er : Gz x = false := by unfold Gz; rw [Uj (show i < x.home.length by omega) (by unfold Ka; simpa using ht16)]; rfl
   exact ZfO
  ·intro ht16
   refine ZD ?_
   refine A6 (i + 1) ⟨by omega, Od hal (by unfold Ka; simpa using ht16)⟩ (by omega) alT (fun w hs => Ah hs)
 ·intro ht11
  refine ZaP ?_
  refine Bl (γ := Nat) (fun p => p ≤ x.cores.length ∧ Oe (I2 x) p = true) (fun _ => blk b1 33 [cv, hv, fv] :: L) (fun _ => R) (fun p => [(19, cv), (20, vi (x.cores.length : Int)), (21, vi (p : Int))]) (fun p => x.cores.length - p) 0 ⟨Nat.zero_le _, rfl⟩ alT (fun w hs => Ah hs) ?_
  rintro p ⟨hp, hfr⟩
  refine ZA ?_
  refine cdy ?_ ?_
  ·intro ht22
   refine Gl ?_
   refine Iq p (v := cv) mm (by omega) (fun hwp up honep => ?_)
   refine ZB ?_
   refine al_ (cs := [.slice none 0 0, vi 0, vi 0, vi 0]) Try.zeroValue57 ?_; intro b6
   refine s_B (cs := Core.cells up (cor x p)) Try.sizeOf57 ?_
   refine ZaP ?_
   refine cdy ?_ ?_
   ·intro ht28
    refine ZA ?_
    have er : Gz x = false := by unfold Gz; rw [Uj (f := I2 x) (show p < x.cores.length by omega) (by unfold I2; simpa using ht28)]; simp
    exact ZfO
   ·intro ht28
    refine ZD ?_
    refine A6 (p + 1) ⟨by omega, Od hfr (by unfold I2; simpa using ht28)⟩ (by omega) alT (fun w hs => Ah hs)
  ·intro ht22
   refine ZA ?_
   have er : Gz x = true := by unfold Gz; rw [show x.home.length = i by omega, show x.cores.length = p by omega, hal, hfr]; rfl
   exact ZfO
theorem Po {c : Int} (hs : St (L) R w) (hc : 0 ≤ c ∧ c ≤ 1000) : Calls Try.prog 33 [vi c].toArray w (Bu (fun _ : Unit => vi (12 * c + 12)) (fun _ => L) (fun _ => R)) := by
 refine Ai Try.func33 rfl Try.ntmps33 rfl hs ?_
 clear hs
 refine ZP ?_
 refine Ga4 ?_
 exact Bg ()
theorem Afx {cv hv fv : Value} {x : Chip} {n nl : Nat} {M : List Int} {b0 : Nat} (hs : St (blk b0 33 [cv, hv, fv] :: L) R w) (hcv : sl cv x.cores ∈ R) (hhv : sl hv x.home ∈ R) (hfv : sl fv x.frames ∈ R) (h : Inv n nl x M) : Calls Try.prog 68 [bp b0 0].toArray w (Bu (fun _ : Unit => .bool (Gz x)) (fun _ => blk b0 33 [cv, hv, fv] :: L) (fun _ => R)) := by
 have hn := h.nc
 have hn4 := h.n1
 have hf40 := h.fr
 refine Zbm ?_;intro honec honeh honef
 have hcx : CX (⟨x.cores, x.home, []⟩ : Chip) := (h.frames (f := []) (by simp) (fun b hb => absurd hb (by simp))).cx
 refine Ai Try.func68 rfl Try.ntmps68 rfl hs ?_
 clear hs
 refine ZP ?_
 refine rn3 ?_
 refine al_ (cs := [.slice none 0 0, .slice none 0 0, .slice none 0 0]) Try.zeroValue33 ?_; intro b3
 refine Zbz ?_
 refine Gl ?_
 refine JC.slNil (List UInt8) ?_
 refine ZC ?_
 refine sc ?_
 refine ZL ?_
 refine Am Try.call67 rfl (fun w hs => Qk (x := ⟨x.cores, x.home, []⟩) hs mm mm hcx mm rfl) ?_; intro _
 refine Ga1 ?_
 have er : Gz x = G4 ⟨x.cores, x.home, []⟩ := by rw [T7]; simp only [List.length_nil, decide_true, Bool.true_and]; rfl
 rw [er]
 exact Bg ()
theorem Aeu {cv hv fv : Value} {x : Chip} {n nl : Nat} {M : List Int} (hs : St (L) R w) (hcv : sl cv x.cores ∈ R) (hhv : sl hv x.home ∈ R) (hfv : sl fv x.frames ∈ R) (h : Inv n nl x M) : Calls Try.prog 31 [.agg #[cv, hv, fv]].toArray w (Bu (fun v : Value × Value × Value × Value => .tuple #[.agg #[v.1, v.2.1, v.2.2.1], v.2.2.2]) (fun v => L) (fun v => sl v.1 (Bn x).1.cores :: sl v.2.1 (Bn x).1.home :: sl v.2.2.1 (Bn x).1.frames :: sl v.2.2.2 (Bn x).2 :: R)) := by
 have hn := h.nc
 have hn4 := h.n1
 have hf40 := h.fr
 refine Zbm ?_;intro honec honeh honef
 refine Ai Try.func31 rfl Try.ntmps31 rfl hs ?_
 clear hs
 refine Zbv ?_;intro b1 b2
 refine Gb1 ?_
 refine Gb1 ?_
 refine Ga4 ?_
 have e0 : Fe x 0 = (x, []) := by unfold Fe; simp [C0]
 refine Zal ?_
 refine Bl (γ := Nat × Value × Value × Value × Value) (fun g => g.1 ≤ x.frames.length) (fun g => row 66 g.2.2.2.2 (Fe x g.1).2 :: blk b1 33 [g.2.1, g.2.2.1, g.2.2.2.1] :: blk b2 33 [.slice none 0 0, .slice none 0 0, .slice none 0 0] :: L) (fun g => sl g.2.1 (Fe x g.1).1.cores :: sl g.2.2.1 (Fe x g.1).1.home :: sl g.2.2.2.1 (Fe x g.1).1.frames :: R) (fun g => [(1, bp b1 0), (2, bp b2 0), (4, g.2.2.2.2), (14, vi (x.frames.length : Int)), (15, vi (g.1 : Int))]) (fun g => x.frames.length - g.1) (0, cv, hv, fv, .slice none 0 0) (Nat.zero_le _) alT (fun w hs => by rw [e0]; exact Ah hs) ?_
 rintro ⟨k, cv, hv, fv, dv⟩ hk
 try simp only at hk ⊢
 have hdl := P7 x k
 refine ZA ?_
 refine cdy ?_ ?_
 ·intro ht16
  refine ZI ?_
  obtain ⟨Mk, hIk, _⟩ := Mm h k
  have gok := Yt (x := x) (k := k) (by omega)
  have h9 := Ke (Fe x k).1 goS
  refine Am Try.call19 rfl (fun w hs => Dm (x := (Fe x k).1) (s := goS) hs mm mm mm (by unfold Step.wf Ap goS zOp; decide) hIk) ?_; intro v20
  refine Zej ?_;intro h12
  obtain ⟨honev201, honev202, honev203⟩ := h12
  refine rn4 ?_
  refine ZbU ?_;intro b5
  refine s_B (cs := [v20.1, v20.2.1, v20.2.2.1]) Try.sizeOf33 ?_
  refine Zax ?_
  refine ob (Ao rfl rfl (Cv gok)) ?_
  refine ZaQ ?_
  refine s_B (cs := [v20.1, v20.2.1, v20.2.2.1]) Try.sizeOf33 ?_
  refine ZI ?_
  refine ap Ff (hb := fun w hs => by have : maxN = 16777216 := rfl; (try simp only [List.length_cons, List.length_nil]); omega) (k := ?_); intro v29
  refine ZF ?_
  have e1 := Nu gok
  refine A6 (k + 1, v20.1, v20.2.1, v20.2.2.1, v29) (by show k + 1 ≤ x.frames.length; omega) (by show x.frames.length - (k + 1) < x.frames.length - k; omega) alT (fun w hs => ?_)
  exact ZfG
 ·intro ht16
  refine Gl ?_
  have hkf : k = x.frames.length := by omega
  subst hkf
  obtain ⟨My, hIy, _⟩ := Mm h x.frames.length
  have hny := hIy.nc
  refine Aa ?_
  refine Ga5 ?_
  have f0 : I7 (Fe x x.frames.length).1 0 = ((Fe x x.frames.length).1, []) := by unfold I7; simp [C0]
  refine Bl (γ := Nat × Value × Value × Value) (fun g => g.1 ≤ (Fe x x.frames.length).1.cores.length + 1) (fun g => row 66 dv (Fe x x.frames.length).2 :: blk b1 33 [g.2.1, g.2.2.1, g.2.2.2] :: blk b2 33 [.slice none 0 0, .slice none 0 0, .slice none 0 0] :: L) (fun g => sl g.2.1 (I7 (Fe x x.frames.length).1 g.1).1.cores :: sl g.2.2.1 (I7 (Fe x x.frames.length).1 g.1).1.home :: sl g.2.2.2 (I7 (Fe x x.frames.length).1 g.1).1.frames :: R) (fun g => [(1, bp b1 0), (2, bp b2 0), (4, dv), (34, vi ((((Fe x x.frames.length).1.cores.length + 1 : Nat)) : Int)), (35, vi (g.1 : Int))]) (fun g => (Fe x x.frames.length).1.cores.length + 1 - g.1) (0, cv, hv, fv) (Nat.zero_le _) alT (fun w hs => by rw [f0]; exact Ah hs) ?_
  rintro ⟨k, cv, hv, fv⟩ hk
  try simp only at hk ⊢
  refine ZA ?_
  refine cdy ?_ ?_
  ·intro ht36
   refine Zbg ?_
   refine rn3 ?_
   obtain ⟨Mk, hIk⟩ := U3 hIy k
   have tok := Qz (y := (Fe x x.frames.length).1) (k := k) (by omega)
   refine Am Try.call19 rfl (fun w hs => Dm (x := (I7 (Fe x x.frames.length).1 k).1) (s := tmS k) hs mm mm mm (by unfold Step.wf Ap tmS zOp; simp only; omega) hIk) ?_; intro v42
   refine J.know (p := v42.1.oneCell' = true ∧ v42.2.1.oneCell' = true ∧ v42.2.2.1.oneCell' = true) (fun w hs => ⟨isSlice.one (hs.fact (.head _)), isSlice.one (hs.fact (.tail _ (.head _))), isSlice.one (hs.fact (.tail _ (.tail _ (.head _))))⟩) (fun h12 => ?_)
   obtain ⟨honev421, honev422, honev423⟩ := h12
   refine rn4 ?_
   refine Zbw ?_;intro b9
   refine s_B (cs := [v42.1, v42.2.1, v42.2.2.1]) Try.sizeOf33 ?_
   refine Zax ?_
   refine ob (Ao rfl rfl (Be tok.1)) ?_
   refine Glc ?_
   refine kp [1, 2, 3, 4, 8, 9, 11, 34, 35, 36, 37, 38, 39, 40, 41, 42, 43, 44, 45, 46, 47, 48] ?_
   refine ZC ?_
   refine s_B (cs := [v42.1, v42.2.1, v42.2.2.1]) Try.sizeOf33 ?_
   refine ZD ?_
   refine A6 (k + 1, v42.1, v42.2.1, v42.2.2.1) (by show k + 1 ≤ (Fe x x.frames.length).1.cores.length + 1; omega) (by show (Fe x x.frames.length).1.cores.length + 1 - (k + 1) < (Fe x x.frames.length).1.cores.length + 1 - k; omega) alT (fun w hs => ?_)
   try simp only
   rw [tok.2]; exact Ah hs
  ·intro ht36
   exact ZfF
theorem Xr {cv hv fv : Value} {x : Chip} {n nl : Nat} {M : List Int} (hs : St (L) R w) (hcv : sl cv x.cores ∈ R) (hhv : sl hv x.home ∈ R) (hfv : sl fv x.frames ∈ R) (h : Inv n nl x M) : Calls Try.prog 34 [.agg #[cv, hv, fv]].toArray w (Bu (fun v : Value × Value × Value × Value => .tuple #[.agg #[v.1, v.2.1, v.2.2.1], v.2.2.2, vi ((Gf x).2.2 : Int)]) (fun v => L) (fun v => sl v.1 (Gf x).1.cores :: sl v.2.1 (Gf x).1.home :: sl v.2.2.1 (Gf x).1.frames :: sl v.2.2.2 (Gf x).2.1 :: R)) := by
 have hn := h.nc
 have hn4 := h.n1
 have hf40 := h.fr
 refine Zbm ?_;intro honec honeh honef
 refine Ai Try.func34 rfl Try.ntmps34 rfl hs ?_
 clear hs
 refine Zbv ?_;intro b1 b2
 refine Gb2 ?_
 refine Gb1 ?_
 refine Ga1 ?_
 refine Zal ?_
 refine Bl (γ := Nat × Chip × List Done × Value × Value × Value × Value) (fun g => ∃ Mk, Inv n nl g.2.1 Mk ∧ g.1 ≤ Hb x ∧ Lk (Hb x - g.1) g.1 g.2.1 g.2.2.1 = Gf x ∧ g.2.2.1.length ≤ 40 * g.1) (fun g => row 66 g.2.2.2.2.2.2 g.2.2.1 :: blk b1 33 [g.2.2.2.1, g.2.2.2.2.1, g.2.2.2.2.2.1] :: blk b2 33 [.slice none 0 0, .slice none 0 0, .slice none 0 0] :: L) (fun g => sl g.2.2.2.1 g.2.1.cores :: sl g.2.2.2.2.1 g.2.1.home :: sl g.2.2.2.2.2.1 g.2.1.frames :: R) (fun g => [(1, bp b1 0), (2, bp b2 0), (5, g.2.2.2.2.2.2), (6, vi (g.1 : Int))]) (fun g => (Hb x - g.1) * 100 + Jo g.2.1.frames) (0, x, [], cv, hv, fv, .slice none 0 0) ⟨M, h, Nat.zero_le _, rfl, by show 0 ≤ 40 * 0; omega⟩ alT (fun w hs => Ah hs) ?_
 rintro ⟨k, X, D, cv, hv, fv, dv⟩ ⟨Mk, hI, hkm, hfin, hDl⟩
 try simp only at hI hkm hfin hDl ⊢
 have hXn := hI.nc
 have hX4 := hI.n1
 have hXh := hI.nh
 have hXl := hI.l1
 have hX40 := hI.fr
 have hdw := T1 X.frames
 refine Zeb ?_;intro hmo h12
 obtain ⟨hone1, hone2, hone3⟩ := h12
 refine Gl ?_
 rcases (show (k = Hb x) ∨ (k < Hb x ∧ G4 X = true) ∨ (k < Hb x ∧ G4 X = false) from by exact Lv hkm) with hc | hc | hc
 ·refine ZE ?_
  refine Am Try.call33 rfl (fun w hs => Po hs (by omega)) ?_; intro _
  refine Bh ?_
  refine Gc5 ?_
  exact ZgR
 ·have hcm : X.frames.length = 0 ∧ Gz X = true := by have h8 := hc.2; rw [T7, Bool.and_eq_true, decide_eq_true_eq] at h8; exact h8
  refine ZE ?_
  refine Am Try.call33 rfl (fun w hs => Po hs (by omega)) ?_; intro _
  refine D2 ?_
  refine Zab ?_
  refine Am Try.call67 rfl (fun w hs => by have h8 := Qk (x := X) hs mm mm hI.cx mm hone3; rw [hc.2] at h8; exact h8) ?_; intro _
  refine Gc2 ?_
  refine Zc9 ?_
  rw [← hfin, show Hb x - k = (Hb x - k - 1) + 1 by omega, Mp hcm.2, Sj hcm.1]
  exact Zgo
 ·refine ZE ?_
  refine Am Try.call33 rfl (fun w hs => Po hs (by omega)) ?_; intro _
  refine D2 ?_
  refine Zab ?_
  refine Am Try.call67 rfl (fun w hs => by have h8 := Qk (x := X) hs mm mm hI.cx mm hone3; rw [hc.2] at h8; exact h8) ?_; intro _
  refine Gd2 ?_
  refine Am Try.call68 rfl (fun w hs => Afx (x := X) (cv := cv) (hv := hv) (fv := fv) (b0 := b1) (Ah (L' := blk b1 33 [cv, hv, fv] :: row 66 dv D :: blk b2 33 [.slice none 0 0, .slice none 0 0, .slice none 0 0] :: L) hs) mm mm mm hI) ?_; intro _
  refine Gl ?_
  refine Bo (b := ?b1) ?e1 ?_ ?_; case e1 => exact rfl
  ·intro ht23
   have hfp : 0 < X.frames.length := by
    refine Nat.pos_of_ne_zero fun h8 => ?_
    have h9 := hc.2
    rw [T7, ht23, decide_eq_true h8] at h9
    exact absurd h9 (by decide)
   have gok := (Wo hfp).1
   refine ZI ?_
   refine Am Try.call19 rfl (fun w hs => Dm (x := X) (s := goS) hs mm mm mm (by unfold Step.wf Ap goS zOp; decide) hI) ?_; intro v27
   refine Zem ?_;intro h12
   obtain ⟨honev271, honev272, honev273⟩ := h12
   refine rn4 ?_
   refine Za6 ?_;intro b7
   refine s_B (cs := [v27.1, v27.2.1, v27.2.2.1]) Try.sizeOf33 ?_
   refine Zax ?_
   refine ob (Ao rfl rfl (Cv gok)) ?_
   refine Glc ?_
   refine kp [1, 2, 3, 4, 5, 6, 7, 8, 9, 12, 13, 14, 15, 16, 17, 18, 19, 20, 21, 22, 23, 24, 25, 26, 27, 28, 29, 30, 31, 32, 33] ?_
   refine ZC ?_
   refine s_B (cs := [v27.1, v27.2.1, v27.2.2.1]) Try.sizeOf33 ?_
   refine Gl ?_
   have h9 := Ke X goS
   refine ZB ?_
   refine ap Ff (hb := fun w hs => by have : maxN = 16777216 := rfl; omega) (k := ?_); intro v36
   refine Ga1 ?_
   have hcg := Qm hI ht23 hfp
   have e1 : Lk (Hb x - k) k (Ak X goS).1 D = Gf x := by
    rw [← hfin, show Hb x - k = (Hb x - k - 1) + 1 by omega, Mp hcg.1, Mp ht23, Vd hI ht23 hfp]
   obtain ⟨M2, hI2, _⟩ := Jk hI gok
   refine A6 (k, (Ak X goS).1, D, v27.1, v27.2.1, v27.2.2.1, v36) ⟨M2, hI2, hkm, e1, hDl⟩ (by show (Hb x - k) * 100 + Jo (Ak X goS).1.frames < (Hb x - k) * 100 + Jo X.frames; omega) alT (fun w hs => ?_)
   try simp only
   rw [hcg.2.1, List.append_nil] at hs; exact Ah hs
  ·intro ht23
   refine ZL ?_
   refine Am Try.call31 rfl (fun w hs => Aeu (x := X) hs mm mm mm hI) ?_; intro v39
   refine Zen ?_;intro h12
   obtain ⟨honev391, honev392, honev393⟩ := h12
   refine rn3 ?_
   refine al_ (cs := [.slice none 0 0, .slice none 0 0, .slice none 0 0]) Try.zeroValue33 ?_; intro b10
   refine ZcC ?_
   refine Zat ?_
   refine ZcC ?_
   refine Gl ?_
   have h9 := Ku hI
   refine ZB ?_
   refine ap Ff (hb := fun w hs => by have : maxN = 16777216 := rfl; omega) (k := ?_); intro v45
   refine Ga1 ?_
   refine kp [1, 2, 3, 4, 5, 6, 7, 8, 9, 10, 11, 12, 13, 14, 15, 16, 17, 18, 19, 20, 21, 22, 23, 24, 25, 26, 27, 28, 29, 30, 31, 32, 33, 34, 35, 36, 37, 38, 39, 40, 41, 42, 43, 44, 45, 46, 47] ?_
   refine Za7 ?_
   have hrl := Ku hI
   obtain ⟨M2, hI2, _⟩ := Ry hI
   have hdw2 := T1 (Bn X).1.frames
   have hI240 := hI2.fr
   have e1 : Lk (Hb x - (k + 1)) (k + 1) (Bn X).1 (D ++ (Bn X).2) = Gf x := by
    rw [← hfin, show Hb x - k = (Hb x - (k + 1)) + 1 by omega, Sb (by rw [ht23]; decide)]
   refine A6 (k + 1, (Bn X).1, D ++ (Bn X).2, v39.1, v39.2.1, v39.2.2.1, v45) ⟨M2, hI2, by show k + 1 ≤ Hb x; omega, e1, by show (D ++ (Bn X).2).length ≤ 40 * (k + 1); rw [List.length_append]; omega⟩ (by show (Hb x - (k + 1)) * 100 + Jo (Bn X).1.frames < (Hb x - k) * 100 + Jo X.frames; omega) alT (fun w hs => ?_)
   try simp only
   exact Ah hs
theorem Up {cv hv fv : Value} {x : Chip} {n nl : Nat} {M : List Int} (hs : St (L) R w) (hcv : sl cv x.cores ∈ R) (hhv : sl hv x.home ∈ R) (hfv : sl fv x.frames ∈ R) (h : Inv n nl x M) : Calls Try.prog 32 [.agg #[cv, hv, fv]].toArray w (Bu (fun v : Value × Value × Value × Value => .tuple #[.agg #[v.1, v.2.1, v.2.2.1], v.2.2.2]) (fun v => L) (fun v => sl v.1 (Bn x).1.cores :: sl v.2.1 (Bn x).1.home :: sl v.2.2.1 (Bn x).1.frames :: sl v.2.2.2 (Bn x).2 :: R)) := by
 have hn := h.nc
 have hn4 := h.n1
 have hf40 := h.fr
 refine Zbm ?_;intro honec honeh honef
 refine Ai Try.func32 rfl Try.ntmps32 rfl hs ?_
 clear hs
 refine Zbv ?_;intro b1 b2
 refine Gb1 ?_
 refine Gb1 ?_
 refine Ga4 ?_
 have e0 : Fe x 0 = (x, []) := by unfold Fe; simp [C0]
 refine Zal ?_
 refine Bl (γ := Nat × Value × Value × Value × Value) (fun g => g.1 ≤ x.frames.length) (fun g => row 66 g.2.2.2.2 (Fe x g.1).2 :: blk b1 33 [g.2.1, g.2.2.1, g.2.2.2.1] :: blk b2 33 [.slice none 0 0, .slice none 0 0, .slice none 0 0] :: L) (fun g => sl g.2.1 (Fe x g.1).1.cores :: sl g.2.2.1 (Fe x g.1).1.home :: sl g.2.2.2.1 (Fe x g.1).1.frames :: R) (fun g => [(1, bp b1 0), (2, bp b2 0), (4, g.2.2.2.2), (11, vi (x.frames.length : Int)), (12, vi (g.1 : Int))]) (fun g => x.frames.length - g.1) (0, cv, hv, fv, .slice none 0 0) (Nat.zero_le _) alT (fun w hs => by rw [e0]; exact Ah hs) ?_
 rintro ⟨k, cv, hv, fv, dv⟩ hk
 try simp only at hk ⊢
 have hdl := P7 x k
 refine ZA ?_
 refine cdy ?_ ?_
 ·intro ht13
  refine ZI ?_
  obtain ⟨Mk, hIk, _⟩ := Mm h k
  have gok := Yt (x := x) (k := k) (by omega)
  have h9 := Ke (Fe x k).1 goS
  refine Am Try.call20 rfl (fun w hs => O6 (x := (Fe x k).1) (s := goS) hs mm mm mm hIk (by unfold Step.wf Ap goS zOp; decide)) ?_; intro v17
  refine Zel ?_;intro h12
  obtain ⟨honev171, honev172, honev173⟩ := h12
  refine rn4 ?_
  refine ZbU ?_;intro b5
  refine s_B (cs := [v17.1, v17.2.1, v17.2.2.1]) Try.sizeOf33 ?_
  refine Zax ?_
  refine s_B (cs := [v17.1, v17.2.1, v17.2.2.1]) Try.sizeOf33 ?_
  refine ZI ?_
  refine ap Ff (hb := fun w hs => by have : maxN = 16777216 := rfl; (try simp only [List.length_cons, List.length_nil]); omega) (k := ?_); intro v24
  refine ZF ?_
  have e1 := Nu gok
  refine A6 (k + 1, v17.1, v17.2.1, v17.2.2.1, v24) (by show k + 1 ≤ x.frames.length; omega) (by show x.frames.length - (k + 1) < x.frames.length - k; omega) alT (fun w hs => ?_)
  exact ZfG
 ·intro ht13
  refine Gl ?_
  have hkf : k = x.frames.length := by omega
  subst hkf
  obtain ⟨My, hIy, _⟩ := Mm h x.frames.length
  have hny := hIy.nc
  refine Aa ?_
  refine Ga5 ?_
  have f0 : I7 (Fe x x.frames.length).1 0 = ((Fe x x.frames.length).1, []) := by unfold I7; simp [C0]
  refine Bl (γ := Nat × Value × Value × Value) (fun g => g.1 ≤ (Fe x x.frames.length).1.cores.length + 1) (fun g => row 66 dv (Fe x x.frames.length).2 :: blk b1 33 [g.2.1, g.2.2.1, g.2.2.2] :: blk b2 33 [.slice none 0 0, .slice none 0 0, .slice none 0 0] :: L) (fun g => sl g.2.1 (I7 (Fe x x.frames.length).1 g.1).1.cores :: sl g.2.2.1 (I7 (Fe x x.frames.length).1 g.1).1.home :: sl g.2.2.2 (I7 (Fe x x.frames.length).1 g.1).1.frames :: R) (fun g => [(1, bp b1 0), (2, bp b2 0), (4, dv), (29, vi ((((Fe x x.frames.length).1.cores.length + 1 : Nat)) : Int)), (30, vi (g.1 : Int))]) (fun g => (Fe x x.frames.length).1.cores.length + 1 - g.1) (0, cv, hv, fv) (Nat.zero_le _) alT (fun w hs => by rw [f0]; exact Ah hs) ?_
  rintro ⟨k, cv, hv, fv⟩ hk
  try simp only at hk ⊢
  refine ZA ?_
  refine cdy ?_ ?_
  ·intro ht31
   refine Zbg ?_
   refine rn3 ?_
   obtain ⟨Mk, hIk⟩ := U3 hIy k
   have tok := Qz (y := (Fe x x.frames.length).1) (k := k) (by omega)
   refine Am Try.call20 rfl (fun w hs => O6 (x := (I7 (Fe x x.frames.length).1 k).1) (s := tmS k) hs mm mm mm hIk (by unfold Step.wf Ap tmS zOp; simp only; omega)) ?_; intro v37
   refine J.know (p := v37.1.oneCell' = true ∧ v37.2.1.oneCell' = true ∧ v37.2.2.1.oneCell' = true) (fun w hs => ⟨isSlice.one (hs.fact (.head _)), isSlice.one (hs.fact (.tail _ (.head _))), isSlice.one (hs.fact (.tail _ (.tail _ (.head _))))⟩) (fun h12 => ?_)
   obtain ⟨honev371, honev372, honev373⟩ := h12
   refine rn4 ?_
   refine s_B (cs := [v37.1, v37.2.1, v37.2.2.1]) Try.sizeOf33 ?_
   refine ZD ?_
   refine A6 (k + 1, v37.1, v37.2.1, v37.2.2.1) (by show k + 1 ≤ (Fe x x.frames.length).1.cores.length + 1; omega) (by show (Fe x x.frames.length).1.cores.length + 1 - (k + 1) < (Fe x x.frames.length).1.cores.length + 1 - k; omega) alT (fun w hs => ?_)
   try simp only
   rw [tok.2]; exact Ah hs
  ·intro ht31
   exact ZfF
theorem Xs {cv hv fv : Value} {x : Chip} {n nl : Nat} {M : List Int} (hs : St (L) R w) (hcv : sl cv x.cores ∈ R) (hhv : sl hv x.home ∈ R) (hfv : sl fv x.frames ∈ R) (h : Inv n nl x M) : Calls Try.prog 35 [.agg #[cv, hv, fv]].toArray w (Bu (fun v : Value × Value × Value × Value => .tuple #[.agg #[v.1, v.2.1, v.2.2.1], v.2.2.2, vi ((Gf x).2.2 : Int)]) (fun v => L) (fun v => sl v.1 (Gf x).1.cores :: sl v.2.1 (Gf x).1.home :: sl v.2.2.1 (Gf x).1.frames :: sl v.2.2.2 (Gf x).2.1 :: R)) := by
 have hn := h.nc
 have hn4 := h.n1
 have hf40 := h.fr
 refine Zbm ?_;intro honec honeh honef
 refine Ai Try.func35 rfl Try.ntmps35 rfl hs ?_
 clear hs
 refine Zbv ?_;intro b1 b2
 refine Gb2 ?_
 refine Gb1 ?_
 refine Ga1 ?_
 refine Zal ?_
 refine Bl (γ := Nat × Chip × List Done × Value × Value × Value × Value) (fun g => ∃ Mk, Inv n nl g.2.1 Mk ∧ g.1 ≤ Hb x ∧ Lk (Hb x - g.1) g.1 g.2.1 g.2.2.1 = Gf x ∧ g.2.2.1.length ≤ 40 * g.1) (fun g => row 66 g.2.2.2.2.2.2 g.2.2.1 :: blk b1 33 [g.2.2.2.1, g.2.2.2.2.1, g.2.2.2.2.2.1] :: blk b2 33 [.slice none 0 0, .slice none 0 0, .slice none 0 0] :: L) (fun g => sl g.2.2.2.1 g.2.1.cores :: sl g.2.2.2.2.1 g.2.1.home :: sl g.2.2.2.2.2.1 g.2.1.frames :: R) (fun g => [(1, bp b1 0), (2, bp b2 0), (5, g.2.2.2.2.2.2), (6, vi (g.1 : Int))]) (fun g => Hb x - g.1) (0, x, [], cv, hv, fv, .slice none 0 0) ⟨M, h, Nat.zero_le _, rfl, by show 0 ≤ 40 * 0; omega⟩ alT (fun w hs => Ah hs) ?_
 rintro ⟨k, X, D, cv, hv, fv, dv⟩ ⟨Mk, hI, hkm, hfin, hDl⟩
 try simp only at hI hkm hfin hDl ⊢
 have hXn := hI.nc
 have hX4 := hI.n1
 have hXh := hI.nh
 have hXl := hI.l1
 refine Zeb ?_;intro hmo h12
 obtain ⟨hone1, hone2, hone3⟩ := h12
 refine Gl ?_
 rcases (show (k = Hb x) ∨ (k < Hb x ∧ Gz X = true) ∨ (k < Hb x ∧ Gz X = false) from by exact Lv hkm) with hc | hc | hc
 ·refine Zam ?_
  refine Bh ?_
  refine Gd5 ?_
  refine rn6 ?_
  refine Cj ?_
  refine Glc ?_
  exact ZgR
 ·refine Zam ?_
  refine D2 ?_
  refine Zab ?_
  refine Am Try.call37 rfl (fun w hs => by have h8 := Th (x := X) hs mm mm (by omega) (by omega) hone3; rw [hc.2] at h8; exact h8) ?_; intro _
  refine Gd2 ?_
  refine rn6 ?_
  refine Av ?_
  refine Glc ?_
  have hfd : Gf x = (P9 X, D, k) := by rw [← hfin, show Hb x - k = (Hb x - k - 1) + 1 by omega, Mp hc.2]
  have hcX : Gz X = true := hc.2
  refine Bl (γ := Chip × Value × Value × Value × Value) (fun g => (∃ Mk, Inv n nl g.1 Mk) ∧ Gz g.1 = true ∧ P9 g.1 = P9 X) (fun g => row 66 g.2.2.2.2 D :: blk b1 33 [g.2.1, g.2.2.1, g.2.2.2.1] :: blk b2 33 [.slice none 0 0, .slice none 0 0, .slice none 0 0] :: L) (fun g => sl g.2.1 g.1.cores :: sl g.2.2.1 g.1.home :: sl g.2.2.2.1 g.1.frames :: R) (fun g => [(1, bp b1 0), (2, bp b2 0), (5, g.2.2.2.2), (6, vi (k : Int))]) (fun g => Jo g.1.frames) (X, cv, hv, fv, dv) ⟨⟨Mk, hI⟩, hcX, rfl⟩ alT (fun w hs => Ah hs) ?_
  rintro ⟨Y, cv, hv, fv, dv⟩ ⟨⟨My, hY⟩, hcY, hdY⟩
  try simp only at hY hcY hdY ⊢
  have hYf := hY.fr
  refine JC.know (p := cv.oneCell' = true ∧ hv.oneCell' = true ∧ fv.oneCell' = true) (fun w hs => ⟨isSlice.one (hs.fact (mm (f := sl cv Y.cores))), isSlice.one (hs.fact (mm (f := sl hv Y.home))), isSlice.one (hs.fact (mm (f := sl fv Y.frames)))⟩) (fun h12 => ?_)
  obtain ⟨hone1, hone2, hone3⟩ := h12
  refine ZaP ?_
  refine cdy ?_ ?_
  ·intro ht51
   refine Gl ?_
   have hfp : 0 < Y.frames.length := by omega
   have gok := (Wo hfp).1
   have hcg := Qm hY hcY hfp
   obtain ⟨M2, hI2, _⟩ := Jk hY gok
   have hI2n := hI2.nc
   have hI24 := hI2.n1
   have hI2h := hI2.nh
   have hI2l := hI2.l1
   refine ZB ?_
   refine Am Try.call20 rfl (fun w hs => O6 (x := Y) (s := goS) hs mm mm mm hY (by unfold Step.wf Ap goS zOp; decide)) ?_; intro v55
   refine Zeq ?_;intro h12
   obtain ⟨honev551, honev552, honev553⟩ := h12
   refine rn4 ?_
   refine Zbw ?_;intro b9
   refine s_B (cs := [v55.1, v55.2.1, v55.2.2.1]) Try.sizeOf33 ?_
   refine Ga2 ?_
   refine kp [1, 2, 3, 4, 5, 6, 9, 10, 48, 49, 50, 51, 52, 53, 54, 55, 56, 57, 58, 59] ?_
   refine ZC ?_
   refine s_B (cs := [v55.1, v55.2.1, v55.2.2.1]) Try.sizeOf33 ?_
   refine Gl ?_
   have h9 := Ke Y goS
   refine ZB ?_
   refine ap Ff (hb := fun w hs => by have : maxN = 16777216 := rfl; omega) (k := ?_); intro v62
   refine Zat ?_
   refine Am Try.call37 rfl (fun w hs => by have h8 := Th (x := (Ak Y goS).1) hs mm mm (by omega) (by omega) honev553; rw [hcg.1] at h8; exact h8) ?_; intro _
   refine Gc1 ?_
   refine A6 ((Ak Y goS).1, v55.1, v55.2.1, v55.2.2.1, v62) ⟨⟨M2, hI2⟩, hcg.1, by rw [← hdY]; exact (Vd hY hcY hfp).symm⟩ (by show Jo (Ak Y goS).1.frames < Jo Y.frames; omega) alT (fun w hs => ?_)
   try simp only
   rw [hcg.2.1, List.append_nil] at hs; exact Ah hs
  ·intro ht51
   refine Gl ?_
   refine Zc9 ?_
   have hdr := Sj (x := Y) (by omega)
   rw [hfd, ← hdY, hdr]
   exact Zgo
 ·refine Zam ?_
  refine D2 ?_
  refine Zab ?_
  refine Am Try.call37 rfl (fun w hs => by have h8 := Th (x := X) hs mm mm (by omega) (by omega) hone3; rw [hc.2] at h8; exact h8) ?_; intro _
  refine Gd2 ?_
  refine rn1 ?_
  refine Am Try.call32 rfl (fun w hs => Up (x := X) hs mm mm mm hI) ?_; intro v29
  refine Zep ?_;intro h12
  obtain ⟨honev291, honev292, honev293⟩ := h12
  refine rn3 ?_
  refine Za6 ?_;intro b7
  refine s_B (cs := [v29.1, v29.2.1, v29.2.2.1]) Try.sizeOf33 ?_
  refine Zat ?_
  refine s_B (cs := [v29.1, v29.2.1, v29.2.2.1]) Try.sizeOf33 ?_
  refine Gl ?_
  have h9 := Ku hI
  refine ZB ?_
  refine ap Ff (hb := fun w hs => by have : maxN = 16777216 := rfl; omega) (k := ?_); intro v35
  refine Ga1 ?_
  refine kp [1, 2, 3, 4, 5, 6, 7, 8, 15, 16, 17, 18, 19, 20, 21, 22, 23, 24, 25, 26, 27, 28, 29, 30, 31, 32, 33, 34, 35, 36, 37] ?_
  refine Za7 ?_
  obtain ⟨M2, hI2, _⟩ := Ry hI
  have hrl := Ku hI
  have e1 : Lk (Hb x - (k + 1)) (k + 1) (Bn X).1 (D ++ (Bn X).2) = Gf x := by
   rw [← hfin, show Hb x - k = (Hb x - (k + 1)) + 1 by omega, Sb (by rw [hc.2]; decide)]
  refine A6 (k + 1, (Bn X).1, D ++ (Bn X).2, v29.1, v29.2.1, v29.2.2.1, v35) ⟨M2, hI2, by show k + 1 ≤ Hb x; omega, e1, by show (D ++ (Bn X).2).length ≤ 40 * (k + 1); rw [List.length_append]; omega⟩ (by show Hb x - (k + 1) < Hb x - k; omega) alT (fun w hs => ?_)
  try simp only
  exact Ah hs
theorem Qo (c : Config) (l : List Step) : (build c l).1.cores = [] ∨ ∃ n nl : Nat, c = G5 n nl ∧ ∃ M, Inv n nl (build c l).1 M := by
 exact Zgg
theorem M8 {vl : Value} {c : Config} {l : List Step} (hs : St (L) R w) (hl : sl vl l ∈ R) (hcw : c.wf) : Calls Try.prog 11 [.agg c.cells.toArray, vl].toArray w (Bu (fun _ : Unit => .bool true) (fun _ => L) (fun _ => R)) := by
 refine Ai Try.func11 rfl Try.ntmps11 rfl hs ?_
 clear hs
 refine Zay ?_;intro b2
 refine Za8 ?_
 refine Am Try.call14 rfl (fun w hs => Kv (c := c) (l := l) hs mm hcw) ?_; intro v16
 refine Zeo ?_;intro h12
 obtain ⟨hone1, hone2, hone3⟩ := h12
 refine rn3 ?_
 refine ZbU ?_;intro b5
 refine s_B (cs := [v16.1, v16.2.1, v16.2.2.1]) Try.sizeOf33 ?_
 refine Ga1 ?_
 rcases (show (((build c l).1.cores.length : Int) = 0) ∨ (((build c l).1.cores.length : Int) ≠ 0) from by omega) with hc | hc
 ·refine ZJ ?_
  refine Cj ?_
  refine Gmc ?_
  exact ZfP
 ·obtain ⟨n, nl, hcc, M, hI⟩ := (Qo c l).resolve_left (fun h => by rw [h, List.length_nil] at hc; omega)
  have hc4 : 0 ≤ c.cores ∧ c.cores ≤ 4 := by have := hI.n1; rw [hcc]; unfold G5; simp only; omega
  generalize (build c l).1 = X at hI hc ⊢
  refine ZJ ?_
  refine Av ?_
  refine ZaQ ?_
  refine Am Try.call31 rfl (fun w hs => Aeu (x := X) hs mm mm mm hI) ?_; intro v25
  refine Zdb ?_;intro h12
  obtain ⟨honev251, honev252, honev253⟩ := h12
  refine rn3 ?_
  refine Za6 ?_;intro b7
  refine s_B (cs := [v25.1, v25.2.1, v25.2.2.1]) Try.sizeOf33 ?_
  refine Zat ?_
  refine Am Try.call32 rfl (fun w hs => Up (x := X) (cv := v16.1) (hv := v16.2.1) (fv := v16.2.2.1) hs mm mm mm hI) ?_; intro v30
  refine J.know (p := v30.1.oneCell' = true ∧ v30.2.1.oneCell' = true ∧ v30.2.2.1.oneCell' = true) (fun w hs => ⟨isSlice.one (hs.fact (.head _)), isSlice.one (hs.fact (.tail _ (.head _))), isSlice.one (hs.fact (.tail _ (.tail _ (.head _))))⟩) (fun h12 => ?_)
  obtain ⟨honev301, honev302, honev303⟩ := h12
  refine rn3 ?_
  refine Zbw ?_;intro b9
  refine s_B (cs := [v30.1, v30.2.1, v30.2.2.1]) Try.sizeOf33 ?_
  refine Ga1 ?_
  refine kp [2, 4, 5, 7, 8, 9, 10, 33, 34, 35, 36, 37, 38, 39, 40, 41, 42, 43, 44, 45, 46, 47, 48, 49, 50, 51, 52] ?_
  refine Zao ?_
  refine dj ?_
  refine I3 (γ := Unit) (val := fun _ => .bool true) (F := fun _ => []) (C := fun _ => []) Try.call17 (fun _ => rfl) (fun _ _ _ _ => rfl) (fun ρ L R w hd hs => Gx (a := (Bn X).1) rfl hs (hd.base mm) (hd.base mm) (hd.base mm) (hd.base mm) (hd.base mm) (hd.base mm)) ?_
  first | refine djc (fun _ _ => Lz) ?_ | refine djc (fun _ _ => Nf) ?_
  refine djm ?_
  refine dn2 ?_
  refine dj (dgy ?_)
  refine I3 (γ := Unit) (val := fun _ => .bool true) (F := fun _ => []) (C := fun _ => []) Try.call21 (fun _ => rfl) (fun _ _ _ _ => rfl) (fun ρ L R w hd hs => Hi (a := (Bn X).2) rfl hs (hd.base mm) (hd.base mm)) ?_
  refine dj (dgy ?_)
  first | refine dc (fun _ _ => Lz) ?_ | refine dc (fun _ _ => Nf) ?_
  refine Zad ?_
  refine dn2 ?_
  refine dj (dgy ?_)
  refine I3 (γ := Unit) (val := fun _ => vi (12 * c.cores + 12)) (F := fun _ => []) (C := fun _ => []) Try.call33 (fun _ => rfl) (fun _ _ _ _ => rfl) (fun ρ L R w hd hs => Po hs (by omega)) ?_
  refine dn4 ?_
  refine dj (dgy ?_)
  refine dc (fun _ _ => Ao rfl rfl (Cv (by omega))) ?_
  refine djf ?_
  refine dnl ?_; intro ρ
  refine ZaQ ?_
  refine Am Try.call34 rfl (fun w hs => Xr (x := X) (cv := v16.1) (hv := v16.2.1) (fv := v16.2.2.1) hs mm mm mm hI) ?_; intro v55
  refine Zeq ?_;intro h12
  obtain ⟨honev551, honev552, honev553⟩ := h12
  refine rn4 ?_
  refine s_B (cs := [v55.1, v55.2.1, v55.2.2.1]) Try.sizeOf33 ?_
  refine Zax ?_
  refine Am Try.call35 rfl (fun w hs => Xs (x := X) (cv := v16.1) (hv := v16.2.1) (fv := v16.2.2.1) hs mm mm mm hI) ?_; intro v61
  refine Zda ?_;intro h12
  obtain ⟨honev611, honev612, honev613⟩ := h12
  refine rn4 ?_
  refine s_B (cs := [v61.1, v61.2.1, v61.2.2.1]) Try.sizeOf33 ?_
  refine Ga2 ?_
  refine kp [4, 7, 8, 9, 10, 11, 12, 65, 66, 67, 68, 69, 70, 71, 72, 73, 74, 75, 76, 77] ?_
  refine ZB ?_
  refine Zaz ?_
  refine ZM ?_
  refine Am Try.call17 rfl (fun w hs => Gx (a := (Gf X).1) rfl hs mm mm mm mm mm mm) ?_; intro _u
  refine ZG ?_
  refine Am Try.call21 rfl (fun w hs => Hi (a := (Gf X).2.1) rfl hs mm mm) ?_; intro _u
  refine Ga2 ?_
  exact Bg ()
end Go.Proofs.Ytehpekiedfpnkaa
