/- This file proves parts of what its law needs: each part is told ahead of it. No conditions. -/
import Derived.Test.YtbigiimomnfpdaaGreatTM3
import Derived.Test.YtbigiimomnfpdaaGreatTM1
import Derived.Test.YtbigiimomnfpdaaGreatTM2
import Derived.MapKept
set_option linter.unusedVariables false
set_option linter.unusedSimpArgs false
namespace Go.Proofs.YtbigiimomnfpdaaGreat
namespace Abs
set_option maxHeartbeats 2000000
section home
variable {n : Nat} {e e' : Ab} {L : Nat → Line} {V : Int}
theorem Agg {m : Msg} {p : Nat} (hG : GI n e) (hC : ∀ q, q < n → CI e q (L q) V) (hp : p < n) (hM : MI e p (L p) m) (hk : m.kind = 1 ∨ m.kind = 2) (hms : 0 ≤ m.serial ∧ m.serial ≤ 65535) (h0 : e.phase = 0) (hs : e.last p < m.serial) (ht : e.turn < 65535)
  (f1 : e'.value = e.value) (f2 : e'.owner = e.owner) (f3 : e'.sh = e.sh) (f4 : e'.who = p) (f5 : e'.serial = m.serial) (f6 : e'.alone = m.kind - 1) (f7 : e'.turn = e.turn + 1) (f8 : e'.last = upd e.last p m.serial)
  (f9 : (0 ≤ e.owner ∧ e'.phase = 1 ∧ ∀ q, e'.nd q = 0) ∨ (e.owner < 0 ∧ m.kind = 2 ∧ e'.phase = 2 ∧ (∃ q : Nat, q < n ∧ e'.nd q = 1) ∧ (∀ q : Nat, e'.nd q = if q = p then 0 else e.sh q)) ∨
   (e.owner < 0 ∧ e'.phase = 3 ∧ (∀ q, e'.nd q = 0) ∧ (m.kind = 2 → ∀ q : Nat, q < n → q ≠ p → e.sh q = 0))) :
  GI n e' ∧ (∀ q, q < n → CI e' q (L q) V) ∧ ∀ q, q < n → ∀ m', MI e q (L q) m' → MI e' q (L q) m' := by
 have h1 := (hM.get hk).2 hs
 have hCp := hC p hp
 have hst : (L p).state ≤ 1 := by have := hCp.w1; have := hCp.w2; grind
 have hnow : e.owner ≠ p := by have := hCp.own; grind
 have how := hG.own
 have hval : e.owner < 0 → e.value = V := by intro h; exact hCp.val (by omega) (by omega)
 have hph : (0 ≤ e.owner ∧ e'.phase = 1) ∨ (e.owner < 0 ∧ m.kind = 2 ∧ e'.phase = 2) ∨ (e.owner < 0 ∧ e'.phase = 3) := by
  rcases f9 with ⟨g1, g2, _⟩ | ⟨g1, g2, g3, _⟩ | ⟨g1, g2, _⟩
  ·exact .inl ⟨g1, g2⟩
  ·exact .inr (.inl ⟨g1, g2, g3⟩)
  ·exact .inr (.inr ⟨g1, g2⟩)
 have hc2 : e'.phase = 2 → ∃ q : Nat, q < n ∧ e'.nd q = 1 := by
  intro h2
  rcases f9 with ⟨g1, g2, _⟩ | ⟨g1, g2, g3, g4, _⟩ | ⟨g1, g2, _⟩
  ·omega
  ·exact g4
  ·omega
 have hnp : e'.nd p = 0 := by
  rcases f9 with ⟨_, _, g⟩ | ⟨_, _, _, _, g⟩ | ⟨_, _, g, _⟩
  ·exact g p
  ·rw [g p, if_pos rfl]
  ·exact g p
 have hnq : ∀ q : Nat, q < n → q ≠ p → (e'.phase = 2 → e'.nd q = e.sh q) ∧ (e'.phase ≠ 2 → e'.nd q = 0) ∧ (e'.phase = 3 → m.kind = 2 → e.sh q = 0) := by
  intro q hq hqp
  rcases f9 with ⟨_, g1, g⟩ | ⟨_, _, g1, _, g⟩ | ⟨_, g1, g, g'⟩
  ·exact ⟨by omega, fun _ => g q, by omega⟩
  ·exact ⟨fun _ => by rw [g q, if_neg hqp], by omega, by omega⟩
  ·exact ⟨by omega, fun _ => g q, fun _ hk => g' hk q hq hqp⟩
 have hlp : e'.last p = m.serial := by rw [f8]; simp [upd]
 have hlq : ∀ q, q ≠ p → e'.last q = e.last q := fun q hqp => by rw [f8]; simp [upd, hqp]
 clear f8 f9
 refine ⟨?_, fun q hq => ?_, fun q hq m' hm' => ?_⟩
 ·constructor
  ·have g0 := hG.own; have g1 := hG.own; grind
  ·have g0 := hG.own; have g1 := hG.ph; grind
  ·have g0 := hG.own; have g1 := hG.idle; grind
  ·intro _; rw [f4]; clear hc2; omega
  ·have g0 := hG.own; have g1 := hG.f1; grind
  ·have g0 := hG.own; have g1 := hG.f23; grind
  ·intro h2; exact ⟨by clear hc2; grind, hc2 h2⟩
  ·have g0 := hG.own; have g1 := hG.al; grind
  ·have g0 := hG.own; have g1 := hG.tu; grind
  ·have g0 := hG.own; have g1 := hG.va; grind
  ·have g0 := hG.own; have g1 := hG.se; grind
 ·have hCq := hC q hq
  have hsh : e'.sh q = e.sh q := by rw [f3]
  clear f3 hc2
  by_cases hqp : q = p
  ·subst hqp
   clear hnq hlq
   have w0 := hCp.wa
   constructor
   ·exact hCp.st
   ·exact hCp.va
   ·exact hCp.wa
   ·exact hCp.se
   ·exact ZgN
   ·exact hCp.gi
   ·exact ZgO
   ·exact ZgA
   ·exact hCp.leav
   ·exact hCp.w1
   ·exact hCp.w2
   ·have c0 := hCp.taken; grind
   ·have c0 := hCp.back; have c1 := hCp.wa; grind
   ·have c0 := hCp.cur; have c1 := hCp.ga; grind
   ·have c0 := hCp.own; have c1 := hCp.st; grind
   ·have c0 := hCp.alo; have c1 := hCp.leav; grind
   ·have c0 := hCp.cop; grind
   ·have c0 := hCp.shs; grind
   ·have c0 := hCp.ned; have c1 := hCp.ga; grind
   ·exact ZgF
   ·exact ZgG
   ·have c0 := hCp.val; have c1 := hCp.ga; grind
  ·have hn2 := hnq q hq hqp
   have hl2 := hlq q hqp
   clear hnq hlq hlp hnp hCp
   constructor
   ·exact hCq.st
   ·exact hCq.va
   ·exact hCq.wa
   ·exact hCq.se
   ·exact ZgP
   ·exact hCq.gi
   ·exact ZgQ
   ·have c0 := hCq.bits; have c1 := hCq.bits; grind
   ·exact hCq.leav
   ·exact hCq.w1
   ·exact hCq.w2
   ·have c0 := hCq.taken; grind
   ·exact ZgB
   ·have c0 := hCq.cur; grind
   ·have c0 := hCq.own; have c1 := hCq.ga; grind
   ·have c0 := hCq.alo; grind
   ·have c0 := hCq.cop; grind
   ·have c0 := hCq.shs; grind
   ·have c0 := hCq.ned; have c1 := hCq.ga; have c2 := hCq.bits; grind
   ·exact ZgH
   ·have c0 := hCq.gra; grind
   ·have c0 := hCq.val; grind
 ·have hCq := hC q hq
  clear hc2 f3
  by_cases hqp : q = p
  ·subst hqp
   clear hnq hlq
   exact Zfm
  ·have hn2 := hnq q hq hqp
   have hl2 := hlq q hqp
   clear hnq hlq hlp hnp hCp
   exact Zfm
theorem h_put {m : Msg} {p : Nat} (hG : GI n e) (hC : ∀ q, q < n → CI e q (L q) V) (hp : p < n) (hM : MI e p (L p) m) (hk : m.kind = 3) (hmv : 0 ≤ m.value ∧ m.value ≤ 255) (h0 : e.phase = 0) (hs : e.last p < m.serial)
  (f3 : e'.sh = e.sh) (f4 : e'.who = e.who) (f5 : e'.serial = e.serial) (f6 : e'.alone = e.alone) (f7 : e'.turn = e.turn) (f8 : e'.last = upd e.last p m.serial) (f9 : e'.phase = e.phase) (f10 : e'.nd = e.nd)
  (f1 : (e.owner = p ∧ e'.owner = -1 ∧ e'.value = m.value) ∨ (e.owner ≠ p ∧ e'.owner = e.owner ∧ e'.value = e.value)) :
  GI n e' ∧ (∀ q, q < n → CI e' q (L q) V) ∧ ∀ q, q < n → ∀ m', MI e q (L q) m' → MI e' q (L q) m' := by
 have h1 := (hM.put hk).2 hs
 have h2 := (hM.put hk).1
 have hCp := hC p hp
 have how := hG.own
 have hA : e.owner = p → (L p).state = 3 ∧ (L p).want = 3 ∧ m.serial = (L p).serial ∧ m.value = V := by
  intro ho
  have hc : m.serial = (L p).serial ∧ (L p).want = 3 ∧ m.value = (L p).value := by grind
  have h3 := hCp.leav.2 hc.2.1
  exact ⟨h3, hc.2.1, hc.1, by rw [hc.2.2]; exact (hCp.alo (.inr ⟨h3, by omega⟩)).2⟩
 have hB : e.owner ≠ p → m.serial < (L p).serial ∨ (L p).want = 0 := by
  intro ho
  rcases h1 with h1 | h1
  ·exfalso
   have h3 := hCp.leav.2 h1.2.1
   have := (hCp.alo (.inr ⟨h3, by omega⟩)).1
   grind
  ·exact h1.1
 have hlp : e'.last p = m.serial := by rw [f8]; simp [upd]
 have hlq : ∀ q, q ≠ p → e'.last q = e.last q := fun q hqp => by rw [f8]; simp [upd, hqp]
 clear f8
 refine ⟨?_, fun q hq => ?_, fun q hq m' hm' => ?_⟩
 ·exact ZeP
 ·have hCq := hC q hq
  have hsh : e'.sh q = e.sh q := by rw [f3]
  have hnd : e'.nd q = e.nd q := by rw [f10]
  clear f3 f10
  by_cases hqp : q = p
  ·subst hqp
   clear hlq
   have l0 := hCp.leav
   have a0 := hCp.la
   constructor
   ·exact hCp.st
   ·exact hCp.va
   ·exact hCp.wa
   ·exact hCp.se
   ·exact ZgN
   ·exact hCp.gi
   ·exact ZgO
   ·exact ZgA
   ·exact hCp.leav
   ·exact hCp.w1
   ·exact hCp.w2
   ·have c0 := hCp.taken; have c1 := hCp.wa; grind
   ·have c0 := hCp.back; grind
   ·have c0 := hCp.cur; grind
   ·have c0 := hCp.own; have c1 := hCp.st; grind
   ·have c0 := hCp.alo; grind
   ·have c0 := hCp.cop; have c1 := hCp.cop; grind
   ·have c0 := hCp.shs; have c1 := hCp.st; grind
   ·have c0 := hCp.ned; grind
   ·exact ZgF
   ·exact ZgG
   ·have c0 := hCp.val; have c1 := hCp.val; grind
  ·have hl2 := hlq q hqp
   clear hlq hlp hCp
   constructor
   ·exact hCq.st
   ·exact hCq.va
   ·exact hCq.wa
   ·exact hCq.se
   ·exact ZgP
   ·exact hCq.gi
   ·exact ZgQ
   ·have c0 := hCq.bits; grind
   ·exact hCq.leav
   ·exact hCq.w1
   ·exact hCq.w2
   ·have c0 := hCq.taken; grind
   ·exact ZgB
   ·have c0 := hCq.cur; grind
   ·have c0 := hCq.own; grind
   ·have c0 := hCq.alo; grind
   ·have c0 := hCq.cop; grind
   ·have c0 := hCq.shs; grind
   ·have c0 := hCq.ned; grind
   ·exact ZgH
   ·have c0 := hCq.gra; grind
   ·have c0 := hCq.val; grind
 ·have hCq := hC q hq
  have hnd : e'.nd q = e.nd q := by rw [f10]
  clear f3 f10
  by_cases hqp : q = p
  ·subst hqp
   clear hlq
   exact Zfv
  ·have hl2 := hlq q hqp
   clear hlq hlp hCp
   exact Zfv
theorem h_data {m : Msg} {p : Nat} (hG : GI n e) (hC : ∀ q, q < n → CI e q (L q) V) (hp : p < n) (hM : MI e p (L p) m) (hk : m.kind = 9) (hmv : 0 ≤ m.value ∧ m.value ≤ 255) (h0 : e.phase = 1) (ht : m.turn = e.turn) (ho : e.owner = p)
  (f1 : e'.value = m.value) (f2 : e'.owner = -1) (f3 : ∀ q : Nat, e'.sh q = if q = p ∧ e.alone = 0 then 1 else e.sh q) (f4 : e'.who = e.who) (f5 : e'.serial = e.serial) (f6 : e'.alone = e.alone) (f7 : e'.turn = e.turn) (f8 : e'.last = e.last) (f9 : e'.phase = 3) (f10 : ∀ q, e'.nd q = 0) :
  GI n e' ∧ (∀ q, q < n → CI e' q (L q) V) ∧ ∀ q, q < n → ∀ m', MI e q (L q) m' → MI e' q (L q) m' := by
 have h1 := (hM.dat hk).2 ht h0 ho
 have hCp := hC p hp
 have hga := hCp.ga
 have hown := hCp.own ho
 have hmV : m.value = V ∧ (L p).state < 2 ∧ (L p).seen = e.turn ∧ (e.alone = 1 → (L p).state = 0) := by grind
 have hf := hG.f1 h0
 have hwp : e.who ≠ p := by rw [← ho]; exact fun h => hf.2 h.symm
 have hw0 : (L p).want ≠ 3 := by have := hCp.leav; have := hCp.st; grind
 have hal := hG.al
 have hsp : (e.alone = 0 → e'.sh p = 1) ∧ (e.alone ≠ 0 → e'.sh p = e.sh p) := by have := f3 p; grind
 have hsq : ∀ q, q ≠ p → e'.sh q = e.sh q := by intro q hq; have := f3 q; grind
 clear f3
 refine ⟨?_, fun q hq => ?_, fun q hq m' hm' => ?_⟩
 ·exact ZeP
 ·refine Zb5 ?_;intro hCq hl
  have hnd := f10 q
  have b0 := hCq.bits
  have s0 := hCq.shs
  clear f10 f8
  by_cases hqp : q = p
  ·subst hqp
   clear hsq
   constructor
   ·exact hCp.st
   ·exact hCp.va
   ·exact hCp.wa
   ·exact hCp.se
   ·exact ZgN
   ·exact hCp.gi
   ·exact ZgO
   ·exact ZgA
   ·exact hCp.leav
   ·exact hCp.w1
   ·exact hCp.w2
   ·have c0 := hCp.taken; grind
   ·have c0 := hCp.back; grind
   ·have c0 := hCp.cur; have c1 := hCp.cur; grind
   ·have c0 := hCp.own; grind
   ·have c0 := hCp.alo; have c1 := hCp.st; have c2 := hCp.leav; grind
   ·have c0 := hCp.cop; grind
   ·have c0 := hCp.shs; grind
   ·have c0 := hCp.ned; grind
   ·exact ZgF
   ·exact ZgG
   ·have c0 := hCp.val; grind
  ·have hs2 := hsq q hqp
   clear hsq hsp hCp
   constructor
   ·exact hCq.st
   ·exact hCq.va
   ·exact hCq.wa
   ·exact hCq.se
   ·exact ZgP
   ·exact hCq.gi
   ·exact ZgQ
   ·have c0 := hCq.bits; grind
   ·exact hCq.leav
   ·exact hCq.w1
   ·exact hCq.w2
   ·have c0 := hCq.taken; have c1 := hCq.taken; grind
   ·exact ZgB
   ·have c0 := hCq.cur; have c1 := hCq.cur; grind
   ·have c0 := hCq.own; grind
   ·have c0 := hCq.alo; have c1 := hCq.alo; grind
   ·have c0 := hCq.cop; grind
   ·have c0 := hCq.shs; grind
   ·have c0 := hCq.ned; grind
   ·exact ZgH
   ·have c0 := hCq.gra; have c1 := hCq.gra; grind
   ·have c0 := hCq.val; grind
 ·refine Zb5 ?_;intro hCq hl
  have hnd := f10 q
  clear f10 f8
  by_cases hqp : q = p
  ·subst hqp
   constructor
   ·have k0 := hm'.get; grind
   ·have k0 := hm'.put; have c0 := hCq.st; grind
   ·have k0 := hm'.inv; grind
   ·have k0 := hm'.fet; grind
   ·have k0 := hm'.gra; have c0 := hCq.taken; have c1 := hCq.cur; grind
   ·have k0 := hm'.gon; grind
   ·have k0 := hm'.dat; grind
   ·have k0 := hm'.tha; grind
   ·have k0 := hm'.tak; grind
  ·clear hCp
   constructor
   ·have k0 := hm'.get; grind
   ·have k0 := hm'.put; have c0 := hCq.st; grind
   ·have k0 := hm'.inv; grind
   ·have k0 := hm'.fet; grind
   ·have k0 := hm'.gra; have c0 := hCq.taken; have c1 := hCq.cur; have c2 := hCq.wa; grind
   ·have k0 := hm'.gon; grind
   ·have k0 := hm'.dat; grind
   ·have k0 := hm'.tha; grind
   ·have k0 := hm'.tak; grind
theorem Ady {m : Msg} {p : Nat} (hG : GI n e) (hC : ∀ q, q < n → CI e q (L q) V) (hp : p < n) (hM : MI e p (L p) m) (hk : m.kind = 8) (h0 : e.phase = 2) (ht : m.turn = e.turn) (ho : e.nd p = 1)
  (f1 : e'.value = e.value) (f2 : e'.owner = e.owner) (f3 : e'.sh = upd e.sh p 0) (f4 : e'.who = e.who) (f5 : e'.serial = e.serial) (f6 : e'.alone = e.alone) (f7 : e'.turn = e.turn) (f8 : e'.last = e.last)
  (f9 : (e'.phase = 2 ∧ (e'.nd = upd e.nd p 0) ∧ ∃ q : Nat, q < n ∧ e'.nd q = 1) ∨ (e'.phase = 3 ∧ (∀ q, e'.nd q = 0) ∧ ∀ q : Nat, q ≠ p → q < n → e.nd q = 0)) :
  GI n e' ∧ (∀ q, q < n → CI e' q (L q) V) ∧ ∀ q, q < n → ∀ m', MI e q (L q) m' → MI e' q (L q) m' := by
 have h1 := hM.gon hk
 have hCp := hC p hp
 have hga := hCp.ga
 have hned := hCp.ned ho
 have hst : (L p).state = 0 ∧ (L p).seen = e.turn ∧ e.who ≠ p := by grind
 have how := hG.f23 (by omega)
 have hal := (hG.c2 h0).1
 have hph : e'.phase = 2 ∨ e'.phase = 3 := by rcases f9 with ⟨g, _⟩ | ⟨g, _⟩ <;> omega
 have hc2 : e'.phase = 2 → ∃ q : Nat, q < n ∧ e'.nd q = 1 := by
  intro h2
  rcases f9 with ⟨_, _, g⟩ | ⟨g, _⟩
  ·exact g
  ·omega
 have hnp : e'.nd p = 0 := by
  rcases f9 with ⟨_, g, _⟩ | ⟨_, g, _⟩
  ·rw [g]; simp [upd]
  ·exact g p
 have hnq : ∀ q : Nat, q < n → q ≠ p → e'.nd q = e.nd q ∧ (e'.phase = 3 → e.nd q = 0) := by
  intro q hq hqp
  rcases f9 with ⟨g1, g, _⟩ | ⟨g1, g, g'⟩
  ·exact ⟨by rw [g]; simp [upd, hqp], by omega⟩
  ·exact ⟨by rw [g q, g' q hqp hq], fun _ => g' q hqp hq⟩
 have hsp : e'.sh p = 0 := by rw [f3]; simp [upd]
 have hsq : ∀ q, q ≠ p → e'.sh q = e.sh q := fun q hqp => by rw [f3]; simp [upd, hqp]
 clear f9 f3
 refine ⟨?_, fun q hq => ?_, fun q hq m' hm' => ?_⟩
 ·constructor
  ·have g0 := hG.own; have g1 := hG.own; grind
  ·have g0 := hG.own; have g1 := hG.ph; grind
  ·have g0 := hG.own; have g1 := hG.idle; grind
  ·have g0 := hG.own; have g1 := hG.whor; grind
  ·have g0 := hG.own; have g1 := hG.f1; grind
  ·have g0 := hG.own; have g1 := hG.f23; grind
  ·intro h2; exact ⟨by clear hc2; grind, hc2 h2⟩
  ·have g0 := hG.own; have g1 := hG.al; grind
  ·have g0 := hG.own; have g1 := hG.tu; grind
  ·have g0 := hG.own; have g1 := hG.va; grind
  ·have g0 := hG.own; have g1 := hG.se; grind
 ·refine Zb5 ?_;intro hCq hl
  clear f8 hc2
  by_cases hqp : q = p
  ·subst hqp
   clear hnq hsq
   constructor
   ·exact hCp.st
   ·exact hCp.va
   ·exact hCp.wa
   ·exact hCp.se
   ·exact ZgN
   ·exact hCp.gi
   ·exact ZgO
   ·exact ZgA
   ·exact hCp.leav
   ·exact hCp.w1
   ·exact hCp.w2
   ·have c0 := hCp.taken; grind
   ·have c0 := hCp.back; grind
   ·have c0 := hCp.cur; grind
   ·have c0 := hCp.own; grind
   ·have c0 := hCp.alo; have c1 := hCp.st; grind
   ·have c0 := hCp.cop; grind
   ·have c0 := hCp.shs; grind
   ·have c0 := hCp.ned; grind
   ·exact ZgF
   ·exact ZgG
   ·have c0 := hCp.val; grind
  ·have hn2 := hnq q hq hqp
   have hs2 := hsq q hqp
   have b0 := hCq.bits
   clear hnq hsq hCp
   constructor
   ·exact hCq.st
   ·exact hCq.va
   ·exact hCq.wa
   ·exact hCq.se
   ·exact ZgP
   ·exact hCq.gi
   ·exact ZgQ
   ·have c0 := hCq.bits; grind
   ·exact hCq.leav
   ·exact hCq.w1
   ·exact hCq.w2
   ·have c0 := hCq.taken; grind
   ·exact ZgB
   ·have c0 := hCq.cur; have c1 := hCq.cur; grind
   ·have c0 := hCq.own; grind
   ·have c0 := hCq.alo; have c1 := hCq.alo; grind
   ·have c0 := hCq.cop; have c1 := hCq.cop; grind
   ·have c0 := hCq.shs; grind
   ·have c0 := hCq.ned; have c1 := hCq.ned; grind
   ·exact ZgH
   ·have c0 := hCq.gra; have c1 := hCq.cle; grind
   ·have c0 := hCq.val; grind
 ·refine Zb5 ?_;intro hCq hl
  clear f8 hc2
  by_cases hqp : q = p
  ·subst hqp
   clear hnq hsq
   exact Zft
  ·have hn2 := hnq q hq hqp
   clear hnq hsq hCp
   exact Zft
theorem Tw {m : Msg} {p : Nat} (hG : GI n e) (hC : ∀ q, q < n → CI e q (L q) V) (hp : p < n) (hM : MI e p (L p) m) (hk : m.kind = 10) (h0 : e.phase = 3) (ht : m.turn = e.turn) (hw : e.who = p)
  (f1 : e'.value = e.value) (f4 : e'.who = 0) (f5 : e'.serial = 0) (f6 : e'.alone = 0) (f7 : e'.turn = e.turn) (f8 : e'.last = e.last) (f9 : e'.phase = 0) (f10 : ∀ q, e'.nd q = e.nd q)
  (f2 : (e.alone = 1 ∧ e'.owner = p ∧ ∀ q, e'.sh q = 0) ∨ (e.alone = 0 ∧ e'.owner = e.owner ∧ ∀ q : Nat, e'.sh q = if q = p then 1 else e.sh q)) :
  GI n e' ∧ (∀ q, q < n → CI e' q (L q) V) ∧ ∀ q, q < n → ∀ m', MI e q (L q) m' → MI e' q (L q) m' := by
 have h1 := hM.tha hk
 have hCp := hC p hp
 have hga := hCp.ga
 have hcur := hCp.cur (by omega) hw
 have hst : (L p).seen = e.turn ∧ (e.alone = 1 → 2 ≤ (L p).state) ∧ (e.alone = 0 → (L p).state ≤ 1) ∧ ((L p).serial ≠ e.serial ∨ (L p).want = 0) := by grind
 have how := hG.f23 (by omega)
 have hal := hG.al
 have ha2 : (e.alone = 1 ∧ e'.owner = p) ∨ (e.alone = 0 ∧ e'.owner = -1) := by
  rcases f2 with ⟨g1, g2, _⟩ | ⟨g1, g2, _⟩
  ·exact .inl ⟨g1, g2⟩
  ·exact .inr ⟨g1, by rw [g2]; exact how⟩
 have hsp : (e.alone = 1 → e'.sh p = 0) ∧ (e.alone = 0 → e'.sh p = 1) := by
  rcases f2 with ⟨g1, _, g⟩ | ⟨g1, _, g⟩
  ·exact ⟨fun _ => g p, by omega⟩
  ·exact ⟨by omega, fun _ => by rw [g p, if_pos rfl]⟩
 have hsq : ∀ q : Nat, q ≠ p → (e.alone = 1 → e'.sh q = 0) ∧ (e.alone = 0 → e'.sh q = e.sh q) := by
  intro q hqp
  rcases f2 with ⟨g1, _, g⟩ | ⟨g1, _, g⟩
  ·exact ⟨fun _ => g q, by omega⟩
  ·exact ⟨by omega, fun _ => by rw [g q, if_neg hqp]⟩
 clear f2
 refine ⟨?_, fun q hq => ?_, fun q hq m' hm' => ?_⟩
 ·exact ZeP
 ·refine Zb5 ?_;intro hCq hl
  have hnd := f10 q
  have n0 := hCq.ned
  have b0 := hCq.bits
  clear f10 f8
  by_cases hqp : q = p
  ·subst hqp
   clear hsq
   have l0 := hCp.leav
   have s0 := hCp.st
   constructor
   ·exact hCp.st
   ·exact hCp.va
   ·exact hCp.wa
   ·exact hCp.se
   ·exact ZgN
   ·exact hCp.gi
   ·exact ZgO
   ·exact ZgA
   ·exact hCp.leav
   ·exact hCp.w1
   ·exact hCp.w2
   ·have c0 := hCp.taken; have c1 := hCp.wa; grind
   ·have c0 := hCp.back; have c1 := hCp.la; grind
   ·have c0 := hCp.cur; grind
   ·have c0 := hCp.own; have c1 := hCp.own; grind
   ·have c0 := hCp.alo; have c1 := hCp.alo; grind
   ·have c0 := hCp.cop; grind
   ·have c0 := hCp.shs; grind
   ·have c0 := hCp.ned; grind
   ·exact ZgF
   ·exact ZgG
   ·have c0 := hCp.val; grind
  ·have hs2 := hsq q hqp
   clear hsq hsp hCp
   constructor
   ·exact hCq.st
   ·exact hCq.va
   ·exact hCq.wa
   ·exact hCq.se
   ·exact ZgP
   ·exact hCq.gi
   ·exact ZgQ
   ·have c0 := hCq.bits; grind
   ·exact hCq.leav
   ·exact hCq.w1
   ·exact hCq.w2
   ·have c0 := hCq.taken; grind
   ·exact ZgB
   ·have c0 := hCq.cur; grind
   ·have c0 := hCq.own; grind
   ·have c0 := hCq.alo; grind
   ·have c0 := hCq.cop; have c1 := hCq.gra; grind
   ·have c0 := hCq.shs; have c1 := hCq.gra; grind
   ·have c0 := hCq.ned; grind
   ·exact ZgH
   ·have c0 := hCq.gra; grind
   ·have c0 := hCq.val; have c1 := hCq.val; grind
 ·refine Zb5 ?_;intro hCq hl
  have hnd := f10 q
  have n0 := hCq.ned
  clear f10 f8
  by_cases hqp : q = p
  ·subst hqp
   have l0 := hCp.leav
   have s0 := hCp.st
   constructor
   ·have k0 := hm'.get; grind
   ·have k0 := hm'.put; have c0 := hCq.la; grind
   ·have k0 := hm'.inv; grind
   ·have k0 := hm'.fet; grind
   ·have k0 := hm'.gra; have c0 := hCq.la; have c1 := hCq.wa; have c2 := hCq.ga; grind
   ·have k0 := hm'.gon; grind
   ·have k0 := hm'.dat; grind
   ·have k0 := hm'.tha; grind
   ·have k0 := hm'.tak; grind
  ·clear hCp
   constructor
   ·have k0 := hm'.get; grind
   ·have k0 := hm'.put; grind
   ·have k0 := hm'.inv; grind
   ·have k0 := hm'.fet; grind
   ·have k0 := hm'.gra; have c0 := hCq.la; have c1 := hCq.wa; have c2 := hCq.taken; grind
   ·have k0 := hm'.gon; grind
   ·have k0 := hm'.dat; grind
   ·have k0 := hm'.tha; grind
   ·have k0 := hm'.tak; grind
end home
end Abs
end Go.Proofs.YtbigiimomnfpdaaGreat
namespace Go.Proofs.YtbigiimomnfpdaaGreat
open Abs
def E3 (s : Int) (p : Nat) : Int := if s.toNat.testBit p then 1 else 0
def ab (e : Entry) : Ab :=
  { value := e.value, owner := e.owner, phase := e.phase, who := e.who, serial := e.serial, alone := if e.alone then 1 else 0, turn := e.turn,
    last := fun p => e.last.getD p 0, sh := E3 e.sharers, nd := E3 e.need }
def ent (x : Chip) (i : Nat) : Entry := x.home.getD i Az
def cor (x : Chip) (p : Nat) : Core := x.cores.getD p Er
def lin (x : Chip) (i p : Nat) : Line := (cor x p).lines.getD i zLine
def Uy (n : Nat) (m : Msg) : Nat := if m.dst = (n : Int) then m.src.toNat else m.dst.toNat
def F9 (k : Int) : Int := if k = 1 then 1 else if k = 4 then 3 else 2
structure CW (k : Core) (nl : Nat) : Prop where
 free : k.wait.kind = 0 → k.wait = zOp ∧ ∀ i, i < nl → (k.lines.getD i zLine).want = 0
 busy : k.wait.kind ≠ 0 → (1 ≤ k.wait.kind ∧ k.wait.kind ≤ 4) ∧ (0 ≤ k.wait.line ∧ k.wait.line < nl) ∧ (0 ≤ k.wait.value ∧ k.wait.value ≤ 255) ∧
  ∀ i, i < nl → (k.lines.getD i zLine).want = if (i : Int) = k.wait.line then F9 k.wait.kind else 0
def MX (n : Nat) (x : Chip) (m : Msg) : Prop := MI (ab (ent x m.line.toNat)) (Uy n m) (lin x m.line.toNat (Uy n m)) m
def Hm (n nl : Nat) : Config := ⟨(n : Int), (nl : Int)⟩
structure Inv (n nl : Nat) (x : Chip) (M : List Int) : Prop where
 n1 : 1 ≤ n ∧ n ≤ 4
 l1 : 1 ≤ nl ∧ nl ≤ 4
 nc : x.cores.length = n
 nh : x.home.length = nl
 ncl : ∀ p, p < n → (cor x p).lines.length = nl
 nla : ∀ i, i < nl → (ent x i).last.length = n
 ml : M.length = nl
 mv : ∀ i, i < nl → 0 ≤ M.getD i 0 ∧ M.getD i 0 ≤ 255
 bit : ∀ i, i < nl → (0 ≤ (ent x i).sharers ∧ (ent x i).sharers < (2 ^ n : Nat)) ∧ (0 ≤ (ent x i).need ∧ (ent x i).need < (2 ^ n : Nat))
 gi : ∀ i, i < nl → GI n (ab (ent x i))
 ci : ∀ i, i < nl → ∀ p, p < n → CI (ab (ent x i)) p (lin x i p) (M.getD i 0)
 cw : ∀ p, p < n → CW (cor x p) nl
 fr : x.frames.length ≤ 40
 mi : ∀ b ∈ x.frames, b.length = 12 ∧ ∀ m, Af (Hm n nl) b = (m, 0) → MX n x m
section
variable {n nl : Nat} {x : Chip} {M : List Int}
theorem Inv.core {p i : Nat} {l' : Line} {w' : Op} {V' : Int} (h : Inv n nl x M) (hp : p < n) (hi : i < nl) (hl : CI (ab (ent x i)) p l' V') (ho : ∀ q, q < n → q ≠ p → CI (ab (ent x i)) q (lin x i q) (M.getD i 0) → CI (ab (ent x i)) q (lin x i q) V')
  (hm : ∀ m, MI (ab (ent x i)) p (lin x i p) m → MI (ab (ent x i)) p l' m) (hw : CW (A6 (cor x p) i l' w') nl) (hv : 0 ≤ V' ∧ V' ≤ 255) :
  Inv n nl ⟨x.cores.set p (A6 (cor x p) i l' w'), x.home, x.frames⟩ (M.set i V') := by
 have hpc : p < x.cores.length := by rw [h.nc]; exact hp
 have hcl := h.ncl p hp
 have hcor : ∀ q, cor ⟨x.cores.set p (A6 (cor x p) i l' w'), x.home, x.frames⟩ q = if q = p then A6 (cor x p) i l' w' else cor x q := fun q => Dg _ _ _ _ _ hpc
 have hlin : ∀ j q, lin ⟨x.cores.set p (A6 (cor x p) i l' w'), x.home, x.frames⟩ j q = if q = p ∧ j = i then l' else lin x j q := by
  intro j q
  unfold lin
  rw [hcor]
  by_cases hq : q = p
  ·subst hq
   rw [if_pos rfl]
   show ((cor x q).lines.set _ l').getD j zLine = _
   rw [Int.toNat_natCast, Dg _ _ _ _ _ (by rw [hcl]; exact hi)]
   by_cases hj : j = i
   ·rw [if_pos hj, if_pos ⟨rfl, hj⟩]
   ·rw [if_neg hj, if_neg (by simp [hj])]
  ·rw [if_neg hq, if_neg (by simp [hq])]
 have hM : ∀ j, (M.set i V').getD j 0 = if j = i then V' else M.getD j 0 := fun j => Dg _ _ _ _ _ (by rw [h.ml]; exact hi)
 refine ⟨h.n1, h.l1, by simp [h.nc], h.nh, ?_, h.nla, by simp [h.ml], ?_, h.bit, h.gi, ?_, ?_, h.fr, ?_⟩
 ·intro q hq
  rw [hcor]
  split
  ·show ((cor x p).lines.set _ l').length = nl
   rw [List.length_set]; exact hcl
  ·exact h.ncl q hq
 ·intro j hj
  rw [hM]; split
  ·exact hv
  ·exact h.mv j hj
 ·intro j hj q hq
  rw [hlin, hM]
  by_cases hji : j = i
  ·subst hji
   rw [if_pos rfl]
   by_cases hqp : q = p
   ·subst hqp; rw [if_pos ⟨rfl, rfl⟩]; exact hl
   ·rw [if_neg (by simp [hqp])]; exact ho q hq hqp (h.ci j hj q hq)
  ·rw [if_neg (by simp [hji]), if_neg hji]; exact h.ci j hj q hq
 ·intro q hq
  rw [hcor]; split
  ·exact hw
  ·exact h.cw q hq
 ·intro b hb
  obtain ⟨h1, h2⟩ := h.mi b hb
  refine ⟨h1, fun m hmp => ?_⟩
  have h3 := h2 m hmp
  unfold MX at h3 ⊢
  rw [hlin]
  show MI (ab (ent x m.line.toNat)) _ _ m
  split
  ·rename_i hc
   rw [hc.1, hc.2] at h3 ⊢
   exact hm m h3
  ·exact h3
theorem Inv.home {i : Nat} {e' : Entry} (h : Inv n nl x M) (hi : i < nl) (hla : e'.last.length = n) (hb : (0 ≤ e'.sharers ∧ e'.sharers < (2 ^ n : Nat)) ∧ (0 ≤ e'.need ∧ e'.need < (2 ^ n : Nat)))
  (hg : GI n (ab e') ∧ (∀ q, q < n → CI (ab e') q (lin x i q) (M.getD i 0)) ∧ ∀ q, q < n → ∀ m, MI (ab (ent x i)) q (lin x i q) m → MI (ab e') q (lin x i q) m) :
  Inv n nl ⟨x.cores, x.home.set i e', x.frames⟩ M := by
 have hic : i < x.home.length := by rw [h.nh]; exact hi
 have hent : ∀ j, ent ⟨x.cores, x.home.set i e', x.frames⟩ j = if j = i then e' else ent x j := fun q => Dg _ _ _ _ _ hic
 obtain ⟨hg1, hg2, hg3⟩ := hg
 refine ⟨h.n1, h.l1, h.nc, by simp [h.nh], h.ncl, ?_, h.ml, h.mv, ?_, ?_, ?_, h.cw, h.fr, ?_⟩
 ·intro j hj; rw [hent]; split
  ·exact hla
  ·exact h.nla j hj
 ·intro j hj; rw [hent]; split
  ·exact hb
  ·exact h.bit j hj
 ·intro j hj; rw [hent]; split
  ·exact hg1
  ·exact h.gi j hj
 ·intro j hj q hq
  rw [hent]
  show CI _ q (lin x j q) _
  by_cases hji : j = i
  ·subst hji; rw [if_pos rfl]; exact hg2 q hq
  ·rw [if_neg hji]; exact h.ci j hj q hq
 ·intro b hb
  obtain ⟨h1, h2⟩ := h.mi b hb
  refine ⟨h1, fun m hmp => ?_⟩
  have h3 := h2 m hmp
  have hw := Iy (J6 hmp).2.2.2.2.1
  have hpe : Uy n m < n := by
   unfold Uy
   have h4 : m.src = (n : Int) ↔ ¬ m.dst = (n : Int) := by
    have := hw.2.2.2.2.2.2
    simp only [Hm] at this
    by_cases h : m.src = (n : Int) <;> by_cases h' : m.dst = (n : Int) <;> simp_all
   have h5 := hw.2.1
   simp only [Hm] at h5
   split
   ·have : ¬ m.src = (n : Int) := by rename_i hd; intro hs; exact h4.1 hs hd
    omega
   ·omega
  unfold MX at h3 ⊢
  rw [hent]
  show MI _ _ (lin x m.line.toNat _) m
  split
  ·rename_i hc
   rw [hc] at h3 ⊢
   exact hg3 _ hpe m h3
  ·exact h3
theorem Inv.frames {f : Frames} (h : Inv n nl x M) (hl : f.length ≤ 40) (hf : ∀ b ∈ f, b.length = 12 ∧ ∀ m, Af (Hm n nl) b = (m, 0) → MX n x m) : Inv n nl ⟨x.cores, x.home, f⟩ M :=
 ⟨h.n1, h.l1, h.nc, h.nh, h.ncl, h.nla, h.ml, h.mv, h.bit, h.gi, h.ci, h.cw, hl, hf⟩
theorem Inv.send {b : List UInt8} (h : Inv n nl x M) (hb : b.length = 12 ∧ ∀ m, Af (Hm n nl) b = (m, 0) → MX n x m) : Inv n nl ⟨x.cores, x.home, Dn x.frames b⟩ M := by
 unfold Dn
 have := h.fr
 split
 ·refine h.frames (by simp; omega) fun b' hb' => ?_
  rcases List.mem_append.1 hb' with e | e
  ·exact h.mi b' e
  ·rw [List.mem_singleton.1 e]; exact hb
 ·exact h
theorem Inv.msg {m : Msg} (h : Inv n nl x M) (hw : Bi (Hm n nl) m = 0) (hm : MX n x m) : (Ck m).length = 12 ∧ ∀ m', Af (Hm n nl) (Ck m) = (m', 0) → MX n x m' := by
 refine ⟨Qr m, fun m' h' => ?_⟩
 have h1 := h.n1; have h2 := h.l1
 rw [Sc hw (by simp only [Hm]; omega) (by simp only [Hm]; omega)] at h'
 cases h'; exact hm
theorem Inv.way {ms : List Msg} : ∀ {x : Chip}, Inv n nl x M → (∀ m ∈ ms, Bi (Hm n nl) m = 0 ∧ MX n x m) → Inv n nl ⟨x.cores, x.home, way x.frames ms⟩ M := by
 induction ms with
 | nil => intro x h _; exact h
 | cons m ms ih =>
  intro x h hm
  have h1 := hm m (List.mem_cons_self ..)
  have h2 := h.send (h.msg h1.1 h1.2)
  exact ih h2 fun m' hm' => hm m' (List.mem_cons_of_mem _ hm')
theorem Inv.erase (h : Inv n nl x M) (k : Nat) : Inv n nl ⟨x.cores, x.home, x.frames.eraseIdx k⟩ M := by
 have := h.fr
 refine h.frames (Nat.le_trans (List.length_eraseIdx_le _ _) h.fr) fun b hb => h.mi b (List.mem_of_mem_eraseIdx hb)
theorem Ka {l : Frames} {k : Int} (h : ¬ (k < 0 ∨ (l.length : Int) ≤ k)) : Ay l k ∈ l := by
 unfold Ay
 rw [List.getD_eq_getElem?_getD, List.getElem?_eq_getElem (by omega)]
 exact List.getElem_mem _
theorem Inv.spoil {k bit : Int} (h : Inv n nl x M) (h1 : ¬ (k < 0 ∨ (x.frames.length : Int) ≤ k)) (h2 : (Af (Hm n nl) (Ay x.frames k)).2 = 0) (h3 : 0 ≤ bit) (h4 : bit < 8 * ((Ay x.frames k).length : Int)) :
  Inv n nl ⟨x.cores, x.home, x.frames.set k.toNat (Br (Ay x.frames k) bit)⟩ M := by
 refine h.frames (by rw [List.length_set]; exact h.fr) fun b hb => ?_
 rcases List.mem_or_eq_of_mem_set hb with e | e
 ·exact h.mi b e
 ·subst e
  have hl := (h.mi _ (Ka h1)).1
  refine ⟨by rw [I1]; exact hl, fun m hm => ?_⟩
  have hp : Af (Hm n nl) (Ay x.frames k) = ((Af (Hm n nl) (Ay x.frames k)).1, 0) := by rw [← h2]
  rw [Ui hp h3 (by rw [hl] at h4; exact h4)] at hm
  cases hm
end
set_option maxHeartbeats 1000000
set_option maxRecDepth 8000
variable {L : List Chunk} {R : List Fact} {w : World}
structure KB (c : Core) : Prop where
 n : c.lines.length ≤ 4
 v : ∀ i, i < c.lines.length → 0 ≤ (c.lines.getD i zLine).value ∧ (c.lines.getD i zLine).value ≤ 255
 w : CW c c.lines.length
theorem Hq {P : Program} {n : Nat} {Q : Exit → Act → World → Prop} {L : List Chunk} {R : List Fact} {al : List (Nat × Value)} {cd : Code} {v : Value} {c : Core} (i : Int) (hm : sl v c.lines ∈ R) (h0 : 0 ≤ i) (hi : i < c.lines.length) (k : (Ac c i).wf → JC P n cd Q L (cF v 7 i.toNat (Ac c i).cells :: R) al) : JC P n cd Q L R al := JC.open0 i.toNat hm (by omega) k
theorem Z1 {u : Value} {c : Core} {id home : Int} {q : Op} (hs : St (L) R w) (hu : sl u c.lines ∈ R) (hk : KB c) (hid : Ao id) (hhome : Ao home) (hq : q.wf) : Calls Tryz.prog 19 [.agg (c.cells u).toArray, vi id, vi home, .agg q.cells.toArray].toArray w (Bs (fun v : Value × Value × Value => .tuple #[.agg (Core.cells v.1 (Aj c id home q).1).toArray, v.2.1, v.2.2, vi (Aj c id home q).2.2.2]) (fun v => L) (fun v => sl v.1 (Aj c id home q).1.lines :: sl v.2.1 (Aj c id home q).2.1 :: sl v.2.2 (Aj c id home q).2.2.1 :: R)) := by
 have hlen := Be hu hs
 refine ZaB ?_;intro hone0
 have hn4 := hk.n
 refine Ai Tryz.func19 rfl Tryz.ntmps19 rfl hs ?_
 clear hs
 refine Gm ?_
 refine bx ?_; intro b4
 refine ZbA ?_;intro b7 b8
 refine Ga3 ?_
 rcases (show (q.kind < 1) ∨ (¬ q.kind < 1 ∧ 4 < q.kind) ∨ (1 ≤ q.kind ∧ q.kind ≤ 4) from by omega) with hc | hc | hc
 ·refine ZY ?_
  refine Gc5 ?_
  exact Zgh
 ·refine ZaX ?_
  refine Gc1 ?_
  exact Zgh
 ·refine Zax ?_
  refine Gc1 ?_
  rcases (show (q.line < 0) ∨ (0 ≤ q.line ∧ (c.lines.length : Int) ≤ q.line) ∨ (0 ≤ q.line ∧ q.line < (c.lines.length : Int) ∧ q.value < 0) ∨ (0 ≤ q.line ∧ q.line < (c.lines.length : Int) ∧ 255 < q.value) ∨ (0 ≤ q.line ∧ q.line < (c.lines.length : Int) ∧ 0 ≤ q.value ∧ q.value ≤ 255) from by omega) with hc | hc | hc | hc | hc
  ·refine ZY ?_
   refine Gc18 ?_
   exact Zg4
  ·refine Zae ?_
   refine Zbo ?_
   refine Gc11 ?_
   exact Zg4
  ·refine Za8 ?_
   refine Za9 ?_
   refine Gc6 ?_
   exact Zg4
  ·refine Za8 ?_
   refine ZaJ ?_
   refine Gc1 ?_
   exact Zg4
  ·refine Za8 ?_
   refine Za0 ?_
   refine Gc1 ?_
   refine Hq (c := c) (v := u) q.line mm (by omega) (by omega) (fun hlw => ?_)
   refine kp [1, 2, 4, 7, 8, 9, 10, 11, 12, 47, 48, 49, 50, 51, 52] ?_
   refine Zar ?_
   refine al_ (cs := zLine.cells) Tryz.zeroValue92 ?_; intro b12
   refine s_B (cs := (Ac c q.line).cells) Tryz.sizeOf92 ?_
   refine Gl ?_
   rcases (show (c.wait.kind ≠ 0) ∨ (c.wait.kind = 0 ∧ 65535 ≤ (Ac c q.line).serial) ∨ (c.wait.kind = 0 ∧ (Ac c q.line).serial < 65535) from by omega) with hc | hc | hc
   ·refine ZL ?_
    refine Hr ?_
    refine Gc5 ?_
    exact ZfR
   ·refine ZL ?_
    refine H9 ?_
    refine ZP ?_
    refine G8 ?_
    refine Gc1 ?_
    exact ZfR
   ·refine ZL ?_
    refine H9 ?_
    refine ZP ?_
    refine Di ?_
    refine Gd1 ?_
    refine ZaC ?_
    refine Ga2 ?_
    refine cdy ?_ ?_
    ·intro ht68
     refine ZS ?_
     refine cdy ?_ ?_
     ·intro ht72
      refine Aa ?_
      refine ZG ?_
      refine cTp (p := (3 : Int) ≠ 0) (by decide) ?_
      refine Zad ?_
      refine ob (Fx (by exact rfl) (by exact rfl) (by unfold Line.wf Ao at hlw; omega) (by unfold Line.wf Ao at hlw; omega)) ?_
      refine ZH ?_
      refine ZH ?_
      refine Gl ?_
      refine kp [1, 2, 4, 7, 8, 9, 10, 11, 12, 13, 91, 92] ?_
      refine ZO ?_
      refine cTp (p := (3 : Int) = 3) (by decide) ?_
      refine ZB ?_
      refine sc ?_
      refine Zak ?_
      have hXw : ({ (Ac c q.line) with state := 3, want := 3, serial := (Ac c q.line).serial + 1 } : Line).wf := by unfold Line.wf Ao at hlw ⊢; simp only; omega
      refine An Tryz.call51 rfl (fun w hs => Bt (l := { (Ac c q.line) with state := 3, want := 3, serial := (Ac c q.line).serial + 1 }) hs mm hXw (by omega)) ?_; intro v98
      refine ZcE ?_;intro hone98 b14
      refine cq_ (blk b8 57 [.slice none 0 0, vi 0, vi 0, vi 0] :: blk b14 57 [v98, vi q.kind, vi q.line, vi q.value] :: blk b12 92 [vi 3, vi (Ac c q.line).value, vi 3, vi ((Ac c q.line).serial + 1), vi (Ac c q.line).seen, vi (Ac c q.line).gave, vi (Ac c q.line).given] :: blk b7 36 q.cells :: L) ?_
      refine jd_ (fun ρ S => blk b8 57 (bif S 8 then [v98, vi q.kind, vi q.line, vi q.value] else [.slice none 0 0, vi 0, vi 0, vi 0]) :: blk b14 57 [v98, vi q.kind, vi q.line, vi q.value] :: blk b12 92 [vi 3, vi (Ac c q.line).value, vi 3, vi ((Ac c q.line).serial + 1), vi (Ac c q.line).seen, vi (Ac c q.line).gave, vi (Ac c q.line).given] :: blk b7 36 q.cells :: L) ?_
      refine dn6 ?_
      refine Bu (γ := Unit) (val := fun _ => .agg (Cd ({ (Ac c q.line) with state := 3, want := 3, serial := (Ac c q.line).serial + 1 }) id home q.line).cells.toArray) (F := fun _ => []) Tryz.call52 (fun _ => rfl) (fun ρ L R w hd hs => Oz (l := { (Ac c q.line) with state := 3, want := 3, serial := (Ac c q.line).serial + 1 }) (id := id) (home := home) (i := q.line) hs ) (fun _ _ _ _ _ => rfl) ?_
      refine Fe ([Cd ({ (Ac c q.line) with state := 3, want := 3, serial := (Ac c q.line).serial + 1 }) id home q.line] : List Msg) Fp rfl (fun _ => rfl) rfl (fun _ => rfl) rfl rfl (fun ρ R hd => Il (Ug hXw hid hhome hq.2.1)) (fun _ _ _ _ _ => rfl) ?_
      refine ZcS ?_;intro ρ
      refine xq_ (blk b8 57 [v98, vi q.kind, vi q.line, vi q.value] :: blk b14 57 [v98, vi q.kind, vi q.line, vi q.value] :: blk b12 92 [vi 3, vi (Ac c q.line).value, vi 3, vi ((Ac c q.line).serial + 1), vi (Ac c q.line).seen, vi (Ac c q.line).gave, vi (Ac c q.line).given] :: blk b7 36 q.cells :: L) ?_
      generalize (Gh.dec (γ := Value) (ρ 7)) = v108
      refine Gl ?_
      have eb : A1 (Ac c q.line) q = { (Ac c q.line) with state := 3, want := 3, serial := (Ac c q.line).serial + 1 } := by unfold A1; rw [if_pos (by omega), if_pos (by omega)]
      have ed : A8 (Ac c q.line) q = false := by unfold A8; split <;> simp <;> omega
      have er : Aj c id home q = (A6 c q.line ({ (Ac c q.line) with state := 3, want := 3, serial := (Ac c q.line).serial + 1 }) q, [Cd ({ (Ac c q.line) with state := 3, want := 3, serial := (Ac c q.line).serial + 1 }) id home q.line], [], 0) := by unfold Aj; rw [if_neg (by omega), if_neg (by omega), if_neg (by omega), ed, if_neg (by decide), eb]
      rw [er]
      exact E5 (v98, v108, .slice none 0 0) Tryz.isAgg57 Tryz.sizeOf57
     ·intro ht72
      exact ZeF
    ·intro ht68
     refine ZC ?_
     refine cdy ?_ ?_
     ·intro ht73
      refine Zak ?_
      refine jgx (t := 78) (p := ?p5) (hd := ?d5) ?e5 ?_ ?_; case e5 => exact rfl
      ·intro ht78
       refine Ga4 ?_
       refine cdy ?_ ?_
       ·intro ht82
        refine kp [1, 2, 4, 7, 8, 9, 10, 11, 12, 13] ?_
        refine Aa ?_
        refine ZG ?_
        refine cTp (p := (1 : Int) ≠ 0) (by decide) ?_
        refine Zad ?_
        refine ob (Fx (by exact rfl) (by exact rfl) (by unfold Line.wf Ao at hlw; omega) (by unfold Line.wf Ao at hlw; omega)) ?_
        refine ZH ?_
        refine ZH ?_
        refine ZC ?_
        refine cFp (p := (1 : Int) = 3) (by decide) ?_
        refine Zak ?_
        have hXw : ({ (Ac c q.line) with want := 1, serial := (Ac c q.line).serial + 1 } : Line).wf := by unfold Line.wf Ao at hlw ⊢; simp only; omega
        refine An Tryz.call51 rfl (fun w hs => Bt (l := { (Ac c q.line) with want := 1, serial := (Ac c q.line).serial + 1 }) hs mm hXw (by omega)) ?_; intro v98
        refine ZcE ?_;intro hone98 b14
        refine cq_ (blk b8 57 [.slice none 0 0, vi 0, vi 0, vi 0] :: blk b14 57 [v98, vi q.kind, vi q.line, vi q.value] :: blk b12 92 [vi (Ac c q.line).state, vi (Ac c q.line).value, vi 1, vi ((Ac c q.line).serial + 1), vi (Ac c q.line).seen, vi (Ac c q.line).gave, vi (Ac c q.line).given] :: blk b7 36 q.cells :: L) ?_
        refine jd_ (fun ρ S => blk b8 57 (bif S 8 then [v98, vi q.kind, vi q.line, vi q.value] else [.slice none 0 0, vi 0, vi 0, vi 0]) :: blk b14 57 [v98, vi q.kind, vi q.line, vi q.value] :: blk b12 92 [vi (Ac c q.line).state, vi (Ac c q.line).value, vi 1, vi ((Ac c q.line).serial + 1), vi (Ac c q.line).seen, vi (Ac c q.line).gave, vi (Ac c q.line).given] :: blk b7 36 q.cells :: L) ?_
        refine dn6 ?_
        refine Bu (γ := Unit) (val := fun _ => .agg (Cd ({ (Ac c q.line) with want := 1, serial := (Ac c q.line).serial + 1 }) id home q.line).cells.toArray) (F := fun _ => []) Tryz.call52 (fun _ => rfl) (fun ρ L R w hd hs => Oz (l := { (Ac c q.line) with want := 1, serial := (Ac c q.line).serial + 1 }) (id := id) (home := home) (i := q.line) hs ) (fun _ _ _ _ _ => rfl) ?_
        refine Fe ([Cd ({ (Ac c q.line) with want := 1, serial := (Ac c q.line).serial + 1 }) id home q.line] : List Msg) Fp rfl (fun _ => rfl) rfl (fun _ => rfl) rfl rfl (fun ρ R hd => Il (Ug hXw hid hhome hq.2.1)) (fun _ _ _ _ _ => rfl) ?_
        refine ZcS ?_;intro ρ
        refine xq_ (blk b8 57 [v98, vi q.kind, vi q.line, vi q.value] :: blk b14 57 [v98, vi q.kind, vi q.line, vi q.value] :: blk b12 92 [vi (Ac c q.line).state, vi (Ac c q.line).value, vi 1, vi ((Ac c q.line).serial + 1), vi (Ac c q.line).seen, vi (Ac c q.line).gave, vi (Ac c q.line).given] :: blk b7 36 q.cells :: L) ?_
        generalize (Gh.dec (γ := Value) (ρ 7)) = v108
        refine Gl ?_
        have eb : A1 (Ac c q.line) q = { (Ac c q.line) with want := 1, serial := (Ac c q.line).serial + 1 } := by unfold A1; rw [if_neg (by omega), if_neg (by omega), if_pos (by omega)]
        have ed : A8 (Ac c q.line) q = false := by unfold A8; split <;> simp <;> omega
        have er : Aj c id home q = (A6 c q.line ({ (Ac c q.line) with want := 1, serial := (Ac c q.line).serial + 1 }) q, [Cd ({ (Ac c q.line) with want := 1, serial := (Ac c q.line).serial + 1 }) id home q.line], [], 0) := by unfold Aj; rw [if_neg (by omega), if_neg (by omega), if_neg (by omega), ed, if_neg (by decide), eb]
        rw [er]
        exact E5 (v98, v108, .slice none 0 0) Tryz.isAgg57 Tryz.sizeOf57
       ·intro ht82
        refine Gl ?_
        exact ZeG
      ·intro ht78
       refine Gc4 ?_
       exact ZeG
     ·intro ht73
      refine ZS ?_
      refine cdy ?_ ?_
      ·intro ht67
       refine Aa ?_
       refine ZG ?_
       refine cTp (p := (2 : Int) ≠ 0) (by decide) ?_
       refine Zad ?_
       refine ob (Fx (by exact rfl) (by exact rfl) (by unfold Line.wf Ao at hlw; omega) (by unfold Line.wf Ao at hlw; omega)) ?_
       refine ZH ?_
       refine ZH ?_
       refine Gl ?_
       refine kp [1, 2, 4, 7, 8, 9, 10, 11, 12, 13, 91, 92] ?_
       refine ZO ?_
       refine cFp (p := (2 : Int) = 3) (by decide) ?_
       refine Zak ?_
       have hXw : ({ (Ac c q.line) with want := 2, serial := (Ac c q.line).serial + 1 } : Line).wf := by unfold Line.wf Ao at hlw ⊢; simp only; omega
       refine An Tryz.call51 rfl (fun w hs => Bt (l := { (Ac c q.line) with want := 2, serial := (Ac c q.line).serial + 1 }) hs mm hXw (by omega)) ?_; intro v98
       refine ZcE ?_;intro hone98 b14
       refine cq_ (blk b8 57 [.slice none 0 0, vi 0, vi 0, vi 0] :: blk b14 57 [v98, vi q.kind, vi q.line, vi q.value] :: blk b12 92 [vi (Ac c q.line).state, vi (Ac c q.line).value, vi 2, vi ((Ac c q.line).serial + 1), vi (Ac c q.line).seen, vi (Ac c q.line).gave, vi (Ac c q.line).given] :: blk b7 36 q.cells :: L) ?_
       refine jd_ (fun ρ S => blk b8 57 (bif S 8 then [v98, vi q.kind, vi q.line, vi q.value] else [.slice none 0 0, vi 0, vi 0, vi 0]) :: blk b14 57 [v98, vi q.kind, vi q.line, vi q.value] :: blk b12 92 [vi (Ac c q.line).state, vi (Ac c q.line).value, vi 2, vi ((Ac c q.line).serial + 1), vi (Ac c q.line).seen, vi (Ac c q.line).gave, vi (Ac c q.line).given] :: blk b7 36 q.cells :: L) ?_
       refine dn6 ?_
       refine Bu (γ := Unit) (val := fun _ => .agg (Cd ({ (Ac c q.line) with want := 2, serial := (Ac c q.line).serial + 1 }) id home q.line).cells.toArray) (F := fun _ => []) Tryz.call52 (fun _ => rfl) (fun ρ L R w hd hs => Oz (l := { (Ac c q.line) with want := 2, serial := (Ac c q.line).serial + 1 }) (id := id) (home := home) (i := q.line) hs ) (fun _ _ _ _ _ => rfl) ?_
       refine Fe ([Cd ({ (Ac c q.line) with want := 2, serial := (Ac c q.line).serial + 1 }) id home q.line] : List Msg) Fp rfl (fun _ => rfl) rfl (fun _ => rfl) rfl rfl (fun ρ R hd => Il (Ug hXw hid hhome hq.2.1)) (fun _ _ _ _ _ => rfl) ?_
       refine ZcS ?_;intro ρ
       refine xq_ (blk b8 57 [v98, vi q.kind, vi q.line, vi q.value] :: blk b14 57 [v98, vi q.kind, vi q.line, vi q.value] :: blk b12 92 [vi (Ac c q.line).state, vi (Ac c q.line).value, vi 2, vi ((Ac c q.line).serial + 1), vi (Ac c q.line).seen, vi (Ac c q.line).gave, vi (Ac c q.line).given] :: blk b7 36 q.cells :: L) ?_
       generalize (Gh.dec (γ := Value) (ρ 7)) = v108
       refine Gl ?_
       have eb : A1 (Ac c q.line) q = { (Ac c q.line) with want := 2, serial := (Ac c q.line).serial + 1 } := by unfold A1; rw [if_neg (by omega), if_neg (by omega), if_neg (by omega)]
       have ed : A8 (Ac c q.line) q = false := by unfold A8; split <;> simp <;> omega
       have er : Aj c id home q = (A6 c q.line ({ (Ac c q.line) with want := 2, serial := (Ac c q.line).serial + 1 }) q, [Cd ({ (Ac c q.line) with want := 2, serial := (Ac c q.line).serial + 1 }) id home q.line], [], 0) := by unfold Aj; rw [if_neg (by omega), if_neg (by omega), if_neg (by omega), ed, if_neg (by decide), eb]
       rw [er]
       exact E5 (v98, v108, .slice none 0 0) Tryz.isAgg57 Tryz.sizeOf57
      ·intro ht67
       exact ZeF
theorem Qy {b5 b6 b7 : Nat} {kind turn v id home line : Int} (hs : St (L) R w) (c5 : Cx L R (bp b5 0) [vi id]) (c6 : Cx L R (bp b6 0) [vi home]) (c7 : Cx L R (bp b7 3) [vi line]) (hkd : Ao kind) (ht : Ao turn) (hv : Ao v) (hid : Ao id) (hhome : Ao home) (hl : Ao line) : Calls Tryz.prog 61 [vi kind, vi turn, vi v, bp b5 0, bp b6 0, bp b7 0].toArray w (Bs (fun u : Value => u) (fun u => L) (fun u => sl u [Bj kind id home line turn v] :: R)) := by
 refine Ai Tryz.func61 rfl Tryz.ntmps61 rfl hs ?_
 clear hs
 refine ZN ?_
 refine rn1 ?_
 refine ob (Cz Tryz.isAgg3 (hc := c5)) ?_
 refine ob (Cz Tryz.isAgg3 (hc := c6)) ?_
 refine rn1 ?_
 refine ob (Cz Tryz.isAgg3 (hc := c7)) ?_
 refine rn3 ?_
 refine li ([Bj kind id home line turn v] : List Msg) Fp rfl (Il (by unfold Msg.wf Bj Ao at *; simp only; omega)) ?_; intro v18
 refine Ga1 ?_
 exact Bb v18
theorem Agf {b5 b4 : Nat} {id : Int} {q : Op} (hs : St (L) R w) (c5 : Cx L R (bp b5 0) [vi id]) (c4 : Cx L R (bp b4 1) q.cells) (hid : Ao id) (hq : q.wf) : Calls Tryz.prog 62 [bp b5 0, bp b4 0].toArray w (Bs (fun u : Value => u) (fun u => L) (fun u => sl u [(⟨id, q, 0⟩ : Done)] :: R)) := by
 refine Ai Tryz.func62 rfl Tryz.ntmps62 rfl hs ?_
 clear hs
 refine ZN ?_
 refine ob (Cz Tryz.isAgg3 (hc := c5)) ?_
 refine rn1 ?_
 refine ob (Y3 Tryz.isAgg36 Tryz.sizeOf36 (hc := c4)) ?_
 refine rn1 ?_
 refine li ([⟨id, q, 0⟩] : List Done) Gq rfl (F2 ⟨hid, hq.1, hq.2.1, hq.2.2, by unfold Ao; simp only; omega⟩) ?_; intro v7
 refine Ga1 ?_
 exact Bb v7
theorem Ms {v : Int} {o : Op} (hv : Ao v) : Ao (Ax v o).2 := by
 unfold Ax; split
 ·exact hv
 split
 ·unfold Ao; simp only; omega
 split
 ·exact hv
 ·unfold Ao; simp only; omega
theorem KB.wait {c : Core} (h : KB c) (i : Int) (hi : i.toNat < c.lines.length) (hw : (Ac c i).want ≠ 0) : (1 ≤ c.wait.kind ∧ c.wait.kind ≤ 4) ∧ (0 ≤ c.wait.line ∧ c.wait.line < c.lines.length) ∧ (0 ≤ c.wait.value ∧ c.wait.value ≤ 255) := by
 have hb := h.w.busy (fun h0 => hw ((h.w.free h0).2 i.toNat hi))
 exact ⟨hb.1, hb.2.1, hb.2.2.1⟩
theorem KB.wwf {c : Core} (h : KB c) : c.wait.wf := by
 by_cases h0 : c.wait.kind = 0
 ·rw [(h.w.free h0).1]; unfold Op.wf Ao zOp; simp only; omega
 ·obtain ⟨h1, h2, h3, _⟩ := h.w.busy h0
  have := h.n
  unfold Op.wf Ao; omega
theorem Lx {c : Core} {id home : Int} {m : Msg} (h : m.line < 0 ∨ (c.lines.length : Int) ≤ m.line) : Ae c id home m = (c, [], []) := by unfold Ae; rw [if_pos h]
end Go.Proofs.YtbigiimomnfpdaaGreat
namespace Go.Proofs.YtbigiimomnfpdaaGreat
open Abs
def Fb (M : List Int) : List Done → List Int → Prop
 | [], M' => M' = M
 | d :: r, M' => (1 ≤ d.op.kind ∧ d.op.kind ≤ 4) ∧ (0 ≤ d.op.line ∧ d.op.line < M.length) ∧ (0 ≤ d.op.value ∧ d.op.value ≤ 255) ∧
  d.value = (if d.op.kind = 4 then 0 else (Ax (M.getD d.op.line.toNat 0) d.op).2) ∧ Fb (M.set d.op.line.toNat (Ax (M.getD d.op.line.toNat 0) d.op).1) r M'
theorem Mr {v : Int} {o : Op} (hv : 0 ≤ v ∧ v ≤ 255) (ho : 0 ≤ o.value ∧ o.value ≤ 255) : 0 ≤ (Ax v o).1 ∧ (Ax v o).1 ≤ 255 := by
 unfold Ax
 split
 ·exact hv
 ·split
  ·exact ho
  ·split
   ·simp only; omega
   ·exact hv
theorem G7 {v : Int} {o : Op} (h : o.kind = 1 ∨ o.kind = 4) : (Ax v o).1 = v := by
 unfold Ax
 rcases h with h | h <;> simp [h]
section
variable {n nl : Nat} {x : Chip} {M : List Int}
theorem Fg {α : Type} (l : List α) (i : Nat) (d : α) (h : i < l.length) : l.set i (l.getD i d) = l := by
 apply List.ext_getElem?
 intro j
 by_cases hj : j = i
 ·subst hj; rw [List.getElem?_set_self h, List.getD_eq_getElem?_getD, List.getElem?_eq_getElem h]; rfl
 ·rw [List.getElem?_set_ne (Ne.symm hj)]
theorem Inv.same (h : Inv n nl x M) (i : Nat) (hi : i < nl) : M.set i (M.getD i 0) = M := Fg _ _ _ (by rw [h.ml]; exact hi)
theorem Ig (h : Inv n nl x M) {p i : Nat} (hp : p < n) (hi : i < nl) {kind serial turn value : Int} {al : Bool} (hk : 1 ≤ kind ∧ kind ≤ 11) (hs : 0 ≤ serial ∧ serial ≤ 65535) (ht : 0 ≤ turn ∧ turn ≤ 65535) (hv : 0 ≤ value ∧ value ≤ 255) :
  Bi (Hm n nl) ⟨kind, p, n, i, serial, turn, value, al⟩ = 0 :=
 S5 hk (by simp only [Hm]; omega) (by simp only [Hm]; omega) hs ht hv (by simp only [Hm]; intro h; have h' := h.2 trivial; omega)
theorem Oh (h : Inv n nl x M) {p i : Nat} (hp : p < n) (hi : i < nl) {kind serial turn value : Int} {al : Bool} (hk : 1 ≤ kind ∧ kind ≤ 11) (hs : 0 ≤ serial ∧ serial ≤ 65535) (ht : 0 ≤ turn ∧ turn ≤ 65535) (hv : 0 ≤ value ∧ value ≤ 255) :
  Bi (Hm n nl) ⟨kind, n, p, i, serial, turn, value, al⟩ = 0 :=
 S5 hk (by simp only [Hm]; omega) (by simp only [Hm]; omega) hs ht hv (by simp only [Hm]; intro h; have h' := h.1 trivial; omega)
theorem Mq {p i : Nat} {kind serial turn value : Int} {al : Bool} : Uy n ⟨kind, p, n, i, serial, turn, value, al⟩ = p := by simp [Uy]
theorem Qh {p i : Nat} (hp : p < n) {kind serial turn value : Int} {al : Bool} : Uy n ⟨kind, n, p, i, serial, turn, value, al⟩ = p := by
 unfold Uy
 rw [if_neg (by simp only; omega)]; simp
theorem Tp {p i : Nat} {l' : Line} {w' : Op} (h : Inv n nl x M) (hp : p < n) (hi : i < nl) {fr : Frames} : lin ⟨x.cores.set p (A6 (cor x p) i l' w'), x.home, fr⟩ i p = l' := by
 unfold lin cor
 rw [Dg _ _ _ _ _ (by rw [h.nc]; exact hp), if_pos rfl]
 show ((cor x p).lines.set _ l').getD i zLine = l'
 rw [Int.toNat_natCast, Dg _ _ _ _ _ (by rw [h.ncl p hp]; exact hi), if_pos rfl]
theorem Aio {k : Core} {i : Nat} {l' : Line} {o : Op} (hl : k.lines.length = nl) (h : CW k nl) (h0 : k.wait.kind = 0) (hi : i < nl) (ho : (1 ≤ o.kind ∧ o.kind ≤ 4) ∧ o.line = i ∧ (0 ≤ o.value ∧ o.value ≤ 255)) (hw : l'.want = F9 o.kind) : CW (A6 k i l' o) nl := by
 constructor
 ·intro h'; exact absurd h' (by show o.kind ≠ 0; omega)
 ·intro _
  refine ⟨ho.1, ?_, ho.2.2, fun j hj => ?_⟩
  ·show 0 ≤ o.line ∧ o.line < nl; omega
  ·show ((k.lines.set _ l').getD j zLine).want = if (j : Int) = o.line then _ else _
   rw [Int.toNat_natCast, Dg _ _ _ _ _ (by rw [hl]; exact hi), ho.2.1]
   by_cases hj' : j = i
   ·rw [if_pos hj', if_pos (by rw [hj'])]; exact hw
   ·rw [if_neg hj', if_neg (by omega)]; exact (h.free h0).2 j hj
theorem Hz {k : Core} {i : Nat} {l' : Line} (hl : k.lines.length = nl) (h : CW k nl) (hi : i < nl) (h0 : k.wait.kind = 0 ∨ k.wait.line = i) (hw : l'.want = 0) : CW (A6 k i l' zOp) nl := by
 constructor
 ·intro _
  refine ⟨rfl, fun j hj => ?_⟩
  show ((k.lines.set _ l').getD j zLine).want = 0
  rw [Int.toNat_natCast, Dg _ _ _ _ _ (by rw [hl]; exact hi)]
  by_cases hj' : j = i
  ·rw [if_pos hj']; exact hw
  ·rw [if_neg hj']
   by_cases h00 : k.wait.kind = 0
   ·exact (h.free h00).2 j hj
   ·have := (h.busy h00).2.2.2 j hj
    rw [this, if_neg (by omega)]
 ·intro h'; exact absurd rfl h'
theorem Pg {k : Core} {i : Nat} {l' : Line} (hl : k.lines.length = nl) (h : CW k nl) (hi : i < nl) (hw : l'.want = (k.lines.getD i zLine).want) : CW (A6 k i l' k.wait) nl := by
 have hg : ∀ j, ((A6 k i l' k.wait).lines.getD j zLine).want = (k.lines.getD j zLine).want := by
  intro j
  show ((k.lines.set _ l').getD j zLine).want = _
  rw [Int.toNat_natCast, Dg _ _ _ _ _ (by rw [hl]; exact hi)]
  by_cases hj' : j = i
  ·rw [if_pos hj', hj']; exact hw
  ·rw [if_neg hj']
 constructor
 ·intro h0
  exact ⟨(h.free h0).1, fun j hj => by rw [hg]; exact (h.free h0).2 j hj⟩
 ·intro h0
  obtain ⟨h1, h2, h3, h4⟩ := h.busy h0
  exact ⟨h1, h2, h3, fun j hj => by rw [hg]; exact h4 j hj⟩
theorem Sr {k : Core} {i : Nat} (h : CW k nl) (hi : i < nl) (hw : (k.lines.getD i zLine).want ≠ 0) : k.wait.kind ≠ 0 ∧ k.wait.line = i ∧ (k.lines.getD i zLine).want = F9 k.wait.kind := by
 have h0 : k.wait.kind ≠ 0 := fun h0 => hw ((h.free h0).2 i hi)
 have h1 := (h.busy h0).2.2.2 i hi
 by_cases he : (i : Int) = k.wait.line
 ·rw [if_pos he] at h1; exact ⟨h0, he.symm, h1⟩
 ·rw [if_neg he] at h1; exact absurd h1 hw
theorem Xf {p : Nat} {o : Op} (h : Inv n nl x M) (hp : p < n) (hok : (Aj (cor x p) p n o).2.2.2 = 0) :
  ∃ M', Inv n nl (De x p (Aj (cor x p) p n o).1 (Aj (cor x p) p n o).2.1) M' ∧ Fb M (Aj (cor x p) p n o).2.2.1 M' := by
 have hcl := h.ncl p hp
 have hcw := h.cw p hp
 unfold Aj at hok ⊢
 split at hok
 ·cases hok
 split at hok
 ·cases hok
 split at hok
 ·cases hok
 rename_i k1 k2 k3
 rw [if_neg k1, if_neg k2, if_neg k3]
 obtain ⟨i, hi⟩ : ∃ i : Nat, o.line = i := ⟨o.line.toNat, by omega⟩
 have hin : i < nl := by omega
 have hlat : Ac (cor x p) o.line = lin x i p := by unfold Ac lin; rw [hi, Int.toNat_natCast]
 rw [hlat] at k3 ⊢
 have hci := h.ci i hin p hp
 have hgi := h.gi i hin
 have hw0 : (lin x i p).want = 0 := (hcw.free (by omega)).2 i hin
 have hval := h.mv i hin
 have hov : 0 ≤ o.value ∧ o.value ≤ 255 := by omega
 by_cases hd : A8 (lin x i p) o = true
 ·rw [if_pos hd]
  unfold De
  simp only [Int.toNat_natCast, way, hi]
  by_cases h4 : o.kind = 4
  ·have hs : (lin x i p).state ≠ 2 := by unfold A8 at hd; rw [if_pos h4] at hd; simpa using hd
   have hb : A1 (lin x i p) o = { lin x i p with state := 0, value := 0 } := by unfold A1; rw [if_pos h4, if_neg hs]
   have ht : Bv (lin x i p) o = 0 := by unfold Bv; rw [if_pos h4]
   rw [hb, ht]
   obtain ⟨c1, c2⟩ := Acr hgi hci hw0 hs
   have hI := h.core (w' := zOp) hp hin c1 (fun _ _ _ hh => hh) c2 (Hz hcl hcw hin (.inl (by omega)) hw0) hval
   refine ⟨_, hI, ?_, ?_, hov, ?_, ?_⟩
   ·show 1 ≤ o.kind ∧ o.kind ≤ 4; omega
   ·show 0 ≤ o.line ∧ o.line < M.length; rw [h.ml]; omega
   ·show (0 : Int) = _; rw [if_pos h4]
   ·show Fb _ [] _
    simp only [Fb, hi, Int.toNat_natCast]
    rw [G7 (.inr h4)]
  ·have hs : (lin x i p).state = 2 ∨ (lin x i p).state = 1 ∧ o.kind = 1 := by unfold A8 at hd; rw [if_neg h4] at hd; simpa using hd
   have hb : A1 (lin x i p) o = { lin x i p with value := (Ax (lin x i p).value o).1 } := by unfold A1; rw [if_neg h4, if_pos hs]
   have ht : Bv (lin x i p) o = (Ax (lin x i p).value o).2 := by unfold Bv; rw [if_neg h4]
   have hV : (lin x i p).value = M.getD i 0 := by
    rcases hs with hs | hs
    ·exact (hci.alo (.inl hs)).2
    ·exact (hci.cop hs.1).2
   rw [hb, ht]
   have hr := Mr (o := o) hci.va hov
   have hI : Inv n nl ⟨x.cores.set p (A6 (cor x p) i { lin x i p with value := (Ax (lin x i p).value o).1 } zOp), x.home, x.frames⟩ (M.set i (Ax (lin x i p).value o).1) := by
    rcases hs with hs | hs
    ·obtain ⟨c1, c2⟩ := Aiw hgi hci hs hr
     exact h.core (w' := zOp) hp hin c1 (fun q hq hqp hh => Acq hgi hci (by omega) (by omega) hqp hh) c2 (Hz hcl hcw hin (.inl (by omega)) hw0) hr
    ·have e : (Ax (lin x i p).value o).1 = (lin x i p).value := G7 (.inl hs.2)
     rw [e]
     exact h.core (w' := zOp) hp hin (by show CI _ p (lin x i p) (lin x i p).value; rw [hV]; exact hci) (fun _ _ _ hh => by rw [hV]; exact hh) (fun _ hm => hm) (Hz hcl hcw hin (.inl (by omega)) hw0) hci.va
   refine ⟨_, hI, ?_, ?_, hov, ?_, ?_⟩
   ·show 1 ≤ o.kind ∧ o.kind ≤ 4; omega
   ·show 0 ≤ o.line ∧ o.line < M.length; rw [h.ml]; omega
   ·show (Ax (lin x i p).value o).2 = _; rw [if_neg h4]; simp only [hi, Int.toNat_natCast]; rw [hV]
   ·show Fb _ [] _
    simp only [Fb, hi, Int.toNat_natCast]
    rw [hV]
 ·rw [if_neg hd]
  unfold De
  simp only [Int.toNat_natCast, hi]
  -- it asks
  have key : ∃ l', A1 (lin x i p) o = l' ∧ CI (ab (ent x i)) p l' (M.getD i 0) ∧ (∀ m, MI (ab (ent x i)) p (lin x i p) m → MI (ab (ent x i)) p l' m) ∧ l'.want = F9 o.kind ∧ l'.serial = (lin x i p).serial + 1 := by
   by_cases h4 : o.kind = 4
   ·have hs : (lin x i p).state = 2 := by unfold A8 at hd; rw [if_pos h4] at hd; simpa using hd
    obtain ⟨c1, c2⟩ := c_put hgi hci hw0 hs (by omega)
    refine ⟨_, rfl, ?_⟩
    have hb : A1 (lin x i p) o = { lin x i p with state := 3, want := 3, serial := (lin x i p).serial + 1 } := by unfold A1; rw [if_pos h4, if_pos hs]
    rw [hb]
    exact ⟨c1, c2, by simp [F9, h4], rfl⟩
   ·have hs : ¬ ((lin x i p).state = 2 ∨ (lin x i p).state = 1 ∧ o.kind = 1) := by unfold A8 at hd; rw [if_neg h4] at hd; simpa using hd
    have hst := hci.st
    have hlv := hci.leav
    have hkk : (if o.kind = 1 then (1 : Int) else 2) = F9 o.kind := by unfold F9; split <;> first | rfl | rw [if_neg h4]
    obtain ⟨c1, c2⟩ := c_ask (k := if o.kind = 1 then 1 else 2) hgi hci hw0 (by split <;> omega) (by omega)
    refine ⟨_, rfl, ?_⟩
    have hb : A1 (lin x i p) o = { lin x i p with want := if o.kind = 1 then 1 else 2, serial := (lin x i p).serial + 1 } := by unfold A1; rw [if_neg h4, if_neg hs]
    rw [hb]
    exact ⟨c1, c2, hkk, rfl⟩
  obtain ⟨l', hb, c1, c2, c3, c4⟩ := key
  rw [hb]
  have hI := h.core (w' := o) hp hin c1 (fun _ _ _ hh => hh) c2 (Aio hcl hcw (by omega) hin ⟨by omega, hi, hov⟩ c3) hval
  rw [h.same i hin] at hI
  refine ⟨M, ?_, rfl⟩
  refine hI.way fun m hm => ?_
  rw [List.mem_singleton.1 hm]
  have hwr : 1 ≤ l'.want ∧ l'.want ≤ 3 := by rw [c3]; unfold F9; split <;> (try split) <;> omega
  refine ⟨Ig h hp hin (by omega) c1.se ⟨by omega, by omega⟩ (by have := c1.va; split <;> omega), ?_⟩
  unfold MX
  have hpe : Uy n (Cd l' p n i) = p := Mq
  rw [hpe]
  show MI (ab (ent x _)) p (lin _ _ p) _
  rw [show ((Cd l' p n i).line).toNat = i from Int.toNat_natCast i, Tp h hp hin]
  have hla := hci.la
  have e1 : (Cd l' p n i).kind = l'.want := rfl
  have e2 : (Cd l' p n i).serial = l'.serial := rfl
  have e3 : (Cd l' p n i).value = if l'.want = 3 then l'.value else 0 := rfl
  constructor <;> rw [e1] <;> (try rw [e2]) <;> (try rw [e3])
  ·intro hk; exact ⟨Int.le_refl _, fun _ => ⟨rfl, rfl⟩⟩
  ·intro hk; exact ⟨Int.le_refl _, fun _ => .inl ⟨rfl, hk, by rw [if_pos hk]⟩⟩
  all_goals intro hk; omega
theorem MX.said {p i : Nat} {l' : Line} {w' : Op} (h : Inv n nl x M) (hp : p < n) (hi : i < nl) {kind serial turn value : Int} {al : Bool} (hm : MI (ab (ent x i)) p l' ⟨kind, p, n, i, serial, turn, value, al⟩) {fr : Frames} :
  MX n ⟨x.cores.set p (A6 (cor x p) i l' w'), x.home, fr⟩ ⟨kind, p, n, i, serial, turn, value, al⟩ := by
 unfold MX
 rw [Mq]
 show MI (ab (ent x ((i : Int).toNat))) p (lin _ ((i : Int).toNat) p) _
 rw [Int.toNat_natCast, Tp h hp hi]
 exact hm
theorem MX.saidSame {p i : Nat} (hp : p < n) {kind serial turn value : Int} {al : Bool} (hm : MI (ab (ent x i)) p (lin x i p) ⟨kind, p, n, i, serial, turn, value, al⟩) : MX n x ⟨kind, p, n, i, serial, turn, value, al⟩ := by
 unfold MX
 rw [Mq]
 show MI (ab (ent x ((i : Int).toNat))) p (lin _ ((i : Int).toNat) p) _
 rw [Int.toNat_natCast]
 exact hm
theorem MX.told {p i : Nat} {e' : Entry} (h : Inv n nl x M) (hp : p < n) (hi : i < nl) {kind serial turn value : Int} {al : Bool} (hm : MI (ab e') p (lin x i p) ⟨kind, n, p, i, serial, turn, value, al⟩) {fr : Frames} :
  MX n ⟨x.cores, x.home.set i e', fr⟩ ⟨kind, n, p, i, serial, turn, value, al⟩ := by
 unfold MX
 rw [Qh hp]
 show MI (ab ((x.home.set i e').getD ((i : Int).toNat) Az)) p (lin x ((i : Int).toNat) p) _
 rw [Int.toNat_natCast, Dg _ _ _ _ _ (by rw [h.nh]; exact hi), if_pos rfl]
 exact hm
theorem Aaz {p : Nat} {m : Msg} (h : Inv n nl x M) (hp : p < n) (hd : m.dst = p) (hs : m.src = n) (hl : 0 ≤ m.line ∧ m.line < nl) (hr : (0 ≤ m.serial ∧ m.serial ≤ 65535) ∧ (0 ≤ m.turn ∧ m.turn ≤ 65535) ∧ (0 ≤ m.value ∧ m.value ≤ 255)) (hm : MX n x m) :
  ∃ M', Inv n nl (De x p (Ae (cor x p) p n m).1 (Ae (cor x p) p n m).2.1) M' ∧ Fb M (Ae (cor x p) p n m).2.2 M' := by
 have hcl := h.ncl p hp
 have hcw := h.cw p hp
 obtain ⟨i, hi⟩ : ∃ i : Nat, m.line = i := ⟨m.line.toNat, by omega⟩
 have hin : i < nl := by omega
 have hlat : Ac (cor x p) m.line = lin x i p := by unfold Ac lin; rw [hi, Int.toNat_natCast]
 have hci := h.ci i hin p hp
 have hgi := h.gi i hin
 have hval := h.mv i hin
 have hMI : MI (ab (ent x i)) p (lin x i p) m := by
  unfold MX at hm
  have : Uy n m = p := by unfold Uy; rw [if_neg (by omega), hd]; simp
  rw [this, hi, Int.toNat_natCast] at hm
  exact hm
 have hsame : Inv n nl (De x p (cor x p) []) M := by
  unfold De
  simp only [Int.toNat_natCast, way]
  have : x.cores.set p (cor x p) = x.cores := Fg _ _ _ (by rw [h.nc]; exact hp)
  rw [this]; exact h
 have hsaid : ∀ m', Bi (Hm n nl) m' = 0 → MX n x m' → Inv n nl (De x p (cor x p) [m']) M := by
  intro m' h1 h2
  unfold De
  simp only [Int.toNat_natCast]
  have : x.cores.set p (cor x p) = x.cores := Fg _ _ _ (by rw [h.nc]; exact hp)
  rw [this]
  exact h.way fun m'' hm'' => by rw [List.mem_singleton.1 hm'']; exact ⟨h1, h2⟩
 unfold Ae
 rw [if_neg (by rw [hcl]; omega)]
 rw [hlat]
 by_cases k4 : m.kind = 4
 ·rw [if_pos k4]
  obtain ⟨c1, c2⟩ := c_inv hgi hci hMI k4
  have hwant : (Db (lin x i p) m.turn).want = (lin x i p).want := by unfold Db; split <;> (try split) <;> rfl
  have hI := h.core (w' := (cor x p).wait) hp hin c1 (fun _ _ _ hh => hh) c2 (Pg hcl hcw hin hwant) hval
  rw [h.same i hin] at hI
  refine ⟨M, ?_, rfl⟩
  unfold De
  refine Zcn ?_
  refine ⟨Ig h hp hin (by omega) (by omega) hr.2.1 (by omega), MX.said h hp hin ?_⟩
  have hseen : m.turn ≤ (Db (lin x i p) m.turn).seen := by unfold Db; split <;> (try split) <;> first | exact Int.le_refl _ | omega
  constructor <;> simp only <;> intro hk <;> first | omega | exact hseen
 rw [if_neg k4]
 by_cases k5 : m.kind = 5 ∨ m.kind = 6
 ·rw [if_pos k5]
  by_cases hf : D2 (lin x i p) m.turn
  ·rw [if_pos hf]
   obtain ⟨c1, c2, c3, c4⟩ := Aiz hgi hci hMI k5 hf
   by_cases hw : (lin x i p).want = 3
   ·rw [if_pos hw, if_pos hw]
    obtain ⟨w1, w2, w3⟩ := Sr hcw hin (by show (lin x i p).want ≠ 0; omega)
    have hwant : (Cw (lin x i p) m.kind m.turn).want = 0 := by unfold Cw; rw [if_pos hw]
    have hI := h.core (w' := zOp) hp hin c1 (fun _ _ _ hh => hh) c2 (Hz hcl hcw hin (.inr w2) hwant) hval
    rw [h.same i hin] at hI
    obtain ⟨b1, b2, b3, b4⟩ := hcw.busy w1
    have hk4 : (cor x p).wait.kind = 4 := by
     exact Zgb
    refine ⟨M, ?_, b1, by rw [h.ml]; exact b2, b3, by show (0 : Int) = _; rw [if_pos hk4], ?_⟩
    ·unfold De
     refine Zcn ?_
     exact ⟨Ig h hp hin (by omega) (by omega) hr.2.1 hci.va, MX.said h hp hin (c4 _ rfl rfl rfl)⟩
    ·exact Zg0
   ·rw [if_neg hw, if_neg hw]
    have hwant : (Cw (lin x i p) m.kind m.turn).want = (lin x i p).want := by unfold Cw; rw [if_neg hw]; split <;> rfl
    have hI := h.core (w' := (cor x p).wait) hp hin c1 (fun _ _ _ hh => hh) c2 (Pg hcl hcw hin hwant) hval
    rw [h.same i hin] at hI
    refine ⟨M, ?_, rfl⟩
    unfold De
    refine Zcn ?_
    exact ⟨Ig h hp hin (by omega) (by omega) hr.2.1 hci.va, MX.said h hp hin (c4 _ rfl rfl rfl)⟩
  ·rw [if_neg hf]
   split
   ·rename_i hg
    refine ⟨M, hsaid _ ?_ ?_, rfl⟩
    ·rw [hi]; exact Ig h hp hin (by omega) (by omega) (by rw [← hg.1]; exact hr.2.1) hci.gi
    ·rw [hi]; refine MX.saidSame hp ?_
     have := hci.ga
     constructor <;> simp only <;> intro hk <;> first | omega | exact ⟨this.2.1, fun a b c => ⟨a, trivial⟩⟩
   ·exact ⟨M, hsame, rfl⟩
 rw [if_neg k5]
 by_cases k7 : m.kind = 7
 ·rw [if_pos k7]
  by_cases hse : (lin x i p).serial < m.serial
  ·rw [if_pos hse]; exact ⟨M, hsame, rfl⟩
  rw [if_neg hse]
  by_cases ha : Gg (lin x i p) m
  ·rw [if_pos ha]
   have hwne : (lin x i p).want ≠ 0 := by have := ha.2; omega
   obtain ⟨w1, w2, w3⟩ := Sr hcw hin hwne
   obtain ⟨b1, b2, b3, b4⟩ := hcw.busy w1
   have w3' : (lin x i p).want = F9 (cor x p).wait.kind := w3
   have hnk4 : (cor x p).wait.kind ≠ 4 := by
    intro e; rw [e] at w3'; simp [F9] at w3'; have := ha.2; omega
   have hload : m.alone = false → (Ax m.value (cor x p).wait).1 = m.value := by
    intro hal
    have h2 := ha.2
    rw [hal] at h2
    have : (lin x i p).want = 1 := by simpa using h2
    refine G7 (.inl ?_)
    rw [this] at w3'
    unfold F9 at w3'; split at w3' <;> (try split at w3') <;> first | assumption | omega
   have hv := Mr (o := (cor x p).wait) hr.2.2 b3
   obtain ⟨c1, c2, c3, c4, c5⟩ := Aiy (v := (Ax m.value (cor x p).wait).1) hgi hci hMI k7 ha hv hload
   have hI := h.core (w' := zOp) hp hin c1 (fun q _ hq hh => c4 q _ hq hh) c2 (Hz hcl hcw hin (.inr w2) rfl) hv
   refine ⟨M.set i (Ax m.value (cor x p).wait).1, ?_, b1, by rw [h.ml]; exact b2, b3, ?_, ?_⟩
   ·unfold De
    refine Zcn ?_
    exact ⟨Ig h hp hin (by omega) (by omega) hr.2.1 (by omega), MX.said h hp hin (c5 _ rfl rfl)⟩
   ·show (Ax m.value (cor x p).wait).2 = _
    rw [if_neg hnk4, w2, Int.toNat_natCast, c3]
   ·show Fb _ [] _
    simp only [Fb]
    rw [w2, Int.toNat_natCast, c3]
  ·rw [if_neg ha]
   refine ⟨M, hsaid _ ?_ ?_, rfl⟩
   ·rw [hi]; exact Ig h hp hin (by omega) (by omega) hr.2.1 (by omega)
   ·rw [hi]; refine MX.saidSame hp ?_
    have hg := hMI.gra k7
    have hseen : m.turn ≤ (lin x i p).seen := by
     by_cases hc : m.serial = (lin x i p).serial ∧ (lin x i p).want ≠ 0
     ·obtain ⟨g1, g2, g3, g4, g5⟩ := hg.2.1 hc.1 hc.2
      have hcur := hci.cur (by omega) g2
      exfalso
      apply ha
      refine ⟨hc.1, ?_⟩
      have hse' : (ab (ent x i)).serial = (lin x i p).serial := by have := hci.la; omega
      cases hal : m.alone with
      | true => right; have := g4.1 hal; exact ⟨by omega, rfl⟩
      | false =>
       left
       have hnot : ¬ (ab (ent x i)).alone = 1 := fun h1 => by have := g4.2 h1; rw [hal] at this; cases this
       have := hgi.al
       exact ⟨by omega, rfl⟩
     ·exact hg.2.2 (by omega)
    constructor <;> simp only <;> intro hk <;> first | omega | exact hseen
 rw [if_neg k7]
 split
 ·rename_i hk
  obtain ⟨k11, hw, hse⟩ := hk
  obtain ⟨c1, c2⟩ := Aix hgi hci hMI k11 hw hse
  obtain ⟨w1, w2, w3⟩ := Sr hcw hin (by show (lin x i p).want ≠ 0; omega)
  obtain ⟨b1, b2, b3, b4⟩ := hcw.busy w1
  have hk4 : (cor x p).wait.kind = 4 := by
   exact Zgb
  have hI := h.core (w' := zOp) hp hin c1 (fun _ _ _ hh => hh) c2 (Hz hcl hcw hin (.inr w2) rfl) hval
  rw [h.same i hin] at hI
  refine ⟨M, ?_, b1, by rw [h.ml]; exact b2, b3, by show (0 : Int) = _; rw [if_pos hk4], ?_⟩
  ·unfold De
   simp only [Int.toNat_natCast, hi, way]
   exact hI
  ·exact Zg0
 ·exact ⟨M, hsame, rfl⟩
end
end Go.Proofs.YtbigiimomnfpdaaGreat
namespace Go.Proofs.YtbigiimomnfpdaaGreat
open Abs
theorem Air : ∀ (s : Fin 16) (p q : Fin 4), (Hl (s.val : Int) (p.val : Int)).toNat.testBit q.val = (decide (q ≠ p) && s.val.testBit q.val) := by decide
theorem Yd : ∀ (s : Fin 16) (p : Fin 4), 0 ≤ Hl (s.val : Int) (p.val : Int) ∧ Hl (s.val : Int) (p.val : Int) ≤ s.val := by decide
theorem Aeu : ∀ (s : Fin 16) (p q : Fin 4), (H5 (s.val : Int) (p.val : Int)).toNat.testBit q.val = (decide (q = p) || s.val.testBit q.val) := by decide
theorem We : ∀ (n : Fin 5) (s : Fin 16) (p : Fin 4), p.val < n.val → s.val < 2 ^ n.val → 0 ≤ H5 (s.val : Int) (p.val : Int) ∧ H5 (s.val : Int) (p.val : Int) < (2 ^ n.val : Nat) := by decide
theorem Za : ∀ (s : Fin 16), (∀ q : Fin 4, s.val.testBit q.val = false) → s.val = 0 := by decide
theorem high (s : Int) (h : 0 ≤ s ∧ s < 16) (q : Nat) (hq : 4 ≤ q) : s.toNat.testBit q = false := by
 apply Nat.testBit_lt_two_pow
 have : 2 ^ 4 ≤ 2 ^ q := Nat.pow_le_pow_right (by omega) hq
 omega
theorem Jc (s : Int) (h : 0 ≤ s ∧ s < 16) (q : Nat) (hq : 4 ≤ q) : E3 s q = 0 := by unfold E3; rw [high s h q hq]; rfl
theorem Ew (q : Nat) : E3 0 q = 0 := by simp [E3]
theorem V9 {s : Int} (h : 0 ≤ s ∧ s < 16) : ∃ f : Fin 16, (f.val : Int) = s := ⟨⟨s.toNat, by omega⟩, by simp only; omega⟩
theorem Km {s : Int} {p : Nat} (h : 0 ≤ s ∧ s < 16) (hp : p < 4) : E3 (Hl s p) = upd (E3 s) p 0 := by
 obtain ⟨f, rfl⟩ := V9 h
 funext q
 have hr := Yd f ⟨p, hp⟩
 simp only at hr
 by_cases hq : q < 4
 ·have := Air f ⟨p, hp⟩ ⟨q, hq⟩
  simp only at this
  unfold E3 upd
  rw [this]
  by_cases hqp : q = p
  ·subst hqp; simp
  ·simp [hqp]
 ·rw [Jc _ (by omega) _ (by omega)]
  unfold upd
  rw [if_neg (by omega), Jc _ (by omega) _ (by omega)]
theorem Rk {s : Int} {p : Nat} (h : 0 ≤ s ∧ s < 16) (hp : p < 4) (q : Nat) : E3 (H5 s p) q = if q = p then 1 else E3 s q := by
 obtain ⟨f, rfl⟩ := V9 h
 have hr : 0 ≤ H5 (f.val : Int) (p : Int) ∧ H5 (f.val : Int) (p : Int) < 16 := We 4 f ⟨p, hp⟩ hp f.isLt
 by_cases hq : q < 4
 ·have := Aeu f ⟨p, hp⟩ ⟨q, hq⟩
  simp only at this
  unfold E3
  rw [this]
  by_cases hqp : q = p
  ·subst hqp; simp
  ·simp [hqp]
 ·rw [Jc _ (by omega) _ (by omega), if_neg (by omega), Jc _ (by omega) _ (by omega)]
theorem Ua {s : Int} {p n : Nat} (hn : n ≤ 4) (h : 0 ≤ s ∧ s < (2 ^ n : Nat)) (hp : p < 4) : 0 ≤ Hl s p ∧ Hl s p < (2 ^ n : Nat) := by
 have : (2 ^ n : Nat) ≤ 2 ^ 4 := Nat.pow_le_pow_right (by omega) hn
 obtain ⟨f, rfl⟩ := V9 (s := s) (by omega)
 have hr := Yd f ⟨p, hp⟩
 simp only at hr
 omega
theorem Ado {s : Int} {p n : Nat} (hn : n ≤ 4) (h : 0 ≤ s ∧ s < (2 ^ n : Nat)) (hp : p < n) : 0 ≤ H5 s p ∧ H5 s p < (2 ^ n : Nat) := by
 have : (2 ^ n : Nat) ≤ 2 ^ 4 := Nat.pow_le_pow_right (by omega) hn
 obtain ⟨f, rfl⟩ := V9 (s := s) (by omega)
 exact We ⟨n, by omega⟩ f ⟨p, by omega⟩ hp (by simp only; omega)
theorem Li {s : Int} {n : Nat} (hn : n ≤ 4) (h : 0 ≤ s ∧ s < (2 ^ n : Nat)) : 0 ≤ s ∧ s < 16 := by
 have : (2 ^ n : Nat) ≤ 2 ^ 4 := Nat.pow_le_pow_right (by omega) hn
 omega
theorem Nd {s : Int} (h : 0 ≤ s ∧ s < 16) (hb : ∀ q, q < 4 → E3 s q = 0) : s = 0 := by
 obtain ⟨f, rfl⟩ := V9 h
 have := Za f fun q => by
  have := hb q.val q.isLt
  unfold E3 at this
  simp only [Int.toNat_natCast] at this
  cases ht : f.val.testBit q.val with
  | false => rfl
  | true => simp [ht] at this
 omega
theorem Rj {s : Int} {n : Nat} (hn : n ≤ 4) (h : 0 ≤ s ∧ s < (2 ^ n : Nat)) (h0 : s ≠ 0) : ∃ q : Nat, q < n ∧ E3 s q = 1 := by
 apply Classical.byContradiction
 intro hno
 apply h0
 refine Nd (Li hn h) fun q _ => ?_
 by_cases hq : q < n
 ·have : ¬ E3 s q = 1 := fun he => hno ⟨q, hq, he⟩
  unfold E3 at this ⊢
  split <;> rename_i hb
  ·rw [if_pos hb] at this; exact absurd rfl this
  ·rfl
 ·unfold E3
  rw [Nat.testBit_lt_two_pow (show s.toNat < 2 ^ q by have : 2 ^ n ≤ 2 ^ q := Nat.pow_le_pow_right (by omega) (by omega); omega)]
  rfl
theorem Sn (s : Int) (p : Nat) : Jk s p = true ↔ E3 s p = 1 := by
 unfold Jk E3
 rw [Int.toNat_natCast]
 cases s.toNat.testBit p <;> simp
section
variable {n nl : Nat} {x : Chip} {M : List Int}
theorem R4 (h : Inv n nl x M) {i : Nat} (hi : i < nl) : ∀ m ∈ Fm (ent x i) i n, Bi (Hm n nl) m = 0 ∧ MX n x m := by
 intro m hm
 have hg := h.gi i hi
 have hn := h.n1
 have hto : ∀ {p : Nat} {kind serial turn value : Int} {al : Bool}, p < n → MI (ab (ent x i)) p (lin x i p) ⟨kind, n, p, i, serial, turn, value, al⟩ → MX n x ⟨kind, n, p, i, serial, turn, value, al⟩ := by
  intro p kind serial turn value al hp hmi
  unfold MX
  rw [Qh hp]
  show MI (ab (ent x ((i : Int).toNat))) p (lin x ((i : Int).toNat) p) _
  rw [Int.toNat_natCast]; exact hmi
 unfold Fm at hm
 by_cases h1 : (ent x i).phase = 1
 ·rw [if_pos h1] at hm
  rw [List.mem_singleton.1 hm]
  have hf := hg.f1 h1
  have how := hg.own
  obtain ⟨p, hp⟩ : ∃ p : Nat, (ent x i).owner = p := ⟨(ent x i).owner.toNat, by show _ = _; have := hf.1; show (ent x i).owner = _; simp only [ab] at this; omega⟩
  have hpn : p < n := by have := how.2; simp only [ab] at this; omega
  rw [hp]
  refine ⟨Oh h hpn hi (by split <;> omega) (by omega) hg.tu (by omega), hto hpn ?_⟩
  have ha : (if (ent x i).alone = true then (6 : Int) else 5) = 5 + (ab (ent x i)).alone := by simp only [ab]; split <;> rfl
  rw [ha]
  have hal := hg.al
  constructor <;> simp only <;> intro hk <;> first | omega | exact ⟨Int.le_refl _, fun _ => ⟨rfl, h1, hp, trivial⟩⟩
 rw [if_neg h1] at hm
 by_cases h2 : (ent x i).phase = 2
 ·rw [if_pos h2] at hm
  obtain ⟨q, hq, rfl⟩ := List.mem_map.1 hm
  obtain ⟨hq1, hq2⟩ := List.mem_filter.1 hq
  obtain ⟨p, rfl⟩ : ∃ p : Nat, q = p := ⟨q.toNat, by simp at hq1; omega⟩
  have hb := (Sn _ _).1 hq2
  have hpn : p < n := by
   apply Classical.byContradiction
   intro hge
   have hbit := (h.bit i hi).2
   unfold E3 at hb
   rw [Nat.testBit_lt_two_pow (show (ent x i).need.toNat < 2 ^ p by have : 2 ^ n ≤ 2 ^ p := Nat.pow_le_pow_right (by omega) (by omega); omega)] at hb
   simp at hb
  refine ⟨Oh h hpn hi (by omega) (by omega) hg.tu (by omega), hto hpn ?_⟩
  constructor <;> simp only <;> intro hk <;> first | omega | exact ⟨Int.le_refl _, fun _ => ⟨rfl, h2, hb⟩⟩
 rw [if_neg h2] at hm
 by_cases h3 : (ent x i).phase = 3
 ·rw [if_pos h3] at hm
  rw [List.mem_singleton.1 hm]
  have hw := hg.whor (by show (ent x i).phase ≠ 0; omega)
  simp only [ab] at hw
  obtain ⟨p, hp⟩ : ∃ p : Nat, (ent x i).who = p := ⟨(ent x i).who.toNat, by omega⟩
  have hpn : p < n := by omega
  have hci := h.ci i hi p hpn
  have hcur := hci.cur (by show (ent x i).phase ≠ 0; omega) hp
  rw [hp]
  refine ⟨Oh h hpn hi (by omega) hg.se hg.tu hg.va, hto hpn ?_⟩
  constructor <;> simp only <;> intro hk <;> first | omega | skip
  refine ⟨by have := hcur.1; simp only [ab] at this ⊢; omega, fun e1 e2 => ⟨h3, hp, rfl, ?_, rfl⟩, fun hn' => ?_⟩
  ·simp only [ab]; cases (ent x i).alone <;> simp
  ·rcases hcur.2 with ⟨d1, d2, d3⟩ | ⟨d1, d2, d3, d4⟩
   ·have hal := hg.al
    simp only [ab] at d1 d2 hal
    omega
   ·simp only [ab] at d3 ⊢; omega
 ·rw [if_neg h3] at hm; cases hm
theorem R6 (h : Inv n nl x M) : ∀ (k : Nat) (l : List Entry), x.home.drop k = l → ∀ m ∈ C1 n k l, Bi (Hm n nl) m = 0 ∧ MX n x m := by
 intro k l
 induction l generalizing k with
 | nil => intro _ m hm; cases hm
 | cons e l ih =>
  intro hd m hm
  have hk : k < x.home.length := by
   apply Classical.byContradiction
   intro hge
   rw [List.drop_of_length_le (by omega)] at hd; cases hd
  rw [List.drop_eq_getElem_cons hk] at hd
  injection hd with he hd
  simp only [C1] at hm
  rcases List.mem_append.1 hm with hm | hm
  ·have : ent x k = e := by unfold ent; rw [List.getD_eq_getElem?_getD, List.getElem?_eq_getElem hk, he]; rfl
   rw [← this] at hm
   exact R4 h (by rw [← h.nh]; exact hk) m hm
  ·exact ih (k + 1) hd m (by push_cast; exact hm)
theorem O8 (h : Inv n nl x M) : Inv n nl ⟨x.cores, x.home, way x.frames (Gd x.home n)⟩ M :=
 h.way fun m hm => R6 h 0 x.home rfl m hm
theorem ask_ok (h : Inv n nl x M) {p i : Nat} (hp : p < n) (hi : i < nl) (hw : (lin x i p).want ≠ 0) : Bi (Hm n nl) (Cd (lin x i p) p n i) = 0 ∧ MX n x (Cd (lin x i p) p n i) := by
 have hci := h.ci i hi p hp
 have hwa := hci.wa
 refine ⟨Ig h hp hi (by omega) hci.se ⟨by omega, by omega⟩ (by have := hci.va; split <;> omega), MX.saidSame hp ?_⟩
 constructor <;> simp only <;> intro hk <;> first | exact ⟨Int.le_refl _, fun _ => ⟨trivial, trivial⟩⟩ | exact ⟨Int.le_refl _, fun _ => .inl ⟨trivial, hk, by rw [if_pos hk]⟩⟩ | omega
theorem P0 (h : Inv n nl x M) {p : Nat} (hp : p < n) : ∀ (k : Nat) (l : List Line), (cor x p).lines.drop k = l → ∀ m ∈ Cu p n k l, Bi (Hm n nl) m = 0 ∧ MX n x m := by
 intro k l
 induction l generalizing k with
 | nil => intro _ m hm; cases hm
 | cons e l ih =>
  intro hd m hm
  have hk : k < (cor x p).lines.length := by
   apply Classical.byContradiction
   intro hge
   rw [List.drop_of_length_le (by omega)] at hd; cases hd
  rw [List.drop_eq_getElem_cons hk] at hd
  injection hd with he hd
  have hlin : lin x k p = e := by unfold lin; rw [List.getD_eq_getElem?_getD, List.getElem?_eq_getElem hk, he]; rfl
  simp only [Cu] at hm
  split at hm
  ·rename_i hw
   rcases List.mem_cons.1 hm with hm | hm
   ·rw [hm, ← hlin]
    exact ask_ok h hp (by rw [← h.ncl p hp]; exact hk) (by rw [hlin]; exact hw)
   ·exact ih (k + 1) hd m (by push_cast; exact hm)
  ·exact ih (k + 1) hd m (by push_cast; exact hm)
theorem O9 (h : Inv n nl x M) {p : Nat} (hp : p < n) : Inv n nl ⟨x.cores, x.home, way x.frames (Dl (cor x p) p n)⟩ M :=
 h.way fun m hm => P0 h hp 0 _ rfl m hm
theorem Aig (h : Inv n nl x M) {i : Nat} (hi : i < nl) (e' : Entry) (fr : Frames) : ent ⟨x.cores, x.home.set i e', fr⟩ i = e' := by
 unfold ent
 rw [Dg _ _ _ _ _ (by rw [h.nh]; exact hi), if_pos rfl]
theorem Inv.homeSays {i : Nat} {e' : Entry} (h : Inv n nl x M) (hi : i < nl) (hI : Inv n nl ⟨x.cores, x.home.set i e', x.frames⟩ M) : Inv n nl ⟨x.cores, x.home.set i e', Go.Proofs.YtbigiimomnfpdaaGreat.way x.frames (Fm e' i n)⟩ M := by
 have := R4 hI hi
 rw [Aig h hi] at this
 exact hI.way this
end
end Go.Proofs.YtbigiimomnfpdaaGreat
namespace Go.Proofs.YtbigiimomnfpdaaGreat
open Abs
section
variable {n nl : Nat} {x : Chip} {M : List Int}
theorem Uh (e : Entry) : (ab e).alone = 1 ↔ e.alone = true := by simp only [ab]; cases e.alone <;> simp
theorem Rt (e : Entry) : (ab e).alone = 0 ↔ e.alone = false := by simp only [ab]; cases e.alone <;> simp
theorem Afz {p i : Nat} {m : Msg} (h : Inv n nl x M) (hp : p < n) (hi : i < nl) (hs : m.src = p) (hms : 0 ≤ m.serial ∧ m.serial ≤ 65535) (hM : MI (ab (ent x i)) p (lin x i p) m) (hk : m.kind = 1 ∨ m.kind = 2) (h0 : (ent x i).phase = 0)
  (hl : Eg (ent x i) m.src < m.serial) (ht : (ent x i).turn < 65535) : Inv n nl ⟨x.cores, x.home.set i (Q5 (ent x i) m), x.frames⟩ M := by
 have hn := h.n1
 have hb := h.bit i hi
 have hgi := h.gi i hi
 have hlast : (ent x i).last.getD p 0 < m.serial := by unfold Eg at hl; rw [hs, Int.toNat_natCast] at hl; exact hl
 have hla := h.nla i hi
 have hlu : (fun q => ((ent x i).last.set p m.serial).getD q 0) = upd (ab (ent x i)).last p m.serial := by
  funext q; rw [Dg _ _ _ _ _ (by rw [hla]; exact hp)]; rfl
 have hclr := Ua (by omega) hb.1 (show p < 4 by omega)
 have hbc := Km (Li (by omega) hb.1) (show p < 4 by omega)
 have hal : (if (m.kind == 2) = true then (1 : Int) else 0) = m.kind - 1 := by rcases hk with hk | hk <;> simp [hk]
 unfold Q5 Bd
 simp only [hs, Int.toNat_natCast]
 by_cases ho : 0 ≤ (ent x i).owner
 ·rw [if_pos ho]
  refine Ze4 ?_
  exact Agg hgi (h.ci i hi) hp hM hk hms h0 hlast ht rfl rfl rfl rfl rfl hal rfl hlu (.inl ⟨ho, rfl, fun q => Ew q⟩)
 ·rw [if_neg ho]
  by_cases hc : (m.kind == 2) = true ∧ Hl (ent x i).sharers p ≠ 0
  ·rw [if_pos hc]
   refine h.home hi (by simpa using hla) ⟨hb.1, hclr⟩ ?_
   refine Agg hgi (h.ci i hi) hp hM hk hms h0 hlast ht rfl rfl rfl rfl rfl hal rfl hlu (.inr (.inl ⟨by simp only [ab]; omega, by simpa using hc.1, rfl, Rj (by omega) hclr hc.2, fun q => ?_⟩))
   show E3 (Hl (ent x i).sharers p) q = _
   rw [hbc]; rfl
  ·rw [if_neg hc]
   refine Ze4 ?_
   refine Agg hgi (h.ci i hi) hp hM hk hms h0 hlast ht rfl rfl rfl rfl rfl hal rfl hlu (.inr (.inr ⟨by simp only [ab]; omega, rfl, fun q => Ew q, fun hk2 q hq hqp => ?_⟩))
   have hz : Hl (ent x i).sharers p = 0 := Classical.byContradiction fun hz => hc ⟨by simp [hk2], hz⟩
   have := congrFun hbc q
   exact Zg7
theorem Afy {p i : Nat} {m : Msg} (h : Inv n nl x M) (hp : p < n) (hi : i < nl) (hs : m.src = p) (hms : 0 ≤ m.serial ∧ m.serial ≤ 65535) (hmv : 0 ≤ m.value ∧ m.value ≤ 255) (hM : MI (ab (ent x i)) p (lin x i p) m) (hk : m.kind = 3) (h0 : (ent x i).phase = 0) :
  Inv n nl ⟨x.cores, x.home.set i (H7 (ent x i) m), x.frames⟩ M ∧ m.serial ≤ (H7 (ent x i) m).last.getD p 0 := by
 have hb := h.bit i hi
 have hgi := h.gi i hi
 have hla := h.nla i hi
 have hlu : (fun q => ((ent x i).last.set p m.serial).getD q 0) = upd (ab (ent x i)).last p m.serial := by
  funext q; rw [Dg _ _ _ _ _ (by rw [hla]; exact hp)]; rfl
 have hlast : Eg (ent x i) m.src = (ent x i).last.getD p 0 := by unfold Eg; rw [hs, Int.toNat_natCast]
 unfold H7
 simp only [hs, Int.toNat_natCast] at hlast ⊢
 rw [hlast]
 by_cases hl : (ent x i).last.getD p 0 < m.serial
 ·rw [if_pos hl]
  by_cases ho : (ent x i).owner = p
  ·rw [if_pos ho]
   refine ⟨h.home hi (by simpa using hla) hb ?_, ?_⟩
   ·exact h_put hgi (h.ci i hi) hp hM hk hmv h0 hl rfl rfl rfl rfl rfl hlu rfl rfl (.inl ⟨ho, rfl, rfl⟩)
   ·exact Zg6
  ·rw [if_neg ho]
   refine ⟨h.home hi (by simpa using hla) hb ?_, ?_⟩
   ·exact h_put hgi (h.ci i hi) hp hM hk hmv h0 hl rfl rfl rfl rfl rfl hlu rfl rfl (.inr ⟨ho, rfl, rfl⟩)
   ·exact Zg6
 ·rw [if_neg hl]
  have : x.home.set i (ent x i) = x.home := Fg _ _ _ (by rw [h.nh]; exact hi)
  rw [this]
  exact ⟨h, by omega⟩
theorem Abb {p i : Nat} {m : Msg} (h : Inv n nl x M) (hp : p < n) (hi : i < nl) (hs : m.src = p) (hmv : 0 ≤ m.value ∧ m.value ≤ 255) (hM : MI (ab (ent x i)) p (lin x i p) m) (hk : m.kind = 9) (h0 : (ent x i).phase = 1) (ht : m.turn = (ent x i).turn) (ho : m.src = (ent x i).owner) :
  Inv n nl ⟨x.cores, x.home.set i (G2 (ent x i) m), x.frames⟩ M := by
 have hn := h.n1
 have hb := h.bit i hi
 have hgi := h.gi i hi
 have hla := h.nla i hi
 have hop : (ent x i).owner = p := by rw [← ho]; exact hs
 have hf := hgi.f1 h0
 have hsh0 : ∀ q, q < n → E3 (ent x i).sharers q = 0 := by
  intro q hq
  have h1 := (h.ci i hi q hq).shs
  have h2 := (h.ci i hi q hq).bits
  simp only [ab] at h1 h2 hf
  omega
 have hz : (ent x i).sharers = 0 := by
  refine Nd (Li (by omega) hb.1) fun q _ => ?_
  by_cases hq : q < n
  ·exact hsh0 q hq
  ·unfold E3
   refine Zey ?_
   rfl
 have hpos : 0 < 2 ^ n := Nat.two_pow_pos n
 unfold G2 Bd
 simp only
 rw [if_neg (by omega)]
 have hclr0 : ∀ w : Int, Hl 0 w = 0 := by intro w; unfold Hl Jk; simp
 have hc : ¬ ((ent x i).alone = true ∧ Hl (if (ent x i).alone = true then (ent x i).sharers else H5 (ent x i).sharers (ent x i).owner) (ent x i).who ≠ 0) := by
  rintro ⟨h1, h2⟩
  rw [if_pos h1, hz, hclr0] at h2
  exact h2 rfl
 rw [if_neg hc]
 refine h.home hi hla ⟨?_, ⟨by simp only; omega, by simp only; omega⟩⟩ ?_
 ·simp only
  split
  ·exact hb.1
  ·rw [hop]; exact Ado (by omega) hb.1 hp
 ·refine h_data hgi (h.ci i hi) hp hM hk hmv h0 ht hop rfl rfl (fun q => ?_) rfl rfl rfl rfl rfl rfl (fun q => Ew q)
  show E3 (if (ent x i).alone = true then (ent x i).sharers else H5 (ent x i).sharers (ent x i).owner) q = if q = p ∧ (ab (ent x i)).alone = 0 then 1 else E3 (ent x i).sharers q
  have ha0 := Rt (ent x i)
  have hbs := Rk (Li (by omega) hb.1) (show p < 4 by omega) q
  rw [hop]
  cases hal : (ent x i).alone with
  | true => rw [hal] at ha0; simp only [Bool.true_eq_false, iff_false] at ha0; simp [ha0]
  | false => rw [hal] at ha0; simp only [iff_true] at ha0; simp [ha0, hbs]
theorem Aba {p i : Nat} {m : Msg} (h : Inv n nl x M) (hp : p < n) (hi : i < nl) (hs : m.src = p) (hM : MI (ab (ent x i)) p (lin x i p) m) (hk : m.kind = 8) (h0 : (ent x i).phase = 2) (ht : m.turn = (ent x i).turn) (ho : Jk (ent x i).need m.src = true) :
  Inv n nl ⟨x.cores, x.home.set i (if (Ct (ent x i) m).need = 0 then Bd (Ct (ent x i) m) else Ct (ent x i) m), x.frames⟩ M := by
 have hn := h.n1
 have hb := h.bit i hi
 have hgi := h.gi i hi
 have hla := h.nla i hi
 have hnd : E3 (ent x i).need p = 1 := by rw [hs] at ho; exact (Sn _ _).1 ho
 have hc1 := Ua (by omega) hb.1 (show p < 4 by omega)
 have hc2 := Ua (by omega) hb.2 (show p < 4 by omega)
 have hb1 := Km (Li (by omega) hb.1) (show p < 4 by omega)
 have hb2 := Km (Li (by omega) hb.2) (show p < 4 by omega)
 have hown := hgi.f23 (by show 2 ≤ (ent x i).phase; omega)
 simp only [ab] at hown
 have hal := (hgi.c2 h0).1
 rw [Uh] at hal
 unfold Ct
 simp only [hs]
 by_cases hz : Hl (ent x i).need p = 0
 ·rw [if_pos hz]
  have hrest : ∀ q : Nat, q ≠ p → q < n → E3 (ent x i).need q = 0 := by
   intro q hqp hq
   have := congrFun hb2 q
   exact Zg7
  have hpw : (ent x i).who ≠ p := ((h.ci i hi p hp).ned hnd).2.1
  have hsh : ∀ q, q < n → (ent x i).who ≠ q → q ≠ p → E3 (ent x i).sharers q = 0 := by
   intro q hq hqw hqp
   have := (h.ci i hi q hq).cle h0 hqw
   simp only [ab] at this
   rw [← this]; exact hrest q hqp hq
  have hw := hgi.whor (by show (ent x i).phase ≠ 0; omega)
  simp only [ab] at hw
  obtain ⟨w, hw'⟩ : ∃ w : Nat, (ent x i).who = w := ⟨(ent x i).who.toNat, by omega⟩
  have hcc : Hl (Hl (ent x i).sharers p) (ent x i).who = 0 := by
   rw [hw']
   have hc3 := Ua (by omega) hc1 (show w < 4 by omega)
   refine Nd (Li (by omega) hc3) fun q hq4 => ?_
   rw [Km (Li (by omega) hc1) (by omega), hb1]
   unfold upd
   split
   ·rfl
   ·split
    ·rfl
    ·by_cases hq : q < n
     ·exact hsh q hq (by omega) (by assumption)
     ·unfold E3
      refine Zey ?_
      rfl
  have hne : Bd { ent x i with need := Hl (ent x i).need p, sharers := Hl (ent x i).sharers p } = { ent x i with need := 0, sharers := Hl (ent x i).sharers p, phase := 3 } := by
   unfold Bd
   simp only
   rw [if_neg (by omega), if_neg (by rintro ⟨_, h2⟩; exact h2 hcc)]
  rw [hne]
  refine h.home hi hla ⟨hc1, ⟨by simp only; omega, by have : 0 < 2 ^ n := Nat.two_pow_pos n; simp only; omega⟩⟩ ?_
  exact Ady hgi (h.ci i hi) hp hM hk h0 ht hnd rfl rfl hb1 rfl rfl rfl rfl rfl (.inr ⟨rfl, fun q => Ew q, fun q h1 h2 => hrest q h1 h2⟩)
 ·rw [if_neg hz]
  refine h.home hi hla ⟨hc1, hc2⟩ ?_
  exact Ady hgi (h.ci i hi) hp hM hk h0 ht hnd rfl rfl hb1 rfl rfl rfl rfl rfl (.inl ⟨h0, hb2, Rj (by omega) hc2 hz⟩)
theorem U4 {p i : Nat} {m : Msg} (h : Inv n nl x M) (hp : p < n) (hi : i < nl) (hs : m.src = p) (hM : MI (ab (ent x i)) p (lin x i p) m) (hk : m.kind = 10) (h0 : (ent x i).phase = 3) (ht : m.turn = (ent x i).turn) (ho : m.src = (ent x i).who) :
  Inv n nl ⟨x.cores, x.home.set i (D3 (ent x i)), x.frames⟩ M := by
 have hn := h.n1
 have hb := h.bit i hi
 have hgi := h.gi i hi
 have hla := h.nla i hi
 have hwp : (ent x i).who = p := by rw [← ho]; exact hs
 have hpos : 0 < 2 ^ n := Nat.two_pow_pos n
 unfold D3
 split
 ·rename_i hal
  refine h.home hi hla ⟨⟨by simp only; omega, by simp only; omega⟩, hb.2⟩ ?_
  exact Tw hgi (h.ci i hi) hp hM hk h0 ht hwp rfl rfl rfl rfl rfl rfl rfl (fun q => rfl) (.inl ⟨(Uh _).2 hal, hwp, fun q => Ew q⟩)
 ·rename_i hal
  refine h.home hi hla ⟨by simp only; rw [hwp]; exact Ado (by omega) hb.1 hp, hb.2⟩ ?_
  refine Tw hgi (h.ci i hi) hp hM hk h0 ht hwp rfl rfl rfl rfl rfl rfl rfl (fun q => rfl) (.inr ⟨(Rt _).2 (by simpa using hal), rfl, fun q => ?_⟩)
  show E3 (H5 (ent x i).sharers (ent x i).who) q = _
  rw [hwp, Rk (Li (by omega) hb.1) (by omega)]; rfl
theorem Qs {p : Nat} {m : Msg} (h : Inv n nl x M) (hp : p < n) (hs : m.src = p) (hd : m.dst = n) (hl : 0 ≤ m.line ∧ m.line < nl) (hr : (0 ≤ m.serial ∧ m.serial ≤ 65535) ∧ (0 ≤ m.turn ∧ m.turn ≤ 65535) ∧ (0 ≤ m.value ∧ m.value ≤ 255)) (hm : MX n x m) :
  Inv n nl ⟨x.cores, (Ak x.home n m).1, way x.frames (Ak x.home n m).2⟩ M := by
 obtain ⟨i, hi⟩ : ∃ i : Nat, m.line = i := ⟨m.line.toNat, by omega⟩
 have hin : i < nl := by omega
 have hen : Ad x.home m.line = ent x i := by unfold Ad ent; rw [hi, Int.toNat_natCast]
 have hla := h.nla i hin
 have hMI : MI (ab (ent x i)) p (lin x i p) m := by
  unfold MX at hm
  have : Uy n m = p := by unfold Uy; rw [if_pos hd, hs]; simp
  rw [this, hi, Int.toNat_natCast] at hm
  exact hm
 have hsame : x.home.set i (ent x i) = x.home := Fg _ _ _ (by rw [h.nh]; exact hin)
 unfold Ak
 rw [hen, if_neg (by rw [h.nh, hla]; omega)]
 simp only [hi, Int.toNat_natCast]
 unfold Ah
 by_cases k1 : m.kind = 1 ∨ m.kind = 2
 ·rw [if_pos k1]
  by_cases hc : (ent x i).phase ≠ 0 ∨ m.serial ≤ Eg (ent x i) m.src ∨ 65535 ≤ (ent x i).turn
  ·rw [if_pos hc]; simp only [way]; rw [hsame]; exact h
  ·rw [if_neg hc, hi]
   exact h.homeSays hin (Afz h hp hin hs hr.1 hMI k1 (by omega) (by omega) (by omega))
 rw [if_neg k1]
 by_cases k3 : m.kind = 3
 ·rw [if_pos k3]
  by_cases hc : (ent x i).phase ≠ 0
  ·rw [if_pos hc]; simp only [way]; rw [hsame]; exact h
  ·rw [if_neg hc]
   obtain ⟨hI, hle⟩ := Afy h hp hin hs hr.1 hr.2.2 hMI k3 (by omega)
   refine hI.way fun m' hm' => ?_
   rw [List.mem_singleton.1 hm', hs, hi]
   refine ⟨Oh h hp hin (by omega) hr.1 (by omega) (by omega), MX.told h hp hin ?_⟩
   constructor <;> simp only <;> intro hk <;> first | omega | exact hle
 rw [if_neg k3]
 by_cases k9 : m.kind = 9 ∧ m.turn = (ent x i).turn ∧ (ent x i).phase = 1 ∧ m.src = (ent x i).owner
 ·rw [if_pos k9, hi]
  exact h.homeSays hin (Abb h hp hin hs hr.2.2 hMI k9.1 k9.2.2.1 k9.2.1 k9.2.2.2)
 rw [if_neg k9]
 by_cases k8 : m.kind = 8 ∧ m.turn = (ent x i).turn ∧ (ent x i).phase = 2 ∧ Jk (ent x i).need m.src = true
 ·rw [if_pos k8]
  have hI := Aba h hp hin hs hMI k8.1 k8.2.2.1 k8.2.1 k8.2.2.2
  by_cases hz : (Ct (ent x i) m).need = 0
  ·rw [if_pos hz] at hI ⊢; rw [hi]; exact h.homeSays hin hI
  ·rw [if_neg hz] at hI ⊢; exact hI
 rw [if_neg k8]
 by_cases k10 : m.kind = 10 ∧ m.turn = (ent x i).turn ∧ (ent x i).phase = 3 ∧ m.src = (ent x i).who
 ·rw [if_pos k10]
  exact U4 h hp hin hs hMI k10.1 k10.2.2.1 k10.2.1 k10.2.2.2
 ·rw [if_neg k10]; simp only [way]; rw [hsame]; exact h
theorem Aef (h : Inv n nl x M) : Ap x = Hm n nl := by unfold Ap Hm Bk; rw [h.nc, h.nh]
theorem Pj {p : Nat} : As x p = cor x p := by unfold As cor; rw [Int.toNat_natCast]
theorem Qt {b : List UInt8} (h : Inv n nl x M) (hb : b.length = 12 ∧ ∀ m, Af (Hm n nl) b = (m, 0) → MX n x m) :
  ∃ M', Inv n nl (Cl x b).1 M' ∧ Fb M (Cl x b).2 M' := by
 unfold Cl
 rw [Aef h]
 have hnc : Bk x = n := by unfold Bk; rw [h.nc]
 rw [hnc]
 by_cases he : (Af (Hm n nl) b).2 ≠ 0
 ·rw [if_pos he]; exact ⟨M, h, rfl⟩
 rw [if_neg he]
 have hpar : Af (Hm n nl) b = ((Af (Hm n nl) b).1, 0) := by
  have : (Af (Hm n nl) b).2 = 0 := Classical.byContradiction he
  rw [← this]
 have hm := hb.2 _ hpar
 obtain ⟨w1, w2, w3, w4, w5, w6, w7⟩ := Iy (J6 hpar).2.2.2.2.1
 generalize (Af (Hm n nl) b).1 = m at hm w1 w2 w3 w4 w5 w6 w7 ⊢
 simp only [Hm] at w2 w3 w7
 by_cases hd : m.dst = (n : Int)
 ·rw [if_pos hd]
  have hs : ¬ m.src = (n : Int) := fun hs => w7 ⟨fun _ => hd, fun _ => hs⟩
  obtain ⟨p, hp⟩ : ∃ p : Nat, m.src = p := ⟨m.src.toNat, by omega⟩
  exact ⟨M, Qs h (by omega) hp hd w3 ⟨w4, w5, w6⟩ hm, rfl⟩
 ·rw [if_neg hd]
  have hs : m.src = (n : Int) := Classical.byContradiction fun hs => w7 ⟨fun h => absurd h hs, fun h => absurd h hd⟩
  obtain ⟨p, hp⟩ : ∃ p : Nat, m.dst = p := ⟨m.dst.toNat, by omega⟩
  rw [hp, Pj]
  exact Aaz h (by omega) hp hs w3 ⟨w4, w5, w6⟩ hm
theorem Tt {s : Step} (h : Inv n nl x M) (hok : (Al x s).2.2 = 0) : ∃ M', Inv n nl (Al x s).1 M' ∧ Fb M (Al x s).2.1 M' := by
 have hnc : Bk x = n := by unfold Bk; rw [h.nc]
 have hcf := Aef h
 unfold Al at hok ⊢
 rw [hnc] at hok ⊢
 rw [hcf] at hok ⊢
 by_cases k1 : s.kind = 1
 ·rw [if_pos k1] at hok ⊢
  split at hok
  ·cases hok
  rename_i hnode
  rw [if_neg hnode]
  obtain ⟨p, hp⟩ : ∃ p : Nat, s.node = p := ⟨s.node.toNat, by omega⟩
  have hpn : p < n := by omega
  rw [hp, Pj] at hok ⊢
  split at hok
  ·rename_i hz; exact absurd hok hz
  rename_i hz
  rw [if_neg hz]
  exact Xf h hpn (Classical.byContradiction hz)
 rw [if_neg k1] at hok ⊢
 by_cases k2 : s.kind = 2
 ·rw [if_pos k2] at hok ⊢
  split at hok
  ·cases hok
  rename_i hf
  rw [if_neg hf]
  exact Qt (h.erase _) (h.mi _ (Ka hf))
 rw [if_neg k2] at hok ⊢
 by_cases k3 : s.kind = 3
 ·rw [if_pos k3] at hok ⊢
  split at hok
  ·cases hok
  rename_i hf
  rw [if_neg hf]
  exact ⟨M, h.erase _, rfl⟩
 rw [if_neg k3] at hok ⊢
 by_cases k4 : s.kind = 4
 ·rw [if_pos k4] at hok ⊢
  split at hok
  ·cases hok
  rename_i hf
  rw [if_neg hf]
  exact ⟨M, h.send (h.mi _ (Ka hf)), rfl⟩
 rw [if_neg k4] at hok ⊢
 by_cases k5 : s.kind = 5
 ·rw [if_pos k5] at hok ⊢
  split at hok
  ·cases hok
  rename_i hf
  rw [if_neg hf]
  split at hok
  ·cases hok
  rename_i hq
  rw [if_neg hq]
  split at hok
  ·rename_i hz; exact absurd hok hz
  rename_i hz
  rw [if_neg hz]
  have hf' : ¬ (s.n < 0 ∨ (x.frames.length : Int) ≤ s.n) := hf
  unfold Cg at hz ⊢
  rw [if_neg hf'] at hz ⊢
  split at hz
  ·exact absurd (show (3 : Int) ≠ 0 by decide) hz
  rename_i hbit
  rw [if_neg hbit]
  exact ⟨M, h.spoil hf' (Classical.byContradiction hq) (by omega) (by omega), rfl⟩
 rw [if_neg k5] at hok ⊢
 by_cases k6 : s.kind = 6
 ·rw [if_pos k6] at hok ⊢
  split at hok
  ·cases hok
  rename_i hnode
  rw [if_neg hnode]
  by_cases hh : s.node = (n : Int)
  ·rw [if_pos hh, hh]; exact ⟨M, O8 h, rfl⟩
  ·rw [if_neg hh]
   obtain ⟨p, hp⟩ : ∃ p : Nat, s.node = p := ⟨s.node.toNat, by omega⟩
   rw [hp, Pj]
   exact ⟨M, O9 h (by omega), rfl⟩
 ·rw [if_neg k6] at hok; cases hok
end
end Go.Proofs.YtbigiimomnfpdaaGreat
namespace Go.Proofs.YtbigiimomnfpdaaGreat
open Abs
section
variable {n nl : Nat} {x : Chip} {M : List Int}
theorem Fu {α : Type} (k i : Nat) (a d : α) (h : i < k) : (List.replicate k a).getD i d = a := by
 rw [List.getD_eq_getElem?_getD, List.getElem?_replicate, if_pos h]; rfl
theorem Jh {α : Type} (k i : Nat) (a : α) : (List.replicate k a).getD i a = a := by
 rw [List.getD_eq_getElem?_getD, List.getElem?_replicate]; split <;> rfl
def Hs (n nl : Nat) : Chip := ⟨List.replicate n ⟨List.replicate nl zLine, zOp⟩, List.replicate nl { Az with last := List.replicate n 0 }, []⟩
theorem My (hn : 1 ≤ n ∧ n ≤ 4) (hl : 1 ≤ nl ∧ nl ≤ 4) : Inv n nl (Hs n nl) (List.replicate nl 0) := by
 have hcor : ∀ p, p < n → cor (Hs n nl) p = ⟨List.replicate nl zLine, zOp⟩ := fun p hp => Fu _ _ _ _ hp
 have hlin : ∀ i p, i < nl → p < n → lin (Hs n nl) i p = zLine := by
  intro i p hi hp; unfold lin; rw [hcor p hp]; exact Fu _ _ _ _ hi
 have hent : ∀ i, i < nl → ent (Hs n nl) i = { Az with last := List.replicate n 0 } := fun i hi => Fu _ _ _ _ hi
 have hpos : 0 < 2 ^ n := Nat.two_pow_pos n
 have hM : ∀ i, (List.replicate nl (0 : Int)).getD i 0 = 0 := fun i => Jh _ _ _
 refine ⟨hn, hl, by simp [Hs], by simp [Hs], ?_, ?_, by simp, ?_, ?_, ?_, ?_, ?_, by simp [Hs], ?_⟩
 ·intro p hp; rw [hcor p hp]; simp
 ·intro i hi; rw [hent i hi]; simp
 ·intro i hi; rw [hM]; omega
 ·intro i hi; rw [hent i hi]; simp only [Az]; omega
 ·intro i hi; rw [hent i hi]
  have h1 : ∀ q, E3 0 q = 0 := fun q => Ew q
  constructor <;> simp only [ab, Az] <;> first | omega | (intro h; omega) | simp
 ·intro i hi p hp
  rw [hent i hi, hlin i p hi hp, hM]
  have h1 : E3 0 p = 0 := Ew p
  have h2 : (List.replicate n (0 : Int)).getD p 0 = 0 := Jh _ _ _
  constructor <;> simp only [ab, Az, zLine] <;> (try rw [h1]) <;> (try rw [h2]) <;> first | omega | simp
 ·intro p hp
  rw [hcor p hp]
  constructor
  ·intro _; exact ⟨rfl, fun i hi => by rw [Fu _ _ _ _ hi]; rfl⟩
  ·intro h; exact absurd rfl h
 ·intro b hb; cases hb
theorem I9 {c : Config} (h : (A4 c).2 = 0) : ∃ n nl : Nat, (1 ≤ n ∧ n ≤ 4) ∧ (1 ≤ nl ∧ nl ≤ 4) ∧ c = Hm n nl ∧ A4 c = (Hs n nl, 0) := by
 unfold A4 at h ⊢
 split at h
 ·cases h
 rename_i hc
 have hc0 : Ed c = 0 := Classical.byContradiction hc
 unfold Ed at hc0
 split at hc0
 ·cases hc0
 rename_i hr
 refine ⟨c.cores.toNat, c.lines.toNat, by omega, by omega, ?_, ?_⟩
 ·unfold Hm; cases c; simp only [Config.mk.injEq]; simp only at hr; omega
 ·rw [if_neg hc]; rfl
theorem Kg {M M' M'' : List Int} : ∀ {a b : List Done}, Fb M a M' → Fb M' b M'' → Fb M (a ++ b) M''
 | [], b, h1, h2 => by rw [show M' = M from h1] at h2; exact h2
 | d :: a, b, ⟨h1, h2, h3, h4, h5⟩, h6 => ⟨h1, h2, h3, h4, Kg h5 h6⟩
theorem Kb : ∀ (l : List Step) {x : Chip} {M : List Int}, Inv n nl x M → ∃ M', Inv n nl (Fq x l).1 M' ∧ Fb M (Fq x l).2 M'
 | [], x, M, h => ⟨M, h, rfl⟩
 | s :: r, x, M, h => by
  simp only [Fq]
  split
  ·rename_i hok
   obtain ⟨M1, h1, d1⟩ := Tt h hok
   obtain ⟨M2, h2, d2⟩ := Kb r h1
   exact ⟨M2, h2, Kg d1 d2⟩
  ·exact Kb r h
theorem Qu {c : Config} {l : List Step} (h : (A4 c).2 = 0) : ∃ n nl : Nat, c = Hm n nl ∧ ∃ M, Inv n nl (build c l).1 M ∧ Fb (List.replicate nl 0) (build c l).2 M := by
 obtain ⟨n, nl, h1, h2, h3, h4⟩ := I9 h
 refine ⟨n, nl, h3, ?_⟩
 unfold build
 rw [if_neg (by rw [h]; simp), h4]
 exact Kb _ (My h1 h2)
end
set_option maxHeartbeats 1000000
set_option maxRecDepth 8000
variable {L : List Chunk} {R : List Fact} {w : World}
theorem Tx {α : Type} {l : List α} {d : α} {P : α → Prop} (h : ∀ i, i < l.length → P (l.getD i d)) : ∀ x ∈ l, P x := by
 intro x hx
 obtain ⟨i, hi, rfl⟩ := List.getElem_of_mem hx
 have := h i hi
 rwa [List.getD_eq_getElem?_getD, List.getElem?_eq_getElem hi] at this
section
variable {n nl : Nat} {x : Chip} {M : List Int}
open Abs
theorem Inv.kb (h : Inv n nl x M) {p : Nat} (hp : p < n) : KB (cor x p) := by
 have h1 := h.ncl p hp
 have h2 := h.l1
 refine ⟨by omega, fun i hi => (h.ci i (by omega) p hp).va, by rw [h1]; exact h.cw p hp⟩
theorem Inv.eb (h : Inv n nl x M) {i : Nat} (hi : i < nl) : EB (ent x i) := by
 have hg := h.gi i hi
 have hb := h.bit i hi
 have hn := h.n1
 have b1 := Li hn.2 hb.1
 have b2 := Li hn.2 hb.2
 have w : 0 ≤ (ent x i).who ∧ (ent x i).who < 4 := by
  by_cases h0 : (ent x i).phase = 0
  ·have := (hg.idle h0).1; simp only [ab] at this; omega
  ·have := hg.whor h0; simp only [ab] at this; omega
 have o := hg.own; have ph := hg.ph; have tu := hg.tu; have va := hg.va; have se := hg.se
 simp only [ab] at o ph tu va se
 unfold EB Entry.wf Ao
 omega
theorem Inv.ebd (h : Inv n nl x M) {i : Nat} (hi : i < nl) : ((ent x i).turn ≤ 65535) ∧ (0 ≤ (ent x i).serial ∧ (ent x i).serial ≤ 65535) ∧ (0 ≤ (ent x i).value ∧ (ent x i).value ≤ 255) := by
 have hg := h.gi i hi
 exact ⟨hg.tu.2, hg.se, hg.va⟩
def LB (l : Line) : Prop := (0 ≤ l.value ∧ l.value ≤ 255) ∧ (0 ≤ l.want ∧ l.want ≤ 3) ∧ (0 ≤ l.serial ∧ l.serial ≤ 65535) ∧ (0 ≤ l.gave ∧ l.gave ≤ 65535) ∧ (0 ≤ l.given ∧ l.given ≤ 255) ∧ (0 ≤ l.seen ∧ l.seen ≤ 65535) ∧ (0 ≤ l.state ∧ l.state ≤ 3)
theorem Inv.lb (h : Inv n nl x M) {i p : Nat} (hi : i < nl) (hp : p < n) : LB (lin x i p) := by
 have hc := h.ci i hi p hp
 have ht := (h.gi i hi).tu
 have h1 := hc.ga
 exact ⟨hc.va, hc.wa, hc.se, by omega, hc.gi, by omega, hc.st⟩
end
theorem Aeo {l : Line} (h : LB l) {id home i : Int} (h1 : 0 ≤ id ∧ id ≤ 15) (h2 : 0 ≤ home ∧ home ≤ 15) (h3 : 0 ≤ i ∧ i ≤ 255) : MsgIn (Cd l id home i) := by
 unfold Cd MsgIn; unfold LB at h; simp only; split <;> omega
theorem L6 {kind id home i t v : Int} (h1 : 0 ≤ id ∧ id ≤ 15) (h2 : 0 ≤ home ∧ home ≤ 15) (h3 : 0 ≤ i ∧ i ≤ 255) (hk : 0 ≤ kind ∧ kind ≤ 255) (ht : 0 ≤ t ∧ t ≤ 65535) (hv : 0 ≤ v ∧ v ≤ 255) : MsgIn (Bj kind id home i t v) := by
 unfold Bj MsgIn; simp only; omega
theorem Ud {c : Core} {id home : Int} {o : Op} (h1 : 0 ≤ id ∧ id ≤ 15) (h2 : 0 ≤ home ∧ home ≤ 15) (hl : c.lines.length ≤ 4) (hb : ∀ i, i < c.lines.length → LB (c.lines.getD i zLine)) : ∀ m ∈ (Aj c id home o).2.1, MsgIn m := by
 unfold Aj
 split
 ·intro m hm; cases hm
 split
 ·intro m hm; cases hm
 split
 ·intro m hm; cases hm
 rename_i k1 k2 k3
 split
 ·intro m hm; cases hm
 ·intro m hm
  rw [List.mem_singleton.1 hm]
  have hL : LB (Ac c o.line) := hb o.line.toNat (by omega)
  refine Aeo ?_ h1 h2 (by omega)
  unfold LB at hL ⊢
  unfold A1
  split
  ·split <;> simp only <;> omega
  split
  ·exfalso
   rename_i h3 h4 h5
   apply h3
   unfold A8
   rw [if_neg h4]
   simp; omega
  ·split <;> simp only <;> omega
theorem Xk {c : Core} {id home : Int} {m : Msg} (h1 : 0 ≤ id ∧ id ≤ 15) (h2 : 0 ≤ home ∧ home ≤ 15) (hl : c.lines.length ≤ 4) (hb : ∀ i, i < c.lines.length → LB (c.lines.getD i zLine)) (ht : 0 ≤ m.turn ∧ m.turn ≤ 65535) : ∀ a ∈ (Ae c id home m).2.1, MsgIn a := by
 unfold Ae
 split
 ·exact Zgc
 rename_i k1
 have hL : LB (Ac c m.line) := hb m.line.toNat (by omega)
 have h3 : 0 ≤ m.line ∧ m.line ≤ 255 := by omega
 unfold LB at hL
 split
 ·exact ZfD
 split
 ·split
  ·exact ZfD
  split
  ·intro a ha; rw [List.mem_singleton.1 ha]; exact L6 h1 h2 h3 (by omega) (by omega) (by omega)
  ·exact Zgc
 split
 ·split
  ·exact Zgc
  split
  ·exact ZfD
  ·exact ZfD
 split
 ·exact Zgc
 ·exact Zgc
theorem says_in {e : Entry} {i id : Int} (he : EB e) (ht : e.turn ≤ 65535) (hs : 0 ≤ e.serial ∧ e.serial ≤ 65535) (hv : 0 ≤ e.value ∧ e.value ≤ 255) (hp : e.phase = 1 → 0 ≤ e.owner) (hi : 0 ≤ i ∧ i ≤ 255) (hd : 0 ≤ id ∧ id ≤ 15) : ∀ a ∈ Fm e i id, MsgIn a := by
 unfold Fm
 unfold EB at he
 split
 ·rename_i h1
  have := hp h1
  intro a ha; rw [List.mem_singleton.1 ha]; unfold MsgIn; simp only; split <;> omega
 split
 ·intro a ha
  obtain ⟨p, hp, rfl⟩ := List.mem_map.1 ha
  have h4 := (List.mem_filter.1 hp).1
  have : 0 ≤ p ∧ p ≤ 3 := by
   simp only [List.mem_cons, List.not_mem_nil, or_false] at h4; omega
  unfold MsgIn; simp only; omega
 split
 ·exact ZgR
 ·exact Zgc
theorem O6 {e : Entry} : (Bd e).phase = 1 → 0 ≤ (Bd e).owner := by
 unfold Bd; split
 ·intro _; assumption
 split
 ·intro h; simp at h
 ·intro h; simp at h
theorem Kt (e : Entry) : (Bd e).turn = e.turn ∧ (Bd e).serial = e.serial ∧ (Bd e).value = e.value ∧ (Bd e).owner = e.owner ∧ (Bd e).last = e.last := by
 unfold Bd; split
 ·simp
 split <;> simp
theorem M3 {l : List Entry} {id : Int} {m : Msg} (hd : 0 ≤ id ∧ id ≤ 15) (hl : l.length ≤ 4) (hb : ∀ i, i < l.length → EB (l.getD i Az) ∧ (l.getD i Az).turn ≤ 65535 ∧ (0 ≤ (l.getD i Az).serial ∧ (l.getD i Az).serial ≤ 65535) ∧ (0 ≤ (l.getD i Az).value ∧ (l.getD i Az).value ≤ 255) ∧ (l.getD i Az).last.length ≤ 4)
  (hs : 0 ≤ m.serial ∧ m.serial ≤ 65535) (hv : 0 ≤ m.value ∧ m.value ≤ 255) : ∀ a ∈ (Ak l id m).2, MsgIn a := by
 unfold Ak
 split
 ·exact Zgc
 rename_i k
 obtain ⟨h1, h2, h3, h4, h5⟩ := hb m.line.toNat (by omega)
 change EB (Ad l m.line) at h1
 change (Ad l m.line).turn ≤ 65535 at h2
 change 0 ≤ (Ad l m.line).serial ∧ (Ad l m.line).serial ≤ 65535 at h3
 change 0 ≤ (Ad l m.line).value ∧ (Ad l m.line).value ≤ 255 at h4
 change (Ad l m.line).last.length ≤ 4 at h5
 have hi : 0 ≤ m.line ∧ m.line ≤ 255 := by omega
 have hE := h1
 unfold EB Entry.wf Ao at hE
 simp only
 generalize Ad l m.line = e at h1 h2 h3 h4 h5 hE k
 unfold Ah
 split
 ·split
  ·exact Zgc
  ·rename_i k2
   have hX : EB { e with last := e.last.set m.src.toNat m.serial, who := m.src, serial := m.serial, alone := m.kind == 2, turn := e.turn + 1 } := by unfold EB Entry.wf Ao; simp only; omega
   have hr := Kt { e with last := e.last.set m.src.toNat m.serial, who := m.src, serial := m.serial, alone := m.kind == 2, turn := e.turn + 1 }
   simp only at hr
   unfold Q5
   exact says_in (C8 hX) (by rw [hr.1]; omega) (by rw [hr.2.1]; exact hs) (by rw [hr.2.2.1]; exact h4) O6 hi hd
 split
 ·split
  ·exact Zgc
  ·exact ZgR
 split
 ·rename_i k3
  have hs4 : 0 ≤ (if e.alone = true then e.sharers else H5 e.sharers e.owner) ∧ (if e.alone = true then e.sharers else H5 e.sharers e.owner) < 16 := by
   split
   ·omega
   ·obtain ⟨_, _, r, _⟩ := Cm hE.2.1.1 hE.2.1.2 (show 0 ≤ e.owner by omega) hE.2.2.2.2.1.2; exact r
  have hX : EB { e with value := m.value, sharers := if e.alone then e.sharers else H5 e.sharers e.owner, owner := -1 } := by
   exact Zgp
  have hr := Kt { e with value := m.value, sharers := if e.alone then e.sharers else H5 e.sharers e.owner, owner := -1 }
  simp only at hr
  unfold G2
  exact says_in (C8 hX) (by rw [hr.1]; exact h2) (by rw [hr.2.1]; exact h3) (by rw [hr.2.2.1]; exact hv) O6 hi hd
 split
 ·split
  ·have c1 := (Cm hE.2.1.1 hE.2.1.2 (show 0 ≤ m.src by omega) (show m.src < 4 by omega)).2.2.2
   have c2 := (Cm hE.2.2.1.1 hE.2.2.1.2 (show 0 ≤ m.src by omega) (show m.src < 4 by omega)).2.2.2
   have hX : EB (Ct e m) := by
    unfold Ct EB Entry.wf Ao; simp only; omega
   have hr := Kt (Ct e m)
   exact says_in (C8 hX) (by rw [hr.1]; exact h2) (by rw [hr.2.1]; exact h3) (by rw [hr.2.2.1]; exact h4) O6 hi hd
  ·exact Zgc
 split
 ·exact Zgc
 ·exact Zgc
theorem Oj {id home : Int} (h1 : 0 ≤ id ∧ id ≤ 15) (h2 : 0 ≤ home ∧ home ≤ 15) : ∀ (l : List Line) (i : Int), 0 ≤ i → i + l.length ≤ 256 → (∀ x ∈ l, LB x) → ∀ a ∈ Cu id home i l, MsgIn a
 | [], _, _, _, _ => fun a ha => by cases ha
 | x :: l, i, h0, hn, hb => by
  intro a ha
  simp only [List.length_cons] at hn
  have ih := Oj h1 h2 l (i + 1) (by omega) (by omega) (fun y hy => hb y (.tail _ hy))
  simp only [Cu] at ha
  split at ha
  ·rcases List.mem_cons.1 ha with e | e
   ·rw [e]; exact Aeo (hb x (.head _)) h1 h2 (by omega)
   ·exact ih a e
  ·exact ih a ha
theorem I0 : ∀ (a b : List Msg) (f : Frames), way f (a ++ b) = way (way f a) b
 | [], _, _ => rfl
 | _ :: a, b, _ => I0 a b _
theorem Ho (id : Int) : ∀ (l : List Entry) (i : Int) (x : Entry), C1 id i (l ++ [x]) = C1 id i l ++ Fm x (i + l.length) id
 | [], i, x => by simp [C1]
 | a :: l, i, x => by
  have ih := Ho id l (i + 1) x
  have e : i + 1 + (l.length : Int) = i + ((a :: l).length : Int) := by simp only [List.length_cons]; omega
  rw [e] at ih
  simp only [List.cons_append, C1, ih, List.append_assoc]
def Lm (f : Nat → Bool) : Nat → Bool
 | 0 => true
 | k + 1 => Lm f k && f k
def Gv (f : Nat → Bool) : Nat → Nat
 | 0 => 0
 | k + 1 => Gv f k + if f k then 1 else 0
theorem allN_iff {f : Nat → Bool} : ∀ {k : Nat}, Lm f k = true ↔ ∀ i, i < k → f i = true
 | 0 => ⟨fun _ i hi => absurd hi (by omega), fun _ => rfl⟩
 | k + 1 => by
  simp only [Lm, Bool.and_eq_true, allN_iff (k := k)]
  refine ⟨fun h i hi => ?_, fun h => ⟨fun i hi => h i (by omega), h k (by omega)⟩⟩
  by_cases e : i = k
  ·rw [e]; exact h.2
  ·exact h.1 i (by omega)
theorem Ix {f : Nat → Bool} {k i : Nat} (hi : i < k) (h : f i = false) : Lm f k = false := by
 cases e : Lm f k with
 | false => rfl
 | true => rw [allN_iff.1 e i hi] at h; cases h
theorem Hj {f : Nat → Bool} {k : Nat} (h : Lm f k = true) (h2 : f k = true) : Lm f (k + 1) = true := by simp only [Lm, h, h2, Bool.and_self]
theorem Sv {f : Nat → Bool} : ∀ {k : Nat}, Gv f k ≤ k
 | 0 => Nat.le_refl _
 | k + 1 => by
  have := Sv (f := f) (k := k)
  simp only [Gv]; split <;> omega
theorem Yc {f : Nat → Bool} {k : Nat} (h : f k = true) : Gv f (k + 1) = Gv f k + 1 := by simp only [Gv, h, if_true]
theorem Oa {f : Nat → Bool} {k : Nat} (h : f k = false) : Gv f (k + 1) = Gv f k := by simp [Gv, h]
theorem Lz {f : Nat → Bool} : ∀ {k : Nat}, 0 < Gv f k → ∃ p, p < k ∧ f p = true
 | 0, h => absurd h (by simp [Gv])
 | k + 1, h => by
  cases e : f k with
  | true => exact ⟨k, by omega, e⟩
  | false =>
   rw [Oa e] at h
   obtain ⟨p, h1, h2⟩ := Lz h
   exact ⟨p, by omega, h2⟩
theorem T9 {f : Nat → Bool} : ∀ {k : Nat}, 1 < Gv f k → ∃ p q, p < q ∧ q < k ∧ f p = true ∧ f q = true
 | 0, h => absurd h (by simp [Gv])
 | k + 1, h => by
  cases e : f k with
  | true =>
   rw [Yc e] at h
   obtain ⟨p, h1, h2⟩ := Lz (f := f) (k := k) (by omega)
   exact ⟨p, k, h1, by omega, h2, e⟩
  | false =>
   rw [Oa e] at h
   obtain ⟨p, q, h1, h2, h3, h4⟩ := T9 h
   exact ⟨p, q, h1, by omega, h3, h4⟩
structure CX (x : Chip) : Prop where
 n4 : x.cores.length ≤ 4
 h4 : x.home.length ≤ 4
 ln : ∀ p, p < x.cores.length → (cor x p).lines.length = x.home.length
 la : ∀ i, i < x.home.length → (ent x i).last.length = x.cores.length
 ow : ∀ i, i < x.home.length → (ent x i).phase = 1 → 0 ≤ (ent x i).owner ∧ (ent x i).owner < (x.cores.length : Int)
 sh : ∀ i, i < x.home.length → 0 ≤ (ent x i).sharers ∧ (ent x i).sharers < 16
def stN (x : Chip) (i p : Nat) : Int := (lin x i p).state
def Gi (x : Chip) (i : Nat) : Bool := !(decide (1 < Gv (fun p => stN x i p == 2) x.cores.length) || (decide (Gv (fun p => stN x i p == 2) x.cores.length = 1) && decide (0 < Gv (fun p => stN x i p == 1) x.cores.length)))
def Fl (x : Chip) : Bool := Lm (Gi x) x.home.length
def Qi (x : Chip) (i p : Nat) : Bool := stN x i p == 2 || (stN x i p == 3 && decide ((ent x i).last.getD p 0 < (lin x i p).serial))
def Ln (x : Chip) (i : Nat) : Nat → Option Int
 | 0 => none
 | k + 1 => match Ln x i k with
  | some v => some v
  | none => if Qi x i k then some (lin x i k).value else none
def Adk (x : Chip) (i : Nat) : Int := if (ent x i).phase = 1 ∧ (lin x i (ent x i).owner.toNat).gave = (ent x i).turn then (lin x i (ent x i).owner.toNat).given else (ent x i).value
def Ec (x : Chip) (i : Nat) : Int := (Ln x i x.cores.length).getD (Adk x i)
def Aer (x : Chip) (i p : Nat) : Bool := stN x i p == 1 && (lin x i p).value != Ec x i
def sameAt (x : Chip) (i : Nat) : Bool := Lm (fun p => !Aer x i p) x.cores.length
def Gf (x : Chip) : Bool := Lm (sameAt x) x.home.length
def Ia (x : Chip) (i p : Nat) : Bool := (ent x i).phase == 3 && (ent x i).who == (p : Int) && (lin x i p).seen == (ent x i).turn
def Ht (x : Chip) (i p : Nat) : Bool := !((stN x i p == 2 && (ent x i).owner != (p : Int) && !Ia x i p) || (stN x i p == 1 && !Jk (ent x i).sharers p && (ent x i).owner != (p : Int) && !Ia x i p))
def Xa (x : Chip) (i : Nat) : Bool := Lm (Ht x i) x.cores.length
def Fk (x : Chip) : Bool := Lm (Xa x) x.home.length
def Kw (x : Chip) (k : Nat) : Bool := (x.frames.getD k []).length == 12
def Ev (x : Chip) : Int :=
 if 40 < x.frames.length then 4 else if Fl x = false then 6 else if Gf x = false ∨ Fk x = false then 2 else if Lm (Kw x) x.frames.length = false then 3 else 0
theorem Pw {x : Chip} {i : Nat} {v : Int} : ∀ {k : Nat}, Ln x i k = some v → ∃ p, p < k ∧ Qi x i p = true ∧ v = (lin x i p).value
 | 0, h => by cases h
 | k + 1, h => by
  simp only [Ln] at h
  cases e : Ln x i k with
  | some w =>
   rw [e] at h
   obtain ⟨p, h1, h2, h3⟩ := Pw e
   simp only [Option.some.injEq] at h
   exact ⟨p, by omega, h2, by rw [← h]; exact h3⟩
  | none =>
   rw [e] at h; simp only at h
   split at h
   ·rename_i o
    simp only [Option.some.injEq] at h
    exact ⟨k, by omega, o, h.symm⟩
   ·cases h
theorem Px {x : Chip} {i : Nat} : ∀ {k : Nat}, Ln x i k = none → ∀ p, p < k → Qi x i p = false
 | 0, _, p, hp => absurd hp (by omega)
 | k + 1, h, p, hp => by
  simp only [Ln] at h
  cases e : Ln x i k with
  | some w => rw [e] at h; cases h
  | none =>
   rw [e] at h; simp only at h
   split at h
   ·cases h
   ·rename_i o
    by_cases q : p = k
    ·rw [q]; simpa using o
    ·exact Px e p (by omega)
theorem Zf {x : Chip} {i k : Nat} (h : Ln x i k = none) (o : Qi x i k = true) : Ln x i (k + 1) = some (lin x i k).value := by simp only [Ln, h, o, if_true]
theorem Py {x : Chip} {i k : Nat} (h : Ln x i k = none) (o : Qi x i k = false) : Ln x i (k + 1) = none := by simp [Ln, h, o]
theorem Pz {x : Chip} {i j : Nat} {v : Int} (h : Ln x i j = some v) : ∀ {k : Nat}, j ≤ k → Ln x i k = some v
 | 0, hk => by rw [Nat.le_zero.1 hk] at h; cases h
 | k + 1, hk => by
  by_cases e : j = k + 1
  ·rw [← e]; exact h
  ·simp only [Ln, Pz h (k := k) (by omega)]
theorem Pv {x : Chip} {i k : Nat} (h : Ln x i k = none) (o : Qi x i k = true) (hk : k < x.cores.length) : Ec x i = (lin x i k).value := by
 unfold Ec
 rw [Pz (Zf h o) (show k + 1 ≤ x.cores.length by omega)]; rfl
theorem Jz {x : Chip} {i : Nat} (h : Ln x i x.cores.length = none) : Ec x i = Adk x i := by unfold Ec; rw [h]; rfl
section
open Abs
variable {n nl : Nat} {x : Chip} {M : List Int}
theorem Inv.cx (h : Inv n nl x M) : CX x := by
 have h1 := h.nc
 have h2 := h.nh
 have h3 := h.n1
 have h4 := h.l1
 refine ⟨by omega, by omega, fun p hp => ?_, fun i hi => ?_, fun i hi h0 => ?_, fun i hi => ?_⟩
 ·rw [h.ncl p (by omega), h2]
 ·rw [h.nla i (by omega), h1]
 ·have hg := h.gi i (by omega)
  have := hg.f1 h0
  have := hg.own
  simp only [ab] at *
  omega
 ·have hb := h.bit i (by omega)
  have := Li h3.2 hb.1
  exact this
theorem Y2 (h : Inv n nl x M) {i p q : Nat} (hi : i < nl) (hp : p < n) (hq : q < n) (hpq : p ≠ q) (h1 : stN x i p = 2) (h2 : stN x i q = 2) : False := by
 have g := h.gi i hi
 have a := ((h.ci i hi p hp).alo (.inl h1)).1
 have b := ((h.ci i hi q hq).alo (.inl h2)).1
 have f := g.f23
 omega
theorem V6 (h : Inv n nl x M) {i p q : Nat} (hi : i < nl) (hp : p < n) (hq : q < n) (h1 : stN x i p = 2) (h2 : stN x i q = 1) : False := by
 have g := h.gi i hi
 have cp := h.ci i hi p hp
 have cq := h.ci i hi q hq
 have hpq : p ≠ q := fun e => by rw [e, h2] at h1; exact absurd h1 (by decide)
 have a := (cp.alo (.inl h1)).1
 have b := (cq.cop h2).1
 have f := g.f23
 have s := cq.shs
 have r := cq.gra
 rcases a with a | a
 ·rcases b with b | b | b
  ·have := (s b).2; omega
  ·omega
  ·have := f (by omega); omega
 ·rcases b with b | b | b
  ·have := r a.1 a.2.2 (by omega); omega
  ·have := f (by omega); omega
  ·omega
theorem Yi (h : Inv n nl x M) : Fl x = true := by
 refine allN_iff.2 fun i hi => ?_
 have h1 := h.nc
 have h2 := h.nh
 have c1 : ¬ 1 < Gv (fun p => stN x i p == 2) x.cores.length := fun c => by
  obtain ⟨p, q, a, b, c, d⟩ := T9 c
  exact Y2 h (i := i) (p := p) (q := q) (by omega) (by omega) (by omega) (by omega) (by simpa using c) (by simpa using d)
 have c2 : ¬ (Gv (fun p => stN x i p == 2) x.cores.length = 1 ∧ 0 < Gv (fun p => stN x i p == 1) x.cores.length) := fun c => by
  obtain ⟨p, a, b⟩ := Lz (f := fun p => stN x i p == 2) (k := x.cores.length) (by omega)
  obtain ⟨q, c, d⟩ := Lz c.2
  exact V6 h (i := i) (p := p) (q := q) (by omega) (by omega) (by omega) (by simpa using b) (by simpa using d)
 unfold Gi
 rw [decide_eq_false c1, Bool.false_or, ← Bool.decide_and, decide_eq_false c2]; rfl
theorem Ww {i p : Nat} (h : Inv n nl x M) (hi : i < nl) (hp : p < n) (o : Qi x i p = false) : stN x i p ≠ 2 ∧ (stN x i p = 3 → (lin x i p).serial = (ent x i).last.getD p 0) := by
 have l := (h.ci i hi p hp).la
 simp only [ab] at l
 unfold Qi at o
 simp only [Bool.or_eq_false_iff, Bool.and_eq_false_iff, beq_eq_false_iff_ne, decide_eq_false_iff_not] at o
 refine ⟨o.1, fun h3 => ?_⟩
 rcases o.2 with a | a
 ·exact absurd h3 a
 ·omega
theorem Yg (h : Inv n nl x M) {i : Nat} (hi : i < nl) : Ec x i = M.getD i 0 := by
 have h1 := h.nc
 have g := h.gi i hi
 cases e : Ln x i x.cores.length with
 | some v =>
  obtain ⟨p, hp, o, hv⟩ := Pw e
  have c := h.ci i hi p (by omega)
  have : Ec x i = v := by unfold Ec; rw [e]; rfl
  rw [this, hv]
  refine (c.alo ?_).2
  unfold Qi at o
  simp only [Bool.or_eq_true, Bool.and_eq_true, beq_iff_eq, decide_eq_true_eq] at o
  exact o
 | none =>
  rw [Jz e]
  have no := Px e
  have key : ∀ p, p < n → (ab (ent x i)).owner = (p : Int) → (lin x i p).state < 2 ∧ (ab (ent x i)).phase = 1 ∧ (lin x i p).gave = (ab (ent x i)).turn ∧ (lin x i p).given = M.getD i 0 := fun p hp ho => by
   have c := h.ci i hi p hp
   have q := Ww h hi hp (no p (by omega))
   have q1 := q.1
   have q2 := q.2
   unfold stN at q1 q2
   have b := c.back
   have lv := c.leav
   have st := c.st
   rcases c.own ho with d | d
   ·exfalso
    have h3 : (lin x i p).state = 3 := by omega
    exact b (lv.1 h3) (by rw [q2 h3]; rfl) ho
   ·exact ⟨d.1, d.2.1, d.2.2.1, d.2.2.2.1⟩
  by_cases ph : (ent x i).phase = 1
  ·have o := g.f1 ph
   have o2 := g.own
   obtain ⟨p, hp⟩ := Int.eq_ofNat_of_zero_le o.1
   obtain ⟨_, _, k1, k2⟩ := key p (by omega) hp
   have e1 : (ent x i).owner.toNat = p := by
    have : (ent x i).owner = (p : Int) := hp
    omega
   unfold Adk
   rw [e1, if_pos ⟨ph, k1⟩]; exact k2
  ·have e1 : Adk x i = (ab (ent x i)).value := by unfold Adk; rw [if_neg (fun z => ph z.1)]; rfl
   rw [e1]
   have ow : (ab (ent x i)).owner = -1 := by
    have o2 := g.own
    refine Classical.byContradiction fun hn => ?_
    obtain ⟨p, hp⟩ := Int.eq_ofNat_of_zero_le (show 0 ≤ (ab (ent x i)).owner by omega)
    exact ph (key p (by omega) hp).2.1
   by_cases w : (ab (ent x i)).phase = 3 ∧ (ab (ent x i)).alone = 1
   ·have o := g.whor (by omega)
    obtain ⟨p, hp⟩ := Int.eq_ofNat_of_zero_le o.1
    have hpn : p < n := by omega
    have c := h.ci i hi p hpn
    refine c.val ow (fun _ _ => ⟨hp, ?_⟩)
    have q := Ww h hi hpn (no p (by omega))
    have q1 := q.1
    have q2 := q.2
    unfold stN at q1 q2
    have st := c.st
    have lv := c.leav
    obtain ⟨a, b⟩ := c.cur (by omega) hp
    rcases b with b | b
    ·exact b.2.2
    ·exfalso
     have h2 := b.2.2.2.1 w.2
     have h3 : (lin x i p).state = 3 := by omega
     have h4 := lv.1 h3
     have h5 := q2 h3
     have h6 : (ab (ent x i)).last p = (ent x i).last.getD p 0 := rfl
     rcases b.1 with z | z <;> omega
   ·have n1 := h.n1
    exact (h.ci i hi 0 (by omega)).val ow (fun a b => absurd ⟨a, b⟩ w)
theorem Ace (h : Inv n nl x M) : Gf x = true := by
 have h1 := h.nc
 have h2 := h.nh
 refine allN_iff.2 fun i hi => allN_iff.2 fun p hp => ?_
 have hi' : i < nl := by omega
 unfold Aer
 by_cases s : stN x i p = 1
 ·have := ((h.ci i hi' p (by omega)).cop s).2
  rw [this, Yg h hi']; simp
 ·simp [s]
theorem Yh (h : Inv n nl x M) : Fk x = true := by
 have h1 := h.nc
 have h2 := h.nh
 refine allN_iff.2 fun i hi => allN_iff.2 fun p hp => ?_
 have hi' : i < nl := by omega
 have hp' : p < n := by omega
 have c := h.ci i hi' p hp'
 have w2 := c.w2
 have a : stN x i p = 2 → (ent x i).owner = (p : Int) ∨ Ia x i p = true := fun s => by
  rcases (c.alo (.inl s)).1 with o | ⟨o1, o2, o3⟩
  ·exact .inl o
  ·refine .inr ?_
   obtain ⟨_, b⟩ := c.cur (by omega) o2
   unfold stN at s
   have e : (lin x i p).seen = (ent x i).turn := by
    rcases b with b | b
    ·have := w2 (by omega); omega
    ·exact b.2.2.1
   unfold Ia
   simp only [Bool.and_eq_true, beq_iff_eq]
   exact ⟨⟨o1, o2⟩, e⟩
 have b : stN x i p = 1 → Jk (ent x i).sharers p = true ∨ (ent x i).owner = (p : Int) ∨ Ia x i p = true := fun s => by
  rcases (c.cop s).1 with o | o | ⟨o1, o2, o3⟩
  ·exact .inl ((Sn _ _).2 o)
  ·exact .inr (.inl o)
  ·refine .inr (.inr ?_)
   unfold Ia
   simp only [Bool.and_eq_true, beq_iff_eq]
   exact ⟨⟨o1, o2⟩, o3⟩
 unfold Ht
 by_cases s2 : stN x i p = 2
 ·rcases a s2 with o | o <;> simp [s2, o]
 by_cases s1 : stN x i p = 1
 ·rcases b s1 with o | o | o <;> simp [s1, o]
 ·simp [s1, s2]
theorem Vx (h : Inv n nl x M) : Lm (Kw x) x.frames.length = true := by
 refine allN_iff.2 fun k hk => ?_
 have e : x.frames.getD k [] ∈ x.frames := by
  rw [List.getD_eq_getElem?_getD, List.getElem?_eq_getElem hk]; exact List.getElem_mem _
 unfold Kw
 rw [(h.mi _ e).1]; rfl
theorem Yf (h : Inv n nl x M) : Ev x = 0 := by
 have := h.fr
 unfold Ev
 rw [if_neg (by omega), if_neg (by rw [Yi h]; decide), if_neg (by rw [Ace h, Yh h]; decide), if_neg (by rw [Vx h]; decide)]
end
end Go.Proofs.YtbigiimomnfpdaaGreat
namespace Go.Proofs.YtbigiimomnfpdaaGreat
open Abs
def n3 (k : Int) : List UInt8 := [u8 (k / 65536), u8 (k / 256), u8 k]
def In3 (k : Int) : Prop := -1 ≤ k ∧ k ≤ 16777214
theorem n3_inj {a b : Int} (ha : In3 a) (hb : In3 b) (h : n3 a = n3 b) : a = b := by
 unfold n3 at h
 injection h with h1 h
 injection h with h2 h
 injection h with h3 _
 have e1 := H4 (a / 65536); have e2 := H4 (b / 65536); rw [h1] at e1
 have e3 := H4 (a / 256); have e4 := H4 (b / 256); rw [h2] at e3
 have e5 := H4 a; have e6 := H4 b; rw [h3] at e5
 unfold In3 at ha hb; omega
def Gk (l : List Int) : List UInt8 := l.flatMap n3
theorem J9 (a b : List Int) : Gk (a ++ b) = Gk a ++ Gk b := by unfold Gk; rw [List.flatMap_append]
theorem F6 (l : List Int) : (Gk l).length = 3 * l.length := by
 induction l with
 | nil => rfl
 | cons a l ih => unfold Gk at ih ⊢; rw [List.flatMap_cons, List.length_append, ih]; simp [n3]; omega
theorem I8 {α β : Type} {f : α → List β} {k : Nat} : ∀ {l m : List α}, (∀ a ∈ l, (f a).length = k) → (∀ a ∈ m, (f a).length = k) → (∀ a ∈ l, ∀ b ∈ m, f a = f b → a = b) → l.length = m.length → l.flatMap f = m.flatMap f → l = m
 | [], [], _, _, _, _, _ => rfl
 | [], _ :: _, _, _, _, hl, _ => by simp at hl
 | _ :: _, [], _, _, _, hl, _ => by simp at hl
 | a :: l, b :: m, h1, h2, h3, hl, h => by
  rw [List.flatMap_cons, List.flatMap_cons] at h
  have e := List.append_inj h (by rw [h1 a (List.mem_cons_self ..), h2 b (List.mem_cons_self ..)])
  rw [h3 a (List.mem_cons_self ..) b (List.mem_cons_self ..) e.1]
  rw [I8 (fun a ha => h1 a (List.mem_cons_of_mem _ ha)) (fun a ha => h2 a (List.mem_cons_of_mem _ ha)) (fun a ha b hb => h3 a (List.mem_cons_of_mem _ ha) b (List.mem_cons_of_mem _ hb)) (by simpa using hl) e.2]
theorem Aam {l m : List Int} (hl : ∀ a ∈ l, In3 a) (hm : ∀ a ∈ m, In3 a) (h : l.length = m.length) (e : Gk l = Gk m) : l = m :=
 I8 (k := 3) (fun _ _ => rfl) (fun _ _ => rfl) (fun a ha b hb e => n3_inj (hl a ha) (hm b hb) e) h e
def lineNums (l : Line) : List Int := [l.state, l.value, l.want, l.serial, l.seen, l.gave, l.given]
def Bw (c : Core) : List Int := [c.wait.kind, c.wait.line, c.wait.value, (c.lines.length : Int)] ++ c.lines.flatMap lineNums
def Hc (b : Bool) : Int := if b then 1 else 0
def entNums (e : Entry) : List Int := [e.value, e.owner, e.sharers, e.phase, e.who, e.serial, Hc e.alone, e.turn, e.need, (e.last.length : Int)] ++ e.last
def frKey (b : List UInt8) : List UInt8 := n3 (b.length : Int) ++ b
def Cb (x : Chip) : List Int := [(x.cores.length : Int), (x.home.length : Int), (x.frames.length : Int)]
def Dh (x : Chip) : List Int := Cb x ++ x.cores.flatMap Bw ++ x.home.flatMap entNums
def Hb (x : Chip) : List UInt8 := Gk (Dh x) ++ x.frames.flatMap frKey
theorem Gu {α β : Type} {f : α → List β} {k : Nat} : ∀ {l : List α}, (∀ a ∈ l, (f a).length = k) → (l.flatMap f).length = l.length * k
 | [], _ => by simp
 | a :: l, h => by
  rw [List.flatMap_cons, List.length_append, h a (List.mem_cons_self ..), Gu (fun b hb => h b (List.mem_cons_of_mem _ hb)), List.length_cons, Nat.succ_mul]; omega
theorem Mu {α : Type} {l : List α} {a : α} (d : α) (h : a ∈ l) : ∃ k, k < l.length ∧ l.getD k d = a := by
 obtain ⟨k, hk, e⟩ := List.mem_iff_getElem.1 h
 exact ⟨k, hk, by rw [List.getD_eq_getElem?_getD, List.getElem?_eq_getElem hk]; exact e⟩
section
variable {n nl : Nat} {x y : Chip} {M M' : List Int}
theorem W6 (h : Inv n nl x M) {p i : Nat} (hp : p < n) (hi : i < nl) : ∀ k ∈ lineNums (lin x i p), In3 k := by
 have hc := h.ci i hi p hp
 have ht := (h.gi i hi).tu
 have h1 := hc.st; have h2 := hc.va; have h3 := hc.wa; have h4 := hc.se; have h5 := hc.ga; have h6 := hc.gi
 intro k hk
 unfold lineNums at hk
 unfold In3
 simp only [List.mem_cons, List.not_mem_nil, or_false] at hk
 simp only [ab] at h5 ht
 rcases hk with e | e | e | e | e | e | e <;> rw [e] <;> omega
theorem Pi (h : Inv n nl x M) {c : Core} (hc : c ∈ x.cores) : ∃ p, p < n ∧ cor x p = c ∧ c.lines.length = nl := by
 obtain ⟨p, hp, e⟩ := Mu Er hc
 have hpn : p < n := by rw [← h.nc]; exact hp
 exact ⟨p, hpn, e, by rw [← e]; exact h.ncl p hpn⟩
theorem Hf (h : Inv n nl x M) {c : Core} (hc : c ∈ x.cores) : (∀ k ∈ Bw c, In3 k) ∧ (Bw c).length = 4 + nl * 7 := by
 obtain ⟨p, hp, e, hl⟩ := Pi h hc
 have hw := h.cw p hp
 have hl4 := h.l1
 refine ⟨fun k hk => ?_, ?_⟩
 ·unfold Bw at hk
  rcases List.mem_append.1 hk with hk | hk
  ·have hwt : 0 ≤ c.wait.kind ∧ c.wait.kind ≤ 4 ∧ 0 ≤ c.wait.line ∧ c.wait.line ≤ 4 ∧ 0 ≤ c.wait.value ∧ c.wait.value ≤ 255 := by
    rw [e] at hw
    by_cases h0 : c.wait.kind = 0
    ·have := (hw.free h0).1; rw [this]; decide
    ·have := hw.busy h0; omega
   unfold In3
   simp only [List.mem_cons, List.not_mem_nil, or_false] at hk
   rcases hk with e | e | e | e <;> rw [e] <;> omega
  ·obtain ⟨l, hlm, hk⟩ := List.mem_flatMap.1 hk
   obtain ⟨i, hi, e2⟩ := Mu zLine hlm
   have h2 := W6 h hp (show i < nl by omega) k
   have e3 : lin x i p = l := by unfold lin; rw [e]; exact e2
   rw [e3] at h2; exact h2 hk
 ·unfold Bw
  rw [List.length_append, Gu (k := 7) (fun _ _ => rfl), hl]; rfl
theorem Acb (h : Inv n nl x M) (g : Inv n nl y M') {c d : Core} (hc : c ∈ x.cores) (hd : d ∈ y.cores) (e : Bw c = Bw d) : c = d := by
 obtain ⟨_, _, _, h1⟩ := Pi h hc
 obtain ⟨_, _, _, h2⟩ := Pi g hd
 unfold Bw at e
 have e2 := List.append_inj e rfl
 have e3 := I8 (k := 7) (fun _ _ => rfl) (fun _ _ => rfl) (fun a _ b _ hab => by
  unfold lineNums at hab
  cases a; cases b; simp only [List.cons.injEq, and_true] at hab ⊢
  simp [hab]) (by omega) e2.2
 have e4 := e2.1
 simp only [List.cons.injEq, and_true] at e4
 obtain ⟨a1, a2, a3, _⟩ := e4
 obtain ⟨cl, ck, cn, cv⟩ := c
 obtain ⟨dl, dk, dn, dv⟩ := d
 simp only at a1 a2 a3 e3 ⊢
 subst a1 a2 a3 e3; rfl
theorem Aih (h : Inv n nl x M) {e : Entry} (he : e ∈ x.home) : ∃ i, i < nl ∧ ent x i = e ∧ e.last.length = n := by
 obtain ⟨i, hi, e2⟩ := Mu Az he
 have hin : i < nl := by rw [← h.nh]; exact hi
 exact ⟨i, hin, e2, by rw [← e2]; exact h.nla i hin⟩
theorem Ly (h : Inv n nl x M) {e : Entry} (he : e ∈ x.home) : (∀ k ∈ entNums e, In3 k) ∧ (entNums e).length = 10 + n := by
 obtain ⟨i, hi, e2, hl⟩ := Aih h he
 have hg := h.gi i hi
 have hb := h.bit i hi
 have hn := h.n1
 have h16 : (2 ^ n : Nat) ≤ 16 := Nat.pow_le_pow_right (show 0 < 2 by decide) hn.2
 rw [e2] at hg hb
 have h1 := hg.own; have h2 := hg.ph; have h3 := hg.idle; have h4 := hg.whor; have h5 := hg.tu; have h6 := hg.va; have h7 := hg.se
 simp only [ab] at h1 h2 h3 h4 h5 h6 h7
 refine ⟨fun k hk => ?_, ?_⟩
 ·unfold entNums at hk
  rcases List.mem_append.1 hk with hk | hk
  ·have hf : 0 ≤ Hc e.alone ∧ Hc e.alone ≤ 1 := by unfold Hc; split <;> omega
   unfold In3
   simp only [List.mem_cons, List.not_mem_nil, or_false] at hk
   rcases hk with e | e | e | e | e | e | e | e | e | e <;> rw [e] <;> first | omega | (by_cases h0 : (0 : Int) = 0 <;> omega)
  ·obtain ⟨p, hp, e3⟩ := Mu 0 hk
   have hc := h.ci i hi p (by omega)
   have a1 := hc.la; have a2 := hc.se
   have e4 : (ab (ent x i)).last p = k := by rw [e2]; exact e3
   unfold In3; omega
 ·unfold entNums; rw [List.length_append, hl]; rfl
theorem Aij {d e : Entry} (h : entNums d = entNums e) : d = e := by
 unfold entNums at h
 have e2 := List.append_inj h rfl
 have e4 := e2.1
 simp only [List.cons.injEq, and_true] at e4
 obtain ⟨a1, a2, a3, a4, a5, a6, a7, a8, a9, _⟩ := e4
 have a10 := e2.2
 have a11 : d.alone = e.alone := by
  unfold Hc at a7
  cases h1 : d.alone <;> cases h2 : e.alone <;> rw [h1, h2] at a7 <;> simp at a7 <;> rfl
 cases d; cases e
 simp only at a1 a2 a3 a4 a5 a6 a8 a9 a10 a11 ⊢
 subst a1 a2 a3 a4 a5 a6 a8 a9 a10 a11; rfl
theorem Hg (h : Inv n nl x M) : (∀ k ∈ Dh x, In3 k) ∧ (Dh x).length = 3 + n * (4 + nl * 7) + nl * (10 + n) := by
 have hn := h.n1; have hl := h.l1; have hf := h.fr
 refine ⟨fun k hk => ?_, ?_⟩
 ·unfold Dh at hk
  rcases List.mem_append.1 hk with hk | hk
  ·rcases List.mem_append.1 hk with hk | hk
   ·unfold Cb at hk
    have := h.nc; have := h.nh
    unfold In3
    simp only [List.mem_cons, List.not_mem_nil, or_false] at hk
    rcases hk with e | e | e <;> rw [e] <;> omega
   ·obtain ⟨c, hc, hk⟩ := List.mem_flatMap.1 hk
    exact (Hf h hc).1 k hk
  ·obtain ⟨e, he, hk⟩ := List.mem_flatMap.1 hk
   exact (Ly h he).1 k hk
 ·unfold Dh
  rw [List.length_append, List.length_append, Gu (fun c hc => (Hf h hc).2), Gu (fun e he => (Ly h he).2), h.nc, h.nh]; rfl
theorem Xc (h : Inv n nl x M) (g : Inv n nl y M') (e : Hb x = Hb y) : x = y := by
 unfold Hb at e
 have e1 := List.append_inj e (by rw [F6, F6, (Hg h).2, (Hg g).2])
 have e2 := Aam (Hg h).1 (Hg g).1 (by rw [(Hg h).2, (Hg g).2]) e1.1
 unfold Dh at e2
 have e3 := List.append_inj e2 (by rw [List.length_append, List.length_append, Gu (fun c hc => (Hf h hc).2), Gu (fun c hc => (Hf g hc).2), h.nc, g.nc]; rfl)
 have e4 := List.append_inj e3.1 rfl
 have hc := I8 (fun c hc => (Hf h hc).2) (fun c hc => (Hf g hc).2) (fun a ha b hb hab => Acb h g ha hb hab) (by rw [h.nc, g.nc]) e4.2
 have hh := I8 (fun c hc => (Ly h hc).2) (fun c hc => (Ly g hc).2) (fun a ha b hb hab => Aij hab) (by rw [h.nh, g.nh]) e3.2
 have hf : x.frames.length = y.frames.length := by
  have := e4.1
  unfold Cb at this
  simp only [List.cons.injEq, and_true] at this
  have := this.2.2; omega
 have hlen : ∀ b, b.length = 12 → (frKey b).length = 15 := fun b hb => by unfold frKey; rw [List.length_append, hb]; rfl
 have hfr := I8 (fun b hb => hlen b (h.mi b hb).1) (fun b hb => hlen b (g.mi b hb).1) (fun a ha b hb hab => by
  unfold frKey at hab
  exact (List.append_inj hab rfl).2) hf e1.2
 cases x; cases y; simp only at hc hh hfr; rw [hc, hh, hfr]
theorem Afw (h : Inv n nl x M) (g : Inv n nl y M') : Hb x = Hb y ↔ x = y := ⟨Xc h g, fun e => by rw [e]⟩
end
end Go.Proofs.YtbigiimomnfpdaaGreat
namespace Go.Proofs.YtbigiimomnfpdaaGreat
open Abs
def Sd (x : Chip) (ops : List Op) (p : Nat) : List Step := if (cor x p).wait.kind = 0 then ops.map fun o => ⟨1, (p : Int), 0, 0, o⟩ else []
def Y8 (losses : Bool) (k : Nat) : List Step := ⟨2, 0, (k : Int), 0, zOp⟩ :: (if losses then [⟨3, 0, (k : Int), 0, zOp⟩, ⟨4, 0, (k : Int), 0, zOp⟩] else [])
def Uj (losses : Bool) (k : Nat) : List Step := if losses then [⟨6, (k : Int), 0, 0, zOp⟩] else []
def Aeq (x : Chip) (ops : List Op) (losses : Bool) (a b t : Nat) : List Step := (List.range a).flatMap (Sd x ops) ++ (List.range b).flatMap (Y8 losses) ++ (List.range t).flatMap (Uj losses)
def Gx (x : Chip) (ops : List Op) (losses : Bool) : List Step := Aeq x ops losses x.cores.length x.frames.length (x.cores.length + 1)
theorem Kr {β : Type} (f : Nat → List β) (k : Nat) : (List.range (k + 1)).flatMap f = (List.range k).flatMap f ++ f k := by
 rw [List.range_succ, List.flatMap_append]; simp
def Lj (had : List Chip) (x : Chip) (s : Step) : Option (List Chip) :=
 if (Al x s).2.2 ≠ 0 ∨ (Al x s).1 ∈ had then some had else if had.length = 120 then none else some (had ++ [(Al x s).1])
def E2 (had : List Chip) (x : Chip) : List Step → Option (List Chip)
 | [] => some had
 | s :: r => match Lj had x s with
  | none => none
  | some h => E2 h x r
def Hd (ops : List Op) (losses : Bool) (had : List Chip) : List Chip → Option (List Chip)
 | [] => some had
 | x :: r => match E2 had x (Gx x ops losses) with
  | none => none
  | some h => Hd ops losses h r
def Gp (ops : List Op) (losses : Bool) : Nat → List Chip → Nat → Option (List Chip)
 | 0, had, _ => some had
 | k + 1, had, f => match Hd ops losses had (had.drop f) with
  | none => none
  | some h => Gp ops losses k h had.length
def He (c : Config) (ops : List Op) (losses : Bool) (most : Int) : Seen × Int :=
 if (A4 c).2 ≠ 0 then (⟨0, 0, false⟩, (A4 c).2)
 else if most < 0 ∨ 300 < most then (⟨0, 0, false⟩, 3)
 else if 12 < ops.length then (⟨0, 0, false⟩, 4)
 else match Gp ops losses most.toNat [(A4 c).1] 0 with
  | none => (⟨120, 0, true⟩, 0)
  | some h => (⟨(h.length : Int), 0, false⟩, 0)
structure Had (n nl : Nat) (l : List Chip) : Prop where
 inv : ∀ x ∈ l, ∃ M, Inv n nl x M
 len : l.length ≤ 120
section
variable {n nl : Nat} {ops : List Op} {losses : Bool}
theorem Had.try {had h : List Chip} (H : Had n nl had) {x : Chip} (hx : ∃ M, Inv n nl x M) {s : Step} (e : Lj had x s = some h) : Had n nl h := by
 unfold Lj at e
 split at e
 ·injection e with e; rw [← e]; exact H
 ·rename_i hc
  split at e
  ·cases e
  ·rename_i hl
   injection e with e
   rw [← e]
   obtain ⟨M, hI⟩ := hx
   have hok : (Al x s).2.2 = 0 := Classical.byContradiction fun h => hc (.inl h)
   obtain ⟨M', hI', _⟩ := Tt hI hok
   refine ⟨fun y hy => ?_, by have := H.len; rw [List.length_append, List.length_singleton]; omega⟩
   rcases List.mem_append.1 hy with hy | hy
   ·exact H.inv y hy
   ·rw [List.mem_singleton.1 hy]; exact ⟨M', hI'⟩
theorem Had.steps {x : Chip} (hx : ∃ M, Inv n nl x M) : ∀ {l : List Step} {had h : List Chip}, Had n nl had → E2 had x l = some h → Had n nl h
 | [], had, h, H, e => by unfold E2 at e; injection e with e; rw [← e]; exact H
 | s :: r, had, h, H, e => by
  unfold E2 at e
  split at e
  ·cases e
  ·rename_i h1 e1
   exact Had.steps hx (H.try hx e1) e
theorem Had.now : ∀ {l : List Chip} {had h : List Chip}, (∀ x ∈ l, ∃ M, Inv n nl x M) → Had n nl had → Hd ops losses had l = some h → Had n nl h
 | [], had, h, _, H, e => by unfold Hd at e; injection e with e; rw [← e]; exact H
 | x :: r, had, h, hx, H, e => by
  unfold Hd at e
  split at e
  ·cases e
  ·rename_i h1 e1
   exact Had.now (fun y hy => hx y (List.mem_cons_of_mem _ hy)) (H.steps (hx x (List.mem_cons_self ..)) e1) e
theorem Had.run : ∀ {k : Nat} {had h : List Chip} {f : Nat}, Had n nl had → Gp ops losses k had f = some h → Had n nl h
 | 0, had, h, f, H, e => by unfold Gp at e; injection e with e; rw [← e]; exact H
 | k + 1, had, h, f, H, e => by
  unfold Gp at e
  split at e
  ·cases e
  ·rename_i h1 e1
   exact Had.run (H.now (fun x hx => H.inv x (List.mem_of_mem_drop hx)) e1) e
theorem Had.one (hn : 1 ≤ n ∧ n ≤ 4) (hl : 1 ≤ nl ∧ nl ≤ 4) : Had n nl [Hs n nl] :=
 ⟨fun x hx => by rw [List.mem_singleton.1 hx]; exact ⟨_, My hn hl⟩, by simp⟩
end
set_option maxHeartbeats 1000000
set_option maxRecDepth 8000
variable {L : List Chunk} {R : List Fact} {w : World}
theorem Ob {v0 : Value} {xs : List UInt8} (hs : St (L) R w) (h0 : sl v0 xs ∈ R) : Calls Tryz.prog 86 [v0].toArray w (Bs (fun v : Value => v) (fun v => row 5 v xs :: L) (fun v => R)) := by
 refine Ai Tryz.func86 rfl Tryz.ntmps86 rfl hs ?_
 clear hs
 refine ZN ?_
 refine rn1 ?_
 refine ob (Aff Tryz.underlying71 (El h0)) ?_
 refine Gl ?_
 refine A9 (b := ?b1) ?e1 ?_ ?_; case e1 => exact rfl
 ·intro ht4
  refine JC.nilOf ht4 h0 (fun hx => ?_)
  refine ZA ?_
  exact Bb (.slice none 0 0) (hs := fun w hs => by rw [hx]; exact Ag (hs.rowNil 5 UInt8))
 ·intro ht4
  refine Gm ?_
  refine liO ([] : List UInt8) Fz rfl (fun j h => Gb) ?_; intro v5
  refine rn1 ?_
  refine ap Fz (hb := fun w hs => by have := Be h0 hs; have : maxN = 16777216 := rfl; simp; omega) (k := ?_); intro v7
  refine Ga1 ?_
  exact Bb v7
theorem Tn {v0 : Value} {l : Frames} (hs : St (L) R w) (h0 : sl v0 l ∈ R) : Calls Tryz.prog 66 [v0].toArray w (Bs (fun v : Value => v) (fun v => row 71 v l :: L) (fun v => R)) := by
 have hlen := Be h0 hs
 refine Ai Tryz.func66 rfl Tryz.ntmps66 rfl hs ?_
 clear hs
 refine ZN ?_
 refine ZaG ?_
 refine JC.rowNil 71 (List UInt8) ?_
 refine A7 (γ := Nat × Value) (fun g => g.1 ≤ l.length) (fun g => row 71 g.2 (l.take g.1) :: L) (fun _ => R) (fun g => [(0, v0), (3, g.2), (6, v0), (7, vi (l.length : Int)), (8, vi (g.1 : Int))]) (fun g => l.length - g.1) (0, .slice none 0 0) (Nat.zero_le _) alT (fun w hs => hs) ?_
 rintro ⟨k, vs⟩ hk
 try simp only at hk ⊢
 refine ZA ?_
 refine cdy ?_ ?_
 ·intro ht9
  refine Gl ?_
  refine JC.open1 (xs := l) k mm (by omega) (fun _ u => ?_)
  refine Aa ?_
  refine Gb3 ?_
  refine rn2 ?_
  refine An Tryz.call86 rfl (fun w hs => Ob hs mm) ?_; intro v14
  refine J.shut .hd ?_
  refine li [_] Kf rfl Z7 ?_; intro v15
  refine ap Kf (hb := fun w hs => by have : maxN = 16777216 := rfl; have := hlen; simp only [List.length_cons, List.length_nil, List.length_take, List.length_append]; omega) (k := ?_); intro v16
  refine ZG ?_
  refine Au (k + 1, v16) (by show k + 1 ≤ l.length; omega) (by show l.length - (k + 1) < l.length - k; omega) alT (fun w hs => ?_)
  try simp only
  rw [Es [] (by omega)]; exact Ag hs
 ·intro ht9
  refine ZC ?_
  have hkl : k = l.length := by omega
  subst hkl
  exact Bb vs (hs := fun w hs => by rw [List.take_length] at hs; exact Ag hs)
theorem Tm {v0 v1 : Value} {l : Frames} {b : List UInt8} (hs : St (L) R w) (h0 : sl v0 l ∈ R) (h1 : sl v1 b ∈ R) : Calls Tryz.prog 70 [v0, v1].toArray w (Bs (fun v : Value => v) (fun v => row 71 v (Dn l b) :: L) (fun v => R)) := by
 have hlen := Be h0 hs
 refine Ai Tryz.func70 rfl Tryz.ntmps70 rfl hs ?_
 clear hs
 refine ZN ?_
 refine rn1 ?_
 refine An Tryz.call66 rfl (fun w hs => Tn hs mm) ?_; intro v7
 refine ZaG ?_
 refine cdy ?_ ?_
 ·intro ht10
  refine ZD ?_
  refine An Tryz.call86 rfl (fun w hs => Ob hs mm) ?_; intro v13
  refine J.shut .hd ?_
  refine li [_] Kf rfl Z7 ?_; intro v14
  refine ap Kf (hb := fun w hs => by have : maxN = 16777216 := rfl; have := hlen; simp only [List.length_cons, List.length_nil, List.length_take, List.length_append]; omega) (k := ?_); intro v15
  refine ZG ?_
  have e : Dn l b = l ++ [b] := by unfold Dn; rw [if_pos (by omega)]
  rw [e]
  exact Bb v15
 ·intro ht10
  refine ZC ?_
  have e : Dn l b = l := by unfold Dn; rw [if_neg (by omega)]
  rw [e]
  exact Bb v7
theorem Wj {v0 v1 : Value} {l : Frames} {b : List UInt8} (hs : St (L) R w) (h0 : sl v0 l ∈ R) (h1 : sl v1 b ∈ R) : Calls Tryz.prog 25 [v0, v1].toArray w (Bs (fun v : Value => v) (fun v => L) (fun v => sl v (Dn l b) :: R)) := by
 have hlen := Be h0 hs
 refine Ai Tryz.func25 rfl Tryz.ntmps25 rfl hs ?_
 clear hs
 refine ZN ?_
 refine Ga3 ?_
 refine cdy ?_ ?_
 ·intro ht7
  refine ZC ?_
  have e : Dn l b = l := by unfold Dn; rw [if_neg (by omega)]
  rw [e]
  exact Bb v0
 ·intro ht7
  refine Gm ?_
  refine liO ([] : Frames) Kf rfl (fun j h => Gb) ?_; intro v9
  refine rn1 ?_
  refine ap Kf (hb := fun w hs => by have : maxN = 16777216 := rfl; have := hlen; simp only [List.length_cons, List.length_nil, List.length_take, List.length_append]; omega) (k := ?_); intro v11
  refine rn1 ?_
  refine li [_] Kf rfl Z7 ?_; intro v13
  refine ap Kf (hb := fun w hs => by have : maxN = 16777216 := rfl; have := hlen; simp only [List.length_cons, List.length_nil, List.length_take, List.length_append]; omega) (k := ?_); intro v14
  refine Ga1 ?_
  have e : Dn l b = l ++ [b] := by unfold Dn; rw [if_pos (by omega)]
  rw [e]
  exact Bb v14 (hs := fun w hs => Ag (St.shut hs))
theorem N2 {v0 v1 : Value} {a b : Frames} (hs : St (L) R w) (h0 : sl v0 a ∈ R) (h1 : sl v1 b ∈ R) : Calls Tryz.prog 35 [v0, v1].toArray w (Bs (fun _ : Unit => .bool (decide (a = b))) (fun _ => L) (fun _ => R)) := by
 have hla := Be h0 hs
 have hlb := Be h1 hs
 refine Ai Tryz.func35 rfl Tryz.ntmps35 rfl hs ?_
 clear hs
 refine ZN ?_
 refine Ga5 ?_
 refine cdy ?_ ?_
 ·exact Zgz
 ·intro ht10
  refine ZdX ?_
  rintro k ⟨hk, hab⟩
  refine ZA ?_
  refine cdy ?_ ?_
  ·intro ht14
   refine ZC ?_
   refine JC.open1 (xs := a) k h0 (by omega) (fun _ ua => ?_)
   refine JC.open1 (xs := b) k (.tail _ (.tail _ h1)) (by omega) (fun _ ub => ?_)
   refine Bq ?_
   refine dn4 ?_
   refine djc (fun _ _ => q_cS Tryz.underlying71 Tryz.underlying5 Tryz.underlying9) ?_
   refine dn4 ?_
   refine djc (fun _ _ => q_cS Tryz.underlying71 Tryz.underlying5 Tryz.underlying9) ?_
   refine djc (fun _ _ => q_s b_snD) ?_
   refine dnl ?_; intro ρ
   refine Gl ?_
   refine cdy ?_ ?_
   ·intro ht26
    refine ZA ?_
    have e : a ≠ b := by intro h; apply ht26; rw [h]
    exact Zfd
   ·intro ht26
    refine ZC ?_
    refine Au (k + 1) ⟨by omega, ?_⟩ (by omega) alT (fun w hs => Ag hs)
    rw [Es [] (by omega), Es [] (by omega), hab]
    exact congrArg (fun z => b.take k ++ [z]) (Classical.byContradiction ht26)
  ·intro ht14
   exact Zfr
theorem J1 {α : Type} {l : List α} {i : Nat} {d : α} : l.set i (l.getD i d) = l := by
 by_cases h : i < l.length
 ·rw [List.getD_eq_getElem?_getD, List.getElem?_eq_getElem h]; exact List.set_getElem_self h
 ·exact List.set_eq_of_length_le (by omega)
theorem q_mx {P : Program} {n : Nat} {L : List Chunk} {R : List Fact} {al : List (Nat × Value)} {d : Nat} {x : Operand} {T ty : TypeId} {pos : String} {aft : Array Edge} {a : Int} (hx : ev n al x = some (vi a)) (h0 : 0 ≤ a) : A2 P n al L R ⟨some d, .call { callee := .builtin .max, args := #[x, .const (.int .i64 0)], argTypes := #[T, T] }, ty, pos, aft, none⟩ (vi a) :=
 ⟨rfl, fun ρ w h _ => by
  have hx' := h x (by simp [Op.operands, Call.operands]) _ hx
  have hc' := h (.const (.int .i64 0)) (by simp [Op.operands, Call.operands]) _ rfl
  simp [execOp, resolve, invoke, builtin, hx', hc', Builtin.max_, Builtin.max2, show ¬ (a < 0) from by omega]⟩
theorem Ahz {a : Int} (hs : St (L) R w) (h0 : 0 ≤ a) (h1 : a ≤ 16777216) : Calls Tryz.prog 89 [vi a].toArray w (Bs (fun v : Value => v) (fun v => row 3 v (List.replicate a.toNat (0 : Int)) :: L) (fun v => R)) := by
 refine Ai Tryz.func89 rfl Tryz.ntmps89 rfl hs ?_
 clear hs
 refine ZN ?_
 refine rn1 ?_
 refine ob (q_mx (a := a) rfl h0) ?_
 refine Th (α := Int) (x0 := 0) (zc := [vi 0]) Ea rfl (by decide) rfl rfl rfl (fun j => ⟨rfl, by unfold Ao; omega⟩) h0 h1 ?_; intro v5
 refine Ga1 ?_
 exact Bb v5
theorem Aia {v0 : Value} {m : List Int} {o : Op} (hs : St (L) R w) (h0 : sl v0 m ∈ R) : Calls Tryz.prog 90 [v0, .agg o.cells.toArray].toArray w (Bs (fun v : Value => .tuple #[v, vi (C7 m o).2.1, vi (C7 m o).2.2]) (fun v => L) (fun v => sl v (C7 m o).1 :: R)) := by
 have hlen := Be h0 hs
 refine Ai Tryz.func90 rfl Tryz.ntmps90 rfl hs ?_
 clear hs
 refine Zap ?_;intro b3
 refine Ga3 ?_
 rcases (show (o.kind < 1) ∨ (¬ o.kind < 1 ∧ 4 < o.kind) ∨ (1 ≤ o.kind ∧ o.kind ≤ 4) from by omega) with hc | hc | hc
 ·refine ZY ?_
  refine Gd6 ?_
  exact Zg3
 ·refine ZaX ?_
  refine Gd2 ?_
  exact Zg3
 ·refine Zax ?_
  refine Gc2 ?_
  rcases (show (o.line < 0) ∨ (0 ≤ o.line ∧ (m.length : Int) ≤ o.line) ∨ (0 ≤ o.line ∧ o.line < (m.length : Int) ∧ o.value < 0) ∨ (0 ≤ o.line ∧ o.line < (m.length : Int) ∧ 255 < o.value) ∨ (0 ≤ o.line ∧ o.line < (m.length : Int) ∧ 0 ≤ o.value ∧ o.value ≤ 255) from by omega) with hc | hc | hc | hc | hc
  ·refine ZY ?_
   refine Gc18 ?_
   exact ZfL
  ·refine Zae ?_
   refine ZR ?_
   refine G8 ?_
   refine Gc12 ?_
   exact ZfL
  ·refine Zb7 ?_
   refine Za9 ?_
   refine Gc7 ?_
   exact ZfL
  ·refine Zb7 ?_
   refine ZaJ ?_
   refine Gc2 ?_
   exact ZfL
  ·refine Zb7 ?_
   refine Za0 ?_
   refine Gc2 ?_
   refine JC.rowNil 3 Int ?_
   refine kp [0, 3, 4, 5, 6, 7, 39, 40] ?_
   refine ZB ?_
   refine ap Ea (hb := fun w hs => by have := Be h0 hs; have : maxN = 16777216 := rfl; simp; omega) (k := ?_); intro v40
   refine Ga1 ?_
   refine JC.open0 (xs := m) (v := v0) o.line.toNat mm (by omega) (fun hw => ?_)
   have hw9 : Ao (m.getD o.line.toNat 0) := hw
   refine Aa ?_
   refine Gb6 ?_
   refine Ga2 ?_
   rcases (show (o.kind = 1) ∨ (o.kind = 2) ∨ (o.kind = 3) ∨ (o.kind = 4) from by omega) with hc | hc | hc | hc
   ·refine Aa ?_
    refine Cf ?_
    refine Gd1 ?_
    refine Ga5 ?_
    have er : C7 m o = (m, m.getD o.line.toNat 0, 0) := by unfold C7; rw [if_neg (by omega), if_neg (by omega), opv1 hc]; exact congrArg (·, _) J1
    exact ZfK
   ·refine Aa ?_
    refine ZF ?_
    refine Cf ?_
    refine Gd1 ?_
    refine rn6 ?_
    refine Et (xs := m) Tryz.sizeOf3 rfl rfl pkk (getD_some 0 (by omega)) (by unfold Ao at hw9 ⊢; omega) ?_
    refine Zav ?_
    have er : C7 m o = ((m.set o.line.toNat o.value), 0, 0) := by unfold C7; rw [if_neg (by omega), if_neg (by omega), opv2 hc]
    exact ZfK
   ·refine Aa ?_
    refine Zaz ?_
    refine Gd1 ?_
    refine rn6 ?_
    refine ob (E6 (a := m.getD o.line.toNat 0) (b := o.value) Ael) ?_
    refine ob (E6 (b := 255) Adf) ?_
    rw [Nt]
    refine rn1 ?_
    refine Et (xs := m) Tryz.sizeOf3 rfl rfl pkk (getD_some 0 (by omega)) (by unfold Ao at hw9 ⊢; omega) ?_
    refine Zau ?_
    have er : C7 m o = ((m.set o.line.toNat ((m.getD o.line.toNat 0 + o.value) % 256)), m.getD o.line.toNat 0, 0) := by unfold C7; rw [if_neg (by omega), if_neg (by omega), opv3 hc]
    exact ZfK
   ·refine Aa ?_
    refine ZF ?_
    refine ZF ?_
    refine ZF ?_
    refine Ga4 ?_
    have er : C7 m o = (m, 0, 0) := by unfold C7; rw [if_neg (by omega), if_neg (by omega), opv4 hc]; exact congrArg (·, _) J1
    exact ZfK
theorem Vw {v0 : Value} {xs : List Line} (hs : St (L) R w) (h0 : sl v0 xs ∈ R) : Calls Tryz.prog 87 [v0].toArray w (Bs (fun v : Value => v) (fun v => row 92 v xs :: L) (fun v => R)) := by
 refine Ai Tryz.func87 rfl Tryz.ntmps87 rfl hs ?_
 clear hs
 refine ZN ?_
 refine rn1 ?_
 refine ob (Aff Tryz.underlying55 (El h0)) ?_
 refine Gl ?_
 refine A9 (b := ?b1) ?e1 ?_ ?_; case e1 => exact rfl
 ·intro ht4
  refine JC.nilOf ht4 h0 (fun hx => ?_)
  refine ZA ?_
  exact Bb (.slice none 0 0) (hs := fun w hs => by rw [hx]; exact Ag (hs.rowNil 92 Line))
 ·intro ht4
  refine Gm ?_
  refine liO ([] : List Line) Vj rfl (fun j h => Gb) ?_; intro v5
  refine rn1 ?_
  refine ap Vj (hb := fun w hs => by have := Be h0 hs; have : maxN = 16777216 := rfl; simp; omega) (k := ?_); intro v7
  refine Ga1 ?_
  exact Bb v7
theorem Ye {v0 : Value} {xs : List Int} (hs : St (L) R w) (h0 : sl v0 xs ∈ R) : Calls Tryz.prog 85 [v0].toArray w (Bs (fun v : Value => v) (fun v => row 3 v xs :: L) (fun v => R)) := by
 refine Ai Tryz.func85 rfl Tryz.ntmps85 rfl hs ?_
 clear hs
 refine ZN ?_
 refine rn1 ?_
 refine ob (Aff Tryz.underlying58 (El h0)) ?_
 refine Gl ?_
 refine A9 (b := ?b1) ?e1 ?_ ?_; case e1 => exact rfl
 ·intro ht4
  refine JC.nilOf ht4 h0 (fun hx => ?_)
  refine ZA ?_
  exact Bb (.slice none 0 0) (hs := fun w hs => by rw [hx]; exact Ag (hs.rowNil 3 Int))
 ·intro ht4
  refine Gm ?_
  refine liO ([] : List Int) Ea rfl (fun j h => Gb) ?_; intro v5
  refine rn1 ?_
  refine ap Ea (hb := fun w hs => by have := Be h0 hs; have : maxN = 16777216 := rfl; simp; omega) (k := ?_); intro v7
  refine Ga1 ?_
  exact Bb v7
def pr (p : Prop) : Fact := ⟨fun _ => p, fun _ _ _ h => h⟩
theorem St.pr {p : Prop} (h : p) (hs : St L R w) : St L (pr p :: R) w := by
 obtain ⟨m, j, hd, hm, hj, hst, hr⟩ := hs
 exact ⟨m, j, hd, hm, hj, hst, fun q hq => by
  rcases List.mem_cons.1 hq with e | e
  ·rw [e]; exact h
  ·exact hr q e⟩
theorem G6 {p : Prop} (hm : pr p ∈ R) (hs : St L R w) : p := hs.fact hm
theorem Ja {P : Program} {γ δ : Type} {f : FuncId} {args : Array Value} {w : World} {val : γ → Value} {val2 : δ → Value} {L : γ → List Chunk} {R : γ → List Fact} {L2 : δ → List Chunk} {R2 : δ → List Fact} (h : Calls P f args w (Bs val L R)) (hk : ∀ g w', St (L g) (R g) w' → ∃ d, val g = val2 d ∧ St (L2 d) (R2 d) w') : Calls P f args w (Bs val2 L2 R2) := by
 refine h.mono ?_
 rintro e w' ⟨g, rfl, hs'⟩
 obtain ⟨d, h1, h2⟩ := hk g w' hs'
 exact ⟨d, by rw [h1], h2⟩
structure EV where
 e : Entry
 u : Value
instance instEncEV : Enc EV where
 sz := 10
 rd x cs _ := cs = x.e.cells x.u ∧ x.e.wf ∧ x.u.oneCell' = true
 mono _ _ _ _ _ h := h
 len x cs _ h := by rw [h.1]; rfl
 one x cs _ h := by have := h.2.2; rw [h.1]; simp [Entry.cells, Value.oneCell'] at this ⊢; exact this
def Jf (x : EV) : Chunk := row 3 x.u x.e.last
def Aav (x : EV) : Fact := sl x.u x.e.last
theorem Ku {L : List Chunk} {w : World} : ∀ (l : List EV) {R : List Fact}, St (l.map Jf ++ L) R w → St L (l.map Aav ++ R) w
 | [], _, hs => hs
 | x :: l, R, hs => by
  have h1 : St (row 3 x.u x.e.last :: (l.map Jf ++ L)) R w := hs
  have h2 := Ku l h1.shut
  exact h2.sub .refl (fun f hf => by
   simp only [List.map_cons, List.cons_append, List.mem_append, List.mem_cons] at hf ⊢
   rcases hf with e | e | e
   ·exact .inr (.inl e)
   ·exact .inl e
   ·exact .inr (.inr e))
theorem Wr {α : Type} : ∀ (l : List α) (i : Nat) (hi : i < l.length), l.Perm (l[i] :: l.eraseIdx i)
 | x :: l, 0, _ => .refl _
 | x :: l, i + 1, hi => ((Wr l i (by simpa using hi)).cons x).trans (.swap ..)
theorem Aau {l : List EV} {i : Nat} (hi : i < l.length) (hs : St (l.map Jf ++ L) R w) : St (Jf l[i] :: ((l.eraseIdx i).map Jf ++ L)) R w := by
 refine hs.perm ?_
 have h := (Wr l i hi).map Jf
 exact h.append_right L
theorem Us {T : TypeId} {v : Value} {l : List EV} {i : Nat} (hi : i < l.length) (hf : ∀ (k : Nat) x, k ≠ i → l[k]? = some x → Aav x ∈ R) (hs : St (row T v l :: L) R w) : St (foc T v (l.map EV.e) i (Entry.cells l[i].u l[i].e) :: L) R w := by
 obtain ⟨m, j, hd, hm, hj, ⟨m1, m2, hd', h1, h2, hc, hst⟩, hr⟩ := hs
 obtain ⟨rs, r1, r2, r3⟩ := Kp hc
 have hir : i < rs.length := by rw [r2]; exact hi
 refine ⟨m, j, hd, hm, hj, ⟨m1, m2, hd', h1, h2, ⟨rs, r1, by rw [r2]; simp, ⟨rs[i], List.getElem?_eq_getElem hir, ?_⟩, fun k e r hk he hkr => ?_⟩, hst⟩, hr⟩
 ·exact (r3 i l[i] rs[i] (List.getElem?_eq_getElem hi) (List.getElem?_eq_getElem hir)).1
 ·rw [List.getElem?_map] at he
  obtain ⟨x, hx, hxe⟩ := Option.map_eq_some_iff.1 he
  have h3 := r3 k x r hx hkr
  refine ⟨x.u, ?_, ?_, ?_⟩
  ·rw [← hxe]; exact h3.1
  ·rw [← hxe]; exact hr _ (hf k x hk hx)
  ·rw [← hxe]; exact h3.2.1
theorem Ut {T : TypeId} {v : Value} {l : List EV} (hf : ∀ x ∈ l, Aav x ∈ R) (hs : St (row T v l :: L) R w) : St (row T v (l.map EV.e) :: L) R w := by
 obtain ⟨m, j, hd, hm, hj, ⟨m1, m2, hd', h1, h2, hc, hst⟩, hr⟩ := hs
 obtain ⟨rs, r1, r2, r3⟩ := Kp hc
 refine ⟨m, j, hd, hm, hj, ⟨m1, m2, hd', h1, h2, Sa (xs := l.map EV.e) (rs := rs) r1 (by rw [r2]; simp) (fun k e r he hkr => ?_), hst⟩, hr⟩
 exact Zf4
theorem Nb {v : Value} {l : List EV} (hs : St (row 62 v l :: (l.map Jf ++ L)) R w) : St L (sl v (l.map EV.e) :: R) w := by
 have h1 : St (l.map Jf ++ (row 62 v l :: L)) R w := hs.perm List.perm_middle.symm
 have h2 := Ut (fun x hx => List.mem_append.2 (.inl (List.mem_map.2 ⟨x, hx, rfl⟩))) (Ku l h1)
 exact h2.shut.sub .refl (fun f hf => by
  rcases List.mem_cons.1 hf with e | e
  ·exact List.mem_cons.2 (.inl e)
  ·exact List.mem_cons.2 (.inr (List.mem_append.2 (.inr e))))
theorem Js {v : Value} {l : List EV} {es : List Entry} (i : Nat) (he : l.map EV.e = es) (hi : i < es.length) (hs : St (row 62 v l :: (l.map Jf ++ L)) R w) : ∃ u, (es.getD i Az).wf ∧ u.oneCell' = true ∧ St (foc 62 v es i (Entry.cells u (es.getD i Az)) :: row 3 u (es.getD i Az).last :: L) R w := by
 subst he
 have hil : i < l.length := by simpa using hi
 have e1 : (l.map EV.e).getD i Az = l[i].e := by rw [List.getD_eq_getElem?_getD, List.getElem?_map, List.getElem?_eq_getElem hil]; rfl
 refine ⟨l[i].u, ?_⟩
 rw [e1]
 have hw : l[i].e.wf ∧ l[i].u.oneCell' = true := by
  obtain ⟨m, j, hd, hm, hj, ⟨m1, m2, hd', h1, h2, hc, hst⟩, hr⟩ := hs
  obtain ⟨rs, r1, r2, r3⟩ := Kp hc
  exact (r3 i l[i] rs[i] (List.getElem?_eq_getElem hil) (List.getElem?_eq_getElem (by rw [r2]; exact hil))).2
 refine ⟨hw.1, hw.2, ?_⟩
 have h1 : St (l.map Jf ++ (row 62 v l :: L)) R w := hs.perm List.perm_middle.symm
 have h2 := Aau hil h1
 have h3 : St ((l.eraseIdx i).map Jf ++ (Jf l[i] :: row 62 v l :: L)) R w := h2.perm List.perm_middle.symm
 have h4 := Ku _ h3
 have h5 : St (row 62 v l :: Jf l[i] :: L) ((l.eraseIdx i).map Aav ++ R) w := h4.perm (.swap ..)
 have h6 := Us hil (fun k x hk hx => List.mem_append.2 (.inl (List.mem_map.2 ⟨x, ?_, rfl⟩))) h5
 ·exact h6.sub .refl (fun f hf => List.mem_append.2 (.inr hf))
 ·obtain ⟨hkl, hkx⟩ := List.getElem?_eq_some_iff.1 hx
  rw [← hkx]
  exact List.mem_eraseIdx_iff_getElem.2 ⟨k, hkl, hk, rfl⟩
theorem Hu {v0 : Value} {l : List Entry} (hs : St (L) R w) (h0 : sl v0 l ∈ R) : Calls Tryz.prog 65 [v0].toArray w (Bs (fun g : Value × List EV => g.1) (fun g => row 62 g.1 g.2 :: (g.2.map Jf ++ L)) (fun g => pr (g.2.map EV.e = l) :: R)) := by
 have hlen := Be h0 hs
 refine Ai Tryz.func65 rfl Tryz.ntmps65 rfl hs ?_
 clear hs
 refine ZN ?_
 refine ZaG ?_
 refine JC.rowNil 62 EV ?_
 refine A7 (γ := Nat × Value × List EV) (fun g => g.1 ≤ l.length ∧ g.2.2.map EV.e = l.take g.1) (fun g => row 62 g.2.1 g.2.2 :: (g.2.2.map Jf ++ L)) (fun _ => R) (fun g => [(3, g.2.1), (6, v0), (7, vi (l.length : Int)), (8, vi (g.1 : Int))]) (fun g => l.length - g.1) (0, .slice none 0 0, []) ⟨Nat.zero_le _, by simp⟩ alT (fun w hs => hs) ?_
 rintro ⟨k, vs, xs⟩ ⟨hk, hx⟩
 try simp only at hk hx ⊢
 have hxl : xs.length = k := by
  have := congrArg List.length hx
  simp at this; omega
 refine ZA ?_
 refine cdy ?_ ?_
 ·intro ht9
  refine Gl ?_
  refine JC.open1 (xs := l) (v := v0) k mm (by omega) (fun hwE u => ?_)
  refine JC.know (p := u.oneCell' = true) (fun w hs => isSlice.one (hs.fact (.tail _ (.head _)))) (fun honeu => ?_)
  refine ZD ?_
  refine al_ (cs := zEC) Tryz.zeroValue62 ?_; intro b5
  refine s_B (cs := Entry.cells u (l.getD k Az)) Tryz.sizeOf62 ?_
  refine ZJ ?_
  refine An Tryz.call85 rfl (fun w hs => Ye (xs := (l.getD k Az).last) hs mm) ?_; intro v14
  refine J.know (p := v14.oneCell' = true) (fun w hs => Bx .hd hs) (fun honev => ?_)
  refine ZH ?_
  refine ZJ ?_
  refine li (α := EV) [⟨(l.getD k Az), v14⟩] Q3 rfl (fun j hj => ⟨⟨_, rfl, rfl, hwE, honev⟩, trivial⟩) ?_; intro v18
  refine ap Q3 (hb := fun w hs => by have : maxN = 16777216 := rfl; simp only [List.length_cons, List.length_nil]; omega) (k := ?_); intro v19
  refine ZG ?_
  refine Au (k + 1, v19, xs ++ [⟨(l.getD k Az), v14⟩]) ⟨by show k + 1 ≤ l.length; omega, by rw [List.map_append, hx, Es Az (by omega)]; rfl⟩ (by show l.length - (k + 1) < l.length - k; omega) alT (fun w hs => ?_)
  try simp only
  have h9 : St (row 62 v19 (xs ++ [⟨(l.getD k Az), v14⟩]) :: row 3 v14 (l.getD k Az).last :: (xs.map Jf ++ L)) R w := Ag hs
  refine h9.perm (.cons _ ?_)
  rw [List.map_append, List.append_assoc]
  exact List.perm_middle.symm
 ·intro ht9
  refine ZC ?_
  have hkl : k = l.length := by omega
  rw [hkl, List.take_length] at hx
  exact Bb (vs, xs) (hs := fun w hs => St.pr hx (Ag hs))
theorem Tv {v0 : Value} {l : List Entry} (hs : St (L) R w) (h0 : sl v0 l ∈ R) : Calls Tryz.prog 65 [v0].toArray w (Bs (fun v : Value => v) (fun _ => L) (fun v => sl v l :: R)) :=
 Ja (Hu hs h0) (fun g w' hs' => ⟨g.1, rfl, by
  have h1 : g.2.map EV.e = l := G6 (.head _) hs'
  have h2 := Nb hs'
  rw [h1] at h2
  exact h2.sub .refl (fun f hf => by
   rcases List.mem_cons.1 hf with e | e
   ·exact List.mem_cons.2 (.inl e)
   ·exact List.mem_cons.2 (.inr (.tail _ e)))⟩)
def Jx (s : Int) : Int := if s = 0 then 0 else if s < 2 then 1 else if s < 4 then 2 else if s < 8 then 3 else 4
theorem q_ixS {P : Program} {n : Nat} {L : List Chunk} {R : List Fact} {al : List (Nat × Value)} {d : Nat} {x y : Operand} {T ty : TypeId} {pos : String} {aft : Array Edge} {s : ByteArray} {k : IntKind} {i : Int} {b : UInt8} (ht : P.underlying T = some .string) (hx : ev n al x = some (.string s)) (hy : ev n al y = some (.int k i)) (h0 : 0 ≤ i) (hb : s[i.toNat]? = some b) : A2 P n al L R ⟨some d, .index T x y, ty, pos, aft, none⟩ (vb b) :=
 ⟨rfl, fun ρ w h _ => by
  show (Instr.index T (ρ x) (ρ y) >>= fun v => Pure.pure (Next.value v)).run P w = _
  rw [h x (by simp [Op.operands]) _ hx, h y (by simp [Op.operands]) _ hy]
  simp [Instr.index, asIntOf, Cy ht, h0, hb]⟩
theorem len64 {s : Int} (hs : St (L) R w) (h0 : 0 ≤ s) (h1 : s < 16) : Calls Tryz.prog 106 [.int .u64 s].toArray w (Bs (fun _ : Unit => vi (Jx s)) (fun _ => L) (fun _ => R)) := by
 refine Ai Tryz.func106 rfl Tryz.ntmps106 rfl hs ?_
 clear hs
 refine ZN ?_
 refine rn1 ?_
 refine Di ?_
 refine Gmc ?_
 refine rn1 ?_
 refine Di ?_
 refine Gmc ?_
 refine rn1 ?_
 refine Di ?_
 refine Gmc ?_
 refine rn2 ?_
 refine ob (Ar (v := .int .u8 s) Tryz.underlying173 Tryz.underlying5 rfl (by rcases (show s = 0 ∨ s = 1 ∨ s = 2 ∨ s = 3 ∨ s = 4 ∨ s = 5 ∨ s = 6 ∨ s = 7 ∨ s = 8 ∨ s = 9 ∨ s = 10 ∨ s = 11 ∨ s = 12 ∨ s = 13 ∨ s = 14 ∨ s = 15 by omega) with h | h | h | h | h | h | h | h | h | h | h | h | h | h | h | h <;> subst h <;> rfl)) ?_
 refine ob (q_ixS (b := u8 (Jx s)) Tryz.underlying9 rfl rfl h0 (by rcases (show s = 0 ∨ s = 1 ∨ s = 2 ∨ s = 3 ∨ s = 4 ∨ s = 5 ∨ s = 6 ∨ s = 7 ∨ s = 8 ∨ s = 9 ∨ s = 10 ∨ s = 11 ∨ s = 12 ∨ s = 13 ∨ s = 14 ∨ s = 15 by omega) with h | h | h | h | h | h | h | h | h | h | h | h | h | h | h | h <;> subst h <;> kernel_rfl)) ?_
 refine ob (Ar (v := vi (Jx s)) Tryz.underlying5 Tryz.underlying3 rfl (by rcases (show s = 0 ∨ s = 1 ∨ s = 2 ∨ s = 3 ∨ s = 4 ∨ s = 5 ∨ s = 6 ∨ s = 7 ∨ s = 8 ∨ s = 9 ∨ s = 10 ∨ s = 11 ∨ s = 12 ∨ s = 13 ∨ s = 14 ∨ s = 15 by omega) with h | h | h | h | h | h | h | h | h | h | h | h | h | h | h | h <;> subst h <;> rfl)) ?_
 refine ob (Fx (a := 0) (b := Jx s) (by exact rfl) (by exact rfl) (by unfold Jx; omega) (by unfold Jx; omega)) ?_
 rw [Int.zero_add]
 refine Ga1 ?_
 exact Bb ()
theorem Ajg {s : Int} (hs : St (L) R w) (h0 : 0 ≤ s) (h1 : s < 16) : Calls Tryz.prog 104 [.int .u64 s].toArray w (Bs (fun _ : Unit => vi (Jx s)) (fun _ => L) (fun _ => R)) := by
 refine Ai Tryz.func104 rfl Tryz.ntmps104 rfl hs ?_
 clear hs
 refine Gm ?_
 refine Gd1 ?_
 refine rn1 ?_
 refine An Tryz.call106 rfl (fun w hs => len64 hs h0 h1) ?_; intro _
 refine Ga1 ?_
 exact Bb ()
section
variable {P : Program} {n : Nat} {Q : Exit → Act → World → Prop} {Sh : Rho → (Nat → Bool) → List Chunk} {R0 : List Fact} {al0 : List (Nat × Value)}
variable {ops : Array Oper} {i : Nat} {rest : List Oper} {its : List Item} {d : Nat} {x y : Operand} {T ty : TypeId} {pos : String} {aft : Array Edge}
theorem Xq {γ : Type} [Gh γ] {val : γ → Value} {F : γ → List Fact} {C : γ → List Chunk} {f : FuncId} {args : List Operand} {ts : Array TypeId} {vs : Rho → List Value} (hf : ∀ args w, (callFunc f args).run P w = .ok (.enter f args) w)
  (ha : ∀ ρ, evL n (Eh its al0 ρ) args = some (vs ρ)) (hc : ∀ ρ L' R' w, Deps ops R0 its i ρ R' → St L' R' w → Calls P f (vs ρ).toArray w (Bs val (fun g => C g ++ L') (fun g => F g ++ R'))) (hSh : Jw ops Sh i)
  (k : DJ P n ops Q Sh R0 al0 (i + 1) rest (⟨i, some d, fun ρ => val (Gh.dec (ρ i)), fun ρ => F (Gh.dec (ρ i)), fun ρ => C (Gh.dec (ρ i))⟩ :: its)) :
  DJ P n ops Q Sh R0 al0 i (⟨some d, .call { callee := .value (.func f), args := args.toArray, argTypes := ts }, ty, pos, aft, none⟩ :: rest) its :=
 Aby (C := C) rfl rfl hSh (fun ρ S a L' R' w K h hK => by
  unfold Oper.wp
  rw [Ke hf rfl, Oper.upon_enter, List.map_toArray, Gj h.agree (fun x hx => by simp [Op.operands, Call.operands, hx]) (ha ρ)]
  refine (hc ρ _ _ w ⟨h.base, h.deps⟩ h.st).mono ?_
  rintro e w' ⟨g, rfl, hs'⟩
  exact hK g w' hs') k
end
theorem G4 {u : Value} {c : Core} (hs : St (L) R w) (hu : sl u c.lines ∈ R) : Calls Tryz.prog 67 [.agg (c.cells u).toArray].toArray w (Bs (fun v : Value => .agg (Core.cells v c).toArray) (fun v => row 92 v c.lines :: L) (fun v => R)) := by
 refine ZaB ?_;intro hone0
 refine Ai Tryz.func67 rfl Tryz.ntmps67 rfl hs ?_
 clear hs
 refine Gm ?_
 refine bx ?_; intro b1
 refine al_ (cs := [.slice none 0 0, vi 0, vi 0, vi 0]) Tryz.zeroValue57 ?_; intro b2
 refine Gl ?_
 refine cq_ (blk b2 57 [.slice none 0 0, vi 0, vi 0, vi 0] :: blk b1 57 (c.cells u) :: L) ?_
 refine jd_ (fun ρ S => blk b2 57 (bif S 6 then [(Gh.dec (γ := Value) (ρ 2)), vi c.wait.kind, vi c.wait.line, vi c.wait.value] else [.slice none 0 0, vi 0, vi 0, vi 0]) :: blk b1 57 (c.cells u) :: L) ?_
 refine dn2 ?_
 refine Xq (γ := Value) (val := fun v => v) (F := fun v => [pr (v.oneCell' = true)]) (C := fun v => [row 92 v c.lines]) Tryz.call87 (fun _ => rfl) (fun ρ L R w hd hs => Ja (Vw (xs := c.lines) hs (hd.base mm)) (fun v w hs => ⟨v, rfl, St.pr (Bx .hd hs) hs⟩)) (fun ρ g S hS hA => by have u6 : upS S 2 6 = S 6 := rfl; have h6 : S 6 = false := hA 6 ⟨0, rfl⟩; simp only [u6, h6, cond_false]) ?_
 refine dn2 ?_
 refine e_pd (v := fun ρ => .agg ([(Gh.dec (γ := Value) (ρ 2)), vi c.wait.kind, vi c.wait.line, vi c.wait.value]).toArray) (fun ρ S R' L' w hd hs => by have h1 : ((Gh.dec (γ := Value) (ρ 2))).oneCell' = true := hs.fact (hd.dep (it := ⟨2, _, _, _, _⟩) (by repeat (first | exact List.Mem.head _ | refine List.Mem.tail _ ?_)) ⟨9, rfl⟩ (List.Mem.head _)); exact Fd Hn) (Ind.gh (h := fun g => Value.agg ([(Gh.dec (γ := Value) g), vi c.wait.kind, vi c.wait.line, vi c.wait.value]).toArray) 2 3 rfl) (fun _ _ _ _ _ => rfl) ?_
 refine es_ 57 0 [] [] (fun ρ => b2) (fun ρ => [.slice none 0 0, vi 0, vi 0, vi 0]) (fun ρ => [(Gh.dec (γ := Value) (ρ 2)), vi c.wait.kind, vi c.wait.line, vi c.wait.value]) Tryz.sizeOf57 (h1 := (fun ρ R w L' hd hs => Bl (hs.fact (hd.dep (it := ⟨2, _, _, _, _⟩) (by repeat (first | exact List.Mem.head _ | refine List.Mem.tail _ ?_)) ⟨9, rfl⟩ (List.Mem.head _)) : ((Gh.dec (γ := Value) (ρ 2))).oneCell' = true) (by repeat (first | exact Dy | refine Bl rfl ?_)))) ?_
 refine dnl ?_; intro ρ
 refine JX.conseq (L' := row 92 (Gh.dec (γ := Value) (ρ 2)) c.lines :: blk b2 57 [(Gh.dec (γ := Value) (ρ 2)), vi c.wait.kind, vi c.wait.line, vi c.wait.value] :: blk b1 57 (c.cells u) :: L) (fun w hs => Ag hs) ?_
 generalize (Gh.dec (γ := Value) (ρ 2)) = v5
 refine Gl ?_
 exact Mh v5 Tryz.isAgg57 Tryz.sizeOf57
theorem Fj {LX : List Chunk} {R : List Fact} {w : World} {vL vo vd : Value} {bk : Nat} {q : Op} {id home : Int} {ms : List Msg} {kind line serial turn value : Int} (hs : St (blk bk 137 [vL, vi q.kind, vi q.line, vi q.value, vi id, vi home, vo, vd] :: row 76 vo ms :: LX) R w) (hn : ms.length ≤ 1000) (hwf : (⟨kind, id, home, line, serial, turn, value, false⟩ : Msg).wf) : Calls Tryz.prog 96 [bp bk 0, vi kind, vi line, vi serial, vi turn, vi value].toArray w (Bs (fun v : Value => .tuple #[]) (fun v => blk bk 137 [vL, vi q.kind, vi q.line, vi q.value, vi id, vi home, v, vd] :: row 76 v (ms ++ [(⟨kind, id, home, line, serial, turn, value, false⟩ : Msg)]) :: LX) (fun v => R)) := by
 refine Ai Tryz.func96 rfl Tryz.ntmps96 rfl hs ?_
 clear hs
 refine cq_ (blk bk 137 [vL, vi q.kind, vi q.line, vi q.value, vi id, vi home, vo, vd] :: row 76 vo ms :: LX) ?_
 refine jd_ (fun ρ S => blk bk 137 (bif S 23 then [vL, vi q.kind, vi q.line, vi q.value, vi id, vi home, (Gh.dec (γ := Value) (ρ 20)), vd] else [vL, vi q.kind, vi q.line, vi q.value, vi id, vi home, vo, vd]) :: (bif S 20 then row 76 (Gh.dec (γ := Value) (ρ 20)) (ms ++ [(⟨kind, id, home, line, serial, turn, value, false⟩ : Msg)]) else row 76 vo ms) :: (LX)) ?_
 refine dn4 ?_
 refine Ib (v := vo) (fun ρ S hS hB hA => by have h23 : S 23 = false := hA 23 ⟨0, rfl⟩; simp only [h23, cond_false]; exact Cz (hc := A0 pkk (by repeat (first | exact rfl | refine C5 rfl ?_))) Tryz.isAgg64) (fun _ _ _ _ _ => rfl) ?_
 refine dn4 ?_
 refine Ib (v := vi id) (fun ρ S hS hB hA => by have h23 : S 23 = false := hA 23 ⟨0, rfl⟩; simp only [h23, cond_false]; exact Cz (hc := A0 pkk (by repeat (first | exact rfl | refine C5 rfl ?_))) Tryz.isAgg3) (fun _ _ _ _ _ => rfl) ?_
 refine dn3 ?_
 refine Ib (v := vi home) (fun ρ S hS hB hA => by have h23 : S 23 = false := hA 23 ⟨0, rfl⟩; simp only [h23, cond_false]; exact Cz (hc := A0 pkk (by repeat (first | exact rfl | refine C5 rfl ?_))) Tryz.isAgg3) (fun _ _ _ _ _ => rfl) ?_
 refine dn4 ?_
 first | refine epc (fun _ _ => Dx D8) ?_ | refine epc (fun _ _ => Fd D8) ?_ | refine epp (fun _ _ => Dx D8) ?_ | refine epp (fun _ _ => Fd D8) ?_
 refine Fe ([(⟨kind, id, home, line, serial, turn, value, false⟩ : Msg)] : List Msg) Fp rfl (fun _ => rfl) rfl (fun _ => rfl) rfl rfl (fun ρ R hd => Il hwf) (fun _ _ _ _ _ => rfl) ?_
 refine Fi (e := 76) (xs := ms) (ys := [(⟨kind, id, home, line, serial, turn, value, false⟩ : Msg)]) (v := vo) Fp (fun _ => rfl) (fun _ => rfl) rfl (by decide) (fun ρ R hd => (hd.dep (it := ⟨19, _, _, _, _⟩) (by repeat (first | exact List.Mem.head _ | refine List.Mem.tail _ ?_)) ⟨9, rfl⟩ (List.Mem.head _))) (by have : maxN = 16777216 := rfl; simp only [List.length_cons, List.length_nil]; omega) (fun ρ g S hS hB hA => ?_) ?_
 ·have ui : upS S 20 20 = true := rfl; have u23 : upS S 20 23 = S 23 := rfl; have h23 : S 23 = false := hA 23 ⟨0, rfl⟩; have rs : (Gh.dec (γ := Value) (Rho.set ρ 20 (Gh.enc g) 20)) = g := rfl
  simp only [ui, hS, u23, h23, rs, cond_true, cond_false]
  exact pex
 refine dn2 ?_
 refine Eb (T0 := 137) (f := 6) (vs := fun ρ => [vL, vi q.kind, vi q.line, vi q.value, vi id, vi home, vo, vd]) (v := fun ρ => (Gh.dec (γ := Value) (ρ 20))) (fun ρ => bk) Tryz.sizeOf64 (fun _ => rfl) (fun _ => rfl) (fun ρ S R w L9 hB hd hs => by have h20 : S 20 = true := hB 20 ⟨9, rfl⟩; simp only [h20, cond_true] at hs; exact Bx pkk hs) (fun _ => rfl) (fun ρ g S hS hB hA => ?_) ?_
 ·have ui : upS S 23 23 = true := rfl; have u20 : upS S 23 20 = S 20 := rfl; have r20 : Rho.set ρ 23 g 20 = ρ 20 := rfl
  simp only [ui, hS, u20, r20, cond_true, cond_false]
  exact pex
 refine dnl ?_; intro ρ
 refine xq_ (blk bk 137 [vL, vi q.kind, vi q.line, vi q.value, vi id, vi home, (Gh.dec (γ := Value) (ρ 20)), vd] :: row 76 (Gh.dec (γ := Value) (ρ 20)) (ms ++ [(⟨kind, id, home, line, serial, turn, value, false⟩ : Msg)]) :: (LX)) ?_
 generalize (Gh.dec (γ := Value) (ρ 19)) = v31
 generalize (Gh.dec (γ := Value) (ρ 20)) = v32
 refine Bg (.inl rfl) (fun B w hs => H6 rfl _ w) (fun w hs => ⟨v32, rfl, Ag hs⟩)
theorem Fh {P : Program} {n : Nat} {Q : Exit → Act → World → Prop} {L : List Chunk} {R : List Fact} {al : List (Nat × Value)} {cd : Code} {v : Value} {x : Chip} (p : Nat) (hm : sl v x.cores ∈ R) (hp : p < x.cores.length) (k : (cor x p).wait.wf → ∀ u, u.oneCell' = true → JC P n cd Q L (cF v 4 p (Core.cells u (cor x p)) :: sl u (cor x p).lines :: R) al) : JC P n cd Q L R al :=
 JC.open1 p hm hp fun hw u => JC.know (p := u.oneCell' = true) (fun w hs => isSlice.one (hs.fact (.tail _ (.head _)))) (k hw u)
theorem O4 {P : Program} {n : Nat} {Q : Exit → Act → World → Prop} {L : List Chunk} {R : List Fact} {al : List (Nat × Value)} {cd : Code} {v : Value} {x : Chip} (i : Nat) (hm : sl v x.home ∈ R) (hi : i < x.home.length) (k : (ent x i).wf → ∀ u, u.oneCell' = true → JC P n cd Q L (cF v 10 i (Entry.cells u (ent x i)) :: sl u (ent x i).last :: R) al) : JC P n cd Q L R al :=
 JC.open1 i hm hi fun hw u => JC.know (p := u.oneCell' = true) (fun w hs => isSlice.one (hs.fact (.tail _ (.head _)))) (k hw u)
theorem I3 {P : Program} {n : Nat} {Q : Exit → Act → World → Prop} {L : List Chunk} {R : List Fact} {al : List (Nat × Value)} {cd : Code} {u : Value} {x : Chip} {p : Nat} (i : Nat) (hm : sl u (cor x p).lines ∈ R) (hi : i < (cor x p).lines.length) (k : (lin x i p).wf → JC P n cd Q L (cF u 7 i (lin x i p).cells :: R) al) : JC P n cd Q L R al := JC.open0 i hm hi k
theorem Aaj {P : Program} {n : Nat} {Q : Exit → Act → World → Prop} {L : List Chunk} {R : List Fact} {al : List (Nat × Value)} {cd : Code} {u : Value} {x : Chip} {i : Nat} (p : Nat) (hm : sl u (ent x i).last ∈ R) (hp : p < (ent x i).last.length) (k : Ao ((ent x i).last.getD p 0) → JC P n cd Q L (cF u 1 p [vi ((ent x i).last.getD p 0)] :: R) al) : JC P n cd Q L R al := JC.open0 (xs := (ent x i).last) p hm hp k
section
variable {P : Program} {n : Nat} {Q : Exit → Act → World → Prop} {Sh : Rho → (Nat → Bool) → List Chunk} {R0 : List Fact} {al0 : List (Nat × Value)}
variable {ops : Array Oper} {i : Nat} {rest : List Oper} {its : List Item} {d : Nat} {x y : Operand} {T ty : TypeId} {pos : String} {aft : Array Edge}
theorem Xr {α : Type} [Enc α] {t e : TypeId} {d sz bytes : Nat} {z : Value} {xs : List α} {ys : Rho → List α} {v : Value} {u : Rho → Value} (he : ElemOf P t e sz z bytes) (hx : ∀ ρ, ev n (Eh its al0 ρ) x = some v) (hy : ∀ ρ, ev n (Eh its al0 ρ) y = some (u ρ)) (hsz : Enc.sz α = sz) (hpos : 0 < sz)
  (hm : ∀ ρ R', Deps ops R0 its i ρ R' → sl (u ρ) (ys ρ) ∈ R') (hb : ∀ ρ, xs.length + (ys ρ).length ≤ maxN)
  (hSh : ∀ ρ (g : Value) S, S i = false → (∀ j, Bef ops j i → S j = true) → (∀ j, Bef ops i j → S j = false) → ∃ L1, (Sh ρ S).Perm (row e v xs :: L1) ∧ (Sh (Rho.set ρ i (Gh.enc g)) (upS S i)).Perm (row e g (xs ++ ys ρ) :: L1))
  (k : DJ P n ops Q Sh R0 al0 (i + 1) rest (⟨i, some d, fun ρ => (Gh.dec (ρ i) : Value), fun _ => [], fun _ => []⟩ :: its)) :
  DJ P n ops Q Sh R0 al0 i (⟨some d, .call { callee := .builtin .append, args := #[x, y], argTypes := #[t, t] }, ty, pos, aft, none⟩ :: rest) its := by
 refine dj ⟨⟨i, some d, fun ρ => (Gh.dec (ρ i) : Value), fun _ => [], fun _ => []⟩, rfl, rfl, Ind.self (h := fun g => (Gh.dec g : Value)), Ind.const _, Ind.const _, ?_, k⟩
 intro ρ S a L' R' w K hS hbef haft hag hdep hbase hst hK
 rw [if_pos (by simp [Region.wanted])]
 left
 unfold Oper.wp
 obtain ⟨L1, p1, _⟩ := hSh ρ undef S hS hbef haft
 have hs' : St (row e v xs :: (L1 ++ L')) R' w := hst.perm (p1.append_right L')
 obtain ⟨v', w', h1, h2⟩ := Hi (ty := ty) he hsz hpos hs' (hm ρ R' ⟨hbase, hdep⟩) (hb ρ)
 have hx' := Cp hag (by simp [Op.operands, Call.operands]) (hx ρ)
 have hy' := Cp hag (by simp [Op.operands, Call.operands]) (hy ρ)
 rw [Fs (w' := w') (v := v') (by rw [hx', hy']; exact h1), Oper.upon_value]
 obtain ⟨L2, q1, q2⟩ := hSh ρ v' S hS hbef haft
 have e2 : (Rho.set ρ i (Gh.enc v')) i = Gh.enc v' := by simp [Rho.set]
 have h3 := h2
 have hL : L1.Perm L2 := (List.perm_cons _).1 (p1.symm.trans q1)
 have := hK (Gh.enc v') w' ((h3.perm ((hL.append_right L').cons _)).perm (by
  refine List.Perm.trans ?_ (q2.symm.append_right L')
  exact List.Perm.refl _))
 simp only [e2, Gh.ok] at this
 exact this
theorem e_litR {α : Type} [Enc α] {t el : TypeId} {sz bytes len : Nat} {z : Value} {parts : List (Nat × Operand)} {vs : Rho → List Value} (xs : Rho → List α) (he : ElemOf P t el sz z bytes) (hsz : Enc.sz α = sz)
  (ha : ∀ ρ, evL n (Eh its al0 ρ) (parts.map (·.2)) = some (vs ρ)) (hidx : parts.map (·.1) = List.range' 0 len) (hlv : ∀ ρ, (vs ρ).length = len) (hsmall : Nat.ble (len * sz) 1000 = true) (hsm2 : Nat.ble len 1000 = true)
  (hrd : ∀ ρ R', Deps ops R0 its i ρ R' → ∀ j, (∀ q ∈ R', q.p j) → RdV (xs ρ) (vs ρ) j) (hxi : Ind ops i xs) (hxs : ∀ ρ g, xs (Rho.set ρ i g) = xs ρ) (hSh : Jw ops Sh i)
  (k : DJ P n ops Q Sh R0 al0 (i + 1) rest (⟨i, some d, fun ρ => (Gh.dec (ρ i) : Value), fun ρ => [sl (Gh.dec (ρ i) : Value) (xs ρ)], fun _ => []⟩ :: its)) :
  DJ P n ops Q Sh R0 al0 i (⟨some d, .buildSlice t len parts.toArray, ty, pos, aft, none⟩ :: rest) its := by
 refine dj ⟨⟨i, some d, fun ρ => (Gh.dec (ρ i) : Value), fun ρ => [sl (Gh.dec (ρ i) : Value) (xs ρ)], fun _ => []⟩, rfl, rfl, Ind.self (h := fun g => (Gh.dec g : Value)), (fun q g ρ hq hn => ?_), Ind.const _, ?_, k⟩
 ·show [sl (Gh.dec ((Rho.set ρ q g) i) : Value) (xs (Rho.set ρ q g))] = [sl (Gh.dec (ρ i) : Value) (xs ρ)]
  rw [hxi q g ρ hq hn]; simp [Rho.set, Ne.symm hq]
 intro ρ S ac L' R' w K hS hbef haft hag hdep hbase hst hK
 rw [if_pos (by simp [Region.wanted])]
 left
 obtain ⟨j, hj, hrj⟩ := hst.ex
 have hrd' := hrd ρ R' ⟨hbase, hdep⟩
 obtain ⟨h1, h2, h3⟩ := (hrd' j hrj).list
 have hlen := hlv ρ
 have hb := Nat.le_of_ble_eq_true hsmall
 have hb2 := Nat.le_of_ble_eq_true hsm2
 have hrun := Gy (vs := vs ρ) he (fun v hv => by rw [h2 v hv, hsz]) (by rw [hlen]; exact hb) w
 have e : (execOp ac.eval ⟨some d, .buildSlice t len parts.toArray, ty, pos, aft, none⟩).run P w = .ok (.value (.slice (some ⟨w.heap.size, 0, none⟩) len len)) (w.alloc (.cells ((vs ρ).flatMap fun v => v.cells.toList).toArray el)) := by
  show (Instr.buildSlice t len (parts.toArray.map fun (i, x) => (i, ac.eval x)) >>= fun v => Pure.pure (Next.value v)).run P w = _
  have hp : (parts.toArray.map fun (i, x) => (i, ac.eval x)) = ((parts.map (·.1)).zip (vs ρ)).toArray := by
   rw [← Gj hag (fun x hx => by simpa [Op.operands] using hx) (ha ρ)]
   simp only [List.map_toArray, List.map_map, List.zip_map', Function.comp_def]
  rw [hp, hidx, Sem.run_bind, ← hlen, hrun]; rfl
 unfold Oper.wp
 rw [e, Oper.upon_value]
 obtain ⟨m, j', hd, hmw, hjw, hst', hr⟩ := hst
 have hnew : St (row el (.slice (some ⟨w.heap.size, 0, none⟩) len len) (xs ρ) :: (Sh ρ S ++ L')) R' (w.alloc (.cells ((vs ρ).flatMap fun v => v.cells.toList).toArray el)) := by
  obtain ⟨g1, g2, g3⟩ := (hrd' j' hr).list
  have hcl : ((vs ρ).flatMap fun v => v.cells.toList).length = len * sz := by rw [g3.len, g1, hlen, hsz]
  exact St.newC hd hmw hjw hst' hr rfl rfl rfl ⟨by rw [g1, hlen]; have : maxN = 16777216 := rfl; omega, .inr ⟨w.heap.size, len, _, _, by rw [g1, hlen], Eu _ _, by rw [g1, hlen]; exact Nat.le_refl _, by unfold maxLen; omega, by rw [hsz]; simpa using hcl, rfl, by
   rw [g1, hlen, hsz, ← hcl, List.toList_toArray, List.take_length]; exact g3⟩⟩
 have e2 : (Rho.set ρ i (Gh.enc (Value.slice (some ⟨w.heap.size, 0, none⟩) len len))) i = Gh.enc (Value.slice (some ⟨w.heap.size, 0, none⟩) len len) := by simp [Rho.set]
 have := hK (Gh.enc (Value.slice (some ⟨w.heap.size, 0, none⟩) len len)) (w.alloc (.cells ((vs ρ).flatMap fun v => v.cells.toList).toArray el))
 simp only [e2, Gh.ok, hxs, hSh ρ _ S hS haft] at this
 exact this hnew.shut
end
structure KV where
 c : Core
 u : Value
instance instEncKV : Enc KV where
 sz := 4
 rd x cs _ := cs = x.c.cells x.u ∧ x.c.wait.wf ∧ x.u.oneCell' = true
 mono _ _ _ _ _ h := h
 len x cs _ h := by rw [h.1]; rfl
 one x cs _ h := by have := h.2.2; rw [h.1]; simp [Core.cells] at this ⊢; refine ⟨this, ?_⟩; simp [Value.oneCell']
def Y7 (x : KV) : Chunk := row 92 x.u x.c.lines
def linF (x : KV) : Fact := sl x.u x.c.lines
theorem Qp {L : List Chunk} {w : World} : ∀ (l : List KV) {R : List Fact}, St (l.map Y7 ++ L) R w → St L (l.map linF ++ R) w
 | [], _, hs => hs
 | x :: l, R, hs => by
  have h1 : St (row 92 x.u x.c.lines :: (l.map Y7 ++ L)) R w := hs
  have h2 := Qp l h1.shut
  exact h2.sub .refl (fun f hf => by
   simp only [List.map_cons, List.cons_append, List.mem_append, List.mem_cons] at hf ⊢
   rcases hf with e | e | e
   ·exact .inr (.inl e)
   ·exact .inl e
   ·exact .inr (.inr e))
theorem Ur {T : TypeId} {v : Value} {l : List KV} (hf : ∀ x ∈ l, linF x ∈ R) (hs : St (row T v l :: L) R w) : St (row T v (l.map KV.c) :: L) R w := by
 obtain ⟨m, j, hd, hm, hj, ⟨m1, m2, hd', h1, h2, hc, hst⟩, hr⟩ := hs
 obtain ⟨rs, r1, r2, r3⟩ := Kp hc
 refine ⟨m, j, hd, hm, hj, ⟨m1, m2, hd', h1, h2, Sa (xs := l.map KV.c) (rs := rs) r1 (by rw [r2]; simp) (fun k e r he hkr => ?_), hst⟩, hr⟩
 exact Zf4
theorem Aiu {cv hv fv : Value} {x : Chip} (hs : St (L) R w) (hcv : sl cv x.cores ∈ R) (hhv : sl hv x.home ∈ R) (hfv : sl fv x.frames ∈ R) (hn4 : x.cores.length ≤ 1000) : Calls Tryz.prog 40 [.agg #[cv, hv, fv]].toArray w (Bs (fun g : Value × Value × Value × List KV => .agg #[g.1, g.2.1, g.2.2.1]) (fun g => row 57 g.1 g.2.2.2 :: (g.2.2.2.map Y7 ++ L)) (fun g => pr (g.2.2.2.map KV.c = x.cores) :: sl g.2.2.1 x.frames :: sl g.2.1 x.home :: R)) := by
 refine Zbc ?_;intro honec honeh
 have honef : fv.oneCell' = true := isSlice.one (hs.fact hfv)
 refine Ai Tryz.func40 rfl Tryz.ntmps40 rfl hs ?_
 clear hs
 refine Gm ?_
 refine bx ?_; intro b1
 refine Zcq ?_;intro b2
 refine Gl ?_
 refine cq_ (blk b2 30 [.slice none 0 0, .slice none 0 0, .slice none 0 0] :: blk b1 30 [cv, hv, fv] :: L) ?_
 refine jd_ (fun ρ S => blk b2 30 [.slice none 0 0, .slice none 0 0, .slice none 0 0] :: blk b1 30 [cv, hv, fv] :: ((bif S 7 then [blk (Gh.dec (γ := Nat) (ρ 7)) 30 (bif S 8 then [.slice none 0 0, (Gh.dec (γ := Value) (ρ 2)), (Gh.dec (γ := Value) (ρ 5))] else [.slice none 0 0, .slice none 0 0, .slice none 0 0])] else []) ++ (L))) ?_
 refine dn2 ?_
 refine Bu (γ := Value) (val := fun v => v) (F := fun v => [sl v x.home]) Tryz.call65 (fun _ => rfl) (fun ρ L R w hd hs => Tv (l := x.home) hs (hd.base mm)) (fun ρ g S hS hA => by have u7 : upS S 2 7 = S 7 := rfl; have u8 : upS S 2 8 = S 8 := rfl; have r5 : Rho.set ρ 2 g 5 = ρ 5 := rfl; have r7 : Rho.set ρ 2 g 7 = ρ 7 := rfl; have h8 : S 8 = false := hA 8 ⟨0, rfl⟩; simp only [u7, u8, r5, r7, h8, cond_false]) ?_
 refine dn2 ?_
 refine Bu (γ := Value) (val := fun v => v) (F := fun v => [sl v x.frames]) Tryz.call66 (fun _ => rfl) (fun ρ L R w hd hs => frz (Tn (l := x.frames) hs (hd.base mm))) (fun ρ g S hS hA => by have u7 : upS S 5 7 = S 7 := rfl; have u8 : upS S 5 8 = S 8 := rfl; have r2 : Rho.set ρ 5 g 2 = ρ 2 := rfl; have r7 : Rho.set ρ 5 g 7 = ρ 7 := rfl; have h8 : S 8 = false := hA 8 ⟨0, rfl⟩; simp only [u7, u8, r2, r7, h8, cond_false]) ?_
 refine e_pd (v := fun ρ => .agg ([.slice none 0 0, (Gh.dec (γ := Value) (ρ 2)), (Gh.dec (γ := Value) (ρ 5))]).toArray) (fun ρ S R' L' w hd hs => by have h1 : ((Gh.dec (γ := Value) (ρ 2))).oneCell' = true := isSlice.one (hs.fact (hd.dep (it := ⟨2, _, _, _, _⟩) (by repeat (first | exact List.Mem.head _ | refine List.Mem.tail _ ?_)) ⟨9, rfl⟩ (List.Mem.head _))); have h2 : ((Gh.dec (γ := Value) (ρ 5))).oneCell' = true := isSlice.one (hs.fact (hd.dep (it := ⟨5, _, _, _, _⟩) (by repeat (first | exact List.Mem.head _ | refine List.Mem.tail _ ?_)) ⟨9, rfl⟩ (List.Mem.head _))); exact Fd Ie) (Ind.gh2 (h := fun g g' => Value.agg ([.slice none 0 0, (Gh.dec (γ := Value) g), (Gh.dec (γ := Value) g')]).toArray) 2 5 3 rfl rfl) (fun _ _ _ _ _ => rfl) ?_
 refine Hy (cs := [.slice none 0 0, .slice none 0 0, .slice none 0 0]) Tryz.zeroValue30 rfl (fun ρ b S hS hA => ?_) ?_
 ·have ui : upS S 7 7 = true := rfl; have u8 : upS S 7 8 = S 8 := rfl; have r2 : Rho.set ρ 7 (Gh.enc b) 2 = ρ 2 := rfl; have r5 : Rho.set ρ 7 (Gh.enc b) 5 = ρ 5 := rfl; have h8 : S 8 = false := hA 8 ⟨0, rfl⟩; have rs : (Gh.dec (γ := Nat) (Rho.set ρ 7 (Gh.enc b) 7)) = b := rfl
  simp only [ui, hS, u8, r2, r5, h8, rs, cond_true, cond_false, List.nil_append]
  exact ZeZ
 refine es_ 30 0 [7] [] (fun ρ => (Gh.dec (γ := Nat) (ρ 7))) (fun ρ => [.slice none 0 0, .slice none 0 0, .slice none 0 0]) (fun ρ => [.slice none 0 0, (Gh.dec (γ := Value) (ρ 2)), (Gh.dec (γ := Value) (ρ 5))]) Tryz.sizeOf30 (h1 := (fun ρ R w L' hd hs => Bl rfl (Bl (isSlice.one (hs.fact (hd.dep (it := ⟨2, _, _, _, _⟩) (by repeat (first | exact List.Mem.head _ | refine List.Mem.tail _ ?_)) ⟨9, rfl⟩ (List.Mem.head _)))) (Bl (isSlice.one (hs.fact (hd.dep (it := ⟨5, _, _, _, _⟩) (by repeat (first | exact List.Mem.head _ | refine List.Mem.tail _ ?_)) ⟨9, rfl⟩ (List.Mem.head _)))) Dy)))) ?_
 refine dnl ?_; intro ρ
 refine xq_ (blk b2 30 [.slice none 0 0, .slice none 0 0, .slice none 0 0] :: blk b1 30 [cv, hv, fv] :: (blk (Gh.dec (γ := Nat) (ρ 7)) 30 [.slice none 0 0, (Gh.dec (γ := Value) (ρ 2)), (Gh.dec (γ := Value) (ρ 5))] :: L)) ?_
 generalize (Gh.dec (γ := Value) (ρ 2)) = v8
 generalize (Gh.dec (γ := Value) (ρ 5)) = v11
 generalize (Gh.dec (γ := Nat) (ρ 7)) = b3
 refine Zav ?_
 refine JC.rowNil 57 KV ?_
 refine A7 (γ := Nat × Value × List KV) (fun g => g.1 ≤ x.cores.length ∧ g.2.2.map KV.c = x.cores.take g.1) (fun g => row 57 g.2.1 g.2.2 :: blk b3 30 [g.2.1, v8, v11] :: blk b2 30 [.slice none 0 0, .slice none 0 0, .slice none 0 0] :: blk b1 30 [cv, hv, fv] :: (g.2.2.map Y7 ++ L)) (fun _ => sl v11 x.frames :: sl v8 x.home :: R) (fun g => [(2, bp b2 0), (3, bp b3 0), (14, cv), (15, vi (x.cores.length : Int)), (16, vi (g.1 : Int))]) (fun g => x.cores.length - g.1) (0, .slice none 0 0, []) ⟨Nat.zero_le _, by simp⟩ alT (fun w hs => Ag hs) ?_
 rintro ⟨k, vs, xs⟩ ⟨hk, hxc⟩
 try simp only at hk hxc ⊢
 have hxl : xs.length = k := by
  have := congrArg List.length hxc
  simp at this; omega
 refine ZA ?_
 refine cdy ?_ ?_
 ·intro ht17
  refine Gl ?_
  refine Fh k (v := cv) mm (by omega) (fun hwp up honep => ?_)
  refine ZD ?_
  refine al_ (cs := [.slice none 0 0, vi 0, vi 0, vi 0]) Tryz.zeroValue57 ?_; intro b5
  refine s_B (cs := Core.cells up (cor x k)) Tryz.sizeOf57 ?_
  refine Gl ?_
  refine cq_ (blk b3 30 [vs, v8, v11] :: row 57 vs xs :: blk b5 57 (Core.cells up (cor x k)) :: blk b2 30 [.slice none 0 0, .slice none 0 0, .slice none 0 0] :: blk b1 30 [cv, hv, fv] :: (xs.map Y7 ++ L)) ?_
  refine jd_ (fun ρ S => blk b3 30 (bif S 7 then [(Gh.dec (γ := Value) (ρ 5)), v8, v11] else [vs, v8, v11]) :: (bif S 5 then row 57 (Gh.dec (γ := Value) (ρ 5)) (xs ++ [(⟨cor x k, (Gh.dec (γ := Value) (ρ 3))⟩ : KV)]) else row 57 vs xs) :: blk b5 57 (Core.cells up (cor x k)) :: blk b2 30 [.slice none 0 0, .slice none 0 0, .slice none 0 0] :: blk b1 30 [cv, hv, fv] :: ((xs.map Y7 ++ L))) ?_
  refine dn1 ?_
  refine Ib (v := vs) (fun ρ S hS hB hA => by have h7 : S 7 = false := hA 7 ⟨0, rfl⟩; simp only [h7, cond_false]; exact Cz (hc := A0 pkk (by repeat (first | exact rfl | refine C5 rfl ?_))) Tryz.isAgg26) (fun _ _ _ _ _ => rfl) ?_
  refine dn1 ?_
  refine Xq (γ := Value) (val := fun v => .agg (Core.cells v (cor x k)).toArray) (F := fun v => [pr (v.oneCell' = true)]) (C := fun v => [row 92 v (cor x k).lines]) Tryz.call67 (fun _ => rfl) (fun ρ L R w hd hs => Ja (G4 (u := up) (c := cor x k) hs (hd.base mm)) (fun v w hs => ⟨v, rfl, St.pr (Bx .hd hs) hs⟩)) (fun ρ g S hS hA => by have u5 : upS S 3 5 = S 5 := rfl; have u7 : upS S 3 7 = S 7 := rfl; have r5 : Rho.set ρ 3 g 5 = ρ 5 := rfl; have h5 : S 5 = false := hA 5 ⟨0, rfl⟩; simp only [u5, u7, r5, h5, cond_false]) ?_
  refine e_litR (fun ρ => [(⟨cor x k, (Gh.dec (γ := Value) (ρ 3))⟩ : KV)]) Q4 rfl (fun _ => rfl) rfl (fun _ => rfl) rfl rfl (fun ρ R hd j hj => ⟨⟨_, rfl, rfl, hwp, hj (pr (((Gh.dec (γ := Value) (ρ 3))).oneCell' = true)) (hd.dep (it := ⟨3, _, _, _, _⟩) (by repeat (first | exact List.Mem.head _ | refine List.Mem.tail _ ?_)) ⟨9, rfl⟩ (List.Mem.head _))⟩, trivial⟩) (Ind.gh (h := fun g => [(⟨cor x k, Gh.dec (γ := Value) g⟩ : KV)]) 3 0 rfl) (fun _ _ => rfl) (fun _ _ _ _ _ => rfl) ?_
  refine Xr (e := 57) (xs := xs) (ys := fun ρ => [(⟨cor x k, (Gh.dec (γ := Value) (ρ 3))⟩ : KV)]) (v := vs) Q4 (fun _ => rfl) (fun _ => rfl) rfl (by decide) (fun ρ R hd => (hd.dep (it := ⟨4, _, _, _, _⟩) (by repeat (first | exact List.Mem.head _ | refine List.Mem.tail _ ?_)) ⟨9, rfl⟩ (List.Mem.head _))) (fun _ => by have : maxN = 16777216 := rfl; simp only [List.length_cons, List.length_nil]; omega) (fun ρ g S hS hB hA => ?_) ?_
  ·have ui : upS S 5 5 = true := rfl; have u7 : upS S 5 7 = S 7 := rfl; have r3 : Rho.set ρ 5 (Gh.enc g) 3 = ρ 3 := rfl; have h7 : S 7 = false := hA 7 ⟨0, rfl⟩; have rs : (Gh.dec (γ := Value) (Rho.set ρ 5 (Gh.enc g) 5)) = g := rfl
   simp only [ui, hS, u7, r3, h7, rs, cond_true, cond_false]
   exact pex
  refine dn1 ?_
  refine Eb (T0 := 30) (f := 0) (vs := fun ρ => [vs, v8, v11]) (v := fun ρ => (Gh.dec (γ := Value) (ρ 5))) (fun ρ => b3) Tryz.sizeOf26 (fun _ => rfl) (fun _ => rfl) (fun ρ S R w L9 hB hd hs => by have h5 : S 5 = true := hB 5 ⟨9, rfl⟩; simp only [h5, cond_true] at hs; exact Bx pkk hs) (fun _ => rfl) (fun ρ g S hS hB hA => ?_) ?_
  ·have ui : upS S 7 7 = true := rfl; have u5 : upS S 7 5 = S 5 := rfl; have r3 : Rho.set ρ 7 g 3 = ρ 3 := rfl; have r5 : Rho.set ρ 7 g 5 = ρ 5 := rfl
   simp only [ui, hS, u5, r3, r5, cond_true, cond_false]
   exact pex
  refine dnl ?_; intro ρ
  refine JX.conseq (L' := row 92 (Gh.dec (γ := Value) (ρ 3)) (cor x k).lines :: blk b3 30 [(Gh.dec (γ := Value) (ρ 5)), v8, v11] :: row 57 (Gh.dec (γ := Value) (ρ 5)) (xs ++ [(⟨cor x k, (Gh.dec (γ := Value) (ρ 3))⟩ : KV)]) :: blk b5 57 (Core.cells up (cor x k)) :: blk b2 30 [.slice none 0 0, .slice none 0 0, .slice none 0 0] :: blk b1 30 [cv, hv, fv] :: ((xs.map Y7 ++ L))) (fun w hs => Ag hs) ?_
  generalize (Gh.dec (γ := Value) (ρ 3)) = v23
  generalize (Gh.dec (γ := Value) (ρ 4)) = v24
  generalize (Gh.dec (γ := Value) (ρ 5)) = v25
  refine ZC ?_
  refine Au (k + 1, v25, xs ++ [⟨cor x k, v23⟩]) ⟨by show k + 1 ≤ x.cores.length; omega, by rw [List.map_append, hxc, Es Er (by omega)]; rfl⟩ (by show x.cores.length - (k + 1) < x.cores.length - k; omega) alT (fun w hs => ?_)
  try simp only
  have h9 : St (row 57 v25 (xs ++ [⟨cor x k, v23⟩]) :: blk b3 30 [v25, v8, v11] :: blk b2 30 [.slice none 0 0, .slice none 0 0, .slice none 0 0] :: blk b1 30 [cv, hv, fv] :: row 92 v23 (cor x k).lines :: (xs.map Y7 ++ L)) (sl v11 x.frames :: sl v8 x.home :: R) w := Ag hs
  refine h9.perm (.cons _ (.cons _ (.cons _ (.cons _ ?_))))
  rw [List.map_append, List.append_assoc]
  exact List.perm_middle.symm
 ·intro ht17
  refine Gl ?_
  refine JC.know (p := vs.oneCell' = true) (fun w hs => Bx .hd hs) (fun hone5 => ?_)
  refine JC.know (p := v8.oneCell' = true ∧ v11.oneCell' = true) (fun w hs => ⟨isSlice.one (hs.fact (.tail _ (.head _))), isSlice.one (hs.fact (.head _))⟩) (fun h12 => ?_)
  obtain ⟨hone1, hone2⟩ := h12
  refine ZB ?_
  refine s_B (cs := [vs, v8, v11]) Tryz.sizeOf30 ?_
  refine Gl ?_
  have hkl : k = x.cores.length := by omega
  rw [hkl, List.take_length] at hxc
  exact Mh (vs, v8, v11, xs) Tryz.isAgg30 Tryz.sizeOf30 (hs := fun w hs => St.pr hxc (Ag hs))
theorem Ajf {b : Nat} {u : Bool} {v : Value} (hs : St (blk b 89 [pv b u, v] :: L) R w) (hv : v.oneCell' = true) : Calls Tryz.prog 63 [bp b 0].toArray w (Bs (fun _ : Unit => .tuple #[]) (fun _ => blk b 89 [pv b true, v] :: L) (fun _ => R)) := by
 refine Ai Tryz.func63 rfl Tryz.ntmps63 rfl hs ?_
 clear hs
 refine Gl ?_
 rcases (show (u = true) ∨ (u = false) from by cases u <;> simp) with hc | hc
 ·subst hc
  refine ZE ?_
  refine ob (F3 rfl rfl M4 (Ada Tryz.underlying85)) ?_
  refine Gmc ?_
  refine rn5 ?_
  refine ob (F3 rfl rfl M4 (Yt Tryz.underlying85 (by kernel_rfl))) ?_
  refine Glc ?_
  exact Zg8
 ·subst hc
  refine ZE ?_
  refine ob (F3 rfl rfl M4 (Adb Tryz.underlying85)) ?_
  refine Gmc ?_
  refine rn2 ?_
  refine ob (q_toU Tryz.underlying85 Tryz.underlying152 (by kernel_rfl) rfl pkk (by exact Nat.zero_lt_succ _)) ?_
  refine r_ext Tryz.func84 (by kernel_rfl) (by kernel_rfl) (by kernel_rfl) (e := Extern.AbiNoEscape.same) (by kernel_rfl) rfl (fun w => rfl) ?_
  refine ob (Afg Tryz.underlying152 Tryz.underlying85 (by kernel_rfl) (k := 2) rfl (by kernel_rfl) rfl pkk) ?_
  refine Zan ?_
  refine Gl ?_
  exact Zg8
theorem Uc {b : Nat} {u : Bool} {v v1 : Value} {bs ys : List UInt8} (hs : St (blk b 89 [pv b u, v] :: row 5 v bs :: L) R w) (h1 : sl v1 ys ∈ R) (hn : bs.length ≤ 1000000) (hm : ys.length ≤ 1000000) : Calls Tryz.prog 32 [bp b 0, v1].toArray w (Bs (fun g : Value => .tuple #[vi (ys.length : Int), .nilIface]) (fun g => blk b 89 [pv b true, g] :: row 5 g (bs ++ ys) :: L) (fun g => R)) := by
 refine Ai Tryz.func32 rfl Tryz.ntmps32 rfl hs ?_
 clear hs
 refine ZC ?_
 refine JC.know (p := v.oneCell' = true) (fun w hs => Bx pkk hs) (fun honev => ?_)
 refine ZB ?_
 refine An Tryz.call63 rfl (fun w hs => Ajf (b := b) (u := u) (v := v) (Ag hs) honev) ?_; intro _
 refine Gm ?_
 refine rn6 ?_
 refine ap Fz (hb := fun w hs => by have : maxN = 16777216 := rfl; omega) (k := ?_); intro v14
 refine rn2 ?_
 refine J.know (p := v14.oneCell' = true) (fun w hs => Bx pkk hs) (fun hone30 => ?_)
 refine s_b Tryz.sizeOf71 ?_
 intro cs_ hcs_; simp only [Nat.zero_add, Nat.add_zero, Nat.reduceAdd, List.set_cons_zero, List.set_cons_succ] at hcs_; subst hcs_
 refine Zav ?_
 exact Ce v14
theorem Yp {b : Nat} {u : Bool} {v : Value} {bs : List UInt8} (hs : St (blk b 89 [pv b u, v] :: row 5 v bs :: L) R w) (h0 : bs ≠ []) : Calls Tryz.prog 33 [bp b 0].toArray w (Bs (fun _ : Unit => .string (Nm bs)) (fun _ => L) (fun _ => R)) := by
 refine Ai Tryz.func33 rfl Tryz.ntmps33 rfl hs ?_
 clear hs
 refine ZA ?_
 refine Bq ?_
 refine dn4 ?_
 refine djc (fun _ _ => q_usd rfl pkk h0) ?_
 refine dn5 ?_
 refine dtl ?_; intro ρ
 refine r_ustr Tryz.underlying130 (by kernel_rfl) rfl rfl pkk h0 ?_
 refine Ga1 ?_
 exact Bb ()
theorem Acy {P : Program} {T : TypeId} {a : Int} (w : World) : (binOp .shr T (vi a) (.int .u64 16)).run P w = .ok (vi (a / 65536)) w := Ajk (k := .u64) (s := 16) (by omega) (by omega) w
theorem W0 {l : List Int} {k : Nat} (h : k < l.length) : Gk (l.take (k + 1)) = Gk (l.take k) ++ n3 (l.getD k 0) := by rw [Es 0 h, J9]; simp [Gk]
theorem Kd {α β : Type} {f : α → List β} {l : List α} {k : Nat} (d : α) (h : k < l.length) : (l.take (k + 1)).flatMap f = (l.take k).flatMap f ++ f (l.getD k d) := by rw [Es d h, List.flatMap_append]; simp
theorem Is {α β : Type} {f : α → List β} {k : Nat} : ∀ {l : List α}, (∀ a ∈ l, (f a).length ≤ k) → (l.flatMap f).length ≤ l.length * k
 | [], _ => by simp
 | a :: l, h => by
  have := h a (List.mem_cons_self ..)
  have h2 := Is (fun b hb => h b (List.mem_cons_of_mem _ hb))
  rw [List.flatMap_cons, List.length_append, List.length_cons, Nat.succ_mul]; omega
structure KX (x : Chip) : Prop where
 cl : x.cores.length ≤ 4
 ll : ∀ p, p < x.cores.length → (cor x p).lines.length ≤ 4
 hl : x.home.length ≤ 4
 la : ∀ i, i < x.home.length → (ent x i).last.length ≤ 4
 fl : x.frames.length ≤ 40
 fb : ∀ k, k < x.frames.length → (x.frames.getD k []).length ≤ 12
theorem Inv.kx {n nl : Nat} {x : Chip} {M : List Int} (h : Inv n nl x M) : KX x := by
 have hn := h.n1; have hl := h.l1
 refine ⟨by rw [h.nc]; omega, fun p hp => by rw [h.ncl p (by rw [← h.nc]; exact hp)]; omega, by rw [h.nh]; omega, fun i hi => by rw [h.nla i (by rw [← h.nh]; exact hi)]; omega, h.fr, fun k hk => ?_⟩
 have hm : x.frames.getD k [] ∈ x.frames := by rw [List.getD_eq_getElem?_getD, List.getElem?_eq_getElem hk]; exact List.getElem_mem _
 rw [(h.mi _ hm).1]; decide
theorem W8 : KX zChip := ⟨by decide, fun p hp => absurd hp (by simp [zChip]), by decide, fun p hp => absurd hp (by simp [zChip]), by decide, fun p hp => absurd hp (by simp [zChip])⟩
theorem Aca {c : Core} : (Bw c).length = 4 + c.lines.length * 7 := by unfold Bw; rw [List.length_append, Gu (k := 7) (fun _ _ => rfl)]; rfl
theorem Aii {e : Entry} : (entNums e).length = 10 + e.last.length := by unfold entNums; rw [List.length_append]; rfl
theorem KX.c {x : Chip} (h : KX x) (k : Nat) : ((x.cores.take k).flatMap Bw).length ≤ 128 := by
 have h1 := Is (f := Bw) (k := 32) (l := x.cores.take k) (fun c hc => by
  obtain ⟨p, hp, e⟩ := Mu Er (List.mem_of_mem_take hc)
  have := h.ll p hp
  rw [show cor x p = c from e] at this
  rw [Aca]; omega)
 have := h.cl
 rw [List.length_take] at h1; omega
theorem KX.h {x : Chip} (h : KX x) (k : Nat) : ((x.home.take k).flatMap entNums).length ≤ 56 := by
 have h1 := Is (f := entNums) (k := 14) (l := x.home.take k) (fun c hc => by
  obtain ⟨p, hp, e⟩ := Mu Az (List.mem_of_mem_take hc)
  have := h.la p hp
  rw [show ent x p = c from e] at this
  rw [Aii]; omega)
 have := h.hl
 rw [List.length_take] at h1; omega
theorem KX.f {x : Chip} (h : KX x) (k : Nat) : ((x.frames.take k).flatMap frKey).length ≤ 600 := by
 have h1 := Is (f := frKey) (k := 15) (l := x.frames.take k) (fun c hc => by
  obtain ⟨p, hp, e⟩ := Mu [] (List.mem_of_mem_take hc)
  have := h.fb p hp
  rw [e] at this
  unfold frKey; rw [List.length_append]; show 3 + _ ≤ _; omega)
 have := h.fl
 rw [List.length_take] at h1; omega
theorem Kz {b : Nat} {u : Bool} {v vl : Value} {bs : List UInt8} {l : List Int} (hs : St (blk b 89 [pv b u, v] :: row 5 v bs :: L) R w) (h1 : sl vl l ∈ R) (hn : bs.length ≤ 100000) (hl : l.length ≤ 1000) : Calls Tryz.prog 30 [bp b 0, vl].toArray w (Bs (fun g : Bool × Value => .tuple #[]) (fun g => blk b 89 [pv b g.1, g.2] :: row 5 g.2 (bs ++ Gk l) :: L) (fun g => R)) := by
 refine Ai Tryz.func30 rfl Tryz.ntmps30 rfl hs ?_
 clear hs
 refine ZS ?_
 refine A7 (γ := Nat × Bool × Value) (fun g => g.1 ≤ l.length) (fun g => blk b 89 [pv b g.2.1, g.2.2] :: row 5 g.2.2 (bs ++ Gk (l.take g.1)) :: L) (fun _ => R) (fun g => [(0, bp b 0), (6, vl), (7, vi (l.length : Int)), (8, vi (g.1 : Int))]) (fun g => l.length - g.1) (0, u, v) (Nat.zero_le _) alT (fun w hs => by rw [List.take_zero, show Gk [] = [] from rfl, List.append_nil]; exact Ag hs) ?_
 rintro ⟨k, u, v⟩ hk
 try simp only at hk ⊢
 have hnl := F6 (l.take k)
 rw [List.length_take] at hnl
 refine ZA ?_
 refine cdy ?_ ?_
 ·intro ht9
  refine Gl ?_
  refine JC.open0 (xs := l) (v := vl) k mm (by omega) (fun hkw => ?_)
  refine Aa ?_
  refine Gb3 ?_
  refine rn4 ?_
  refine ob (Am rfl rfl Acy) ?_
  refine Zab ?_
  refine rn1 ?_
  refine ob (Am rfl rfl H3) ?_
  refine Zab ?_
  refine rn1 ?_
  refine Zab ?_
  refine li (α := UInt8) ([u8 ((l.getD k 0) / 65536), u8 ((l.getD k 0) / 256), u8 (l.getD k 0)] : List UInt8) Fz rfl (fun j hj => ⟨⟨_, rfl, rfl⟩, ⟨_, rfl, rfl⟩, ⟨_, rfl, rfl⟩, trivial⟩) ?_; intro v23
  refine An Tryz.call32 rfl (fun w hs => Uc (b := b) (u := u) (v := v) (bs := bs ++ Gk (l.take k)) (ys := n3 (l.getD k 0)) (Ag hs) mm (by rw [List.length_append]; omega) (by show 3 ≤ 1000000; omega)) ?_; intro v24
  refine ZC ?_
  refine Au (k + 1, true, v24) (by show k + 1 ≤ l.length; omega) (by show l.length - (k + 1) < l.length - k; omega) alT (fun w hs => ?_)
  try simp only
  rw [W0 (by omega), ← List.append_assoc]; exact Ag hs
 ·intro ht9
  refine Gl ?_
  have hkl : k = l.length := by omega
  subst hkl
  refine Bg (.inl rfl) (fun B w hs => H6 rfl _ w) (fun w hs => ⟨(u, v), rfl, by rw [List.take_length] at hs; exact Ag hs⟩)
theorem Aib {y : Bool} (hs : St (L) R w) : Calls Tryz.prog 31 [.bool y].toArray w (Bs (fun _ : Unit => vi (Hc y)) (fun _ => L) (fun _ => R)) := by
 refine Ai Tryz.func31 rfl Tryz.ntmps31 rfl hs ?_
 clear hs
 refine ZN ?_
 refine Ga1 ?_
 first | (refine cdx (p := ?p1) (hd := ?d1) ?e1 ?_ ?_; case e1 => exact rfl) | (refine A9 (b := ?b1) ?e1 ?_ ?_; case e1 => exact rfl)
 ·intro ht3
  refine ZA ?_
  have er : Hc y = 1 := by unfold Hc; rw [ht3]; rfl
  exact Zfo
 ·intro ht3
  refine ZA ?_
  have er : Hc y = 0 := by unfold Hc; rw [ht3]; rfl
  exact Zfo
theorem Aaw {x : Chip} {k : Nat} (h : k < x.cores.length) : Cb x ++ (x.cores.take (k + 1)).flatMap Bw = Cb x ++ (x.cores.take k).flatMap Bw ++ [(cor x k).wait.kind, (cor x k).wait.line, (cor x k).wait.value, ((cor x k).lines.length : Int)] ++ (cor x k).lines.flatMap lineNums := by
 rw [Kd Er h, List.append_assoc, List.append_assoc]; rfl
theorem Afx {x : Chip} {i : Nat} (h : i < x.home.length) : Cb x ++ x.cores.flatMap Bw ++ (x.home.take (i + 1)).flatMap entNums = Cb x ++ x.cores.flatMap Bw ++ (x.home.take i).flatMap entNums ++ [(ent x i).value, (ent x i).owner, (ent x i).sharers, (ent x i).phase, (ent x i).who, (ent x i).serial, Hc (ent x i).alone, (ent x i).turn, (ent x i).need, ((ent x i).last.length : Int)] ++ (ent x i).last := by
 rw [Kd Az h]; simp only [List.append_assoc]; rfl
theorem Qc {R : List Fact} {l : List Int} (h : ∀ a ∈ l, Ao a) : ∀ j, (∀ q ∈ R, q.p j) → RdV l (l.map vi) j := fun j _ => by
 induction l with
 | nil => trivial
 | cons a l ih => exact ⟨⟨_, rfl, rfl, h a (List.mem_cons_self ..)⟩, ih (fun b hb => h b (List.mem_cons_of_mem _ hb))⟩
theorem T4 {cv hv fv : Value} {x : Chip} (hs : St (L) R w) (hcv : sl cv x.cores ∈ R) (hhv : sl hv x.home ∈ R) (hfv : sl fv x.frames ∈ R) (hx : KX x) : Calls Tryz.prog 13 [.agg #[cv, hv, fv]].toArray w (Bs (fun _ : Unit => .string (Nm (Hb x))) (fun _ => L) (fun _ => R)) := by
 refine Ai Tryz.func13 rfl Tryz.ntmps13 rfl hs ?_
 clear hs
 refine Zbq ?_;intro b1
 refine ob (Dx (cs := [.pointer none, .slice none 0 0]) st_89) ?_
 refine bx ?_; intro b13
 refine Ga1 ?_
 refine JC.rowNil 5 UInt8 ?_
 refine cq_ (blk b13 89 [pv b13 false, .slice none 0 0] :: row 5 (.slice none 0 0) ([] : List UInt8) :: blk b1 30 [cv, hv, fv] :: L) ?_
 have hcl := hx.cl
 have hhl := hx.hl
 have hfl := hx.fl
 refine Aa ?_
 refine rn10 ?_
 refine li (α := Int) [(x.cores.length : Int), (x.home.length : Int), (x.frames.length : Int)] Ea rfl (Qc (l := [(x.cores.length : Int), (x.home.length : Int), (x.frames.length : Int)]) (by intro a ha; simp only [List.mem_cons, List.not_mem_nil, or_false] at ha; rcases ha with e | e | e <;> rw [e] <;> unfold Ao <;> omega)) ?_; intro v24
 refine An Tryz.call30 rfl (fun w hs => Kz (b := b13) (u := false) (v := .slice none 0 0) (bs := []) (l := Cb x) (Ag (L' := blk b13 89 [pv b13 false, .slice none 0 0] :: row 5 (.slice none 0 0) ([] : List UInt8) :: blk b1 30 [cv, hv, fv] :: L) hs) mm (Nat.zero_le _) (by show 3 ≤ 1000; omega)) ?_; intro v25
 rw [List.nil_append]
 refine Zav ?_
 refine A7 (γ := Nat × Bool × Value) (fun g => g.1 ≤ x.cores.length) (fun g => blk b13 89 [pv b13 g.2.1, g.2.2] :: row 5 g.2.2 (Gk (Cb x ++ (x.cores.take g.1).flatMap Bw)) :: blk b1 30 [cv, hv, fv] :: L) (fun _ => R) (fun g => [(1, bp b1 0), (3, bp b13 0), (27, cv), (28, vi (x.cores.length : Int)), (29, vi (g.1 : Int))]) (fun g => x.cores.length - g.1) (0, v25.1, v25.2) (Nat.zero_le _) alT (fun w hs => by rw [List.take_zero, List.flatMap_nil, List.append_nil]; exact Ag hs) ?_
 rintro ⟨k, u, v⟩ hk
 try simp only at hk ⊢
 have hb1 := hx.c k
 refine ZA ?_
 refine cdy ?_ ?_
 ·intro ht30
  refine Gl ?_
  refine Fh k (v := cv) mm (by omega) (fun hwt uc honeuc => ?_)
  have hll := hx.ll k (by omega)
  refine ZD ?_
  refine al_ (cs := [.slice none 0 0, vi 0, vi 0, vi 0]) Tryz.zeroValue57 ?_; intro b5
  refine s_B (cs := Core.cells uc (cor x k)) Tryz.sizeOf57 ?_
  refine Gm ?_
  refine rn13 ?_
  refine li (α := Int) [(cor x k).wait.kind, (cor x k).wait.line, (cor x k).wait.value, ((cor x k).lines.length : Int)] Ea rfl (Qc (l := [(cor x k).wait.kind, (cor x k).wait.line, (cor x k).wait.value, ((cor x k).lines.length : Int)]) (by intro a ha; simp only [List.mem_cons, List.not_mem_nil, or_false] at ha; have h1 := hwt.1; have h2 := hwt.2.1; have h3 := hwt.2.2; unfold Ao at *; rcases ha with e | e | e | e <;> rw [e] <;> omega)) ?_; intro v46
  refine An Tryz.call30 rfl (fun w hs => Kz (b := b13) (u := u) (v := v) (bs := Gk (Cb x ++ (x.cores.take k).flatMap Bw)) (l := [(cor x k).wait.kind, (cor x k).wait.line, (cor x k).wait.value, ((cor x k).lines.length : Int)]) (Ag (L' := blk b13 89 [pv b13 u, v] :: row 5 v (Gk (Cb x ++ (x.cores.take k).flatMap Bw)) :: blk b5 57 (Core.cells uc (cor x k)) :: blk b1 30 [cv, hv, fv] :: L) hs) mm (by have hh3 : (Cb x).length = 3 := rfl; simp only [F6, List.length_append, List.length_cons, List.length_nil]; omega) (by simp only [List.length_cons, List.length_nil]; omega)) ?_; intro v47
  refine Gl ?_
  refine kp [1, 2, 3, 5, 27, 28, 29, 30, 31, 32, 33, 34, 35, 36, 37, 38, 39, 40, 41, 42, 43, 44, 45, 46, 48, 49, 50, 51] ?_
  refine ZaH ?_
  refine A7 (γ := Nat × Bool × Value) (fun g => g.1 ≤ (cor x k).lines.length) (fun g => blk b13 89 [pv b13 g.2.1, g.2.2] :: row 5 g.2.2 (Gk (Cb x ++ (x.cores.take k).flatMap Bw ++ [(cor x k).wait.kind, (cor x k).wait.line, (cor x k).wait.value, ((cor x k).lines.length : Int)] ++ ((cor x k).lines.take g.1).flatMap lineNums)) :: blk b1 30 [cv, hv, fv] :: L) (fun _ => sl uc (cor x k).lines :: R) (fun g => [(1, bp b1 0), (3, bp b13 0), (27, cv), (28, vi (x.cores.length : Int)), (29, vi (k : Int)), (49, uc), (50, vi ((cor x k).lines.length : Int)), (51, vi (g.1 : Int))]) (fun g => (cor x k).lines.length - g.1) (0, v47.1, v47.2) (Nat.zero_le _) alT (fun w hs => by rw [List.take_zero, List.flatMap_nil, List.append_nil, J9]; exact Ag hs) ?_
  rintro ⟨j, u, v⟩ hj
  try simp only at hj ⊢
  have hb2 := Gu (f := lineNums) (k := 7) (l := (cor x k).lines.take j) (fun _ _ => rfl)
  rw [List.length_take] at hb2
  refine ZA ?_
  refine cdy ?_ ?_
  ·intro ht52
   refine Gl ?_
   refine I3 j (x := x) (p := k) (u := uc) mm (by omega) (fun hlw => ?_)
   refine ZD ?_
   refine al_ (cs := zLine.cells) Tryz.zeroValue92 ?_; intro b7
   refine s_B (cs := (lin x j k).cells) Tryz.sizeOf92 ?_
   refine Gm ?_
   refine rn15 ?_
   refine li (α := Int) [(lin x j k).state, (lin x j k).value, (lin x j k).want, (lin x j k).serial, (lin x j k).seen, (lin x j k).gave, (lin x j k).given] Ea rfl (Qc (l := [(lin x j k).state, (lin x j k).value, (lin x j k).want, (lin x j k).serial, (lin x j k).seen, (lin x j k).gave, (lin x j k).given]) (by intro a ha; simp only [List.mem_cons, List.not_mem_nil, or_false] at ha; obtain ⟨h1, h2, h3, h4, h5, h6, h7⟩ := hlw; rcases ha with e | e | e | e | e | e | e <;> rw [e] <;> assumption)) ?_; intro v70
   refine An Tryz.call30 rfl (fun w hs => Kz (b := b13) (u := u) (v := v) (bs := Gk (Cb x ++ (x.cores.take k).flatMap Bw ++ [(cor x k).wait.kind, (cor x k).wait.line, (cor x k).wait.value, ((cor x k).lines.length : Int)] ++ ((cor x k).lines.take j).flatMap lineNums)) (l := [(lin x j k).state, (lin x j k).value, (lin x j k).want, (lin x j k).serial, (lin x j k).seen, (lin x j k).gave, (lin x j k).given]) (Ag (L' := blk b13 89 [pv b13 u, v] :: row 5 v (Gk (Cb x ++ (x.cores.take k).flatMap Bw ++ [(cor x k).wait.kind, (cor x k).wait.line, (cor x k).wait.value, ((cor x k).lines.length : Int)] ++ ((cor x k).lines.take j).flatMap lineNums)) :: blk b7 92 (lin x j k).cells :: blk b1 30 [cv, hv, fv] :: L) hs) mm (by have hh3 : (Cb x).length = 3 := rfl; simp only [F6, List.length_append, List.length_cons, List.length_nil]; omega) (by simp only [List.length_cons, List.length_nil]; omega)) ?_; intro v71
   refine ZC ?_
   refine Au (j + 1, v71.1, v71.2) (by show j + 1 ≤ (cor x k).lines.length; omega) (by show (cor x k).lines.length - (j + 1) < (cor x k).lines.length - j; omega) alT (fun w hs => ?_)
   try simp only
   rw [Kd zLine (by omega), ← List.append_assoc, J9]; exact Ag hs
  ·intro ht52
   refine ZC ?_
   have hjl : j = (cor x k).lines.length := by omega
   refine Au (k + 1, u, v) (by show k + 1 ≤ x.cores.length; omega) (by show x.cores.length - (k + 1) < x.cores.length - k; omega) alT (fun w hs => ?_)
   try simp only
   rw [hjl, List.take_length] at hs
   rw [Aaw (by omega)]; exact Ag hs
 ·intro ht30
  refine Zav ?_
  have hkl : k = x.cores.length := by omega
  refine A7 (γ := Nat × Bool × Value) (fun g => g.1 ≤ x.home.length) (fun g => blk b13 89 [pv b13 g.2.1, g.2.2] :: row 5 g.2.2 (Gk (Cb x ++ x.cores.flatMap Bw ++ (x.home.take g.1).flatMap entNums)) :: blk b1 30 [cv, hv, fv] :: L) (fun _ => R) (fun g => [(1, bp b1 0), (3, bp b13 0), (75, hv), (76, vi (x.home.length : Int)), (77, vi (g.1 : Int))]) (fun g => x.home.length - g.1) (0, u, v) (Nat.zero_le _) alT (fun w hs => by rw [List.take_zero, List.flatMap_nil, List.append_nil]; rw [hkl, List.take_length] at hs; exact Ag hs) ?_
  rintro ⟨i, u, v⟩ hi
  try simp only at hi ⊢
  have hb3 := hx.h i
  have hb4 := hx.c x.cores.length
  rw [List.take_length] at hb4
  refine ZA ?_
  refine cdy ?_ ?_
  ·intro ht78
   refine Gl ?_
   refine O4 i (v := hv) mm (by omega) (fun hew ue honeue => ?_)
   have hla := hx.la i (by omega)
   refine ZD ?_
   refine al_ (cs := [vi 0, vi 0, vi 0, vi 0, vi 0, vi 0, .bool false, vi 0, vi 0, .slice none 0 0]) Tryz.zeroValue62 ?_; intro b9
   refine s_B (cs := Entry.cells ue (ent x i)) Tryz.sizeOf62 ?_
   refine Gl ?_
   have hfg : 0 ≤ Hc (ent x i).alone ∧ Hc (ent x i).alone ≤ 1 := by unfold Hc; split <;> omega
   obtain ⟨h1, h2, h3, h4, h5, h6, h7, h8⟩ := hew
   refine kp [1, 2, 3, 9, 75, 76, 77, 78, 79, 80, 81, 82, 83, 84, 85, 86, 87, 88, 89, 90, 91, 92, 93, 94, 95, 96, 97, 98, 99, 100, 101, 102, 103, 104] ?_
   refine cq_ (blk b13 89 [pv b13 u, v] :: row 5 v (Gk (Cb x ++ x.cores.flatMap Bw ++ (x.home.take i).flatMap entNums)) :: blk b9 62 (Entry.cells ue (ent x i)) :: blk b1 30 [cv, hv, fv] :: L) ?_
   refine jd_ (fun ρ S => blk b13 89 [pv b13 u, v] :: row 5 v (Gk (Cb x ++ x.cores.flatMap Bw ++ (x.home.take i).flatMap entNums)) :: blk b9 62 (Entry.cells ue (ent x i)) :: blk b1 30 [cv, hv, fv] :: L) ?_
   refine dn15 ?_
   refine Bu (γ := Unit) (val := fun _ => vi (Hc (ent x i).alone)) (F := fun _ => []) Tryz.call31 (fun _ => rfl) (fun ρ L R w hd hs => Aib hs ) (fun _ _ _ _ _ => rfl) ?_
   refine dn7 ?_
   refine Fe [(ent x i).value, (ent x i).owner, (ent x i).sharers, (ent x i).phase, (ent x i).who, (ent x i).serial, Hc (ent x i).alone, (ent x i).turn, (ent x i).need, ((ent x i).last.length : Int)] Ea rfl (fun _ => rfl) rfl (fun _ => rfl) rfl rfl (fun ρ R hd => Qc (l := [(ent x i).value, (ent x i).owner, (ent x i).sharers, (ent x i).phase, (ent x i).who, (ent x i).serial, Hc (ent x i).alone, (ent x i).turn, (ent x i).need, ((ent x i).last.length : Int)]) (by intro a ha; simp only [List.mem_cons, List.not_mem_nil, or_false] at ha; unfold Ao at *; rcases ha with e | e | e | e | e | e | e | e | e | e <;> rw [e] <;> omega)) (fun _ _ _ _ _ => rfl) ?_
   refine dtl ?_; intro ρ
   refine J.conseq (L' := blk b13 89 [pv b13 u, v] :: row 5 v (Gk (Cb x ++ x.cores.flatMap Bw ++ (x.home.take i).flatMap entNums)) :: blk b9 62 (Entry.cells ue (ent x i)) :: blk b1 30 [cv, hv, fv] :: L) (fun w hs => hs) ?_
   generalize (Gh.dec (γ := Value) (ρ 23)) = v104
   refine An Tryz.call30 rfl (fun w hs => Kz (b := b13) (u := u) (v := v) (bs := Gk (Cb x ++ x.cores.flatMap Bw ++ (x.home.take i).flatMap entNums)) (l := [(ent x i).value, (ent x i).owner, (ent x i).sharers, (ent x i).phase, (ent x i).who, (ent x i).serial, Hc (ent x i).alone, (ent x i).turn, (ent x i).need, ((ent x i).last.length : Int)]) (Ag (L' := blk b13 89 [pv b13 u, v] :: row 5 v (Gk (Cb x ++ x.cores.flatMap Bw ++ (x.home.take i).flatMap entNums)) :: blk b9 62 (Entry.cells ue (ent x i)) :: blk b1 30 [cv, hv, fv] :: L) hs) mm (by have hh3 : (Cb x).length = 3 := rfl; simp only [F6, List.length_append, List.length_cons, List.length_nil]; omega) (by simp only [List.length_cons, List.length_nil]; omega)) ?_; intro v105
   refine Zad ?_
   refine An Tryz.call30 rfl (fun w hs => Kz (b := b13) (u := v105.1) (v := v105.2) (bs := Gk (Cb x ++ x.cores.flatMap Bw ++ (x.home.take i).flatMap entNums) ++ Gk [(ent x i).value, (ent x i).owner, (ent x i).sharers, (ent x i).phase, (ent x i).who, (ent x i).serial, Hc (ent x i).alone, (ent x i).turn, (ent x i).need, ((ent x i).last.length : Int)]) (l := (ent x i).last) (Ag (L' := blk b13 89 [pv b13 v105.1, v105.2] :: row 5 v105.2 (Gk (Cb x ++ x.cores.flatMap Bw ++ (x.home.take i).flatMap entNums) ++ Gk [(ent x i).value, (ent x i).owner, (ent x i).sharers, (ent x i).phase, (ent x i).who, (ent x i).serial, Hc (ent x i).alone, (ent x i).turn, (ent x i).need, ((ent x i).last.length : Int)]) :: blk b1 30 [cv, hv, fv] :: L) hs) mm (by have hh3 : (Cb x).length = 3 := rfl; simp only [F6, List.length_append, List.length_cons, List.length_nil]; omega) (by omega)) ?_; intro v109
   refine ZC ?_
   refine Au (i + 1, v109.1, v109.2) (by show i + 1 ≤ x.home.length; omega) (by show x.home.length - (i + 1) < x.home.length - i; omega) alT (fun w hs => ?_)
   try simp only
   rw [Afx (by omega), J9, J9]; exact Ag hs
  ·intro ht78
   refine Zav ?_
   have hil : i = x.home.length := by omega
   have hcn : Dh x = Cb x ++ x.cores.flatMap Bw ++ x.home.flatMap entNums := rfl
   have hb5 := hx.h x.home.length
   rw [List.take_length] at hb5
   refine A7 (γ := Nat × Bool × Value) (fun g => g.1 ≤ x.frames.length) (fun g => blk b13 89 [pv b13 g.2.1, g.2.2] :: row 5 g.2.2 (Gk (Dh x) ++ (x.frames.take g.1).flatMap frKey) :: blk b1 30 [cv, hv, fv] :: L) (fun _ => R) (fun g => [(3, bp b13 0), (112, fv), (113, vi (x.frames.length : Int)), (114, vi (g.1 : Int))]) (fun g => x.frames.length - g.1) (0, u, v) (Nat.zero_le _) alT (fun w hs => by rw [List.take_zero, List.flatMap_nil, List.append_nil]; rw [hil, List.take_length] at hs; exact Ag hs) ?_
   rintro ⟨k, u, v⟩ hk
   try simp only at hk ⊢
   have hb6 := hx.f k
   have hb7 : (Dh x).length ≤ 187 := by
    rw [hcn, List.length_append, List.length_append]
    have : (Cb x).length = 3 := rfl
    omega
   have hb8 : (Gk (Dh x) ++ (x.frames.take k).flatMap frKey).length ≤ 1200 := by rw [List.length_append, F6]; omega
   refine Gl ?_
   refine kp [2, 3, 112, 113, 114, 115] ?_
   refine ZW ?_
   refine cdy ?_ ?_
   ·intro ht115
    refine Gl ?_
    refine JC.open1 (xs := x.frames) (v := fv) k mm (by omega) (fun _ uf => ?_)
    have hfb := hx.fb k (by omega)
    refine Aa ?_
    refine Gb3 ?_
    refine rn3 ?_
    refine li (α := Int) [((x.frames.getD k []).length : Int)] Ea rfl (Qc (l := [((x.frames.getD k []).length : Int)]) (by intro a ha; simp only [List.mem_cons, List.not_mem_nil, or_false] at ha; rw [ha]; unfold Ao; omega)) ?_; intro v121
    refine An Tryz.call30 rfl (fun w hs => Kz (b := b13) (u := u) (v := v) (bs := Gk (Dh x) ++ (x.frames.take k).flatMap frKey) (l := [((x.frames.getD k []).length : Int)]) (Ag (L' := blk b13 89 [pv b13 u, v] :: row 5 v (Gk (Dh x) ++ (x.frames.take k).flatMap frKey) :: blk b1 30 [cv, hv, fv] :: L) hs) mm (by omega) (by simp only [List.length_cons, List.length_nil]; omega)) ?_; intro v122
    refine Zak ?_
    refine An Tryz.call32 rfl (fun w hs => Uc (b := b13) (u := v122.1) (v := v122.2) (bs := Gk (Dh x) ++ (x.frames.take k).flatMap frKey ++ Gk [((x.frames.getD k []).length : Int)]) (ys := x.frames.getD k []) (Ag (L' := blk b13 89 [pv b13 v122.1, v122.2] :: row 5 v122.2 (Gk (Dh x) ++ (x.frames.take k).flatMap frKey ++ Gk [((x.frames.getD k []).length : Int)]) :: blk b1 30 [cv, hv, fv] :: L) hs) mm (by rw [List.length_append]; have : (Gk [((x.frames.getD k []).length : Int)]).length = 3 := rfl; omega) (by omega)) ?_; intro v127
    refine ZC ?_
    refine Au (k + 1, true, v127) (by show k + 1 ≤ x.frames.length; omega) (by show x.frames.length - (k + 1) < x.frames.length - k; omega) alT (fun w hs => ?_)
    try simp only
    rw [Kd [] (by omega), ← List.append_assoc]
    unfold frKey
    rw [← List.append_assoc]; exact Ag hs
   ·intro ht115
    refine Gl ?_
    have hkl2 : k = x.frames.length := by omega
    have hne : (Gk (Dh x) ++ (x.frames.take k).flatMap frKey) ≠ [] := by
     intro h
     have := congrArg List.length h
     rw [List.length_append, F6, List.length_nil, hcn, List.length_append, List.length_append] at this
     have h3 : (Cb x).length = 3 := rfl
     omega
    refine ZL ?_
    refine An Tryz.call33 rfl (fun w hs => Yp (b := b13) (u := u) (v := v) (bs := Gk (Dh x) ++ (x.frames.take k).flatMap frKey) (Ag (L' := blk b13 89 [pv b13 u, v] :: row 5 v (Gk (Dh x) ++ (x.frames.take k).flatMap frKey) :: L) hs) hne) ?_; intro _
    refine Ga1 ?_
    have er : Hb x = Gk (Dh x) ++ (x.frames.take k).flatMap frKey := by unfold Hb; rw [hkl2, List.take_length]
    rw [er]
    exact Bb ()
end Go.Proofs.YtbigiimomnfpdaaGreat
namespace Go.Proofs.YtbigiimomnfpdaaGreat
open Go Go.MapKept
structure MapIs {κ : Type} (kv : κ → Value) (d : TypeDesc) (es : List MapEntry) (f : κ → Option Value) : Prop where
 key : ∀ e ∈ es, IsKey d e.key
 uni : ∀ (i j : Nat) (e e' : MapEntry), es[i]? = some e → es[j]? = some e' → e.key = e'.key → i = j
 val : ∀ e ∈ es, ∀ k, e.key = kv k → f k = some e.val
 non : ∀ k, (∀ e ∈ es, e.key ≠ kv k) → f k = none
section
variable {P : Program} {n : Nat} {ops : Array Oper} {Q : Exit → Act → World → Prop} {rest : List Oper} {L L' : List Chunk} {R : List Fact} {al : List (Nat × Value)} {d0 : Nat} {x y z : Operand} {T ty : TypeId} {pos : String} {aft : Array Edge} {κ : Type} {kv : κ → Value} {d : TypeDesc} {b : Nat} {f : κ → Option Value}
theorem MapIs.nil : MapIs kv d [] (fun _ => none) := ⟨by simp, by simp, by simp, fun _ _ => rfl⟩
end
end Go.Proofs.YtbigiimomnfpdaaGreat
namespace Go.Proofs.YtbigiimomnfpdaaGreat
open Go Go.MapKept
def R3 {κ : Type} (kv : κ → Value) (b : Nat) (ks : List κ) : Chunk :=
 ⟨fun m _ => ∃ es clock, m (b + 1) = some (.ob (.map es clock)) ∧ es.toList.map (fun e => (e.key, e.val)) = ks.map (fun k => (kv k, Value.bool true)), fun _ _ _ _ h => h⟩
section
variable {P : Program} {n : Nat} {ops : Array Oper} {Q : Exit → Act → World → Prop} {rest : List Oper} {L L' : List Chunk} {R : List Fact} {al : List (Nat × Value)} {d0 : Nat} {x y z : Operand} {T ty : TypeId} {pos : String} {aft : Array Edge} {κ : Type} {kv : κ → Value} {d : TypeDesc} {b : Nat} {ks : List κ}
theorem St.set_get {w : World} (hs : St (R3 kv b ks :: L) R w) : ∃ es clock, w.heap[b]? = some (.map es clock) ∧ es.toList.map (fun e => (e.key, e.val)) = ks.map (fun k => (kv k, Value.bool true)) ∧ ∀ (w' : World) (o' : Obj) (c' : Chunk), w'.heap[b]? = some o' → (∀ x, x ≠ b → w'.heap[x]? = w.heap[x]?) → w'.os = w.os → w'.output = w.output → (∀ i, c'.p (one b o') i) → St (c' :: L) R w' := by
 obtain ⟨m, i, hd, hm, hi, ⟨m1, m2, hd', h1, h2, ⟨es, clock, hc, hM⟩, hst⟩, hr⟩ := hs
 exact ⟨es, clock, Iq (hm _ _ (h1 _ _ hc)), hM, fun w' o' c' hb hrest ho hu hn => St.put hd hm hi hd' h1 h2 hst hr hc hb hrest ho hu (hn i)⟩
theorem S7 {es : List MapEntry} (h : es.map (fun e => (e.key, e.val)) = ks.map (fun k => (kv k, Value.bool true))) : (∀ e ∈ es, ∃ k ∈ ks, e.key = kv k ∧ e.val = .bool true) ∧ ∀ k ∈ ks, ∃ e ∈ es, e.key = kv k := by
 refine ⟨fun e he => ?_, fun k hk => ?_⟩
 ·have : (e.key, e.val) ∈ ks.map (fun k => (kv k, Value.bool true)) := by rw [← h]; exact List.mem_map.2 ⟨e, he, rfl⟩
  obtain ⟨k, hk, e2⟩ := List.mem_map.1 this
  injection e2 with a1 a2
  exact ⟨k, hk, a1.symm, a2.symm⟩
 ·have : (kv k, Value.bool true) ∈ es.map (fun e => (e.key, e.val)) := by rw [h]; exact List.mem_map.2 ⟨k, hk, rfl⟩
  obtain ⟨e, he, e2⟩ := List.mem_map.1 this
  injection e2 with a1 a2
  exact ⟨e, he, a1⟩
theorem Afa (kv : κ → Value) (k : ∀ b, J P n ops Q rest (R3 kv b [] :: L) R ((d0, .map (some b)) :: al)) : J P n ops Q (⟨some d0, .makeMap T none, ty, pos, aft, none⟩ :: rest) L R al :=
 J.yieldEx (v := fun b => .map (some b)) (L' := fun b => R3 kv b [] :: L) (R' := fun _ => R) rfl rfl (fun B w hs => by
  refine ⟨w.heap.size, w.alloc (.map #[] 0), ?_, ?_⟩
  ·show (Instr.makeMap T (Option.map _ none) >>= fun v => Pure.pure (Next.value v)).run P w = _
   rw [Sem.run_bind]; rfl
  ·obtain ⟨m, i, hd, hm, hi, hst, hr⟩ := hs
   exact St.newC (o := .map #[] 0) hd hm hi hst hr rfl rfl rfl ⟨#[], 0, Eu _ _, rfl⟩) k
theorem Qd {kt et : TypeId} (k0 : κ) (v : Bool) (hv : v = true ↔ k0 ∈ ks) (inj : ∀ a b, kv a = kv b → a = b) (hm : P.underlying T = some (.map kt et)) (hd : P.underlying kt = some d) (hz : ∀ w, (zeroValue et).run P w = .ok (.bool false) w) (hk : ∀ k, IsKey d (kv k)) (hx : ev n al x = some (.map (some b))) (hy : ev n al y = some (kv k0)) (hp : Pick L (R3 kv b ks) L')
  (k : J P n ops Q rest L R ((d0, .bool v) :: al)) : J P n ops Q (⟨some d0, .lookup T x y false, ty, pos, aft, none⟩ :: rest) L R al :=
 J.pure rfl rfl (fun B w hs => by
  obtain ⟨es, clock, hb, hM, _⟩ := (hs.pick hp).set_get
  obtain ⟨g1, g2⟩ := S7 hM
  have hkey : ∀ e ∈ es.toList, IsKey d e.key := fun e he => by obtain ⟨k, _, e1, _⟩ := g1 e he; rw [e1]; exact hk k
  show (Instr.lookup T ((mkA n al B).eval x) ((mkA n al B).eval y) false >>= fun v => Pure.pure (Next.value v)).run P w = _
  have hl : (Instr.lookup T (.map (some b)) (kv k0) false).run P w = .ok (.bool v) w := by
   rcases findNow_spec (hk k0) es.toList 0 hkey with ⟨h1, h2⟩ | ⟨j, e, h1, h2, h3⟩
   ·have hn : ¬ k0 ∈ ks := fun hin => by obtain ⟨e, he, e1⟩ := g2 k0 hin; exact h2 e he e1
    have hvf : v = false := by cases v with | false => rfl | true => exact absurd (hv.1 rfl) hn
    rw [hvf]
    simp [Instr.lookup, run_underlying hm, _root_.Go.MapKept.run_getObj_map hb, run_checkKey hd (hk k0), run_findKey hd h1, Result.andThen, hz]
   ·have he := List.mem_of_getElem? h2
    obtain ⟨k, hin, e1, e2⟩ := g1 e he
    have : k0 = k := inj _ _ (by rw [← h3, e1])
    rw [hv.2 (by rw [this]; exact hin)]
    simp [Instr.lookup, run_underlying hm, _root_.Go.MapKept.run_getObj_map hb, run_checkKey hd (hk k0), run_findKey hd h1, Result.andThen, hz, e2]
  rw [Bf hx, Bf hy, Sem.run_bind, hl]; rfl) k
theorem Wd {kt et : TypeId} {w : World} (k0 : κ) (hm : P.underlying T = some (.map kt et)) (hd : P.underlying kt = some d) (hk : ∀ k, IsKey d (kv k)) (inj : ∀ a b, kv a = kv b → a = b) (hn : ¬ k0 ∈ ks) (hs : St (R3 kv b ks :: L) R w) :
  ∃ w', (Instr.mapUpdate T (.map (some b)) (kv k0) (.bool true)).run P w = .ok () w' ∧ St (R3 kv b (ks ++ [k0]) :: L) R w' := by
 obtain ⟨es, clock, hb, hM, put⟩ := hs.set_get
 obtain ⟨g1, g2⟩ := S7 hM
 have hkey : ∀ e ∈ es.toList, IsKey d e.key := fun e he => by obtain ⟨k, _, e1, _⟩ := g1 e he; rw [e1]; exact hk k
 rcases findNow_spec (hk k0) es.toList 0 hkey with ⟨h1, h2⟩ | ⟨j, e, h1, h2, h3⟩
 ·refine ⟨{ w with heap := w.heap.setIfInBounds b (.map (es.push { key := kv k0, val := .bool true, born := clock }) (clock + 1)) }, ?_, ?_⟩
  ·simp [Instr.mapUpdate, run_underlying hm, _root_.Go.MapKept.run_getObj_map hb, run_checkKey hd (hk k0), run_findKey hd h1, _root_.Go.MapKept.run_setObj_map _ hb, Result.andThen]
  ·refine put _ _ _ (heap_set hb).1 (fun r hr => (heap_set hb).2 r hr) rfl rfl (fun i => ⟨_, _, Eu _ _, ?_⟩)
   rw [Array.toList_push, List.map_append, List.map_append, hM]; rfl
 ·obtain ⟨k, hin, e1, _⟩ := g1 e (List.mem_of_getElem? h2)
  have : k0 = k := inj _ _ (by rw [← h3, e1])
  exact absurd (by rw [this]; exact hin) hn
theorem Aab {kt et : TypeId} (k0 : κ) (inj : ∀ a b, kv a = kv b → a = b) (hm : P.underlying T = some (.map kt et)) (hd : P.underlying kt = some d) (hk : ∀ k, IsKey d (kv k)) (hn : ¬ k0 ∈ ks) (hx : ev n al x = some (.map (some b))) (hy : ev n al y = some (kv k0)) (hz : ev n al z = some (.bool true)) (hp : Pick L (R3 kv b ks) L')
  (k : J P n ops Q rest (R3 kv b (ks ++ [k0]) :: L') R al) : J P n ops Q (⟨none, .mapUpdate T x y z, ty, pos, aft, none⟩ :: rest) L R al :=
 J.skip rfl rfl (fun B w hs => by
  obtain ⟨w', h1, h2⟩ := Wd k0 hm hd hk inj hn (hs.pick hp)
  refine ⟨w', ?_, h2⟩
  show (Instr.mapUpdate T ((mkA n al B).eval x) ((mkA n al B).eval y) ((mkA n al B).eval z) >>= fun _ => Pure.pure Next.skip).run P w = _
  rw [Bf hx, Bf hy, Bf hz, Sem.run_bind, h1]; rfl) k
theorem Aad {kt et : TypeId} (k0 : κ) (inj : ∀ a b, kv a = kv b → a = b) (hm : P.underlying T = some (.map kt et)) (hd : P.underlying kt = some d) (hk : ∀ k, IsKey d (kv k)) (hn : ¬ k0 ∈ ks) (hx : ev n al x = some (.map (some b))) (hy : ev n al y = some (kv k0)) (hz : ev n al z = some (.bool true)) (hp : Pick L (R3 kv b ks) L')
  (k : J P n ops Q rest (R3 kv b (ks ++ [k0]) :: L') R al) : J P n ops Q (⟨none, .insert T x y z, ty, pos, aft, none⟩ :: rest) L R al :=
 J.skip rfl rfl (fun B w hs => by
  obtain ⟨w', h1, h2⟩ := Wd k0 hm hd hk inj hn (hs.pick hp)
  refine ⟨w', ?_, h2⟩
  show (Instr.mapUpdate T ((mkA n al B).eval x) ((mkA n al B).eval y) ((mkA n al B).eval z) >>= fun _ => Pure.pure Next.skip).run P w = _
  rw [Bf hx, Bf hy, Bf hz, Sem.run_bind, h1]; rfl) k
theorem Aac {t kt et : TypeId} (hm : P.underlying t = some (.map kt et)) (hx : ev n al x = some (.map (some b))) (hp : Pick L (R3 kv b ks) L')
  (k : J P n ops Q rest L R ((d0, vi (ks.length : Int)) :: al)) : J P n ops Q (⟨some d0, .call { callee := .builtin .len, args := #[x], argTypes := #[t] }, ty, pos, aft, none⟩ :: rest) L R al :=
 J.pure rfl rfl (fun B w hs => by
  obtain ⟨es, clock, hb, hM, _⟩ := (hs.pick hp).set_get
  have hl : es.size = ks.length := by
   have := congrArg List.length hM
   rw [List.length_map, List.length_map, Array.length_toList] at this; exact this
  have e : (Builtin.len_ #[t] ty #[.map (some b)]).run P w = .ok (vi (ks.length : Int)) w := by
   simp [Builtin.len_, run_underlying hm, _root_.Go.MapKept.run_getObj_map hb, goInt, hl]
  have hx' := Bf (B := B) hx
  simp [execOp, resolve, invoke, builtin, hx', e]) k
end
def skv (l : List UInt8) : Value := .string (Nm l)
theorem Ow : ∀ a b : List UInt8, skv a = skv b → a = b := fun a b h => by
 unfold skv Nm at h
 injection h with h
 injection h with h
 exact Array.toList_inj.2 h
theorem Ov : ∀ k, IsKey .string (skv k) := fun k => trivial
set_option maxHeartbeats 1000000
set_option maxRecDepth 8000
variable {L : List Chunk} {R : List Fact} {w : World}
def Je (x : Chip) (ops : List Op) (p j : Nat) : List Step := if (cor x p).wait.kind = 0 then (ops.take j).map fun o => ⟨1, (p : Int), 0, 0, o⟩ else []
theorem Wy {x : Chip} {ops : List Op} {p j : Nat} (h : (cor x p).wait.kind = 0) (hj : j < ops.length) : Je x ops p (j + 1) = Je x ops p j ++ [⟨1, (p : Int), 0, 0, ops.getD j zOp⟩] := by
 unfold Je; rw [if_pos h, if_pos h, Es zOp hj, List.map_append]; rfl
theorem Wz {x : Chip} {ops : List Op} {p j : Nat} (h : ¬ (cor x p).wait.kind = 0) : Je x ops p (j + 1) = Je x ops p j := by unfold Je; rw [if_neg h, if_neg h]
theorem Qk (x : Chip) (ops : List Op) (p : Nat) : Je x ops p ops.length = Sd x ops p := by unfold Je Sd; rw [List.take_length]
theorem Qj (x : Chip) (ops : List Op) (p j : Nat) : (Je x ops p j).length ≤ ops.length := by
 unfold Je; split
 ·rw [List.length_map, List.length_take]; omega
 ·exact Nat.zero_le _
def stA (x : Chip) (ops : List Op) (p : Nat) : List Step := (List.range p).flatMap (Sd x ops)
def stB (x : Chip) (ops : List Op) (losses : Bool) (k : Nat) : List Step := stA x ops x.cores.length ++ (List.range k).flatMap (Y8 losses)
def stC (x : Chip) (ops : List Op) (losses : Bool) (k : Nat) : List Step := stB x ops losses x.frames.length ++ (List.range k).flatMap (Uj losses)
theorem Om (x : Chip) (ops : List Op) (losses : Bool) : stC x ops losses (x.cores.length + 1) = Gx x ops losses := rfl
theorem S6 (x : Chip) (ops : List Op) (p : Nat) : stA x ops (p + 1) = stA x ops p ++ Sd x ops p := Kr _ _
theorem On (x : Chip) (ops : List Op) (losses : Bool) (k : Nat) : stB x ops losses (k + 1) = stB x ops losses k ++ Y8 losses k := by unfold stB; rw [Kr, List.append_assoc]
theorem Lq (x : Chip) (ops : List Op) (losses : Bool) (k : Nat) : stC x ops losses (k + 1) = stC x ops losses k ++ Uj losses k := by unfold stC; rw [Kr, List.append_assoc]
theorem Ry (x : Chip) (ops : List Op) (p : Nat) : (stA x ops p).length ≤ p * ops.length := by
 have := Is (f := Sd x ops) (k := ops.length) (l := List.range p) (fun a _ => by unfold Sd; split <;> simp)
 rw [List.length_range] at this; exact this
theorem Rx (x : Chip) (ops : List Op) (losses : Bool) (k : Nat) : (stB x ops losses k).length ≤ x.cores.length * ops.length + k * 3 := by
 have h1 := Ry x ops x.cores.length
 have := Is (f := Y8 losses) (k := 3) (l := List.range k) (fun a _ => by unfold Y8; cases losses <;> simp)
 rw [List.length_range] at this
 unfold stB; rw [List.length_append]; omega
theorem Ol (x : Chip) (ops : List Op) (losses : Bool) (k : Nat) : (stC x ops losses k).length ≤ x.cores.length * ops.length + x.frames.length * 3 + k := by
 have h1 := Rx x ops losses x.frames.length
 have := Is (f := Uj losses) (k := 1) (l := List.range k) (fun a _ => by unfold Uj; cases losses <;> simp)
 rw [List.length_range] at this
 unfold stC; rw [List.length_append]; omega
theorem Mn {R : List Fact} {e : Step} (hw : e.wf) : ∀ j, (∀ q ∈ R, q.p j) → RdV [e] [.agg e.cells.toArray] j := fun j _ => ⟨⟨_, rfl, rfl, hw⟩, trivial⟩
theorem Aak {P : Program} {n : Nat} {Q : Exit → Act → World → Prop} {L : List Chunk} {R : List Fact} {al : List (Nat × Value)} {cd : Code} {v : Value} {xs : List Chip} (k : Nat) (hm : sl v xs ∈ R) (hk : k < xs.length) (kk : ∀ a b c, a.oneCell' = true ∧ b.oneCell' = true ∧ c.oneCell' = true → JC P n cd Q L (cF v 3 k [a, b, c] :: sl a (xs.getD k zChip).cores :: sl b (xs.getD k zChip).home :: sl c (xs.getD k zChip).frames :: R) al) : JC P n cd Q L R al := fun B w hs => by
 obtain ⟨m, j, hd, hmw, hjw, hst, hr⟩ := hs
 obtain ⟨cs, h1, h2⟩ := Rz (hr _ hm) (getD_some zChip hk)
 obtain ⟨a, b, c, rfl, ha, hb, hc⟩ := h1
 refine kk a b c ⟨ha.one, hb.one, hc.one⟩ B w ⟨m, j, hd, hmw, hjw, hst, fun g hg => ?_⟩
 simp only [List.mem_cons] at hg
 rcases hg with e | e | e | e | e
 ·rw [e]; exact h2
 ·rw [e]; exact ha
 ·rw [e]; exact hb
 ·rw [e]; exact hc
 ·exact hr g e
theorem Tf {R : List Fact} {a b c : Value} {x : Chip} (ha : sl a x.cores ∈ R) (hb : sl b x.home ∈ R) (hc : sl c x.frames ∈ R) : ∀ j, (∀ q ∈ R, q.p j) → RdV [x] [.agg #[a, b, c]] j := fun j h => ⟨⟨[a, b, c], rfl, a, b, c, rfl, h _ ha, h _ hb, h _ hc⟩, trivial⟩
theorem T3 {cv hv fv vo : Value} {x : Chip} {ops : List Op} {losses : Bool} (hs : St (L) R w) (hcv : sl cv x.cores ∈ R) (hfv : sl fv x.frames ∈ R) (ho : sl vo ops ∈ R) (hx : KX x) (hol : ops.length ≤ 4000000) : Calls Tryz.prog 6 [.agg #[cv, hv, fv], vo, .bool losses].toArray w (Bs (fun g : Value => g) (fun g => L) (fun g => sl g (Gx x ops losses) :: R)) := by
 refine Ai Tryz.func6 rfl Tryz.ntmps6 rfl hs ?_
 clear hs
 refine Zap ?_;intro b3
 refine Gb1 ?_
 refine Ga1 ?_
 have hcl := hx.cl
 have hfl := hx.fl
 refine ZaH ?_
 refine JC.rowNil 38 Step ?_
 refine A7 (γ := Nat × Value) (fun g => g.1 ≤ x.cores.length) (fun g => row 38 g.2 (stA x ops g.1) :: blk b3 30 [cv, hv, fv] :: L) (fun _ => R) (fun g => [(1, vo), (2, .bool losses), (3, bp b3 0), (7, g.2), (15, cv), (16, vi (x.cores.length : Int)), (17, vi (g.1 : Int))]) (fun g => x.cores.length - g.1) (0, .slice none 0 0) (Nat.zero_le _) alT (fun w hs => Ag hs) ?_
 rintro ⟨p, v⟩ hp
 try simp only at hp ⊢
 have hal := Ry x ops p
 have hmul : p * ops.length ≤ 4 * ops.length := Nat.mul_le_mul_right _ (by omega)
 refine ZA ?_
 refine cdy ?_ ?_
 ·intro ht18
  refine Gl ?_
  refine Fh p (v := cv) mm (by omega) (fun hwt uc honeuc => ?_)
  refine ZL ?_
  refine al_ (cs := [.slice none 0 0, vi 0, vi 0, vi 0]) Tryz.zeroValue57 ?_; intro b9
  refine rn1 ?_
  refine s_B (cs := Core.cells uc (cor x p)) Tryz.sizeOf57 ?_
  refine ZS ?_
  refine A7 (γ := Nat × Value) (fun g => g.1 ≤ ops.length) (fun g => row 38 g.2 (stA x ops p ++ Je x ops p g.1) :: blk b9 57 (Core.cells uc (cor x p)) :: blk b3 30 [cv, hv, fv] :: L) (fun _ => R) (fun g => [(1, vo), (2, .bool losses), (3, bp b3 0), (7, g.2), (8, vi (p : Int)), (9, bp b9 0), (15, cv), (16, vi (x.cores.length : Int)), (17, vi (p : Int)), (22, vo), (23, vi (ops.length : Int)), (24, vi (g.1 : Int))]) (fun g => ops.length - g.1) (0, v) (Nat.zero_le _) alT (fun w hs => by rw [show Je x ops p 0 = [] by unfold Je; split <;> rfl, List.append_nil]; exact Ag hs) ?_
  rintro ⟨j, v⟩ hj
  try simp only at hj ⊢
  have hol2 := Qj x ops p j
  have hmul2 : (p + 1) * ops.length ≤ 4 * ops.length := Nat.mul_le_mul_right _ (by omega)
  rw [Nat.succ_mul] at hmul2
  refine ZA ?_
  refine cdy ?_ ?_
  ·intro ht25
   refine Gl ?_
   refine JC.open0 (xs := ops) (v := vo) j mm (by omega) (fun how => ?_)
   refine ZD ?_
   refine al_ (cs := zOp.cells) Tryz.zeroValue36 ?_; intro b11
   refine s_B (cs := (ops.getD j zOp).cells) Tryz.sizeOf36 ?_
   refine Zav ?_
   refine cdy ?_ ?_
   ·intro ht31
    refine ZE ?_
    refine li (α := Step) [⟨1, (p : Int), 0, 0, (ops.getD j zOp)⟩] Jg rfl (Mn (by unfold Step.wf Ao; exact ⟨by simp only; omega, by simp only; omega, by simp only; omega, by simp only; omega, how⟩)) ?_; intro v36
    refine ap Jg (hb := fun w hs => by have : maxN = 16777216 := rfl; simp only [List.length_cons, List.length_nil, List.length_append]; omega) (k := ?_); intro v37
    refine Ga1 ?_
    refine kp [1, 2, 3, 6, 7, 8, 9, 11, 15, 16, 17, 18, 19, 20, 21, 22, 23, 24, 25, 26, 27, 28, 29, 30, 31, 32, 33, 34, 35, 36, 37, 38] ?_
    refine ZO ?_
    refine Au (j + 1, v37) (by show j + 1 ≤ ops.length; omega) (by show ops.length - (j + 1) < ops.length - j; omega) alT (fun w hs => ?_)
    try simp only
    rw [Wy ht31 (by omega), ← List.append_assoc]; exact Ag hs
   ·intro ht31
    refine ZC ?_
    refine Au (j + 1, v) (by show j + 1 ≤ ops.length; omega) (by show ops.length - (j + 1) < ops.length - j; omega) alT (fun w hs => ?_)
    try simp only
    rw [Wz ht31]; exact Ag hs
  ·intro ht25
   exact Zg2
 ·intro ht18
  refine Zav ?_
  have hpe : p = x.cores.length := by omega
  have hml : x.cores.length * ops.length ≤ 4 * ops.length := Nat.mul_le_mul_right _ hcl
  refine A7 (γ := Nat × Value) (fun g => g.1 ≤ x.frames.length) (fun g => row 38 g.2 (stB x ops losses g.1) :: blk b3 30 [cv, hv, fv] :: L) (fun _ => R) (fun g => [(2, .bool losses), (3, bp b3 0), (7, g.2), (42, vi (x.frames.length : Int)), (43, vi (g.1 : Int))]) (fun g => x.frames.length - g.1) (0, v) (Nat.zero_le _) alT (fun w hs => by rw [hpe] at hs; unfold stB; rw [List.range_zero, List.flatMap_nil, List.append_nil]; exact Ag hs) ?_
  rintro ⟨k, v⟩ hk
  try simp only at hk ⊢
  have hbl := Rx x ops losses k
  refine ZA ?_
  refine cdy ?_ ?_
  ·intro ht44
   refine Za1 ?_
   refine rn3 ?_
   refine li (α := Step) [⟨2, 0, (k : Int), 0, zOp⟩] Jg rfl (Mn (by unfold Step.wf Ao zOp; simp only; omega)) ?_; intro v49
   refine ap Jg (hb := fun w hs => by have : maxN = 16777216 := rfl; simp only [List.length_cons, List.length_nil, List.length_append]; omega) (k := ?_); intro v50
   refine Gb1 ?_
   refine Ga1 ?_
   first | (refine cdx (p := ?p5) (hd := ?d5) ?e5 ?_ ?_; case e5 => exact rfl) | (refine A9 (b := ?b5) ?e5 ?_ ?_; case e5 => exact rfl)
   ·intro ht51
    refine Za2 ?_
    refine li (α := Step) [⟨3, 0, (k : Int), 0, zOp⟩, ⟨4, 0, (k : Int), 0, zOp⟩] Jg rfl (fun j hj => ⟨⟨_, rfl, rfl, by unfold Step.wf Ao zOp; simp only; omega⟩, ⟨_, rfl, rfl, by unfold Step.wf Ao zOp; simp only; omega⟩, trivial⟩) ?_; intro v57
    refine ap Jg (hb := fun w hs => by have : maxN = 16777216 := rfl; simp only [List.length_cons, List.length_nil, List.length_append]; omega) (k := ?_); intro v58
    refine ZG ?_
    have e1 : Y8 losses k = [⟨2, 0, (k : Int), 0, zOp⟩] ++ [⟨3, 0, (k : Int), 0, zOp⟩, ⟨4, 0, (k : Int), 0, zOp⟩] := by unfold Y8; rw [ht51]; rfl
    refine Au (k + 1, v58) (by show k + 1 ≤ x.frames.length; omega) (by show x.frames.length - (k + 1) < x.frames.length - k; omega) alT (fun w hs => ?_)
    try simp only
    rw [On, e1, ← List.append_assoc]; exact Ag hs
   ·intro ht51
    refine ZC ?_
    have e1 : Y8 losses k = [⟨2, 0, (k : Int), 0, zOp⟩] := by unfold Y8; rw [ht51]; rfl
    refine Au (k + 1, v50) (by show k + 1 ≤ x.frames.length; omega) (by show x.frames.length - (k + 1) < x.frames.length - k; omega) alT (fun w hs => ?_)
    try simp only
    rw [On, e1]; exact Ag hs
  ·intro ht44
   refine Zau ?_
   have hke : k = x.frames.length := by omega
   refine A7 (γ := Nat × Value) (fun g => g.1 ≤ x.cores.length + 1) (fun g => row 38 g.2 (stC x ops losses g.1) :: L) (fun _ => R) (fun g => [(2, .bool losses), (7, g.2), (63, vi ((x.cores.length + 1 : Nat) : Int)), (64, vi (g.1 : Int))]) (fun g => x.cores.length + 1 - g.1) (0, v) (Nat.zero_le _) alT (fun w hs => by rw [hke] at hs; unfold stC; rw [List.range_zero, List.flatMap_nil, List.append_nil]; exact Ag hs) ?_
   rintro ⟨i, v⟩ hi
   try simp only at hi ⊢
   have hcl2 := Ol x ops losses i
   refine ZA ?_
   refine cdy ?_ ?_
   ·intro ht65
    refine Za1 ?_
    refine Ga1 ?_
    first | (refine cdx (p := ?p7) (hd := ?d7) ?e7 ?_ ?_; case e7 => exact rfl) | (refine A9 (b := ?b7) ?e7 ?_ ?_; case e7 => exact rfl)
    ·intro ht67
     refine ZL ?_
     refine li (α := Step) [⟨6, (i : Int), 0, 0, zOp⟩] Jg rfl (Mn (by unfold Step.wf Ao zOp; simp only; omega)) ?_; intro v71
     refine ap Jg (hb := fun w hs => by have : maxN = 16777216 := rfl; simp only [List.length_cons, List.length_nil, List.length_append]; omega) (k := ?_); intro v72
     refine ZG ?_
     have e1 : Uj losses i = [⟨6, (i : Int), 0, 0, zOp⟩] := by unfold Uj; rw [ht67]; rfl
     refine Au (i + 1, v72) (by show i + 1 ≤ x.cores.length + 1; omega) (by show x.cores.length + 1 - (i + 1) < x.cores.length + 1 - i; omega) alT (fun w hs => ?_)
     try simp only
     rw [Lq, e1]; exact Ag hs
    ·intro ht67
     refine ZC ?_
     have e1 : Uj losses i = [] := by unfold Uj; rw [ht67]; rfl
     exact ZfG
   ·intro ht65
    exact ZfZ
theorem G1 {v0 : Value} {b : List UInt8} (hs : St L R w) (h0 : sl v0 b ∈ R) : Calls Tryz.prog 91 [v0].toArray w (Bs (fun _ : Unit => vi (Hk b)) (fun _ => L) (fun _ => R)) := by
 have hlen := Be h0 hs
 refine Ai Tryz.func91 rfl Tryz.ntmps91 rfl hs ?_
 clear hs
 repeat refine Bm ?_
 refine ZaI ?_
 repeat refine Bm ?_
 refine ZaI ?_
 repeat refine Bm ?_
 refine Zdg ?_
 repeat refine Bm ?_
 refine Du ?_
 refine A7 (γ := Nat) (fun k => k ≤ b.length) (fun _ => L) (fun _ => R) (fun k => [(0, v0), (6, v0), (7, vi (b.length : Int)), (8, vi (k : Int)), (3, vi ((Kn b k).toNat : Int))]) (fun k => b.length - k) 0 (by omega) ⟨rfl, rfl, rfl, rfl, rfl, trivial⟩ (fun w hs => hs) ?_
 intro k hk
 repeat refine Bm ?_
 refine ZbP ?_
 repeat refine Bm ?_
 refine A9 rfl (fun ht9 => ?_) (fun ht9 => ?_)
 ·
  try simp only [decide_eq_true_eq, decide_eq_false_iff_not, beq_iff_eq, bne_iff_ne, beq_eq_false_iff_ne, bne_eq_false_iff_eq, Int.not_lt, Int.not_le, Bool.not_eq_true, ne_eq, Bool.not_eq_eq_eq_not, Bool.not_true, Bool.not_false] at ht9
  refine ZaF ?_
  repeat refine Bm ?_
  refine Du ?_
  repeat refine Bm ?_
  refine Aa ?_
  first | refine Gt Cq rfl rfl (by first | exact Da pkk | exact El mm) (by first | assumption | omega | (simp only [List.length_nil, List.length_cons, List.length_append, List.length_take, List.length_drop, List.length_set, List.length_replicate]; omega)) ?_ | refine Gc Cq rfl rfl (by first | exact Da pkk | exact El mm) (by first | assumption | omega | (simp only [List.length_nil, List.length_cons, List.length_append, List.length_take, List.length_drop, List.length_set, List.length_replicate]; omega)) (by first | assumption | omega | (simp only [List.length_nil, List.length_cons, List.length_append, List.length_take, List.length_drop, List.length_set, List.length_replicate]; omega)) ?_
  first | refine Hp Tryz.isAgg5 rfl (A0 pkk (by exact rfl)) ?_ | refine Hp Tryz.isAgg5 rfl (Jd pkk (by first | assumption | omega | (simp only [List.length_nil, List.length_cons, List.length_append, List.length_take, List.length_drop, List.length_set, List.length_replicate]; omega))) ?_ | refine Hp Tryz.isAgg5 rfl (L4 mm (by first | assumption | omega | (simp only [List.length_nil, List.length_cons, List.length_append, List.length_take, List.length_drop, List.length_set, List.length_replicate]; omega))) ?_
  refine Zat ?_
  repeat refine Bm ?_
  refine ZQ ?_
  refine Bo rfl ?_
  refine Zdy ?_
  refine O0 rfl rfl (Ys (s := 8) (by omega) (by have := (b.getD k 0).toNat_lt; omega)) ?_
  refine D9 rfl rfl (Ue (lt63 _) (by have := (b.getD k 0).toNat_lt; omega)) ?_
  refine Zat ?_
  repeat refine Bm ?_
  refine ZQ ?_
  refine Zas ?_
  refine Du ?_
  refine A7 (γ := Nat) (fun j => j ≤ 8) (fun _ => L) (fun _ => R) (fun j => [(0, v0), (6, v0), (7, vi (b.length : Int)), (8, vi (k : Int)), (17, vi (j : Int)), (3, vi ((H0 j (Kn b k ^^^ (D7 (b.getD k 0) <<< 8))).toNat : Int))]) (fun j => 8 - j) 0 (by omega) ⟨rfl, rfl, rfl, rfl, rfl, congrArg (fun z : Nat => some (vi (z : Int))) (crc_in _ _), trivial⟩ (fun w hs => hs) ?_
  intro j hj
  generalize hx : H0 j (Kn b k ^^^ (D7 (b.getD k 0) <<< 8)) = x
  have hcb : H0 (j + 1) (Kn b k ^^^ (D7 (b.getD k 0) <<< 8)) = H8 x := by rw [← hx]; rfl
  repeat refine Bm ?_
  refine ZbP ?_
  repeat refine Bm ?_
  refine A9 rfl (fun ht18 => ?_) (fun ht18 => ?_)
  ·
   try simp only [decide_eq_true_eq, decide_eq_false_iff_not, beq_iff_eq, bne_iff_ne, beq_eq_false_iff_ne, bne_eq_false_iff_eq, Int.not_lt, Int.not_le, Bool.not_eq_true, ne_eq, Bool.not_eq_eq_eq_not, Bool.not_true, Bool.not_false] at ht18
   refine ZaF ?_
   repeat refine Bm ?_
   refine Du ?_
   repeat refine Bm ?_
   refine ZQ ?_
   refine D9 rfl rfl (Uf (b := 32768) (lt63 _) (by omega)) ?_
   refine D9 rfl rfl Yu ?_
   refine Zas ?_
   repeat refine Bm ?_
   refine A9 rfl (fun ht21 => ?_) (fun ht21 => ?_)
   ·
    try simp only [decide_eq_true_eq, decide_eq_false_iff_not, beq_iff_eq, bne_iff_ne, beq_eq_false_iff_ne, bne_eq_false_iff_eq, Int.not_lt, Int.not_le, Bool.not_eq_true, ne_eq, Bool.not_eq_eq_eq_not, Bool.not_true, Bool.not_false] at ht21
    replace ht21 : x.toNat &&& 32768 ≠ 0 := by intro h; apply ht21; rw [h]; rfl
    refine ZQ ?_
    refine O0 rfl rfl (Ys (s := 1) (by omega) (by have := x.isLt; omega)) ?_
    refine D9 rfl rfl (Ue (b := 4129) (by have := x.isLt; omega) (by omega)) ?_
    refine Zat ?_
    refine ZQ ?_
    refine D9 rfl rfl (Uf (b := 65535) (S4 (by have := x.isLt; omega) (by omega)) (by omega)) ?_
    refine Zbi ?_
    refine Zbu ?_
    refine Au (j + 1) (by omega) (by omega) ⟨rfl, rfl, rfl, rfl, rfl, ?_, trivial⟩ (fun w hs => hs)
    rw [hcb]; exact congrArg (fun z : Nat => some (vi (z : Int))) (crc_hi x ht21)
   ·
    try simp only [decide_eq_true_eq, decide_eq_false_iff_not, beq_iff_eq, bne_iff_ne, beq_eq_false_iff_ne, bne_eq_false_iff_eq, Int.not_lt, Int.not_le, Bool.not_eq_true, ne_eq, Bool.not_eq_eq_eq_not, Bool.not_true, Bool.not_false] at ht21
    replace ht21 : x.toNat &&& 32768 = 0 := by omega
    refine ZQ ?_
    refine O0 rfl rfl (Ys (s := 1) (by omega) (by have := x.isLt; omega)) ?_
    refine Zat ?_
    refine ZQ ?_
    refine D9 rfl rfl (Uf (b := 65535) (by have := x.isLt; omega) (by omega)) ?_
    refine Zbi ?_
    refine Zbu ?_
    refine Au (j + 1) (by omega) (by omega) ⟨rfl, rfl, rfl, rfl, rfl, ?_, trivial⟩ (fun w hs => hs)
    rw [hcb]; exact congrArg (fun z : Nat => some (vi (z : Int))) (crc_lo x ht21)
  ·
   try simp only [decide_eq_true_eq, decide_eq_false_iff_not, beq_iff_eq, bne_iff_ne, beq_eq_false_iff_ne, bne_eq_false_iff_eq, Int.not_lt, Int.not_le, Bool.not_eq_true, ne_eq, Bool.not_eq_eq_eq_not, Bool.not_true, Bool.not_false] at ht18
   refine Gz ?_
   repeat (first | refine Dq ?_ | refine Ep rfl ?_)
   refine Ds ?_
   refine Zbu ?_
   refine Au (k + 1) (by omega) (by omega) ⟨rfl, rfl, rfl, rfl, ?_, trivial⟩ (fun w hs => hs)
   have h8 : j = 8 := by omega
   subst h8
   rw [Nv (by omega), ← hx]; rfl
 ·
  try simp only [decide_eq_true_eq, decide_eq_false_iff_not, beq_iff_eq, bne_iff_ne, beq_eq_false_iff_ne, bne_eq_false_iff_eq, Int.not_lt, Int.not_le, Bool.not_eq_true, ne_eq, Bool.not_eq_eq_eq_not, Bool.not_true, Bool.not_false] at ht9
  refine Gz ?_
  repeat (first | refine Dq ?_ | refine Ep rfl ?_)
  refine Ds ?_
  refine Av ?_
  repeat refine Bm ?_
  refine Zb6 ?_
  repeat (first | refine Ei ?_ | refine Dr ?_)
  have hkl : k = b.length := by omega
  subst hkl
  rw [Adm]
  refine Bg (.inr rfl) (fun B w _ => Adq rfl rfl B w) (fun w hs => ⟨(), ?_, Ag hs⟩)
  rfl
theorem Ii {v0 : Value} {b : List UInt8} (hs : St L R w) (h0 : sl v0 b ∈ R) : Calls Tryz.prog 56 [v0].toArray w (Bs (fun _ : Unit => vi (Hk b)) (fun _ => L) (fun _ => R)) := by
 have hlen := Be h0 hs
 refine Ai Tryz.func56 rfl Tryz.ntmps56 rfl hs ?_
 clear hs
 repeat refine Bm ?_
 refine ZaI ?_
 repeat refine Bm ?_
 refine ZaI ?_
 repeat refine Bm ?_
 refine Zdg ?_
 repeat refine Bm ?_
 refine Du ?_
 refine A7 (γ := Nat) (fun k => k ≤ b.length) (fun _ => L) (fun _ => R) (fun k => [(0, v0), (9, v0), (10, vi (b.length : Int)), (11, vi (k : Int)), (3, vi ((Kn b k).toNat : Int))]) (fun k => b.length - k) 0 (by omega) ⟨rfl, rfl, rfl, rfl, rfl, trivial⟩ (fun w hs => hs) ?_
 intro k hk
 repeat refine Bm ?_
 refine ZbP ?_
 repeat refine Bm ?_
 refine A9 rfl (fun ht12 => ?_) (fun ht12 => ?_)
 ·
  try simp only [decide_eq_true_eq, decide_eq_false_iff_not, beq_iff_eq, bne_iff_ne, beq_eq_false_iff_ne, bne_eq_false_iff_eq, Int.not_lt, Int.not_le, Bool.not_eq_true, ne_eq, Bool.not_eq_eq_eq_not, Bool.not_true, Bool.not_false] at ht12
  refine ZaF ?_
  repeat refine Bm ?_
  refine Du ?_
  repeat refine Bm ?_
  refine Aa ?_
  first | refine Gt Cq rfl rfl (by first | exact Da pkk | exact El mm) (by first | assumption | omega | (simp only [List.length_nil, List.length_cons, List.length_append, List.length_take, List.length_drop, List.length_set, List.length_replicate]; omega)) ?_ | refine Gc Cq rfl rfl (by first | exact Da pkk | exact El mm) (by first | assumption | omega | (simp only [List.length_nil, List.length_cons, List.length_append, List.length_take, List.length_drop, List.length_set, List.length_replicate]; omega)) (by first | assumption | omega | (simp only [List.length_nil, List.length_cons, List.length_append, List.length_take, List.length_drop, List.length_set, List.length_replicate]; omega)) ?_
  first | refine Hp Tryz.isAgg5 rfl (A0 pkk (by exact rfl)) ?_ | refine Hp Tryz.isAgg5 rfl (Jd pkk (by first | assumption | omega | (simp only [List.length_nil, List.length_cons, List.length_append, List.length_take, List.length_drop, List.length_set, List.length_replicate]; omega))) ?_ | refine Hp Tryz.isAgg5 rfl (L4 mm (by first | assumption | omega | (simp only [List.length_nil, List.length_cons, List.length_append, List.length_take, List.length_drop, List.length_set, List.length_replicate]; omega))) ?_
  refine Zat ?_
  repeat refine Bm ?_
  refine ZaI ?_
  refine Du ?_
  refine A7 (γ := Nat) (fun j => j ≤ 8) (fun _ => L) (fun _ => R) (fun j => [(0, v0), (9, v0), (10, vi (b.length : Int)), (11, vi (k : Int)), (5, vb (b.getD k 0)), (6, vi (7 - (j : Int))), (3, vi ((Ik (b.getD k 0) j (Kn b k)).toNat : Int))]) (fun j => 8 - j) 0 (by omega) ⟨rfl, rfl, rfl, rfl, rfl, rfl, rfl, trivial⟩ (fun w hs => hs) ?_
  intro j hj
  generalize hx : Ik (b.getD k 0) j (Kn b k) = x
  repeat refine Bm ?_
  refine ZQ ?_
  refine D9 rfl rfl Ps ?_
  refine Zas ?_
  repeat refine Bm ?_
  refine A9 rfl (fun ht16 => ?_) (fun ht16 => ?_)
  ·
   try simp only [decide_eq_true_eq, decide_eq_false_iff_not, beq_iff_eq, bne_iff_ne, beq_eq_false_iff_ne, bne_eq_false_iff_eq, Int.not_lt, Int.not_le, Bool.not_eq_true, ne_eq, Bool.not_eq_eq_eq_not, Bool.not_true, Bool.not_false] at ht16
   refine ZaF ?_
   repeat refine Bm ?_
   refine Du ?_
   repeat refine Bm ?_
   obtain ⟨q, hq⟩ : ∃ q : Nat, 7 - (j : Int) = (q : Int) := ⟨7 - j, by omega⟩
   have hq2 : q = 7 - j := by omega
   rw [hq]
   refine ZQ ?_
   refine Zdy ?_
   refine Bo rfl ?_
   refine O0 rfl rfl (Ajk (by omega) (by omega)) ?_
   rw [Int.toNat_natCast, show ((b.getD k 0).toNat : Int) / 2 ^ q = ((((b.getD k 0).toNat : Int) / 2 ^ q).toNat : Int) from (Int.toNat_of_nonneg (Int.ediv_nonneg (by omega) (Int.pow_nonneg (by omega)))).symm]
   refine D9 rfl rfl (Uf (b := 1) (by have := (b.getD k 0).toNat_lt; have h1 := Int.ediv_le_self (a := ((b.getD k 0).toNat : Int)) (2 ^ q) (by omega); omega) (by omega)) ?_
   rw [Zk _ _ (by omega)]
   refine Zat ?_
   repeat refine Bm ?_
   refine ZQ ?_
   refine D9 rfl rfl (b_quo (by decide) (by rw [R7]; split <;> omega) (by rw [R7]; split <;> omega)) ?_
   rw [R7]
   refine Zat ?_
   repeat refine Bm ?_
   refine ZQ ?_
   refine D9 rfl rfl b_mulw ?_
   refine D9 rfl rfl (Acz (by decide) (by rw [R8]; omega) (by rw [R8]; have := (x <<< 1).isLt; omega)) ?_
   rw [R8]
   refine Zat ?_
   repeat refine Bm ?_
   refine ZQ ?_
   refine Bo rfl ?_
   refine D9 rfl rfl Yu ?_
   refine Zas ?_
   refine A9 rfl (fun ht31 => ?_) (fun ht31 => ?_)
   ·
    try simp only [decide_eq_true_eq, decide_eq_false_iff_not, beq_iff_eq, bne_iff_ne, beq_eq_false_iff_ne, bne_eq_false_iff_eq, Int.not_lt, Int.not_le, Bool.not_eq_true, ne_eq, Bool.not_eq_eq_eq_not, Bool.not_true, Bool.not_false] at ht31
    replace ht31 : (x.msb ^^ (b.getD k 0).toBitVec.getLsbD (7 - j)) = true := by rw [← hq2]; generalize b.getD k 0 = c at ht31 ⊢; cases h1 : x.msb <;> cases h2 : c.toBitVec.getLsbD q <;> simp [h1, h2] at ht31 ⊢
    refine ZQ ?_
    refine D9 rfl rfl (Ue (b := 4129) (lt63 _) (by omega)) ?_
    refine Zbi ?_
    refine Em ?_
    refine Av ?_
    refine ZQ ?_
    refine D9 rfl rfl (Yr (by omega) (by omega)) ?_
    refine Zbi ?_
    refine Au (j + 1) (by omega) (by omega) ⟨rfl, rfl, rfl, rfl, rfl, ?_, ?_, trivial⟩ (fun w hs => hs)
    ·exact Zgt
    rw [K8, hx]
    exact congrArg (fun z : Nat => some (vi (z : Int))) (by rw [Aex]; unfold N5; rw [if_pos ht31])
   ·
    try simp only [decide_eq_true_eq, decide_eq_false_iff_not, beq_iff_eq, bne_iff_ne, beq_eq_false_iff_ne, bne_eq_false_iff_eq, Int.not_lt, Int.not_le, Bool.not_eq_true, ne_eq, Bool.not_eq_eq_eq_not, Bool.not_true, Bool.not_false] at ht31
    replace ht31 : (x.msb ^^ (b.getD k 0).toBitVec.getLsbD (7 - j)) = false := by rw [← hq2]; generalize b.getD k 0 = c at ht31 ⊢; cases h1 : x.msb <;> cases h2 : c.toBitVec.getLsbD q <;> simp [h1, h2] at ht31 ⊢
    refine E8 ?_
    refine Em ?_
    refine Av ?_
    refine ZQ ?_
    refine D9 rfl rfl (Yr (by omega) (by omega)) ?_
    refine Zbi ?_
    refine Au (j + 1) (by omega) (by omega) ⟨rfl, rfl, rfl, rfl, rfl, ?_, ?_, trivial⟩ (fun w hs => hs)
    ·exact Zgt
    rw [K8, hx]
    exact congrArg (fun z : Nat => some (vi (z : Int))) (by unfold N5; rw [if_neg (by rw [ht31]; decide), BitVec.xor_zero])
  ·
   try simp only [decide_eq_true_eq, decide_eq_false_iff_not, beq_iff_eq, bne_iff_ne, beq_eq_false_iff_ne, bne_eq_false_iff_eq, Int.not_lt, Int.not_le, Bool.not_eq_true, ne_eq, Bool.not_eq_eq_eq_not, Bool.not_true, Bool.not_false] at ht16
   refine Gz ?_
   repeat (first | refine Dq ?_ | refine Ep rfl ?_)
   refine Ds ?_
   refine Zbu ?_
   refine Au (k + 1) (by omega) (by omega) ⟨rfl, rfl, rfl, rfl, ?_, trivial⟩ (fun w hs => hs)
   have h8 : j = 8 := by omega
   subst h8
   rw [Nv (by omega), Ss, hx]; rfl
 ·
  try simp only [decide_eq_true_eq, decide_eq_false_iff_not, beq_iff_eq, bne_iff_ne, beq_eq_false_iff_ne, bne_eq_false_iff_eq, Int.not_lt, Int.not_le, Bool.not_eq_true, ne_eq, Bool.not_eq_eq_eq_not, Bool.not_true, Bool.not_false] at ht12
  refine Gz ?_
  repeat (first | refine Dq ?_ | refine Ep rfl ?_)
  refine Ds ?_
  refine Av ?_
  repeat refine Bm ?_
  refine Zb6 ?_
  repeat (first | refine Ei ?_ | refine Dr ?_)
  have hkl : k = b.length := by omega
  subst hkl
  rw [Adm]
  refine Bg (.inr rfl) (fun B w _ => Adq rfl rfl B w) (fun w hs => ⟨(), ?_, Ag hs⟩)
  rfl
theorem Zl {c : Config} {m : Msg} (hs : St (L) R w) (hcw : c.wf) (hm : m.wf) : Calls Tryz.prog 57 [.agg c.cells.toArray, .agg m.cells.toArray].toArray w (Bs (fun _ : Unit => vi (Bi c m)) (fun _ => L) (fun _ => R)) := by
 refine Ai Tryz.func57 rfl Tryz.ntmps57 rfl hs ?_
 clear hs
 refine ZbD ?_;intro b2 b3
 refine Ga1 ?_
 rcases (show (m.kind < 1) ∨ (¬ m.kind < 1 ∧ 11 < m.kind) ∨ (1 ≤ m.kind ∧ m.kind ≤ 11) from by omega) with hc | hc | hc
 ·refine ZY ?_
  refine Gd5 ?_
  refine Ga1 ?_
  exact Zgd
 ·refine ZaX ?_
  refine Gd1 ?_
  refine Ga1 ?_
  exact Zgd
 ·refine Zax ?_
  refine Gd1 ?_
  refine rn4 ?_
  refine ZbL ?_
  refine rn4 ?_
  refine ZbL ?_
  refine rn2 ?_
  refine ZbL ?_
  refine rn2 ?_
  refine ZbL ?_
  refine rn2 ?_
  refine ZbL ?_
  refine li (α := Int × Int) [(m.src, c.cores), (m.dst, c.cores), (m.serial, 65535), (m.turn, 65535), (m.value, 255)] eo_151 rfl (fun j hj => ⟨⟨_, rfl, rfl, hm.2.1, hcw.1⟩, ⟨_, rfl, rfl, hm.2.2.1, hcw.1⟩, ⟨_, rfl, rfl, hm.2.2.2.2.1, by unfold Ao; simp only; omega⟩, ⟨_, rfl, rfl, hm.2.2.2.2.2.1, by unfold Ao; simp only; omega⟩, ⟨_, rfl, rfl, hm.2.2.2.2.2.2, by unfold Ao; simp only; omega⟩, trivial⟩) ?_; intro v34
  have hxl : ([(m.src, c.cores), (m.dst, c.cores), (m.serial, 65535), (m.turn, 65535), (m.value, 255)] : List (Int × Int)).length = 5 := rfl
  generalize hxs : ([(m.src, c.cores), (m.dst, c.cores), (m.serial, 65535), (m.turn, 65535), (m.value, 255)] : List (Int × Int)) = xs at hxl ⊢
  refine Ga2 ?_
  refine A7 (γ := Nat) (fun k => k ≤ 5 ∧ (0 < k → ¬ (m.line < 0 ∨ c.lines ≤ m.line)) ∧ ∀ i, i < k → ¬ ((xs.getD i (0, 0)).1 < 0 ∨ (xs.getD i (0, 0)).2 < (xs.getD i (0, 0)).1)) (fun _ => blk b3 76 m.cells :: blk b2 23 c.cells :: L) (fun _ => sl v34 xs :: R) (fun k => [(2, bp b2 0), (3, bp b3 0), (34, v34), (35, vi (5 : Int)), (36, vi (k : Int))]) (fun k => 5 - k) 0 ⟨by omega, fun h => by omega, fun i hi => by omega⟩ ⟨rfl, rfl, rfl, congrArg (fun z : Nat => some (vi (z : Int))) hxl, rfl, trivial⟩ (fun w hs => Ag hs) ?_
  rintro k ⟨hk, hkl, hkx⟩
  refine Gl ?_
  refine kp [2, 3, 4, 34, 35, 36, 37] ?_
  refine ZW ?_
  refine cdy ?_ ?_
  ·intro ht37
   refine Gl ?_
   refine JC.open0 (xs := xs) (v := v34) k mm (by omega) (fun hpw => ?_)
   refine ZD ?_
   refine al_ (cs := [vi 0, vi 0]) Tryz.zeroValue150 ?_; intro b6
   refine s_B (cs := [vi (xs.getD k (0, 0)).1, vi (xs.getD k (0, 0)).2]) Tryz.sizeOf150 ?_
   refine Gl ?_
   refine Zdb ?_
   refine Cs 61 (.bool (decide (((xs.getD k (0, 0)).1 < 0) ∨ ((xs.getD k (0, 0)).2 < (xs.getD k (0, 0)).1) ∨ (m.line < 0) ∨ (c.lines ≤ m.line)))) ?_ ?_
   ·rcases (show (((xs.getD k (0, 0)).1 < 0)) ∨ (¬ ((xs.getD k (0, 0)).1 < 0) ∧ ((xs.getD k (0, 0)).2 < (xs.getD k (0, 0)).1)) ∨ (¬ ((xs.getD k (0, 0)).1 < 0) ∧ ¬ ((xs.getD k (0, 0)).2 < (xs.getD k (0, 0)).1) ∧ (m.line < 0)) ∨ (¬ ((xs.getD k (0, 0)).1 < 0) ∧ ¬ ((xs.getD k (0, 0)).2 < (xs.getD k (0, 0)).1) ∧ ¬ (m.line < 0) ∧ (c.lines ≤ m.line)) ∨ (¬ ((xs.getD k (0, 0)).1 < 0) ∧ ¬ ((xs.getD k (0, 0)).2 < (xs.getD k (0, 0)).1) ∧ ¬ (m.line < 0) ∧ ¬ (c.lines ≤ m.line)) from by omega) with hm | hm | hm | hm | hm
    ·refine Aa ?_
     refine ZcA ?_
     refine D5 ?_
     refine Ga19 ?_
     exact ZeQ
    ·refine Zcb ?_
     refine Fo ?_
     refine Ga13 ?_
     exact ZeQ
    ·refine Zdb ?_
     refine Zcb ?_
     refine Dz ?_
     refine Za9 ?_
     refine Ga8 ?_
     exact ZeQ
    ·refine Zcb ?_
     refine Dz ?_
     refine ZM ?_
     refine Bc ?_
     refine Zbo ?_
     refine Ga1 ?_
     exact ZeQ
    ·refine Zdb ?_
     refine Zcb ?_
     refine Dz ?_
     refine ZM ?_
     refine ZbG ?_
     refine Ga1 ?_
     exact ZeV
   ·refine Av ?_
    first | (refine cdx (p := ?p2) (hd := ?d2) ?e2 ?_ ?_; case e2 => exact rfl) | (refine A9 (b := ?b2) ?e2 ?_ ?_; case e2 => exact rfl)
    ·intro ht61
     refine ZA ?_
     have hr : m.src < 0 ∨ c.cores < m.src ∨ m.dst < 0 ∨ c.cores < m.dst ∨ m.line < 0 ∨ c.lines ≤ m.line ∨ m.serial < 0 ∨ 65535 < m.serial ∨ m.turn < 0 ∨ 65535 < m.turn ∨ m.value < 0 ∨ 255 < m.value := by
      subst hxs
      have hk5 : k = 0 ∨ k = 1 ∨ k = 2 ∨ k = 3 ∨ k = 4 := by omega
      rcases hk5 with rfl | rfl | rfl | rfl | rfl <;> simp only [List.getD_cons_zero, List.getD_cons_succ] at ht61 <;> omega
     have er : Bi c m = 3 := by unfold Bi; rw [if_neg (by omega), if_pos hr]
     exact Zfo
    ·intro ht61
     refine ZC ?_
     refine Au (k + 1) ⟨by omega, fun _ => by omega, fun i hi => ?_⟩ (by omega) alT (fun w hs => Ag hs)
     by_cases hik : i = k
     ·subst hik; omega
     ·exact hkx i (by omega)
  ·intro ht37
   refine Gl ?_
   refine ZdZ ?_
   refine Cs 88 (.bool (decide (m.src = c.cores ↔ m.dst = c.cores))) ?_ ?_
   ·rcases (show (m.src = c.cores ∧ m.dst = c.cores) ∨ (m.src = c.cores ∧ m.dst ≠ c.cores) ∨ (m.src ≠ c.cores ∧ m.dst = c.cores) ∨ (m.src ≠ c.cores ∧ m.dst ≠ c.cores) from by omega) with hm | hm | hm | hm
    ·refine ZE ?_
     refine Cf ?_
     refine ZR ?_
     refine Cf ?_
     refine Ga15 ?_
     exact ZeQ
    ·refine ZE ?_
     refine Cf ?_
     refine ZR ?_
     refine Aw ?_
     refine rn6 ?_
     refine gy ?_
     refine H9 ?_
     refine Ga8 ?_
     exact ZeV
    ·refine ZdZ ?_
     refine ZbN ?_
     refine Hr ?_
     refine ZR ?_
     refine H9 ?_
     refine Ga2 ?_
     exact ZeV
    ·refine ZbN ?_
     refine Hr ?_
     refine ZR ?_
     refine Hr ?_
     refine Ga2 ?_
     exact ZeQ
   ·refine Av ?_
    refine Gl ?_
    first | (refine cdx (p := ?p3) (hd := ?d3) ?e3 ?_ ?_; case e3 => exact rfl) | (refine A9 (b := ?b3) ?e3 ?_ ?_; case e3 => exact rfl)
    ·intro ht88
     refine Gl ?_
     refine kp [4] ?_
     refine ZW ?_
     have hk5 : k = 5 := by omega
     subst hk5
     have hl := hkl (by omega)
     subst hxs
     have q0 := hkx 0 (by omega)
     have q1 := hkx 1 (by omega)
     have q2 := hkx 2 (by omega)
     have q3 := hkx 3 (by omega)
     have q4 := hkx 4 (by omega)
     simp only [List.getD_cons_zero, List.getD_cons_succ] at q0 q1 q2 q3 q4
     refine Zeg ?_;intro hr
     have er : Bi c m = 6 := by unfold Bi; rw [if_neg (by omega), if_neg hr, if_pos ht88]
     exact Zfo
    ·intro ht88
     refine Gl ?_
     refine kp [4] ?_
     refine ZW ?_
     have hk5 : k = 5 := by omega
     subst hk5
     have hl := hkl (by omega)
     subst hxs
     have q0 := hkx 0 (by omega)
     have q1 := hkx 1 (by omega)
     have q2 := hkx 2 (by omega)
     have q3 := hkx 3 (by omega)
     have q4 := hkx 4 (by omega)
     simp only [List.getD_cons_zero, List.getD_cons_succ] at q0 q1 q2 q3 q4
     refine Zeg ?_;intro hr
     have er : Bi c m = 0 := by unfold Bi; rw [if_neg (by omega), if_neg hr, if_neg ht88]
     exact Zfo
theorem Zz {m : Msg} (hs : St (L) R w) (hin : MsgIn m) : Calls Tryz.prog 54 [.agg m.cells.toArray].toArray w (Bs (fun v : Value => v) (fun v => L) (fun v => sl v (Ck m) :: R)) := by
 obtain ⟨k0, k1, k2, k3, k4, k5, k6⟩ := hin
 refine Ai Tryz.func54 rfl Tryz.ntmps54 rfl hs ?_
 clear hs
 refine Zbq ?_;intro b1
 refine ZG ?_
 refine A9 (b := ?b1) ?e1 ?_ ?_; case e1 => exact rfl
 ·intro ht9
  refine Aa ?_
  refine Gb1 ?_
  refine Gb1 ?_
  refine Aew ?_
  refine Zcg ?_
  refine rn2 ?_
  refine Zcg ?_
  refine rn3 ?_
  refine li (α := Int) ([m.kind, 16 * m.src + m.dst, m.line, m.serial / 256, m.serial % 256, m.turn / 256, m.turn % 256, m.value, 1, 0] : List Int) Ea rfl (fun j hj => ⟨⟨_, rfl, rfl, by unfold Ao; omega⟩, ⟨⟨_, rfl, rfl, by unfold Ao; omega⟩, ⟨⟨_, rfl, rfl, by unfold Ao; omega⟩, ⟨⟨_, rfl, rfl, by unfold Ao; omega⟩, ⟨⟨_, rfl, rfl, by unfold Ao; omega⟩, ⟨⟨_, rfl, rfl, by unfold Ao; omega⟩, ⟨⟨_, rfl, rfl, by unfold Ao; omega⟩, ⟨⟨_, rfl, rfl, by unfold Ao; omega⟩, ⟨⟨_, rfl, rfl, by unfold Ao; omega⟩, ⟨⟨_, rfl, rfl, by unfold Ao; omega⟩, trivial⟩⟩⟩⟩⟩⟩⟩⟩⟩⟩) ?_; intro v35
  have hxl : ([m.kind, 16 * m.src + m.dst, m.line, m.serial / 256, m.serial % 256, m.turn / 256, m.turn % 256, m.value, 1, 0] : List Int).length = 10 := rfl
  have hxb : ([m.kind, 16 * m.src + m.dst, m.line, m.serial / 256, m.serial % 256, m.turn / 256, m.turn % 256, m.value, 1, 0] : List Int).map u8 = Ci m := by
   exact ZfB
  generalize hxs : ([m.kind, 16 * m.src + m.dst, m.line, m.serial / 256, m.serial % 256, m.turn / 256, m.turn % 256, m.value, 1, 0] : List Int) = xs at hxl hxb ⊢
  exact ZeH
 ·intro ht9
  refine ZN ?_
  refine Aew ?_
  refine Zcg ?_
  refine rn2 ?_
  refine Zcg ?_
  refine rn3 ?_
  refine li (α := Int) ([m.kind, 16 * m.src + m.dst, m.line, m.serial / 256, m.serial % 256, m.turn / 256, m.turn % 256, m.value, 0, 0] : List Int) Ea rfl (fun j hj => ⟨⟨_, rfl, rfl, by unfold Ao; omega⟩, ⟨⟨_, rfl, rfl, by unfold Ao; omega⟩, ⟨⟨_, rfl, rfl, by unfold Ao; omega⟩, ⟨⟨_, rfl, rfl, by unfold Ao; omega⟩, ⟨⟨_, rfl, rfl, by unfold Ao; omega⟩, ⟨⟨_, rfl, rfl, by unfold Ao; omega⟩, ⟨⟨_, rfl, rfl, by unfold Ao; omega⟩, ⟨⟨_, rfl, rfl, by unfold Ao; omega⟩, ⟨⟨_, rfl, rfl, by unfold Ao; omega⟩, ⟨⟨_, rfl, rfl, by unfold Ao; omega⟩, trivial⟩⟩⟩⟩⟩⟩⟩⟩⟩⟩) ?_; intro v35
  have hxl : ([m.kind, 16 * m.src + m.dst, m.line, m.serial / 256, m.serial % 256, m.turn / 256, m.turn % 256, m.value, 0, 0] : List Int).length = 10 := rfl
  have hxb : ([m.kind, 16 * m.src + m.dst, m.line, m.serial / 256, m.serial % 256, m.turn / 256, m.turn % 256, m.value, 0, 0] : List Int).map u8 = Ci m := by
   exact ZfB
  generalize hxs : ([m.kind, 16 * m.src + m.dst, m.line, m.serial / 256, m.serial % 256, m.turn / 256, m.turn % 256, m.value, 0, 0] : List Int) = xs at hxl hxb ⊢
  exact ZeH
theorem F5 {P : Program} {n : Nat} {Q : Exit → Act → World → Prop} {L : List Chunk} {R : List Fact} {al : List (Nat × Value)} {c : Code} {v : Value} {b : List UInt8} (i : Nat) (hm : sl v b ∈ R) (hi : i < b.length) (k : JC P n c Q L (cF v 1 i [vb (b.getD i 0)] :: R) al) : JC P n c Q L R al := JC.open0 (xs := b) i hm hi (fun _ => k)
theorem Td {v1 : Value} {b : List UInt8} {c : Config} (hs : St (L) R w) (h1 : sl v1 b ∈ R) (hc : c.wf) : Calls Tryz.prog 26 [.agg c.cells.toArray, v1].toArray w (Bs (fun _ : Unit => .tuple #[.agg (Af c b).1.cells.toArray, vi (Af c b).2]) (fun _ => L) (fun _ => R)) := by
 have hlen := Be h1 hs
 have B : ∀ i, (b.getD i 0).toNat < 256 := fun i => (b.getD i 0).toNat_lt
 refine Ai Tryz.func26 rfl Tryz.ntmps26 rfl hs ?_
 clear hs
 refine Gm ?_
 refine bx ?_; intro b2
 refine al_ (cs := zMsg.cells) Tryz.zeroValue76 ?_; intro b4
 refine ZaG ?_
 refine cdy ?_ ?_
 ·intro ht10
  exact ZfS
 ·intro ht10
  refine Gl ?_
  have B0 := B 0; have B1 := B 1; have B2 := B 2; have B3 := B 3; have B4 := B 4; have B5 := B 5; have B6 := B 6; have B7 := B 7; have B8 := B 8; have B9 := B 9; have B10 := B 10; have B11 := B 11
  refine F5 (v := v1) (b := b) 10 mm (by omega) ?_
  refine F5 (v := v1) (b := b) 11 mm (by omega) ?_
  refine Bq ?_
  refine dn1 ?_
  refine Zel ?_
  refine Q7 (γ := Unit) (val := fun _ => vi (Hk (b.take 10))) (F := fun _ => []) (C := fun _ => []) Tryz.call56 (fun _ => rfl) (fun _ _ _ _ => rfl) (fun ρ L R w hd hs => Ii hs (hd.dep (it := ⟨1, _, _, _, _⟩) (by repeat (first | exact List.Mem.head _ | refine List.Mem.tail _ ?_)) ⟨9, rfl⟩ (List.Mem.head _))) ?_
  refine dn1 ?_
  refine dj ?_
  first | refine dc (fun _ _ => Fn (i := 10) Cq) ?_ | refine dp (fun _ _ => Fn (i := 10) Cq) ?_
  refine dj ?_
  first | refine dc (fun _ _ => Cz Tryz.isAgg5) ?_ | refine dp (fun _ _ => Cz Tryz.isAgg5) ?_
  refine dj ?_
  first | refine dc (fun _ _ => Ar Tryz.underlying5 Tryz.underlying3 rfl (A5 _)) ?_ | refine dp (fun _ _ => Ar Tryz.underlying5 Tryz.underlying3 rfl (A5 _)) ?_
  refine dj ?_
  first | refine dc (fun _ _ => Np) ?_ | refine dp (fun _ _ => Np) ?_
  refine dn1 ?_
  refine dj ?_
  first | refine dc (fun _ _ => Fn (i := 11) Cq) ?_ | refine dp (fun _ _ => Fn (i := 11) Cq) ?_
  refine dj ?_
  first | refine dc (fun _ _ => Cz Tryz.isAgg5) ?_ | refine dp (fun _ _ => Cz Tryz.isAgg5) ?_
  refine dj ?_
  first | refine dc (fun _ _ => Ar Tryz.underlying5 Tryz.underlying3 rfl (A5 _)) ?_ | refine dp (fun _ _ => Ar Tryz.underlying5 Tryz.underlying3 rfl (A5 _)) ?_
  refine dj ?_
  first | refine dc (fun _ _ => E9) ?_ | refine dc (fun _ _ => Fx) ?_ | refine dp (fun _ _ => E9) ?_ | refine dp (fun _ _ => Fx) ?_
  refine dj ?_
  first | refine dc (fun _ _ => E6 Rn) ?_ | refine dp (fun _ _ => E6 Rn) ?_
  refine dnl ?_; intro ρ
  refine Gl ?_
  refine cdy ?_ ?_
  ·intro ht25
   exact ZfH
  ·intro ht25
   refine Gl ?_
   refine Zeq ?_
   refine jgx (t := 31) (p := ?p3) (hd := ?d3) ?e3 ?_ ?_; case e3 => exact rfl
   ·intro ht31
    refine Gd5 ?_
    exact ZeY
   ·intro ht31
    refine rn1 ?_
    refine gy ?_
    refine ob (Fn (i := 9) Cq) ?_
    refine Ga3 ?_
    refine cdy ?_ ?_
    ·intro ht36
     refine Gm ?_
     exact ZeY
    ·intro ht36
     refine ZdN ?_
     refine ZdU ?_
     first | refine epc (fun _ _ => Fn (i := 0) Cq) ?_ | refine epp (fun _ _ => Fn (i := 0) Cq) ?_
     first | refine epc (fun _ _ => Cz Tryz.isAgg5) ?_ | refine epp (fun _ _ => Cz Tryz.isAgg5) ?_
     first | refine epc (fun _ _ => Ar Tryz.underlying5 Tryz.underlying3 rfl (A5 _)) ?_ | refine epp (fun _ _ => Ar Tryz.underlying5 Tryz.underlying3 rfl (A5 _)) ?_
     refine dn1 ?_
     first | refine epc (fun _ _ => Fn (i := 1) Cq) ?_ | refine epp (fun _ _ => Fn (i := 1) Cq) ?_
     first | refine epc (fun _ _ => Cz Tryz.isAgg5) ?_ | refine epp (fun _ _ => Cz Tryz.isAgg5) ?_
     first | refine epc (fun _ _ => Ar Tryz.underlying5 Tryz.underlying3 rfl (A5 _)) ?_ | refine epp (fun _ _ => Ar Tryz.underlying5 Tryz.underlying3 rfl (A5 _)) ?_
     refine Jy (fun _ _ => Am rfl rfl (Ld (b := 16) (by omega) (by omega) (by omega))) (fun _ _ _ _ _ => rfl) ?_
     refine dn1 ?_
     first | refine epc (fun _ _ => Fn (i := 1) Cq) ?_ | refine epp (fun _ _ => Fn (i := 1) Cq) ?_
     first | refine epc (fun _ _ => Cz Tryz.isAgg5) ?_ | refine epp (fun _ _ => Cz Tryz.isAgg5) ?_
     first | refine epc (fun _ _ => Ar Tryz.underlying5 Tryz.underlying3 rfl (A5 _)) ?_ | refine epp (fun _ _ => Ar Tryz.underlying5 Tryz.underlying3 rfl (A5 _)) ?_
     refine Jy (fun _ _ => Am rfl rfl (Lc (b := 16) (by omega) (by omega) (by omega))) (fun _ _ _ _ _ => rfl) ?_
     refine dn1 ?_
     first | refine epc (fun _ _ => Fn (i := 2) Cq) ?_ | refine epp (fun _ _ => Fn (i := 2) Cq) ?_
     first | refine epc (fun _ _ => Cz Tryz.isAgg5) ?_ | refine epp (fun _ _ => Cz Tryz.isAgg5) ?_
     first | refine epc (fun _ _ => Ar Tryz.underlying5 Tryz.underlying3 rfl (A5 _)) ?_ | refine epp (fun _ _ => Ar Tryz.underlying5 Tryz.underlying3 rfl (A5 _)) ?_
     refine dn1 ?_
     first | refine epc (fun _ _ => Fn (i := 3) Cq) ?_ | refine epp (fun _ _ => Fn (i := 3) Cq) ?_
     first | refine epc (fun _ _ => Cz Tryz.isAgg5) ?_ | refine epp (fun _ _ => Cz Tryz.isAgg5) ?_
     first | refine epc (fun _ _ => Ar Tryz.underlying5 Tryz.underlying3 rfl (A5 _)) ?_ | refine epp (fun _ _ => Ar Tryz.underlying5 Tryz.underlying3 rfl (A5 _)) ?_
     first | refine epc (fun _ _ => Np) ?_ | refine epp (fun _ _ => Np) ?_
     refine dn1 ?_
     first | refine epc (fun _ _ => Fn (i := 4) Cq) ?_ | refine epp (fun _ _ => Fn (i := 4) Cq) ?_
     first | refine epc (fun _ _ => Cz Tryz.isAgg5) ?_ | refine epp (fun _ _ => Cz Tryz.isAgg5) ?_
     first | refine epc (fun _ _ => Ar Tryz.underlying5 Tryz.underlying3 rfl (A5 _)) ?_ | refine epp (fun _ _ => Ar Tryz.underlying5 Tryz.underlying3 rfl (A5 _)) ?_
     first | refine epc (fun _ _ => E9) ?_ | refine epc (fun _ _ => Fx) ?_ | refine epp (fun _ _ => E9) ?_ | refine epp (fun _ _ => Fx) ?_
     refine dn1 ?_
     first | refine epc (fun _ _ => Fn (i := 5) Cq) ?_ | refine epp (fun _ _ => Fn (i := 5) Cq) ?_
     first | refine epc (fun _ _ => Cz Tryz.isAgg5) ?_ | refine epp (fun _ _ => Cz Tryz.isAgg5) ?_
     first | refine epc (fun _ _ => Ar Tryz.underlying5 Tryz.underlying3 rfl (A5 _)) ?_ | refine epp (fun _ _ => Ar Tryz.underlying5 Tryz.underlying3 rfl (A5 _)) ?_
     first | refine epc (fun _ _ => Np) ?_ | refine epp (fun _ _ => Np) ?_
     refine dn1 ?_
     first | refine epc (fun _ _ => Fn (i := 6) Cq) ?_ | refine epp (fun _ _ => Fn (i := 6) Cq) ?_
     first | refine epc (fun _ _ => Cz Tryz.isAgg5) ?_ | refine epp (fun _ _ => Cz Tryz.isAgg5) ?_
     first | refine epc (fun _ _ => Ar Tryz.underlying5 Tryz.underlying3 rfl (A5 _)) ?_ | refine epp (fun _ _ => Ar Tryz.underlying5 Tryz.underlying3 rfl (A5 _)) ?_
     first | refine epc (fun _ _ => E9) ?_ | refine epc (fun _ _ => Fx) ?_ | refine epp (fun _ _ => E9) ?_ | refine epp (fun _ _ => Fx) ?_
     refine dn1 ?_
     first | refine epc (fun _ _ => Fn (i := 7) Cq) ?_ | refine epp (fun _ _ => Fn (i := 7) Cq) ?_
     first | refine epc (fun _ _ => Cz Tryz.isAgg5) ?_ | refine epp (fun _ _ => Cz Tryz.isAgg5) ?_
     first | refine epc (fun _ _ => Ar Tryz.underlying5 Tryz.underlying3 rfl (A5 _)) ?_ | refine epp (fun _ _ => Ar Tryz.underlying5 Tryz.underlying3 rfl (A5 _)) ?_
     refine dn1 ?_
     first | refine epc (fun _ _ => Fn (i := 8) Cq) ?_ | refine epp (fun _ _ => Fn (i := 8) Cq) ?_
     first | refine epc (fun _ _ => Cz Tryz.isAgg5) ?_ | refine epp (fun _ _ => Cz Tryz.isAgg5) ?_
     first | refine epc (fun _ _ => E6 Rp) ?_ | refine epp (fun _ _ => E6 Rp) ?_
     first | refine epc (fun _ _ => Dx D8) ?_ | refine epc (fun _ _ => Fd D8) ?_ | refine epp (fun _ _ => Dx D8) ?_ | refine epp (fun _ _ => Fd D8) ?_
     refine Hy (cs := zMsg.cells) Tryz.zeroValue76 rfl (fun ρ b S hS hA => ?_) ?_
     ·exact Zf0
     refine Zea ?_;intro ρ
     generalize (Gh.dec (γ := Nat) (ρ 47)) = b6
     refine Gl ?_
     refine kp [2, 4, 5, 6, 7, 85, 86, 87] ?_
     refine ZD ?_
     refine An Tryz.call57 rfl (fun w hs => Zl (c := c) (m := Gn b) hs hc (O7 b)) ?_; intro _
     refine ZG ?_
     refine cdy ?_ ?_
     ·intro ht89
      exact Zfw
     ·intro ht89
      exact Zf5
end Go.Proofs.YtbigiimomnfpdaaGreat
