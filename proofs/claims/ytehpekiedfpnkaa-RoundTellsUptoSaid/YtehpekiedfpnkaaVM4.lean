/- This file proves parts of what its law needs: each part is told ahead of it. No conditions. -/
import Derived.Test.YtehpekiedfpnkaaVM3
import Derived.Test.YtehpekiedfpnkaaVM1
import Derived.Test.YtehpekiedfpnkaaVM2
set_option linter.unusedVariables false
set_option linter.unusedSimpArgs false
namespace Go.Proofs.Ytehpekiedfpnkaa
namespace Abs
set_option maxHeartbeats 2000000
section home
variable {n : Nat} {e e' : Ab} {L : Nat → Line} {V : Int}
theorem Agy {m : Msg} {p : Nat} (hG : GI n e) (hC : ∀ q, q < n → CI e q (L q) V) (hp : p < n) (hM : MI e p (L p) m) (hk : m.kind = 1 ∨ m.kind = 2) (hms : 0 ≤ m.serial ∧ m.serial ≤ 65535) (h0 : e.phase = 0) (hs : e.last p < m.serial) (ht : e.turn < 65535)
  (f1 : e'.value = e.value) (f2 : e'.owner = e.owner) (f3 : e'.sh = e.sh) (f4 : e'.who = p) (f5 : e'.serial = m.serial) (f6 : e'.alone = m.kind - 1) (f7 : e'.turn = e.turn + 1) (f8 : e'.last = upd e.last p m.serial)
  (f9 : (0 ≤ e.owner ∧ e'.phase = 1 ∧ ∀ q, e'.nd q = 0) ∨ (e.owner < 0 ∧ m.kind = 2 ∧ e'.phase = 2 ∧ (∃ q : Nat, q < n ∧ e'.nd q = 1) ∧ (∀ q : Nat, e'.nd q = if q = p then 0 else e.sh q)) ∨
   (e.owner < 0 ∧ e'.phase = 3 ∧ (∀ q, e'.nd q = 0) ∧ (m.kind = 2 → ∀ q : Nat, q < n → q ≠ p → e.sh q = 0))) :
  GI n e' ∧ (∀ q, q < n → CI e' q (L q) V) ∧ ∀ q, q < n → ∀ m', MI e q (L q) m' → MI e' q (L q) m' := by
 have h1 := (hM.get hk).2 hs
 have hCp := hC p hp
 have hst : (L p).state ≤ 1 := by have := hCp.w1; have := hCp.w2; grind
 have hnow : e.owner ≠ p := by have := hCp.own; grind
 have how := hG.own
 have hval : e.owner < 0 → e.value = V := by intro h; exact hCp.val (by omega) (by omega)
 have hph : (0 ≤ e.owner ∧ e'.phase = 1) ∨ (e.owner < 0 ∧ m.kind = 2 ∧ e'.phase = 2) ∨ (e.owner < 0 ∧ e'.phase = 3) := by
  rcases f9 with ⟨g1, g2, _⟩ | ⟨g1, g2, g3, _⟩ | ⟨g1, g2, _⟩
  ·exact .inl ⟨g1, g2⟩
  ·exact .inr (.inl ⟨g1, g2, g3⟩)
  ·exact .inr (.inr ⟨g1, g2⟩)
 have hc2 : e'.phase = 2 → ∃ q : Nat, q < n ∧ e'.nd q = 1 := by
  intro h2
  rcases f9 with ⟨g1, g2, _⟩ | ⟨g1, g2, g3, g4, _⟩ | ⟨g1, g2, _⟩
  ·omega
  ·exact g4
  ·omega
 have hnp : e'.nd p = 0 := by
  rcases f9 with ⟨_, _, g⟩ | ⟨_, _, _, _, g⟩ | ⟨_, _, g, _⟩
  ·exact g p
  ·rw [g p, if_pos rfl]
  ·exact g p
 have hnq : ∀ q : Nat, q < n → q ≠ p → (e'.phase = 2 → e'.nd q = e.sh q) ∧ (e'.phase ≠ 2 → e'.nd q = 0) ∧ (e'.phase = 3 → m.kind = 2 → e.sh q = 0) := by
  intro q hq hqp
  rcases f9 with ⟨_, g1, g⟩ | ⟨_, _, g1, _, g⟩ | ⟨_, g1, g, g'⟩
  ·exact ⟨by omega, fun _ => g q, by omega⟩
  ·exact ⟨fun _ => by rw [g q, if_neg hqp], by omega, by omega⟩
  ·exact ⟨by omega, fun _ => g q, fun _ hk => g' hk q hq hqp⟩
 have hlp : e'.last p = m.serial := by rw [f8]; simp [upd]
 have hlq : ∀ q, q ≠ p → e'.last q = e.last q := fun q hqp => by rw [f8]; simp [upd, hqp]
 clear f8 f9
 refine ⟨?_, fun q hq => ?_, fun q hq m' hm' => ?_⟩
 ·constructor
  ·have g0 := hG.own; have g1 := hG.own; grind
  ·have g0 := hG.own; have g1 := hG.ph; grind
  ·have g0 := hG.own; have g1 := hG.idle; grind
  ·intro _; rw [f4]; clear hc2; omega
  ·have g0 := hG.own; have g1 := hG.f1; grind
  ·have g0 := hG.own; have g1 := hG.f23; grind
  ·intro h2; exact ⟨by clear hc2; grind, hc2 h2⟩
  ·have g0 := hG.own; have g1 := hG.al; grind
  ·have g0 := hG.own; have g1 := hG.tu; grind
  ·have g0 := hG.own; have g1 := hG.va; grind
  ·have g0 := hG.own; have g1 := hG.se; grind
 ·have hCq := hC q hq
  have hsh : e'.sh q = e.sh q := by rw [f3]
  clear f3 hc2
  by_cases hqp : q = p
  ·subst hqp
   clear hnq hlq
   have w0 := hCp.wa
   constructor
   ·exact hCp.st
   ·exact hCp.va
   ·exact hCp.wa
   ·exact hCp.se
   ·exact ZgY
   ·exact hCp.gi
   ·exact ZgZ
   ·exact ZgI
   ·exact hCp.leav
   ·exact hCp.w1
   ·exact hCp.w2
   ·have c0 := hCp.taken; grind
   ·have c0 := hCp.back; have c1 := hCp.wa; grind
   ·have c0 := hCp.cur; have c1 := hCp.ga; grind
   ·have c0 := hCp.own; have c1 := hCp.st; grind
   ·have c0 := hCp.alo; have c1 := hCp.leav; grind
   ·have c0 := hCp.cop; grind
   ·have c0 := hCp.shs; grind
   ·have c0 := hCp.ned; have c1 := hCp.ga; grind
   ·exact ZgO
   ·exact ZgP
   ·have c0 := hCp.val; have c1 := hCp.ga; grind
  ·have hn2 := hnq q hq hqp
   have hl2 := hlq q hqp
   clear hnq hlq hlp hnp hCp
   constructor
   ·exact hCq.st
   ·exact hCq.va
   ·exact hCq.wa
   ·exact hCq.se
   ·exact Zha
   ·exact hCq.gi
   ·exact Zhb
   ·have c0 := hCq.bits; have c1 := hCq.bits; grind
   ·exact hCq.leav
   ·exact hCq.w1
   ·exact hCq.w2
   ·have c0 := hCq.taken; grind
   ·exact ZgJ
   ·have c0 := hCq.cur; grind
   ·have c0 := hCq.own; have c1 := hCq.ga; grind
   ·have c0 := hCq.alo; grind
   ·have c0 := hCq.cop; grind
   ·have c0 := hCq.shs; grind
   ·have c0 := hCq.ned; have c1 := hCq.ga; have c2 := hCq.bits; grind
   ·exact ZgQ
   ·have c0 := hCq.gra; grind
   ·have c0 := hCq.val; grind
 ·have hCq := hC q hq
  clear hc2 f3
  by_cases hqp : q = p
  ·subst hqp
   clear hnq hlq
   exact Zfw
  ·have hn2 := hnq q hq hqp
   have hl2 := hlq q hqp
   clear hnq hlq hlp hnp hCp
   exact Zfw
theorem h_put {m : Msg} {p : Nat} (hG : GI n e) (hC : ∀ q, q < n → CI e q (L q) V) (hp : p < n) (hM : MI e p (L p) m) (hk : m.kind = 3) (hmv : 0 ≤ m.value ∧ m.value ≤ 255) (h0 : e.phase = 0) (hs : e.last p < m.serial)
  (f3 : e'.sh = e.sh) (f4 : e'.who = e.who) (f5 : e'.serial = e.serial) (f6 : e'.alone = e.alone) (f7 : e'.turn = e.turn) (f8 : e'.last = upd e.last p m.serial) (f9 : e'.phase = e.phase) (f10 : e'.nd = e.nd)
  (f1 : (e.owner = p ∧ e'.owner = -1 ∧ e'.value = m.value) ∨ (e.owner ≠ p ∧ e'.owner = e.owner ∧ e'.value = e.value)) :
  GI n e' ∧ (∀ q, q < n → CI e' q (L q) V) ∧ ∀ q, q < n → ∀ m', MI e q (L q) m' → MI e' q (L q) m' := by
 have h1 := (hM.put hk).2 hs
 have h2 := (hM.put hk).1
 have hCp := hC p hp
 have how := hG.own
 have hA : e.owner = p → (L p).state = 3 ∧ (L p).want = 3 ∧ m.serial = (L p).serial ∧ m.value = V := by
  intro ho
  have hc : m.serial = (L p).serial ∧ (L p).want = 3 ∧ m.value = (L p).value := by grind
  have h3 := hCp.leav.2 hc.2.1
  exact ⟨h3, hc.2.1, hc.1, by rw [hc.2.2]; exact (hCp.alo (.inr ⟨h3, by omega⟩)).2⟩
 have hB : e.owner ≠ p → m.serial < (L p).serial ∨ (L p).want = 0 := by
  intro ho
  rcases h1 with h1 | h1
  ·exfalso
   have h3 := hCp.leav.2 h1.2.1
   have := (hCp.alo (.inr ⟨h3, by omega⟩)).1
   grind
  ·exact h1.1
 have hlp : e'.last p = m.serial := by rw [f8]; simp [upd]
 have hlq : ∀ q, q ≠ p → e'.last q = e.last q := fun q hqp => by rw [f8]; simp [upd, hqp]
 clear f8
 refine ⟨?_, fun q hq => ?_, fun q hq m' hm' => ?_⟩
 ·exact ZeY
 ·have hCq := hC q hq
  have hsh : e'.sh q = e.sh q := by rw [f3]
  have hnd : e'.nd q = e.nd q := by rw [f10]
  clear f3 f10
  by_cases hqp : q = p
  ·subst hqp
   clear hlq
   have l0 := hCp.leav
   have a0 := hCp.la
   constructor
   ·exact hCp.st
   ·exact hCp.va
   ·exact hCp.wa
   ·exact hCp.se
   ·exact ZgY
   ·exact hCp.gi
   ·exact ZgZ
   ·exact ZgI
   ·exact hCp.leav
   ·exact hCp.w1
   ·exact hCp.w2
   ·have c0 := hCp.taken; have c1 := hCp.wa; grind
   ·have c0 := hCp.back; grind
   ·have c0 := hCp.cur; grind
   ·have c0 := hCp.own; have c1 := hCp.st; grind
   ·have c0 := hCp.alo; grind
   ·have c0 := hCp.cop; have c1 := hCp.cop; grind
   ·have c0 := hCp.shs; have c1 := hCp.st; grind
   ·have c0 := hCp.ned; grind
   ·exact ZgO
   ·exact ZgP
   ·have c0 := hCp.val; have c1 := hCp.val; grind
  ·have hl2 := hlq q hqp
   clear hlq hlp hCp
   constructor
   ·exact hCq.st
   ·exact hCq.va
   ·exact hCq.wa
   ·exact hCq.se
   ·exact Zha
   ·exact hCq.gi
   ·exact Zhb
   ·have c0 := hCq.bits; grind
   ·exact hCq.leav
   ·exact hCq.w1
   ·exact hCq.w2
   ·have c0 := hCq.taken; grind
   ·exact ZgJ
   ·have c0 := hCq.cur; grind
   ·have c0 := hCq.own; grind
   ·have c0 := hCq.alo; grind
   ·have c0 := hCq.cop; grind
   ·have c0 := hCq.shs; grind
   ·have c0 := hCq.ned; grind
   ·exact ZgQ
   ·have c0 := hCq.gra; grind
   ·have c0 := hCq.val; grind
 ·have hCq := hC q hq
  have hnd : e'.nd q = e.nd q := by rw [f10]
  clear f3 f10
  by_cases hqp : q = p
  ·subst hqp
   clear hlq
   exact Zf2
  ·have hl2 := hlq q hqp
   clear hlq hlp hCp
   exact Zf2
theorem h_data {m : Msg} {p : Nat} (hG : GI n e) (hC : ∀ q, q < n → CI e q (L q) V) (hp : p < n) (hM : MI e p (L p) m) (hk : m.kind = 9) (hmv : 0 ≤ m.value ∧ m.value ≤ 255) (h0 : e.phase = 1) (ht : m.turn = e.turn) (ho : e.owner = p)
  (f1 : e'.value = m.value) (f2 : e'.owner = -1) (f3 : ∀ q : Nat, e'.sh q = if q = p ∧ e.alone = 0 then 1 else e.sh q) (f4 : e'.who = e.who) (f5 : e'.serial = e.serial) (f6 : e'.alone = e.alone) (f7 : e'.turn = e.turn) (f8 : e'.last = e.last) (f9 : e'.phase = 3) (f10 : ∀ q, e'.nd q = 0) :
  GI n e' ∧ (∀ q, q < n → CI e' q (L q) V) ∧ ∀ q, q < n → ∀ m', MI e q (L q) m' → MI e' q (L q) m' := by
 have h1 := (hM.dat hk).2 ht h0 ho
 have hCp := hC p hp
 have hga := hCp.ga
 have hown := hCp.own ho
 have hmV : m.value = V ∧ (L p).state < 2 ∧ (L p).seen = e.turn ∧ (e.alone = 1 → (L p).state = 0) := by grind
 have hf := hG.f1 h0
 have hwp : e.who ≠ p := by rw [← ho]; exact fun h => hf.2 h.symm
 have hw0 : (L p).want ≠ 3 := by have := hCp.leav; have := hCp.st; grind
 have hal := hG.al
 have hsp : (e.alone = 0 → e'.sh p = 1) ∧ (e.alone ≠ 0 → e'.sh p = e.sh p) := by have := f3 p; grind
 have hsq : ∀ q, q ≠ p → e'.sh q = e.sh q := by intro q hq; have := f3 q; grind
 clear f3
 refine ⟨?_, fun q hq => ?_, fun q hq m' hm' => ?_⟩
 ·exact ZeY
 ·refine ZbH ?_;intro hCq hl
  have hnd := f10 q
  have b0 := hCq.bits
  have s0 := hCq.shs
  clear f10 f8
  by_cases hqp : q = p
  ·subst hqp
   clear hsq
   constructor
   ·exact hCp.st
   ·exact hCp.va
   ·exact hCp.wa
   ·exact hCp.se
   ·exact ZgY
   ·exact hCp.gi
   ·exact ZgZ
   ·exact ZgI
   ·exact hCp.leav
   ·exact hCp.w1
   ·exact hCp.w2
   ·have c0 := hCp.taken; grind
   ·have c0 := hCp.back; grind
   ·have c0 := hCp.cur; have c1 := hCp.cur; grind
   ·have c0 := hCp.own; grind
   ·have c0 := hCp.alo; have c1 := hCp.st; have c2 := hCp.leav; grind
   ·have c0 := hCp.cop; grind
   ·have c0 := hCp.shs; grind
   ·have c0 := hCp.ned; grind
   ·exact ZgO
   ·exact ZgP
   ·have c0 := hCp.val; grind
  ·have hs2 := hsq q hqp
   clear hsq hsp hCp
   constructor
   ·exact hCq.st
   ·exact hCq.va
   ·exact hCq.wa
   ·exact hCq.se
   ·exact Zha
   ·exact hCq.gi
   ·exact Zhb
   ·have c0 := hCq.bits; grind
   ·exact hCq.leav
   ·exact hCq.w1
   ·exact hCq.w2
   ·have c0 := hCq.taken; have c1 := hCq.taken; grind
   ·exact ZgJ
   ·have c0 := hCq.cur; have c1 := hCq.cur; grind
   ·have c0 := hCq.own; grind
   ·have c0 := hCq.alo; have c1 := hCq.alo; grind
   ·have c0 := hCq.cop; grind
   ·have c0 := hCq.shs; grind
   ·have c0 := hCq.ned; grind
   ·exact ZgQ
   ·have c0 := hCq.gra; have c1 := hCq.gra; grind
   ·have c0 := hCq.val; grind
 ·refine ZbH ?_;intro hCq hl
  have hnd := f10 q
  clear f10 f8
  by_cases hqp : q = p
  ·subst hqp
   constructor
   ·have k0 := hm'.get; grind
   ·have k0 := hm'.put; have c0 := hCq.st; grind
   ·have k0 := hm'.inv; grind
   ·have k0 := hm'.fet; grind
   ·have k0 := hm'.gra; have c0 := hCq.taken; have c1 := hCq.cur; grind
   ·have k0 := hm'.gon; grind
   ·have k0 := hm'.dat; grind
   ·have k0 := hm'.tha; grind
   ·have k0 := hm'.tak; grind
  ·clear hCp
   constructor
   ·have k0 := hm'.get; grind
   ·have k0 := hm'.put; have c0 := hCq.st; grind
   ·have k0 := hm'.inv; grind
   ·have k0 := hm'.fet; grind
   ·have k0 := hm'.gra; have c0 := hCq.taken; have c1 := hCq.cur; have c2 := hCq.wa; grind
   ·have k0 := hm'.gon; grind
   ·have k0 := hm'.dat; grind
   ·have k0 := hm'.tha; grind
   ·have k0 := hm'.tak; grind
theorem Afd {m : Msg} {p : Nat} (hG : GI n e) (hC : ∀ q, q < n → CI e q (L q) V) (hp : p < n) (hM : MI e p (L p) m) (hk : m.kind = 8) (h0 : e.phase = 2) (ht : m.turn = e.turn) (ho : e.nd p = 1)
  (f1 : e'.value = e.value) (f2 : e'.owner = e.owner) (f3 : e'.sh = upd e.sh p 0) (f4 : e'.who = e.who) (f5 : e'.serial = e.serial) (f6 : e'.alone = e.alone) (f7 : e'.turn = e.turn) (f8 : e'.last = e.last)
  (f9 : (e'.phase = 2 ∧ (e'.nd = upd e.nd p 0) ∧ ∃ q : Nat, q < n ∧ e'.nd q = 1) ∨ (e'.phase = 3 ∧ (∀ q, e'.nd q = 0) ∧ ∀ q : Nat, q ≠ p → q < n → e.nd q = 0)) :
  GI n e' ∧ (∀ q, q < n → CI e' q (L q) V) ∧ ∀ q, q < n → ∀ m', MI e q (L q) m' → MI e' q (L q) m' := by
 have h1 := hM.gon hk
 have hCp := hC p hp
 have hga := hCp.ga
 have hned := hCp.ned ho
 have hst : (L p).state = 0 ∧ (L p).seen = e.turn ∧ e.who ≠ p := by grind
 have how := hG.f23 (by omega)
 have hal := (hG.c2 h0).1
 have hph : e'.phase = 2 ∨ e'.phase = 3 := by rcases f9 with ⟨g, _⟩ | ⟨g, _⟩ <;> omega
 have hc2 : e'.phase = 2 → ∃ q : Nat, q < n ∧ e'.nd q = 1 := by
  intro h2
  rcases f9 with ⟨_, _, g⟩ | ⟨g, _⟩
  ·exact g
  ·omega
 have hnp : e'.nd p = 0 := by
  rcases f9 with ⟨_, g, _⟩ | ⟨_, g, _⟩
  ·rw [g]; simp [upd]
  ·exact g p
 have hnq : ∀ q : Nat, q < n → q ≠ p → e'.nd q = e.nd q ∧ (e'.phase = 3 → e.nd q = 0) := by
  intro q hq hqp
  rcases f9 with ⟨g1, g, _⟩ | ⟨g1, g, g'⟩
  ·exact ⟨by rw [g]; simp [upd, hqp], by omega⟩
  ·exact ⟨by rw [g q, g' q hqp hq], fun _ => g' q hqp hq⟩
 have hsp : e'.sh p = 0 := by rw [f3]; simp [upd]
 have hsq : ∀ q, q ≠ p → e'.sh q = e.sh q := fun q hqp => by rw [f3]; simp [upd, hqp]
 clear f9 f3
 refine ⟨?_, fun q hq => ?_, fun q hq m' hm' => ?_⟩
 ·constructor
  ·have g0 := hG.own; have g1 := hG.own; grind
  ·have g0 := hG.own; have g1 := hG.ph; grind
  ·have g0 := hG.own; have g1 := hG.idle; grind
  ·have g0 := hG.own; have g1 := hG.whor; grind
  ·have g0 := hG.own; have g1 := hG.f1; grind
  ·have g0 := hG.own; have g1 := hG.f23; grind
  ·intro h2; exact ⟨by clear hc2; grind, hc2 h2⟩
  ·have g0 := hG.own; have g1 := hG.al; grind
  ·have g0 := hG.own; have g1 := hG.tu; grind
  ·have g0 := hG.own; have g1 := hG.va; grind
  ·have g0 := hG.own; have g1 := hG.se; grind
 ·refine ZbH ?_;intro hCq hl
  clear f8 hc2
  by_cases hqp : q = p
  ·subst hqp
   clear hnq hsq
   constructor
   ·exact hCp.st
   ·exact hCp.va
   ·exact hCp.wa
   ·exact hCp.se
   ·exact ZgY
   ·exact hCp.gi
   ·exact ZgZ
   ·exact ZgI
   ·exact hCp.leav
   ·exact hCp.w1
   ·exact hCp.w2
   ·have c0 := hCp.taken; grind
   ·have c0 := hCp.back; grind
   ·have c0 := hCp.cur; grind
   ·have c0 := hCp.own; grind
   ·have c0 := hCp.alo; have c1 := hCp.st; grind
   ·have c0 := hCp.cop; grind
   ·have c0 := hCp.shs; grind
   ·have c0 := hCp.ned; grind
   ·exact ZgO
   ·exact ZgP
   ·have c0 := hCp.val; grind
  ·have hn2 := hnq q hq hqp
   have hs2 := hsq q hqp
   have b0 := hCq.bits
   clear hnq hsq hCp
   constructor
   ·exact hCq.st
   ·exact hCq.va
   ·exact hCq.wa
   ·exact hCq.se
   ·exact Zha
   ·exact hCq.gi
   ·exact Zhb
   ·have c0 := hCq.bits; grind
   ·exact hCq.leav
   ·exact hCq.w1
   ·exact hCq.w2
   ·have c0 := hCq.taken; grind
   ·exact ZgJ
   ·have c0 := hCq.cur; have c1 := hCq.cur; grind
   ·have c0 := hCq.own; grind
   ·have c0 := hCq.alo; have c1 := hCq.alo; grind
   ·have c0 := hCq.cop; have c1 := hCq.cop; grind
   ·have c0 := hCq.shs; grind
   ·have c0 := hCq.ned; have c1 := hCq.ned; grind
   ·exact ZgQ
   ·have c0 := hCq.gra; have c1 := hCq.cle; grind
   ·have c0 := hCq.val; grind
 ·refine ZbH ?_;intro hCq hl
  clear f8 hc2
  by_cases hqp : q = p
  ·subst hqp
   clear hnq hsq
   exact Zf0
  ·have hn2 := hnq q hq hqp
   clear hnq hsq hCp
   exact Zf0
theorem U6 {m : Msg} {p : Nat} (hG : GI n e) (hC : ∀ q, q < n → CI e q (L q) V) (hp : p < n) (hM : MI e p (L p) m) (hk : m.kind = 10) (h0 : e.phase = 3) (ht : m.turn = e.turn) (hw : e.who = p)
  (f1 : e'.value = e.value) (f4 : e'.who = 0) (f5 : e'.serial = 0) (f6 : e'.alone = 0) (f7 : e'.turn = e.turn) (f8 : e'.last = e.last) (f9 : e'.phase = 0) (f10 : ∀ q, e'.nd q = e.nd q)
  (f2 : (e.alone = 1 ∧ e'.owner = p ∧ ∀ q, e'.sh q = 0) ∨ (e.alone = 0 ∧ e'.owner = e.owner ∧ ∀ q : Nat, e'.sh q = if q = p then 1 else e.sh q)) :
  GI n e' ∧ (∀ q, q < n → CI e' q (L q) V) ∧ ∀ q, q < n → ∀ m', MI e q (L q) m' → MI e' q (L q) m' := by
 have h1 := hM.tha hk
 have hCp := hC p hp
 have hga := hCp.ga
 have hcur := hCp.cur (by omega) hw
 have hst : (L p).seen = e.turn ∧ (e.alone = 1 → 2 ≤ (L p).state) ∧ (e.alone = 0 → (L p).state ≤ 1) ∧ ((L p).serial ≠ e.serial ∨ (L p).want = 0) := by grind
 have how := hG.f23 (by omega)
 have hal := hG.al
 have ha2 : (e.alone = 1 ∧ e'.owner = p) ∨ (e.alone = 0 ∧ e'.owner = -1) := by
  rcases f2 with ⟨g1, g2, _⟩ | ⟨g1, g2, _⟩
  ·exact .inl ⟨g1, g2⟩
  ·exact .inr ⟨g1, by rw [g2]; exact how⟩
 have hsp : (e.alone = 1 → e'.sh p = 0) ∧ (e.alone = 0 → e'.sh p = 1) := by
  rcases f2 with ⟨g1, _, g⟩ | ⟨g1, _, g⟩
  ·exact ⟨fun _ => g p, by omega⟩
  ·exact ⟨by omega, fun _ => by rw [g p, if_pos rfl]⟩
 have hsq : ∀ q : Nat, q ≠ p → (e.alone = 1 → e'.sh q = 0) ∧ (e.alone = 0 → e'.sh q = e.sh q) := by
  intro q hqp
  rcases f2 with ⟨g1, _, g⟩ | ⟨g1, _, g⟩
  ·exact ⟨fun _ => g q, by omega⟩
  ·exact ⟨by omega, fun _ => by rw [g q, if_neg hqp]⟩
 clear f2
 refine ⟨?_, fun q hq => ?_, fun q hq m' hm' => ?_⟩
 ·exact ZeY
 ·refine ZbH ?_;intro hCq hl
  have hnd := f10 q
  have n0 := hCq.ned
  have b0 := hCq.bits
  clear f10 f8
  by_cases hqp : q = p
  ·subst hqp
   clear hsq
   have l0 := hCp.leav
   have s0 := hCp.st
   constructor
   ·exact hCp.st
   ·exact hCp.va
   ·exact hCp.wa
   ·exact hCp.se
   ·exact ZgY
   ·exact hCp.gi
   ·exact ZgZ
   ·exact ZgI
   ·exact hCp.leav
   ·exact hCp.w1
   ·exact hCp.w2
   ·have c0 := hCp.taken; have c1 := hCp.wa; grind
   ·have c0 := hCp.back; have c1 := hCp.la; grind
   ·have c0 := hCp.cur; grind
   ·have c0 := hCp.own; have c1 := hCp.own; grind
   ·have c0 := hCp.alo; have c1 := hCp.alo; grind
   ·have c0 := hCp.cop; grind
   ·have c0 := hCp.shs; grind
   ·have c0 := hCp.ned; grind
   ·exact ZgO
   ·exact ZgP
   ·have c0 := hCp.val; grind
  ·have hs2 := hsq q hqp
   clear hsq hsp hCp
   constructor
   ·exact hCq.st
   ·exact hCq.va
   ·exact hCq.wa
   ·exact hCq.se
   ·exact Zha
   ·exact hCq.gi
   ·exact Zhb
   ·have c0 := hCq.bits; grind
   ·exact hCq.leav
   ·exact hCq.w1
   ·exact hCq.w2
   ·have c0 := hCq.taken; grind
   ·exact ZgJ
   ·have c0 := hCq.cur; grind
   ·have c0 := hCq.own; grind
   ·have c0 := hCq.alo; grind
   ·have c0 := hCq.cop; have c1 := hCq.gra; grind
   ·have c0 := hCq.shs; have c1 := hCq.gra; grind
   ·have c0 := hCq.ned; grind
   ·exact ZgQ
   ·have c0 := hCq.gra; grind
   ·have c0 := hCq.val; have c1 := hCq.val; grind
 ·refine ZbH ?_;intro hCq hl
  have hnd := f10 q
  have n0 := hCq.ned
  clear f10 f8
  by_cases hqp : q = p
  ·subst hqp
   have l0 := hCp.leav
   have s0 := hCp.st
   constructor
   ·have k0 := hm'.get; grind
   ·have k0 := hm'.put; have c0 := hCq.la; grind
   ·have k0 := hm'.inv; grind
   ·have k0 := hm'.fet; grind
   ·have k0 := hm'.gra; have c0 := hCq.la; have c1 := hCq.wa; have c2 := hCq.ga; grind
   ·have k0 := hm'.gon; grind
   ·have k0 := hm'.dat; grind
   ·have k0 := hm'.tha; grind
   ·have k0 := hm'.tak; grind
  ·clear hCp
   constructor
   ·have k0 := hm'.get; grind
   ·have k0 := hm'.put; grind
   ·have k0 := hm'.inv; grind
   ·have k0 := hm'.fet; grind
   ·have k0 := hm'.gra; have c0 := hCq.la; have c1 := hCq.wa; have c2 := hCq.taken; grind
   ·have k0 := hm'.gon; grind
   ·have k0 := hm'.dat; grind
   ·have k0 := hm'.tha; grind
   ·have k0 := hm'.tak; grind
end home
end Abs
end Go.Proofs.Ytehpekiedfpnkaa
namespace Go.Proofs.Ytehpekiedfpnkaa
open Abs
def Fp (s : Int) (p : Nat) : Int := if s.toNat.testBit p then 1 else 0
def ab (e : Entry) : Ab :=
  { value := e.value, owner := e.owner, phase := e.phase, who := e.who, serial := e.serial, alone := if e.alone then 1 else 0, turn := e.turn,
    last := fun p => e.last.getD p 0, sh := Fp e.sharers, nd := Fp e.need }
def ent (x : Chip) (i : Nat) : Entry := x.home.getD i A7
def cor (x : Chip) (p : Nat) : Core := x.cores.getD p E8
def lin (x : Chip) (i p : Nat) : Line := (cor x p).lines.getD i zLine
def Ro (n : Nat) (m : Msg) : Nat := if m.dst = (n : Int) then m.src.toNat else m.dst.toNat
def Hh (k : Int) : Int := if k = 1 then 1 else if k = 4 then 3 else 2
structure CW (k : Core) (nl : Nat) : Prop where
 free : k.wait.kind = 0 → k.wait = zOp ∧ ∀ i, i < nl → (k.lines.getD i zLine).want = 0
 busy : k.wait.kind ≠ 0 → (1 ≤ k.wait.kind ∧ k.wait.kind ≤ 4) ∧ (0 ≤ k.wait.line ∧ k.wait.line < nl) ∧ (0 ≤ k.wait.value ∧ k.wait.value ≤ 255) ∧
  ∀ i, i < nl → (k.lines.getD i zLine).want = if (i : Int) = k.wait.line then Hh k.wait.kind else 0
def MX (n : Nat) (x : Chip) (m : Msg) : Prop := MI (ab (ent x m.line.toNat)) (Ro n m) (lin x m.line.toNat (Ro n m)) m
def G5 (n nl : Nat) : Config := ⟨(n : Int), (nl : Int)⟩
structure Inv (n nl : Nat) (x : Chip) (M : List Int) : Prop where
 n1 : 1 ≤ n ∧ n ≤ 4
 l1 : 1 ≤ nl ∧ nl ≤ 4
 nc : x.cores.length = n
 nh : x.home.length = nl
 ncl : ∀ p, p < n → (cor x p).lines.length = nl
 nla : ∀ i, i < nl → (ent x i).last.length = n
 ml : M.length = nl
 mv : ∀ i, i < nl → 0 ≤ M.getD i 0 ∧ M.getD i 0 ≤ 255
 bit : ∀ i, i < nl → (0 ≤ (ent x i).sharers ∧ (ent x i).sharers < (2 ^ n : Nat)) ∧ (0 ≤ (ent x i).need ∧ (ent x i).need < (2 ^ n : Nat))
 gi : ∀ i, i < nl → GI n (ab (ent x i))
 ci : ∀ i, i < nl → ∀ p, p < n → CI (ab (ent x i)) p (lin x i p) (M.getD i 0)
 cw : ∀ p, p < n → CW (cor x p) nl
 fr : x.frames.length ≤ 40
 mi : ∀ b ∈ x.frames, b.length = 12 ∧ ∀ m, Af (G5 n nl) b = (m, 0) → MX n x m
section
variable {n nl : Nat} {x : Chip} {M : List Int}
theorem Inv.core {p i : Nat} {l' : Line} {w' : Op} {V' : Int} (h : Inv n nl x M) (hp : p < n) (hi : i < nl) (hl : CI (ab (ent x i)) p l' V') (ho : ∀ q, q < n → q ≠ p → CI (ab (ent x i)) q (lin x i q) (M.getD i 0) → CI (ab (ent x i)) q (lin x i q) V')
  (hm : ∀ m, MI (ab (ent x i)) p (lin x i p) m → MI (ab (ent x i)) p l' m) (hw : CW (Ay (cor x p) i l' w') nl) (hv : 0 ≤ V' ∧ V' ≤ 255) :
  Inv n nl ⟨x.cores.set p (Ay (cor x p) i l' w'), x.home, x.frames⟩ (M.set i V') := by
 have hpc : p < x.cores.length := by rw [h.nc]; exact hp
 have hcl := h.ncl p hp
 have hcor : ∀ q, cor ⟨x.cores.set p (Ay (cor x p) i l' w'), x.home, x.frames⟩ q = if q = p then Ay (cor x p) i l' w' else cor x q := fun q => Df _ _ _ _ _ hpc
 have hlin : ∀ j q, lin ⟨x.cores.set p (Ay (cor x p) i l' w'), x.home, x.frames⟩ j q = if q = p ∧ j = i then l' else lin x j q := by
  intro j q
  unfold lin
  rw [hcor]
  by_cases hq : q = p
  ·subst hq
   rw [if_pos rfl]
   show ((cor x q).lines.set _ l').getD j zLine = _
   rw [Int.toNat_natCast, Df _ _ _ _ _ (by rw [hcl]; exact hi)]
   by_cases hj : j = i
   ·rw [if_pos hj, if_pos ⟨rfl, hj⟩]
   ·rw [if_neg hj, if_neg (by simp [hj])]
  ·rw [if_neg hq, if_neg (by simp [hq])]
 have hM : ∀ j, (M.set i V').getD j 0 = if j = i then V' else M.getD j 0 := fun j => Df _ _ _ _ _ (by rw [h.ml]; exact hi)
 refine ⟨h.n1, h.l1, by simp [h.nc], h.nh, ?_, h.nla, by simp [h.ml], ?_, h.bit, h.gi, ?_, ?_, h.fr, ?_⟩
 ·intro q hq
  rw [hcor]
  split
  ·show ((cor x p).lines.set _ l').length = nl
   rw [List.length_set]; exact hcl
  ·exact h.ncl q hq
 ·intro j hj
  rw [hM]; split
  ·exact hv
  ·exact h.mv j hj
 ·intro j hj q hq
  rw [hlin, hM]
  by_cases hji : j = i
  ·subst hji
   rw [if_pos rfl]
   by_cases hqp : q = p
   ·subst hqp; rw [if_pos ⟨rfl, rfl⟩]; exact hl
   ·rw [if_neg (by simp [hqp])]; exact ho q hq hqp (h.ci j hj q hq)
  ·rw [if_neg (by simp [hji]), if_neg hji]; exact h.ci j hj q hq
 ·intro q hq
  rw [hcor]; split
  ·exact hw
  ·exact h.cw q hq
 ·intro b hb
  obtain ⟨h1, h2⟩ := h.mi b hb
  refine ⟨h1, fun m hmp => ?_⟩
  have h3 := h2 m hmp
  unfold MX at h3 ⊢
  rw [hlin]
  show MI (ab (ent x m.line.toNat)) _ _ m
  split
  ·rename_i hc
   rw [hc.1, hc.2] at h3 ⊢
   exact hm m h3
  ·exact h3
theorem Inv.home {i : Nat} {e' : Entry} (h : Inv n nl x M) (hi : i < nl) (hla : e'.last.length = n) (hb : (0 ≤ e'.sharers ∧ e'.sharers < (2 ^ n : Nat)) ∧ (0 ≤ e'.need ∧ e'.need < (2 ^ n : Nat)))
  (hg : GI n (ab e') ∧ (∀ q, q < n → CI (ab e') q (lin x i q) (M.getD i 0)) ∧ ∀ q, q < n → ∀ m, MI (ab (ent x i)) q (lin x i q) m → MI (ab e') q (lin x i q) m) :
  Inv n nl ⟨x.cores, x.home.set i e', x.frames⟩ M := by
 have hic : i < x.home.length := by rw [h.nh]; exact hi
 have hent : ∀ j, ent ⟨x.cores, x.home.set i e', x.frames⟩ j = if j = i then e' else ent x j := fun q => Df _ _ _ _ _ hic
 obtain ⟨hg1, hg2, hg3⟩ := hg
 refine ⟨h.n1, h.l1, h.nc, by simp [h.nh], h.ncl, ?_, h.ml, h.mv, ?_, ?_, ?_, h.cw, h.fr, ?_⟩
 ·intro j hj; rw [hent]; split
  ·exact hla
  ·exact h.nla j hj
 ·intro j hj; rw [hent]; split
  ·exact hb
  ·exact h.bit j hj
 ·intro j hj; rw [hent]; split
  ·exact hg1
  ·exact h.gi j hj
 ·intro j hj q hq
  rw [hent]
  show CI _ q (lin x j q) _
  by_cases hji : j = i
  ·subst hji; rw [if_pos rfl]; exact hg2 q hq
  ·rw [if_neg hji]; exact h.ci j hj q hq
 ·intro b hb
  obtain ⟨h1, h2⟩ := h.mi b hb
  refine ⟨h1, fun m hmp => ?_⟩
  have h3 := h2 m hmp
  have hw := Gp (Gs hmp).2.2.2.2.1
  have hpe : Ro n m < n := by
   unfold Ro
   have h4 : m.src = (n : Int) ↔ ¬ m.dst = (n : Int) := by
    have := hw.2.2.2.2.2.2
    simp only [G5] at this
    by_cases h : m.src = (n : Int) <;> by_cases h' : m.dst = (n : Int) <;> simp_all
   have h5 := hw.2.1
   simp only [G5] at h5
   split
   ·have : ¬ m.src = (n : Int) := by rename_i hd; intro hs; exact h4.1 hs hd
    omega
   ·omega
  unfold MX at h3 ⊢
  rw [hent]
  show MI _ _ (lin x m.line.toNat _) m
  split
  ·rename_i hc
   rw [hc] at h3 ⊢
   exact hg3 _ hpe m h3
  ·exact h3
theorem Inv.frames {f : Frames} (h : Inv n nl x M) (hl : f.length ≤ 40) (hf : ∀ b ∈ f, b.length = 12 ∧ ∀ m, Af (G5 n nl) b = (m, 0) → MX n x m) : Inv n nl ⟨x.cores, x.home, f⟩ M :=
 ⟨h.n1, h.l1, h.nc, h.nh, h.ncl, h.nla, h.ml, h.mv, h.bit, h.gi, h.ci, h.cw, hl, hf⟩
theorem Inv.send {b : List UInt8} (h : Inv n nl x M) (hb : b.length = 12 ∧ ∀ m, Af (G5 n nl) b = (m, 0) → MX n x m) : Inv n nl ⟨x.cores, x.home, C3 x.frames b⟩ M := by
 unfold C3
 have := h.fr
 split
 ·refine h.frames (by simp; omega) fun b' hb' => ?_
  rcases List.mem_append.1 hb' with e | e
  ·exact h.mi b' e
  ·rw [List.mem_singleton.1 e]; exact hb
 ·exact h
theorem Inv.msg {m : Msg} (h : Inv n nl x M) (hw : Bq (G5 n nl) m = 0) (hm : MX n x m) : (Ce m).length = 12 ∧ ∀ m', Af (G5 n nl) (Ce m) = (m', 0) → MX n x m' := by
 refine ⟨Rx m, fun m' h' => ?_⟩
 have h1 := h.n1; have h2 := h.l1
 rw [Tl hw (by simp only [G5]; omega) (by simp only [G5]; omega)] at h'
 cases h'; exact hm
theorem Inv.way {ms : List Msg} : ∀ {x : Chip}, Inv n nl x M → (∀ m ∈ ms, Bq (G5 n nl) m = 0 ∧ MX n x m) → Inv n nl ⟨x.cores, x.home, way x.frames ms⟩ M := by
 induction ms with
 | nil => intro x h _; exact h
 | cons m ms ih =>
  intro x h hm
  have h1 := hm m (List.mem_cons_self ..)
  have h2 := h.send (h.msg h1.1 h1.2)
  exact ih h2 fun m' hm' => hm m' (List.mem_cons_of_mem _ hm')
theorem Inv.erase (h : Inv n nl x M) (k : Nat) : Inv n nl ⟨x.cores, x.home, x.frames.eraseIdx k⟩ M := by
 have := h.fr
 refine h.frames (Nat.le_trans (List.length_eraseIdx_le _ _) h.fr) fun b hb => h.mi b (List.mem_of_mem_eraseIdx hb)
theorem Kz {l : Frames} {k : Int} (h : ¬ (k < 0 ∨ (l.length : Int) ≤ k)) : Aw l k ∈ l := by
 unfold Aw
 rw [List.getD_eq_getElem?_getD, List.getElem?_eq_getElem (by omega)]
 exact List.getElem_mem _
theorem Inv.spoil {k bit : Int} (h : Inv n nl x M) (h1 : ¬ (k < 0 ∨ (x.frames.length : Int) ≤ k)) (h2 : (Af (G5 n nl) (Aw x.frames k)).2 = 0) (h3 : 0 ≤ bit) (h4 : bit < 8 * ((Aw x.frames k).length : Int)) :
  Inv n nl ⟨x.cores, x.home, x.frames.set k.toNat (Bz (Aw x.frames k) bit)⟩ M := by
 refine h.frames (by rw [List.length_set]; exact h.fr) fun b hb => ?_
 rcases List.mem_or_eq_of_mem_set hb with e | e
 ·exact h.mi b e
 ·subst e
  have hl := (h.mi _ (Kz h1)).1
  refine ⟨by rw [Ju]; exact hl, fun m hm => ?_⟩
  have hp : Af (G5 n nl) (Aw x.frames k) = ((Af (G5 n nl) (Aw x.frames k)).1, 0) := by rw [← h2]
  rw [Ov hp h3 (by rw [hl] at h4; exact h4)] at hm
  cases hm
end
set_option maxHeartbeats 1000000
set_option maxRecDepth 8000
variable {L : List Chunk} {R : List Fact} {w : World}
structure KB (c : Core) : Prop where
 n : c.lines.length ≤ 4
 v : ∀ i, i < c.lines.length → 0 ≤ (c.lines.getD i zLine).value ∧ (c.lines.getD i zLine).value ≤ 255
 w : CW c c.lines.length
theorem Ip {P : Program} {n : Nat} {Q : Exit → Act → World → Prop} {L : List Chunk} {R : List Fact} {al : List (Nat × Value)} {cd : Code} {v : Value} {c : Core} (i : Int) (hm : sl v c.lines ∈ R) (h0 : 0 ≤ i) (hi : i < c.lines.length) (k : (Ac c i).wf → JC P n cd Q L (cF v 7 i.toNat (Ac c i).cells :: R) al) : JC P n cd Q L R al := JC.open0 i.toNat hm (by omega) k
theorem Abc {u : Value} {c : Core} {id home : Int} {q : Op} (hs : St (L) R w) (hu : sl u c.lines ∈ R) (hk : KB c) (hid : Ap id) (hhome : Ap home) (hq : q.wf) : Calls Try.prog 50 [.agg (c.cells u).toArray, vi id, vi home, .agg q.cells.toArray].toArray w (Bu (fun v : Value × Value × Value => .tuple #[.agg (Core.cells v.1 (Aj c id home q).1).toArray, v.2.1, v.2.2, vi (Aj c id home q).2.2.2]) (fun v => L) (fun v => sl v.1 (Aj c id home q).1.lines :: sl v.2.1 (Aj c id home q).2.1 :: sl v.2.2 (Aj c id home q).2.2.1 :: R)) := by
 have hlen := Bj hu hs
 refine ZaF ?_;intro hone0
 have hn4 := hk.n
 refine Ai Try.func50 rfl Try.ntmps50 rfl hs ?_
 clear hs
 refine Gm ?_
 refine bx ?_; intro b4
 refine ZbM ?_;intro b7 b8
 refine Ga3 ?_
 rcases (show (q.kind < 1) ∨ (¬ q.kind < 1 ∧ 4 < q.kind) ∨ (1 ≤ q.kind ∧ q.kind ≤ 4) from by omega) with hc | hc | hc
 ·refine ZZ ?_
  refine Gc5 ?_
  exact Zgt
 ·refine Zbf ?_
  refine Gc1 ?_
  exact Zgt
 ·refine Zaw ?_
  refine Gc1 ?_
  rcases (show (q.line < 0) ∨ (0 ≤ q.line ∧ (c.lines.length : Int) ≤ q.line) ∨ (0 ≤ q.line ∧ q.line < (c.lines.length : Int) ∧ q.value < 0) ∨ (0 ≤ q.line ∧ q.line < (c.lines.length : Int) ∧ 255 < q.value) ∨ (0 ≤ q.line ∧ q.line < (c.lines.length : Int) ∧ 0 ≤ q.value ∧ q.value ≤ 255) from by omega) with hc | hc | hc | hc | hc
  ·refine ZZ ?_
   refine Gc18 ?_
   exact ZgC
  ·refine Zag ?_
   refine ZaL ?_
   refine Gc11 ?_
   exact ZgC
  ·refine Za9 ?_
   refine ZaD ?_
   refine Gc6 ?_
   exact ZgC
  ·refine Za9 ?_
   refine ZaT ?_
   refine Gc1 ?_
   exact ZgC
  ·refine Za9 ?_
   refine Za0 ?_
   refine Gc1 ?_
   refine Ip (c := c) (v := u) q.line mm (by omega) (by omega) (fun hlw => ?_)
   refine kp [1, 2, 4, 7, 8, 9, 10, 11, 12, 47, 48, 49, 50, 51, 52] ?_
   refine Zam ?_
   refine al_ (cs := zLine.cells) Try.zeroValue82 ?_; intro b12
   refine s_B (cs := (Ac c q.line).cells) Try.sizeOf82 ?_
   refine Gl ?_
   rcases (show (c.wait.kind ≠ 0) ∨ (c.wait.kind = 0 ∧ 65535 ≤ (Ac c q.line).serial) ∨ (c.wait.kind = 0 ∧ (Ac c q.line).serial < 65535) from by omega) with hc | hc | hc
   ·refine ZJ ?_
    refine Ia ?_
    refine Gc5 ?_
    exact Zga
   ·refine ZJ ?_
    refine Ib ?_
    refine ZM ?_
    refine Hm ?_
    refine Gc1 ?_
    exact Zga
   ·refine ZJ ?_
    refine Ib ?_
    refine ZM ?_
    refine Dq ?_
    refine Gd1 ?_
    refine Gb1 ?_
    refine Gb2 ?_
    refine Ga2 ?_
    refine cdy ?_ ?_
    ·intro ht68
     refine ZU ?_
     refine cdy ?_ ?_
     ·intro ht72
      refine Aa ?_
      refine ZF ?_
      refine cTp (p := (3 : Int) ≠ 0) (by decide) ?_
      refine Zaf ?_
      refine ob (G1 (by exact rfl) (by exact rfl) (by unfold Line.wf Ap at hlw; omega) (by unfold Line.wf Ap at hlw; omega)) ?_
      refine ZK ?_
      refine ZK ?_
      refine Gl ?_
      refine kp [1, 2, 4, 7, 8, 9, 10, 11, 12, 13, 91, 92] ?_
      refine ZR ?_
      refine cTp (p := (3 : Int) = 3) (by decide) ?_
      refine ZC ?_
      refine sc ?_
      refine Zan ?_
      have hXw : ({ (Ac c q.line) with state := 3, want := 3, serial := (Ac c q.line).serial + 1 } : Line).wf := by unfold Line.wf Ap at hlw ⊢; simp only; omega
      refine Am Try.call81 rfl (fun w hs => Ca (l := { (Ac c q.line) with state := 3, want := 3, serial := (Ac c q.line).serial + 1 }) hs mm hXw (by omega)) ?_; intro v98
      refine ZcT ?_;intro hone98 b14
      refine cq_ (blk b8 57 [.slice none 0 0, vi 0, vi 0, vi 0] :: blk b14 57 [v98, vi q.kind, vi q.line, vi q.value] :: blk b12 82 [vi 3, vi (Ac c q.line).value, vi 3, vi ((Ac c q.line).serial + 1), vi (Ac c q.line).seen, vi (Ac c q.line).gave, vi (Ac c q.line).given] :: blk b7 26 q.cells :: L) ?_
      refine jd_ (fun ρ S => blk b8 57 (bif S 8 then [v98, vi q.kind, vi q.line, vi q.value] else [.slice none 0 0, vi 0, vi 0, vi 0]) :: blk b14 57 [v98, vi q.kind, vi q.line, vi q.value] :: blk b12 82 [vi 3, vi (Ac c q.line).value, vi 3, vi ((Ac c q.line).serial + 1), vi (Ac c q.line).seen, vi (Ac c q.line).gave, vi (Ac c q.line).given] :: blk b7 26 q.cells :: L) ?_
      refine dn6 ?_
      refine Cd (γ := Unit) (val := fun _ => .agg (Cr ({ (Ac c q.line) with state := 3, want := 3, serial := (Ac c q.line).serial + 1 }) id home q.line).cells.toArray) (F := fun _ => []) Try.call82 (fun _ => rfl) (fun ρ L R w hd hs => Pr (l := { (Ac c q.line) with state := 3, want := 3, serial := (Ac c q.line).serial + 1 }) (id := id) (home := home) (i := q.line) hs ) (fun _ _ _ _ _ => rfl) ?_
      refine F6 ([Cr ({ (Ac c q.line) with state := 3, want := 3, serial := (Ac c q.line).serial + 1 }) id home q.line] : List Msg) Gd rfl (fun _ => rfl) rfl (fun _ => rfl) rfl rfl (fun ρ R hd => Jf (Vq hXw hid hhome hq.2.1)) (fun _ _ _ _ _ => rfl) ?_
      refine Zde ?_;intro ρ
      refine xq_ (blk b8 57 [v98, vi q.kind, vi q.line, vi q.value] :: blk b14 57 [v98, vi q.kind, vi q.line, vi q.value] :: blk b12 82 [vi 3, vi (Ac c q.line).value, vi 3, vi ((Ac c q.line).serial + 1), vi (Ac c q.line).seen, vi (Ac c q.line).gave, vi (Ac c q.line).given] :: blk b7 26 q.cells :: L) ?_
      generalize (Gh.dec (γ := Value) (ρ 7)) = v108
      refine Gl ?_
      have eb : Ba (Ac c q.line) q = { (Ac c q.line) with state := 3, want := 3, serial := (Ac c q.line).serial + 1 } := by unfold Ba; rw [if_pos (by omega), if_pos (by omega)]
      have ed : Bk (Ac c q.line) q = false := by unfold Bk; split <;> simp <;> omega
      have er : Aj c id home q = (Ay c q.line ({ (Ac c q.line) with state := 3, want := 3, serial := (Ac c q.line).serial + 1 }) q, [Cr ({ (Ac c q.line) with state := 3, want := 3, serial := (Ac c q.line).serial + 1 }) id home q.line], [], 0) := by unfold Aj; rw [if_neg (by omega), if_neg (by omega), if_neg (by omega), ed, if_neg (by decide), eb]
      rw [er]
      exact E4 (v98, v108, .slice none 0 0) Try.isAgg57 Try.sizeOf57
     ·intro ht72
      exact ZeQ
    ·intro ht68
     refine ZD ?_
     refine cdy ?_ ?_
     ·intro ht73
      refine Zan ?_
      refine jgx (t := 78) (p := ?p5) (hd := ?d5) ?e5 ?_ ?_; case e5 => exact rfl
      ·intro ht78
       refine Ga4 ?_
       refine cdy ?_ ?_
       ·intro ht82
        refine kp [1, 2, 4, 7, 8, 9, 10, 11, 12, 13] ?_
        refine Aa ?_
        refine ZF ?_
        refine cTp (p := (1 : Int) ≠ 0) (by decide) ?_
        refine Zaf ?_
        refine ob (G1 (by exact rfl) (by exact rfl) (by unfold Line.wf Ap at hlw; omega) (by unfold Line.wf Ap at hlw; omega)) ?_
        refine ZK ?_
        refine ZK ?_
        refine ZD ?_
        refine cFp (p := (1 : Int) = 3) (by decide) ?_
        refine Zan ?_
        have hXw : ({ (Ac c q.line) with want := 1, serial := (Ac c q.line).serial + 1 } : Line).wf := by unfold Line.wf Ap at hlw ⊢; simp only; omega
        refine Am Try.call81 rfl (fun w hs => Ca (l := { (Ac c q.line) with want := 1, serial := (Ac c q.line).serial + 1 }) hs mm hXw (by omega)) ?_; intro v98
        refine ZcT ?_;intro hone98 b14
        refine cq_ (blk b8 57 [.slice none 0 0, vi 0, vi 0, vi 0] :: blk b14 57 [v98, vi q.kind, vi q.line, vi q.value] :: blk b12 82 [vi (Ac c q.line).state, vi (Ac c q.line).value, vi 1, vi ((Ac c q.line).serial + 1), vi (Ac c q.line).seen, vi (Ac c q.line).gave, vi (Ac c q.line).given] :: blk b7 26 q.cells :: L) ?_
        refine jd_ (fun ρ S => blk b8 57 (bif S 8 then [v98, vi q.kind, vi q.line, vi q.value] else [.slice none 0 0, vi 0, vi 0, vi 0]) :: blk b14 57 [v98, vi q.kind, vi q.line, vi q.value] :: blk b12 82 [vi (Ac c q.line).state, vi (Ac c q.line).value, vi 1, vi ((Ac c q.line).serial + 1), vi (Ac c q.line).seen, vi (Ac c q.line).gave, vi (Ac c q.line).given] :: blk b7 26 q.cells :: L) ?_
        refine dn6 ?_
        refine Cd (γ := Unit) (val := fun _ => .agg (Cr ({ (Ac c q.line) with want := 1, serial := (Ac c q.line).serial + 1 }) id home q.line).cells.toArray) (F := fun _ => []) Try.call82 (fun _ => rfl) (fun ρ L R w hd hs => Pr (l := { (Ac c q.line) with want := 1, serial := (Ac c q.line).serial + 1 }) (id := id) (home := home) (i := q.line) hs ) (fun _ _ _ _ _ => rfl) ?_
        refine F6 ([Cr ({ (Ac c q.line) with want := 1, serial := (Ac c q.line).serial + 1 }) id home q.line] : List Msg) Gd rfl (fun _ => rfl) rfl (fun _ => rfl) rfl rfl (fun ρ R hd => Jf (Vq hXw hid hhome hq.2.1)) (fun _ _ _ _ _ => rfl) ?_
        refine Zde ?_;intro ρ
        refine xq_ (blk b8 57 [v98, vi q.kind, vi q.line, vi q.value] :: blk b14 57 [v98, vi q.kind, vi q.line, vi q.value] :: blk b12 82 [vi (Ac c q.line).state, vi (Ac c q.line).value, vi 1, vi ((Ac c q.line).serial + 1), vi (Ac c q.line).seen, vi (Ac c q.line).gave, vi (Ac c q.line).given] :: blk b7 26 q.cells :: L) ?_
        generalize (Gh.dec (γ := Value) (ρ 7)) = v108
        refine Gl ?_
        have eb : Ba (Ac c q.line) q = { (Ac c q.line) with want := 1, serial := (Ac c q.line).serial + 1 } := by unfold Ba; rw [if_neg (by omega), if_neg (by omega), if_pos (by omega)]
        have ed : Bk (Ac c q.line) q = false := by unfold Bk; split <;> simp <;> omega
        have er : Aj c id home q = (Ay c q.line ({ (Ac c q.line) with want := 1, serial := (Ac c q.line).serial + 1 }) q, [Cr ({ (Ac c q.line) with want := 1, serial := (Ac c q.line).serial + 1 }) id home q.line], [], 0) := by unfold Aj; rw [if_neg (by omega), if_neg (by omega), if_neg (by omega), ed, if_neg (by decide), eb]
        rw [er]
        exact E4 (v98, v108, .slice none 0 0) Try.isAgg57 Try.sizeOf57
       ·intro ht82
        refine Gl ?_
        exact ZeR
      ·intro ht78
       refine Gc4 ?_
       exact ZeR
     ·intro ht73
      refine ZU ?_
      refine cdy ?_ ?_
      ·intro ht67
       refine Aa ?_
       refine ZF ?_
       refine cTp (p := (2 : Int) ≠ 0) (by decide) ?_
       refine Zaf ?_
       refine ob (G1 (by exact rfl) (by exact rfl) (by unfold Line.wf Ap at hlw; omega) (by unfold Line.wf Ap at hlw; omega)) ?_
       refine ZK ?_
       refine ZK ?_
       refine Gl ?_
       refine kp [1, 2, 4, 7, 8, 9, 10, 11, 12, 13, 91, 92] ?_
       refine ZR ?_
       refine cFp (p := (2 : Int) = 3) (by decide) ?_
       refine Zan ?_
       have hXw : ({ (Ac c q.line) with want := 2, serial := (Ac c q.line).serial + 1 } : Line).wf := by unfold Line.wf Ap at hlw ⊢; simp only; omega
       refine Am Try.call81 rfl (fun w hs => Ca (l := { (Ac c q.line) with want := 2, serial := (Ac c q.line).serial + 1 }) hs mm hXw (by omega)) ?_; intro v98
       refine ZcT ?_;intro hone98 b14
       refine cq_ (blk b8 57 [.slice none 0 0, vi 0, vi 0, vi 0] :: blk b14 57 [v98, vi q.kind, vi q.line, vi q.value] :: blk b12 82 [vi (Ac c q.line).state, vi (Ac c q.line).value, vi 2, vi ((Ac c q.line).serial + 1), vi (Ac c q.line).seen, vi (Ac c q.line).gave, vi (Ac c q.line).given] :: blk b7 26 q.cells :: L) ?_
       refine jd_ (fun ρ S => blk b8 57 (bif S 8 then [v98, vi q.kind, vi q.line, vi q.value] else [.slice none 0 0, vi 0, vi 0, vi 0]) :: blk b14 57 [v98, vi q.kind, vi q.line, vi q.value] :: blk b12 82 [vi (Ac c q.line).state, vi (Ac c q.line).value, vi 2, vi ((Ac c q.line).serial + 1), vi (Ac c q.line).seen, vi (Ac c q.line).gave, vi (Ac c q.line).given] :: blk b7 26 q.cells :: L) ?_
       refine dn6 ?_
       refine Cd (γ := Unit) (val := fun _ => .agg (Cr ({ (Ac c q.line) with want := 2, serial := (Ac c q.line).serial + 1 }) id home q.line).cells.toArray) (F := fun _ => []) Try.call82 (fun _ => rfl) (fun ρ L R w hd hs => Pr (l := { (Ac c q.line) with want := 2, serial := (Ac c q.line).serial + 1 }) (id := id) (home := home) (i := q.line) hs ) (fun _ _ _ _ _ => rfl) ?_
       refine F6 ([Cr ({ (Ac c q.line) with want := 2, serial := (Ac c q.line).serial + 1 }) id home q.line] : List Msg) Gd rfl (fun _ => rfl) rfl (fun _ => rfl) rfl rfl (fun ρ R hd => Jf (Vq hXw hid hhome hq.2.1)) (fun _ _ _ _ _ => rfl) ?_
       refine Zde ?_;intro ρ
       refine xq_ (blk b8 57 [v98, vi q.kind, vi q.line, vi q.value] :: blk b14 57 [v98, vi q.kind, vi q.line, vi q.value] :: blk b12 82 [vi (Ac c q.line).state, vi (Ac c q.line).value, vi 2, vi ((Ac c q.line).serial + 1), vi (Ac c q.line).seen, vi (Ac c q.line).gave, vi (Ac c q.line).given] :: blk b7 26 q.cells :: L) ?_
       generalize (Gh.dec (γ := Value) (ρ 7)) = v108
       refine Gl ?_
       have eb : Ba (Ac c q.line) q = { (Ac c q.line) with want := 2, serial := (Ac c q.line).serial + 1 } := by unfold Ba; rw [if_neg (by omega), if_neg (by omega), if_neg (by omega)]
       have ed : Bk (Ac c q.line) q = false := by unfold Bk; split <;> simp <;> omega
       have er : Aj c id home q = (Ay c q.line ({ (Ac c q.line) with want := 2, serial := (Ac c q.line).serial + 1 }) q, [Cr ({ (Ac c q.line) with want := 2, serial := (Ac c q.line).serial + 1 }) id home q.line], [], 0) := by unfold Aj; rw [if_neg (by omega), if_neg (by omega), if_neg (by omega), ed, if_neg (by decide), eb]
       rw [er]
       exact E4 (v98, v108, .slice none 0 0) Try.isAgg57 Try.sizeOf57
      ·intro ht67
       exact ZeQ
theorem R7 {b5 b6 b7 : Nat} {kind turn v id home line : Int} (hs : St (L) R w) (c5 : C8 L R (bp b5 0) [vi id]) (c6 : C8 L R (bp b6 0) [vi home]) (c7 : C8 L R (bp b7 3) [vi line]) (hkd : Ap kind) (ht : Ap turn) (hv : Ap v) (hid : Ap id) (hhome : Ap home) (hl : Ap line) : Calls Try.prog 89 [vi kind, vi turn, vi v, bp b5 0, bp b6 0, bp b7 0].toArray w (Bu (fun u : Value => u) (fun u => L) (fun u => sl u [Bm kind id home line turn v] :: R)) := by
 refine Ai Try.func89 rfl Try.ntmps89 rfl hs ?_
 clear hs
 refine ZaS ?_
 refine ob (Da Try.isAgg3 (hc := c5)) ?_
 refine ob (Da Try.isAgg3 (hc := c6)) ?_
 refine rn1 ?_
 refine ob (Da Try.isAgg3 (hc := c7)) ?_
 refine rn3 ?_
 refine li ([Bm kind id home line turn v] : List Msg) Gd rfl (Jf (by unfold Msg.wf Bm Ap at *; simp only; omega)) ?_; intro v18
 refine Ga1 ?_
 exact Bg v18
theorem Agx {b5 b4 : Nat} {id : Int} {q : Op} (hs : St (L) R w) (c5 : C8 L R (bp b5 0) [vi id]) (c4 : C8 L R (bp b4 1) q.cells) (hid : Ap id) (hq : q.wf) : Calls Try.prog 90 [bp b5 0, bp b4 0].toArray w (Bu (fun u : Value => u) (fun u => L) (fun u => sl u [(⟨id, q, 0⟩ : Done)] :: R)) := by
 refine Ai Try.func90 rfl Try.ntmps90 rfl hs ?_
 clear hs
 refine ZP ?_
 refine ob (Da Try.isAgg3 (hc := c5)) ?_
 refine rn1 ?_
 refine ob (Z4 Try.isAgg26 Try.sizeOf26 (hc := c4)) ?_
 refine rn1 ?_
 refine li ([⟨id, q, 0⟩] : List Done) Ff rfl (Gg ⟨hid, hq.1, hq.2.1, hq.2.2, by unfold Ap; simp only; omega⟩) ?_; intro v7
 refine Ga1 ?_
 exact Bg v7
theorem Nl {v : Int} {o : Op} (hv : Ap v) : Ap (A0 v o).2 := by
 unfold A0; split
 ·exact hv
 split
 ·unfold Ap; simp only; omega
 split
 ·exact hv
 ·unfold Ap; simp only; omega
theorem KB.wait {c : Core} (h : KB c) (i : Int) (hi : i.toNat < c.lines.length) (hw : (Ac c i).want ≠ 0) : (1 ≤ c.wait.kind ∧ c.wait.kind ≤ 4) ∧ (0 ≤ c.wait.line ∧ c.wait.line < c.lines.length) ∧ (0 ≤ c.wait.value ∧ c.wait.value ≤ 255) := by
 have hb := h.w.busy (fun h0 => hw ((h.w.free h0).2 i.toNat hi))
 exact ⟨hb.1, hb.2.1, hb.2.2.1⟩
theorem KB.wwf {c : Core} (h : KB c) : c.wait.wf := by
 by_cases h0 : c.wait.kind = 0
 ·rw [(h.w.free h0).1]; unfold Op.wf Ap zOp; simp only; omega
 ·obtain ⟨h1, h2, h3, _⟩ := h.w.busy h0
  have := h.n
  unfold Op.wf Ap; omega
theorem Mo {c : Core} {id home : Int} {m : Msg} (h : m.line < 0 ∨ (c.lines.length : Int) ≤ m.line) : Ae c id home m = (c, [], []) := by unfold Ae; rw [if_pos h]
end Go.Proofs.Ytehpekiedfpnkaa
namespace Go.Proofs.Ytehpekiedfpnkaa
open Abs
def E7 (M : List Int) : List Done → List Int → Prop
 | [], M' => M' = M
 | d :: r, M' => (1 ≤ d.op.kind ∧ d.op.kind ≤ 4) ∧ (0 ≤ d.op.line ∧ d.op.line < M.length) ∧ (0 ≤ d.op.value ∧ d.op.value ≤ 255) ∧
  d.value = (if d.op.kind = 4 then 0 else (A0 (M.getD d.op.line.toNat 0) d.op).2) ∧ E7 (M.set d.op.line.toNat (A0 (M.getD d.op.line.toNat 0) d.op).1) r M'
theorem Nk {v : Int} {o : Op} (hv : 0 ≤ v ∧ v ≤ 255) (ho : 0 ≤ o.value ∧ o.value ≤ 255) : 0 ≤ (A0 v o).1 ∧ (A0 v o).1 ≤ 255 := by
 unfold A0
 split
 ·exact hv
 ·split
  ·exact ho
  ·split
   ·simp only; omega
   ·exact hv
theorem H9 {v : Int} {o : Op} (h : o.kind = 1 ∨ o.kind = 4) : (A0 v o).1 = v := by
 unfold A0
 rcases h with h | h <;> simp [h]
section
variable {n nl : Nat} {x : Chip} {M : List Int}
theorem F1 {α : Type} (l : List α) (i : Nat) (d : α) (h : i < l.length) : l.set i (l.getD i d) = l := by
 apply List.ext_getElem?
 intro j
 by_cases hj : j = i
 ·subst hj; rw [List.getElem?_set_self h, List.getD_eq_getElem?_getD, List.getElem?_eq_getElem h]; rfl
 ·rw [List.getElem?_set_ne (Ne.symm hj)]
theorem Inv.same (h : Inv n nl x M) (i : Nat) (hi : i < nl) : M.set i (M.getD i 0) = M := F1 _ _ _ (by rw [h.ml]; exact hi)
theorem I9 (h : Inv n nl x M) {p i : Nat} (hp : p < n) (hi : i < nl) {kind serial turn value : Int} {al : Bool} (hk : 1 ≤ kind ∧ kind ≤ 11) (hs : 0 ≤ serial ∧ serial ≤ 65535) (ht : 0 ≤ turn ∧ turn ≤ 65535) (hv : 0 ≤ value ∧ value ≤ 255) :
  Bq (G5 n nl) ⟨kind, p, n, i, serial, turn, value, al⟩ = 0 :=
 Um hk (by simp only [G5]; omega) (by simp only [G5]; omega) hs ht hv (by simp only [G5]; intro h; have h' := h.2 trivial; omega)
theorem Pi (h : Inv n nl x M) {p i : Nat} (hp : p < n) (hi : i < nl) {kind serial turn value : Int} {al : Bool} (hk : 1 ≤ kind ∧ kind ≤ 11) (hs : 0 ≤ serial ∧ serial ≤ 65535) (ht : 0 ≤ turn ∧ turn ≤ 65535) (hv : 0 ≤ value ∧ value ≤ 255) :
  Bq (G5 n nl) ⟨kind, n, p, i, serial, turn, value, al⟩ = 0 :=
 Um hk (by simp only [G5]; omega) (by simp only [G5]; omega) hs ht hv (by simp only [G5]; intro h; have h' := h.1 trivial; omega)
theorem Nj {p i : Nat} {kind serial turn value : Int} {al : Bool} : Ro n ⟨kind, p, n, i, serial, turn, value, al⟩ = p := by simp [Ro]
theorem Rn {p i : Nat} (hp : p < n) {kind serial turn value : Int} {al : Bool} : Ro n ⟨kind, n, p, i, serial, turn, value, al⟩ = p := by
 unfold Ro
 rw [if_neg (by simp only; omega)]; simp
theorem U0 {p i : Nat} {l' : Line} {w' : Op} (h : Inv n nl x M) (hp : p < n) (hi : i < nl) {fr : Frames} : lin ⟨x.cores.set p (Ay (cor x p) i l' w'), x.home, fr⟩ i p = l' := by
 unfold lin cor
 rw [Df _ _ _ _ _ (by rw [h.nc]; exact hp), if_pos rfl]
 show ((cor x p).lines.set _ l').getD i zLine = l'
 rw [Int.toNat_natCast, Df _ _ _ _ _ (by rw [h.ncl p hp]; exact hi), if_pos rfl]
theorem Ajd {k : Core} {i : Nat} {l' : Line} {o : Op} (hl : k.lines.length = nl) (h : CW k nl) (h0 : k.wait.kind = 0) (hi : i < nl) (ho : (1 ≤ o.kind ∧ o.kind ≤ 4) ∧ o.line = i ∧ (0 ≤ o.value ∧ o.value ≤ 255)) (hw : l'.want = Hh o.kind) : CW (Ay k i l' o) nl := by
 constructor
 ·intro h'; exact absurd h' (by show o.kind ≠ 0; omega)
 ·intro _
  refine ⟨ho.1, ?_, ho.2.2, fun j hj => ?_⟩
  ·show 0 ≤ o.line ∧ o.line < nl; omega
  ·show ((k.lines.set _ l').getD j zLine).want = if (j : Int) = o.line then _ else _
   rw [Int.toNat_natCast, Df _ _ _ _ _ (by rw [hl]; exact hi), ho.2.1]
   by_cases hj' : j = i
   ·rw [if_pos hj', if_pos (by rw [hj'])]; exact hw
   ·rw [if_neg hj', if_neg (by omega)]; exact (h.free h0).2 j hj
theorem Ix {k : Core} {i : Nat} {l' : Line} (hl : k.lines.length = nl) (h : CW k nl) (hi : i < nl) (h0 : k.wait.kind = 0 ∨ k.wait.line = i) (hw : l'.want = 0) : CW (Ay k i l' zOp) nl := by
 constructor
 ·intro _
  refine ⟨rfl, fun j hj => ?_⟩
  show ((k.lines.set _ l').getD j zLine).want = 0
  rw [Int.toNat_natCast, Df _ _ _ _ _ (by rw [hl]; exact hi)]
  by_cases hj' : j = i
  ·rw [if_pos hj']; exact hw
  ·rw [if_neg hj']
   by_cases h00 : k.wait.kind = 0
   ·exact (h.free h00).2 j hj
   ·have := (h.busy h00).2.2.2 j hj
    rw [this, if_neg (by omega)]
 ·intro h'; exact absurd rfl h'
theorem Qg {k : Core} {i : Nat} {l' : Line} (hl : k.lines.length = nl) (h : CW k nl) (hi : i < nl) (hw : l'.want = (k.lines.getD i zLine).want) : CW (Ay k i l' k.wait) nl := by
 have hg : ∀ j, ((Ay k i l' k.wait).lines.getD j zLine).want = (k.lines.getD j zLine).want := by
  intro j
  show ((k.lines.set _ l').getD j zLine).want = _
  rw [Int.toNat_natCast, Df _ _ _ _ _ (by rw [hl]; exact hi)]
  by_cases hj' : j = i
  ·rw [if_pos hj', hj']; exact hw
  ·rw [if_neg hj']
 constructor
 ·intro h0
  exact ⟨(h.free h0).1, fun j hj => by rw [hg]; exact (h.free h0).2 j hj⟩
 ·intro h0
  obtain ⟨h1, h2, h3, h4⟩ := h.busy h0
  exact ⟨h1, h2, h3, fun j hj => by rw [hg]; exact h4 j hj⟩
theorem Qf {k : Core} {i : Nat} (h : CW k nl) (hi : i < nl) (hw : (k.lines.getD i zLine).want ≠ 0) : k.wait.kind ≠ 0 ∧ k.wait.line = i ∧ (k.lines.getD i zLine).want = Hh k.wait.kind := by
 have h0 : k.wait.kind ≠ 0 := fun h0 => hw ((h.free h0).2 i hi)
 have h1 := (h.busy h0).2.2.2 i hi
 by_cases he : (i : Int) = k.wait.line
 ·rw [if_pos he] at h1; exact ⟨h0, he.symm, h1⟩
 ·rw [if_neg he] at h1; exact absurd h1 hw
theorem Yh {p : Nat} {o : Op} (h : Inv n nl x M) (hp : p < n) (hok : (Aj (cor x p) p n o).2.2.2 = 0) :
  ∃ M', Inv n nl (Cy x p (Aj (cor x p) p n o).1 (Aj (cor x p) p n o).2.1) M' ∧ E7 M (Aj (cor x p) p n o).2.2.1 M' := by
 have hcl := h.ncl p hp
 have hcw := h.cw p hp
 unfold Aj at hok ⊢
 split at hok
 ·cases hok
 split at hok
 ·cases hok
 split at hok
 ·cases hok
 rename_i k1 k2 k3
 rw [if_neg k1, if_neg k2, if_neg k3]
 obtain ⟨i, hi⟩ : ∃ i : Nat, o.line = i := ⟨o.line.toNat, by omega⟩
 have hin : i < nl := by omega
 have hlat : Ac (cor x p) o.line = lin x i p := by unfold Ac lin; rw [hi, Int.toNat_natCast]
 rw [hlat] at k3 ⊢
 have hci := h.ci i hin p hp
 have hgi := h.gi i hin
 have hw0 : (lin x i p).want = 0 := (hcw.free (by omega)).2 i hin
 have hval := h.mv i hin
 have hov : 0 ≤ o.value ∧ o.value ≤ 255 := by omega
 by_cases hd : Bk (lin x i p) o = true
 ·rw [if_pos hd]
  unfold Cy
  simp only [Int.toNat_natCast, way, hi]
  by_cases h4 : o.kind = 4
  ·have hs : (lin x i p).state ≠ 2 := by unfold Bk at hd; rw [if_pos h4] at hd; simpa using hd
   have hb : Ba (lin x i p) o = { lin x i p with state := 0, value := 0 } := by unfold Ba; rw [if_pos h4, if_neg hs]
   have ht : Ch (lin x i p) o = 0 := by unfold Ch; rw [if_pos h4]
   rw [hb, ht]
   obtain ⟨c1, c2⟩ := Adz hgi hci hw0 hs
   have hI := h.core (w' := zOp) hp hin c1 (fun _ _ _ hh => hh) c2 (Ix hcl hcw hin (.inl (by omega)) hw0) hval
   refine ⟨_, hI, ?_, ?_, hov, ?_, ?_⟩
   ·show 1 ≤ o.kind ∧ o.kind ≤ 4; omega
   ·show 0 ≤ o.line ∧ o.line < M.length; rw [h.ml]; omega
   ·show (0 : Int) = _; rw [if_pos h4]
   ·show E7 _ [] _
    simp only [E7, hi, Int.toNat_natCast]
    rw [H9 (.inr h4)]
  ·have hs : (lin x i p).state = 2 ∨ (lin x i p).state = 1 ∧ o.kind = 1 := by unfold Bk at hd; rw [if_neg h4] at hd; simpa using hd
   have hb : Ba (lin x i p) o = { lin x i p with value := (A0 (lin x i p).value o).1 } := by unfold Ba; rw [if_neg h4, if_pos hs]
   have ht : Ch (lin x i p) o = (A0 (lin x i p).value o).2 := by unfold Ch; rw [if_neg h4]
   have hV : (lin x i p).value = M.getD i 0 := by
    rcases hs with hs | hs
    ·exact (hci.alo (.inl hs)).2
    ·exact (hci.cop hs.1).2
   rw [hb, ht]
   have hr := Nk (o := o) hci.va hov
   have hI : Inv n nl ⟨x.cores.set p (Ay (cor x p) i { lin x i p with value := (A0 (lin x i p).value o).1 } zOp), x.home, x.frames⟩ (M.set i (A0 (lin x i p).value o).1) := by
    rcases hs with hs | hs
    ·obtain ⟨c1, c2⟩ := Ajm hgi hci hs hr
     exact h.core (w' := zOp) hp hin c1 (fun q hq hqp hh => Ady hgi hci (by omega) (by omega) hqp hh) c2 (Ix hcl hcw hin (.inl (by omega)) hw0) hr
    ·have e : (A0 (lin x i p).value o).1 = (lin x i p).value := H9 (.inl hs.2)
     rw [e]
     exact h.core (w' := zOp) hp hin (by show CI _ p (lin x i p) (lin x i p).value; rw [hV]; exact hci) (fun _ _ _ hh => by rw [hV]; exact hh) (fun _ hm => hm) (Ix hcl hcw hin (.inl (by omega)) hw0) hci.va
   refine ⟨_, hI, ?_, ?_, hov, ?_, ?_⟩
   ·show 1 ≤ o.kind ∧ o.kind ≤ 4; omega
   ·show 0 ≤ o.line ∧ o.line < M.length; rw [h.ml]; omega
   ·show (A0 (lin x i p).value o).2 = _; rw [if_neg h4]; simp only [hi, Int.toNat_natCast]; rw [hV]
   ·show E7 _ [] _
    simp only [E7, hi, Int.toNat_natCast]
    rw [hV]
 ·rw [if_neg hd]
  unfold Cy
  simp only [Int.toNat_natCast, hi]
  -- it asks
  have key : ∃ l', Ba (lin x i p) o = l' ∧ CI (ab (ent x i)) p l' (M.getD i 0) ∧ (∀ m, MI (ab (ent x i)) p (lin x i p) m → MI (ab (ent x i)) p l' m) ∧ l'.want = Hh o.kind ∧ l'.serial = (lin x i p).serial + 1 := by
   by_cases h4 : o.kind = 4
   ·have hs : (lin x i p).state = 2 := by unfold Bk at hd; rw [if_pos h4] at hd; simpa using hd
    obtain ⟨c1, c2⟩ := c_put hgi hci hw0 hs (by omega)
    refine ⟨_, rfl, ?_⟩
    have hb : Ba (lin x i p) o = { lin x i p with state := 3, want := 3, serial := (lin x i p).serial + 1 } := by unfold Ba; rw [if_pos h4, if_pos hs]
    rw [hb]
    exact ⟨c1, c2, by simp [Hh, h4], rfl⟩
   ·have hs : ¬ ((lin x i p).state = 2 ∨ (lin x i p).state = 1 ∧ o.kind = 1) := by unfold Bk at hd; rw [if_neg h4] at hd; simpa using hd
    have hst := hci.st
    have hlv := hci.leav
    have hkk : (if o.kind = 1 then (1 : Int) else 2) = Hh o.kind := by unfold Hh; split <;> first | rfl | rw [if_neg h4]
    obtain ⟨c1, c2⟩ := c_ask (k := if o.kind = 1 then 1 else 2) hgi hci hw0 (by split <;> omega) (by omega)
    refine ⟨_, rfl, ?_⟩
    have hb : Ba (lin x i p) o = { lin x i p with want := if o.kind = 1 then 1 else 2, serial := (lin x i p).serial + 1 } := by unfold Ba; rw [if_neg h4, if_neg hs]
    rw [hb]
    exact ⟨c1, c2, hkk, rfl⟩
  obtain ⟨l', hb, c1, c2, c3, c4⟩ := key
  rw [hb]
  have hI := h.core (w' := o) hp hin c1 (fun _ _ _ hh => hh) c2 (Ajd hcl hcw (by omega) hin ⟨by omega, hi, hov⟩ c3) hval
  rw [h.same i hin] at hI
  refine ⟨M, ?_, rfl⟩
  refine hI.way fun m hm => ?_
  rw [List.mem_singleton.1 hm]
  have hwr : 1 ≤ l'.want ∧ l'.want ≤ 3 := by rw [c3]; unfold Hh; split <;> (try split) <;> omega
  refine ⟨I9 h hp hin (by omega) c1.se ⟨by omega, by omega⟩ (by have := c1.va; split <;> omega), ?_⟩
  unfold MX
  have hpe : Ro n (Cr l' p n i) = p := Nj
  rw [hpe]
  show MI (ab (ent x _)) p (lin _ _ p) _
  rw [show ((Cr l' p n i).line).toNat = i from Int.toNat_natCast i, U0 h hp hin]
  have hla := hci.la
  have e1 : (Cr l' p n i).kind = l'.want := rfl
  have e2 : (Cr l' p n i).serial = l'.serial := rfl
  have e3 : (Cr l' p n i).value = if l'.want = 3 then l'.value else 0 := rfl
  constructor <;> rw [e1] <;> (try rw [e2]) <;> (try rw [e3])
  ·intro hk; exact ⟨Int.le_refl _, fun _ => ⟨rfl, rfl⟩⟩
  ·intro hk; exact ⟨Int.le_refl _, fun _ => .inl ⟨rfl, hk, by rw [if_pos hk]⟩⟩
  all_goals intro hk; omega
theorem MX.said {p i : Nat} {l' : Line} {w' : Op} (h : Inv n nl x M) (hp : p < n) (hi : i < nl) {kind serial turn value : Int} {al : Bool} (hm : MI (ab (ent x i)) p l' ⟨kind, p, n, i, serial, turn, value, al⟩) {fr : Frames} :
  MX n ⟨x.cores.set p (Ay (cor x p) i l' w'), x.home, fr⟩ ⟨kind, p, n, i, serial, turn, value, al⟩ := by
 unfold MX
 rw [Nj]
 show MI (ab (ent x ((i : Int).toNat))) p (lin _ ((i : Int).toNat) p) _
 rw [Int.toNat_natCast, U0 h hp hi]
 exact hm
theorem MX.saidSame {p i : Nat} (hp : p < n) {kind serial turn value : Int} {al : Bool} (hm : MI (ab (ent x i)) p (lin x i p) ⟨kind, p, n, i, serial, turn, value, al⟩) : MX n x ⟨kind, p, n, i, serial, turn, value, al⟩ := by
 unfold MX
 rw [Nj]
 show MI (ab (ent x ((i : Int).toNat))) p (lin _ ((i : Int).toNat) p) _
 rw [Int.toNat_natCast]
 exact hm
theorem MX.told {p i : Nat} {e' : Entry} (h : Inv n nl x M) (hp : p < n) (hi : i < nl) {kind serial turn value : Int} {al : Bool} (hm : MI (ab e') p (lin x i p) ⟨kind, n, p, i, serial, turn, value, al⟩) {fr : Frames} :
  MX n ⟨x.cores, x.home.set i e', fr⟩ ⟨kind, n, p, i, serial, turn, value, al⟩ := by
 unfold MX
 rw [Rn hp]
 show MI (ab ((x.home.set i e').getD ((i : Int).toNat) A7)) p (lin x ((i : Int).toNat) p) _
 rw [Int.toNat_natCast, Df _ _ _ _ _ (by rw [h.nh]; exact hi), if_pos rfl]
 exact hm
theorem Ace {p : Nat} {m : Msg} (h : Inv n nl x M) (hp : p < n) (hd : m.dst = p) (hs : m.src = n) (hl : 0 ≤ m.line ∧ m.line < nl) (hr : (0 ≤ m.serial ∧ m.serial ≤ 65535) ∧ (0 ≤ m.turn ∧ m.turn ≤ 65535) ∧ (0 ≤ m.value ∧ m.value ≤ 255)) (hm : MX n x m) :
  ∃ M', Inv n nl (Cy x p (Ae (cor x p) p n m).1 (Ae (cor x p) p n m).2.1) M' ∧ E7 M (Ae (cor x p) p n m).2.2 M' := by
 have hcl := h.ncl p hp
 have hcw := h.cw p hp
 obtain ⟨i, hi⟩ : ∃ i : Nat, m.line = i := ⟨m.line.toNat, by omega⟩
 have hin : i < nl := by omega
 have hlat : Ac (cor x p) m.line = lin x i p := by unfold Ac lin; rw [hi, Int.toNat_natCast]
 have hci := h.ci i hin p hp
 have hgi := h.gi i hin
 have hval := h.mv i hin
 have hMI : MI (ab (ent x i)) p (lin x i p) m := by
  unfold MX at hm
  have : Ro n m = p := by unfold Ro; rw [if_neg (by omega), hd]; simp
  rw [this, hi, Int.toNat_natCast] at hm
  exact hm
 have hsame : Inv n nl (Cy x p (cor x p) []) M := by
  unfold Cy
  simp only [Int.toNat_natCast, way]
  have : x.cores.set p (cor x p) = x.cores := F1 _ _ _ (by rw [h.nc]; exact hp)
  rw [this]; exact h
 have hsaid : ∀ m', Bq (G5 n nl) m' = 0 → MX n x m' → Inv n nl (Cy x p (cor x p) [m']) M := by
  intro m' h1 h2
  unfold Cy
  simp only [Int.toNat_natCast]
  have : x.cores.set p (cor x p) = x.cores := F1 _ _ _ (by rw [h.nc]; exact hp)
  rw [this]
  exact h.way fun m'' hm'' => by rw [List.mem_singleton.1 hm'']; exact ⟨h1, h2⟩
 unfold Ae
 rw [if_neg (by rw [hcl]; omega)]
 rw [hlat]
 by_cases k4 : m.kind = 4
 ·rw [if_pos k4]
  obtain ⟨c1, c2⟩ := c_inv hgi hci hMI k4
  have hwant : (Cu (lin x i p) m.turn).want = (lin x i p).want := by unfold Cu; split <;> (try split) <;> rfl
  have hI := h.core (w' := (cor x p).wait) hp hin c1 (fun _ _ _ hh => hh) c2 (Qg hcl hcw hin hwant) hval
  rw [h.same i hin] at hI
  refine ⟨M, ?_, rfl⟩
  unfold Cy
  refine Zc3 ?_
  refine ⟨I9 h hp hin (by omega) (by omega) hr.2.1 (by omega), MX.said h hp hin ?_⟩
  have hseen : m.turn ≤ (Cu (lin x i p) m.turn).seen := by unfold Cu; split <;> (try split) <;> first | exact Int.le_refl _ | omega
  constructor <;> simp only <;> intro hk <;> first | omega | exact hseen
 rw [if_neg k4]
 by_cases k5 : m.kind = 5 ∨ m.kind = 6
 ·rw [if_pos k5]
  by_cases hf : Dt (lin x i p) m.turn
  ·rw [if_pos hf]
   obtain ⟨c1, c2, c3, c4⟩ := Ajp hgi hci hMI k5 hf
   by_cases hw : (lin x i p).want = 3
   ·rw [if_pos hw, if_pos hw]
    obtain ⟨w1, w2, w3⟩ := Qf hcw hin (by show (lin x i p).want ≠ 0; omega)
    have hwant : (Cx (lin x i p) m.kind m.turn).want = 0 := by unfold Cx; rw [if_pos hw]
    have hI := h.core (w' := zOp) hp hin c1 (fun _ _ _ hh => hh) c2 (Ix hcl hcw hin (.inr w2) hwant) hval
    rw [h.same i hin] at hI
    obtain ⟨b1, b2, b3, b4⟩ := hcw.busy w1
    have hk4 : (cor x p).wait.kind = 4 := by
     exact Zgk
    refine ⟨M, ?_, b1, by rw [h.ml]; exact b2, b3, by show (0 : Int) = _; rw [if_pos hk4], ?_⟩
    ·unfold Cy
     refine Zc3 ?_
     exact ⟨I9 h hp hin (by omega) (by omega) hr.2.1 hci.va, MX.said h hp hin (c4 _ rfl rfl rfl)⟩
    ·exact Zg9
   ·rw [if_neg hw, if_neg hw]
    have hwant : (Cx (lin x i p) m.kind m.turn).want = (lin x i p).want := by unfold Cx; rw [if_neg hw]; split <;> rfl
    have hI := h.core (w' := (cor x p).wait) hp hin c1 (fun _ _ _ hh => hh) c2 (Qg hcl hcw hin hwant) hval
    rw [h.same i hin] at hI
    refine ⟨M, ?_, rfl⟩
    unfold Cy
    refine Zc3 ?_
    exact ⟨I9 h hp hin (by omega) (by omega) hr.2.1 hci.va, MX.said h hp hin (c4 _ rfl rfl rfl)⟩
  ·rw [if_neg hf]
   split
   ·rename_i hg
    refine ⟨M, hsaid _ ?_ ?_, rfl⟩
    ·rw [hi]; exact I9 h hp hin (by omega) (by omega) (by rw [← hg.1]; exact hr.2.1) hci.gi
    ·rw [hi]; refine MX.saidSame hp ?_
     have := hci.ga
     constructor <;> simp only <;> intro hk <;> first | omega | exact ⟨this.2.1, fun a b c => ⟨a, trivial⟩⟩
   ·exact ⟨M, hsame, rfl⟩
 rw [if_neg k5]
 by_cases k7 : m.kind = 7
 ·rw [if_pos k7]
  by_cases hse : (lin x i p).serial < m.serial
  ·rw [if_pos hse]; exact ⟨M, hsame, rfl⟩
  rw [if_neg hse]
  by_cases ha : Gn (lin x i p) m
  ·rw [if_pos ha]
   have hwne : (lin x i p).want ≠ 0 := by have := ha.2; omega
   obtain ⟨w1, w2, w3⟩ := Qf hcw hin hwne
   obtain ⟨b1, b2, b3, b4⟩ := hcw.busy w1
   have w3' : (lin x i p).want = Hh (cor x p).wait.kind := w3
   have hnk4 : (cor x p).wait.kind ≠ 4 := by
    intro e; rw [e] at w3'; simp [Hh] at w3'; have := ha.2; omega
   have hload : m.alone = false → (A0 m.value (cor x p).wait).1 = m.value := by
    intro hal
    have h2 := ha.2
    rw [hal] at h2
    have : (lin x i p).want = 1 := by simpa using h2
    refine H9 (.inl ?_)
    rw [this] at w3'
    unfold Hh at w3'; split at w3' <;> (try split at w3') <;> first | assumption | omega
   have hv := Nk (o := (cor x p).wait) hr.2.2 b3
   obtain ⟨c1, c2, c3, c4, c5⟩ := Ajo (v := (A0 m.value (cor x p).wait).1) hgi hci hMI k7 ha hv hload
   have hI := h.core (w' := zOp) hp hin c1 (fun q _ hq hh => c4 q _ hq hh) c2 (Ix hcl hcw hin (.inr w2) rfl) hv
   refine ⟨M.set i (A0 m.value (cor x p).wait).1, ?_, b1, by rw [h.ml]; exact b2, b3, ?_, ?_⟩
   ·unfold Cy
    refine Zc3 ?_
    exact ⟨I9 h hp hin (by omega) (by omega) hr.2.1 (by omega), MX.said h hp hin (c5 _ rfl rfl)⟩
   ·show (A0 m.value (cor x p).wait).2 = _
    rw [if_neg hnk4, w2, Int.toNat_natCast, c3]
   ·show E7 _ [] _
    simp only [E7]
    rw [w2, Int.toNat_natCast, c3]
  ·rw [if_neg ha]
   refine ⟨M, hsaid _ ?_ ?_, rfl⟩
   ·rw [hi]; exact I9 h hp hin (by omega) (by omega) hr.2.1 (by omega)
   ·rw [hi]; refine MX.saidSame hp ?_
    have hg := hMI.gra k7
    have hseen : m.turn ≤ (lin x i p).seen := by
     by_cases hc : m.serial = (lin x i p).serial ∧ (lin x i p).want ≠ 0
     ·obtain ⟨g1, g2, g3, g4, g5⟩ := hg.2.1 hc.1 hc.2
      have hcur := hci.cur (by omega) g2
      exfalso
      apply ha
      refine ⟨hc.1, ?_⟩
      have hse' : (ab (ent x i)).serial = (lin x i p).serial := by have := hci.la; omega
      cases hal : m.alone with
      | true => right; have := g4.1 hal; exact ⟨by omega, rfl⟩
      | false =>
       left
       have hnot : ¬ (ab (ent x i)).alone = 1 := fun h1 => by have := g4.2 h1; rw [hal] at this; cases this
       have := hgi.al
       exact ⟨by omega, rfl⟩
     ·exact hg.2.2 (by omega)
    constructor <;> simp only <;> intro hk <;> first | omega | exact hseen
 rw [if_neg k7]
 split
 ·rename_i hk
  obtain ⟨k11, hw, hse⟩ := hk
  obtain ⟨c1, c2⟩ := Ajn hgi hci hMI k11 hw hse
  obtain ⟨w1, w2, w3⟩ := Qf hcw hin (by show (lin x i p).want ≠ 0; omega)
  obtain ⟨b1, b2, b3, b4⟩ := hcw.busy w1
  have hk4 : (cor x p).wait.kind = 4 := by
   exact Zgk
  have hI := h.core (w' := zOp) hp hin c1 (fun _ _ _ hh => hh) c2 (Ix hcl hcw hin (.inr w2) rfl) hval
  rw [h.same i hin] at hI
  refine ⟨M, ?_, b1, by rw [h.ml]; exact b2, b3, by show (0 : Int) = _; rw [if_pos hk4], ?_⟩
  ·unfold Cy
   simp only [Int.toNat_natCast, hi, way]
   exact hI
  ·exact Zg9
 ·exact ⟨M, hsame, rfl⟩
end
end Go.Proofs.Ytehpekiedfpnkaa
namespace Go.Proofs.Ytehpekiedfpnkaa
open Abs
theorem Ajg : ∀ (s : Fin 16) (p q : Fin 4), (Hv (s.val : Int) (p.val : Int)).toNat.testBit q.val = (decide (q ≠ p) && s.val.testBit q.val) := by decide
theorem Zn : ∀ (s : Fin 16) (p : Fin 4), 0 ≤ Hv (s.val : Int) (p.val : Int) ∧ Hv (s.val : Int) (p.val : Int) ≤ s.val := by decide
theorem Aft : ∀ (s : Fin 16) (p q : Fin 4), (I1 (s.val : Int) (p.val : Int)).toNat.testBit q.val = (decide (q = p) || s.val.testBit q.val) := by decide
theorem Xn : ∀ (n : Fin 5) (s : Fin 16) (p : Fin 4), p.val < n.val → s.val < 2 ^ n.val → 0 ≤ I1 (s.val : Int) (p.val : Int) ∧ I1 (s.val : Int) (p.val : Int) < (2 ^ n.val : Nat) := by decide
theorem Z9 : ∀ (s : Fin 16), (∀ q : Fin 4, s.val.testBit q.val = false) → s.val = 0 := by decide
theorem high (s : Int) (h : 0 ≤ s ∧ s < 16) (q : Nat) (hq : 4 ≤ q) : s.toNat.testBit q = false := by
 apply Nat.testBit_lt_two_pow
 have : 2 ^ 4 ≤ 2 ^ q := Nat.pow_le_pow_right (by omega) hq
 omega
theorem J2 (s : Int) (h : 0 ≤ s ∧ s < 16) (q : Nat) (hq : 4 ≤ q) : Fp s q = 0 := by unfold Fp; rw [high s h q hq]; rfl
theorem Fh (q : Nat) : Fp 0 q = 0 := by simp [Fp]
theorem Xg {s : Int} (h : 0 ≤ s ∧ s < 16) : ∃ f : Fin 16, (f.val : Int) = s := ⟨⟨s.toNat, by omega⟩, by simp only; omega⟩
theorem K9 {s : Int} {p : Nat} (h : 0 ≤ s ∧ s < 16) (hp : p < 4) : Fp (Hv s p) = upd (Fp s) p 0 := by
 obtain ⟨f, rfl⟩ := Xg h
 funext q
 have hr := Zn f ⟨p, hp⟩
 simp only at hr
 by_cases hq : q < 4
 ·have := Ajg f ⟨p, hp⟩ ⟨q, hq⟩
  simp only at this
  unfold Fp upd
  rw [this]
  by_cases hqp : q = p
  ·subst hqp; simp
  ·simp [hqp]
 ·rw [J2 _ (by omega) _ (by omega)]
  unfold upd
  rw [if_neg (by omega), J2 _ (by omega) _ (by omega)]
theorem Sv {s : Int} {p : Nat} (h : 0 ≤ s ∧ s < 16) (hp : p < 4) (q : Nat) : Fp (I1 s p) q = if q = p then 1 else Fp s q := by
 obtain ⟨f, rfl⟩ := Xg h
 have hr : 0 ≤ I1 (f.val : Int) (p : Int) ∧ I1 (f.val : Int) (p : Int) < 16 := Xn 4 f ⟨p, hp⟩ hp f.isLt
 by_cases hq : q < 4
 ·have := Aft f ⟨p, hp⟩ ⟨q, hq⟩
  simp only at this
  unfold Fp
  rw [this]
  by_cases hqp : q = p
  ·subst hqp; simp
  ·simp [hqp]
 ·rw [J2 _ (by omega) _ (by omega), if_neg (by omega), J2 _ (by omega) _ (by omega)]
theorem Vj {s : Int} {p n : Nat} (hn : n ≤ 4) (h : 0 ≤ s ∧ s < (2 ^ n : Nat)) (hp : p < 4) : 0 ≤ Hv s p ∧ Hv s p < (2 ^ n : Nat) := by
 have : (2 ^ n : Nat) ≤ 2 ^ 4 := Nat.pow_le_pow_right (by omega) hn
 obtain ⟨f, rfl⟩ := Xg (s := s) (by omega)
 have hr := Zn f ⟨p, hp⟩
 simp only at hr
 omega
theorem Aet {s : Int} {p n : Nat} (hn : n ≤ 4) (h : 0 ≤ s ∧ s < (2 ^ n : Nat)) (hp : p < n) : 0 ≤ I1 s p ∧ I1 s p < (2 ^ n : Nat) := by
 have : (2 ^ n : Nat) ≤ 2 ^ 4 := Nat.pow_le_pow_right (by omega) hn
 obtain ⟨f, rfl⟩ := Xg (s := s) (by omega)
 exact Xn ⟨n, by omega⟩ f ⟨p, by omega⟩ hp (by simp only; omega)
theorem Mc {s : Int} {n : Nat} (hn : n ≤ 4) (h : 0 ≤ s ∧ s < (2 ^ n : Nat)) : 0 ≤ s ∧ s < 16 := by
 have : (2 ^ n : Nat) ≤ 2 ^ 4 := Nat.pow_le_pow_right (by omega) hn
 omega
theorem N6 {s : Int} (h : 0 ≤ s ∧ s < 16) (hb : ∀ q, q < 4 → Fp s q = 0) : s = 0 := by
 obtain ⟨f, rfl⟩ := Xg h
 have := Z9 f fun q => by
  have := hb q.val q.isLt
  unfold Fp at this
  simp only [Int.toNat_natCast] at this
  cases ht : f.val.testBit q.val with
  | false => rfl
  | true => simp [ht] at this
 omega
theorem Su {s : Int} {n : Nat} (hn : n ≤ 4) (h : 0 ≤ s ∧ s < (2 ^ n : Nat)) (h0 : s ≠ 0) : ∃ q : Nat, q < n ∧ Fp s q = 1 := by
 apply Classical.byContradiction
 intro hno
 apply h0
 refine N6 (Mc hn h) fun q _ => ?_
 by_cases hq : q < n
 ·have : ¬ Fp s q = 1 := fun he => hno ⟨q, hq, he⟩
  unfold Fp at this ⊢
  split <;> rename_i hb
  ·rw [if_pos hb] at this; exact absurd rfl this
  ·rfl
 ·unfold Fp
  rw [Nat.testBit_lt_two_pow (show s.toNat < 2 ^ q by have : 2 ^ n ≤ 2 ^ q := Nat.pow_le_pow_right (by omega) (by omega); omega)]
  rfl
theorem Yo (s : Int) (p : Nat) : La s p = true ↔ Fp s p = 1 := by
 unfold La Fp
 rw [Int.toNat_natCast]
 cases s.toNat.testBit p <;> simp
section
variable {n nl : Nat} {x : Chip} {M : List Int}
theorem S9 (h : Inv n nl x M) {i : Nat} (hi : i < nl) : ∀ m ∈ Gb (ent x i) i n, Bq (G5 n nl) m = 0 ∧ MX n x m := by
 intro m hm
 have hg := h.gi i hi
 have hn := h.n1
 have hto : ∀ {p : Nat} {kind serial turn value : Int} {al : Bool}, p < n → MI (ab (ent x i)) p (lin x i p) ⟨kind, n, p, i, serial, turn, value, al⟩ → MX n x ⟨kind, n, p, i, serial, turn, value, al⟩ := by
  intro p kind serial turn value al hp hmi
  unfold MX
  rw [Rn hp]
  show MI (ab (ent x ((i : Int).toNat))) p (lin x ((i : Int).toNat) p) _
  rw [Int.toNat_natCast]; exact hmi
 unfold Gb at hm
 by_cases h1 : (ent x i).phase = 1
 ·rw [if_pos h1] at hm
  rw [List.mem_singleton.1 hm]
  have hf := hg.f1 h1
  have how := hg.own
  obtain ⟨p, hp⟩ : ∃ p : Nat, (ent x i).owner = p := ⟨(ent x i).owner.toNat, by show _ = _; have := hf.1; show (ent x i).owner = _; simp only [ab] at this; omega⟩
  have hpn : p < n := by have := how.2; simp only [ab] at this; omega
  rw [hp]
  refine ⟨Pi h hpn hi (by split <;> omega) (by omega) hg.tu (by omega), hto hpn ?_⟩
  have ha : (if (ent x i).alone = true then (6 : Int) else 5) = 5 + (ab (ent x i)).alone := by simp only [ab]; split <;> rfl
  rw [ha]
  have hal := hg.al
  constructor <;> simp only <;> intro hk <;> first | omega | exact ⟨Int.le_refl _, fun _ => ⟨rfl, h1, hp, trivial⟩⟩
 rw [if_neg h1] at hm
 by_cases h2 : (ent x i).phase = 2
 ·rw [if_pos h2] at hm
  obtain ⟨q, hq, rfl⟩ := List.mem_map.1 hm
  obtain ⟨hq1, hq2⟩ := List.mem_filter.1 hq
  obtain ⟨p, rfl⟩ : ∃ p : Nat, q = p := ⟨q.toNat, by simp at hq1; omega⟩
  have hb := (Yo _ _).1 hq2
  have hpn : p < n := by
   apply Classical.byContradiction
   intro hge
   have hbit := (h.bit i hi).2
   unfold Fp at hb
   rw [Nat.testBit_lt_two_pow (show (ent x i).need.toNat < 2 ^ p by have : 2 ^ n ≤ 2 ^ p := Nat.pow_le_pow_right (by omega) (by omega); omega)] at hb
   simp at hb
  refine ⟨Pi h hpn hi (by omega) (by omega) hg.tu (by omega), hto hpn ?_⟩
  constructor <;> simp only <;> intro hk <;> first | omega | exact ⟨Int.le_refl _, fun _ => ⟨rfl, h2, hb⟩⟩
 rw [if_neg h2] at hm
 by_cases h3 : (ent x i).phase = 3
 ·rw [if_pos h3] at hm
  rw [List.mem_singleton.1 hm]
  have hw := hg.whor (by show (ent x i).phase ≠ 0; omega)
  simp only [ab] at hw
  obtain ⟨p, hp⟩ : ∃ p : Nat, (ent x i).who = p := ⟨(ent x i).who.toNat, by omega⟩
  have hpn : p < n := by omega
  have hci := h.ci i hi p hpn
  have hcur := hci.cur (by show (ent x i).phase ≠ 0; omega) hp
  rw [hp]
  refine ⟨Pi h hpn hi (by omega) hg.se hg.tu hg.va, hto hpn ?_⟩
  constructor <;> simp only <;> intro hk <;> first | omega | skip
  refine ⟨by have := hcur.1; simp only [ab] at this ⊢; omega, fun e1 e2 => ⟨h3, hp, rfl, ?_, rfl⟩, fun hn' => ?_⟩
  ·simp only [ab]; cases (ent x i).alone <;> simp
  ·rcases hcur.2 with ⟨d1, d2, d3⟩ | ⟨d1, d2, d3, d4⟩
   ·have hal := hg.al
    simp only [ab] at d1 d2 hal
    omega
   ·simp only [ab] at d3 ⊢; omega
 ·rw [if_neg h3] at hm; cases hm
theorem Tb (h : Inv n nl x M) : ∀ (k : Nat) (l : List Entry), x.home.drop k = l → ∀ m ∈ De n k l, Bq (G5 n nl) m = 0 ∧ MX n x m := by
 intro k l
 induction l generalizing k with
 | nil => intro _ m hm; cases hm
 | cons e l ih =>
  intro hd m hm
  have hk : k < x.home.length := by
   apply Classical.byContradiction
   intro hge
   rw [List.drop_of_length_le (by omega)] at hd; cases hd
  rw [List.drop_eq_getElem_cons hk] at hd
  injection hd with he hd
  simp only [De] at hm
  rcases List.mem_append.1 hm with hm | hm
  ·have : ent x k = e := by unfold ent; rw [List.getD_eq_getElem?_getD, List.getElem?_eq_getElem hk, he]; rfl
   rw [← this] at hm
   exact S9 h (by rw [← h.nh]; exact hk) m hm
  ·exact ih (k + 1) hd m (by push_cast; exact hm)
theorem P1 (h : Inv n nl x M) : Inv n nl ⟨x.cores, x.home, way x.frames (Hn x.home n)⟩ M :=
 h.way fun m hm => Tb h 0 x.home rfl m hm
theorem ask_ok (h : Inv n nl x M) {p i : Nat} (hp : p < n) (hi : i < nl) (hw : (lin x i p).want ≠ 0) : Bq (G5 n nl) (Cr (lin x i p) p n i) = 0 ∧ MX n x (Cr (lin x i p) p n i) := by
 have hci := h.ci i hi p hp
 have hwa := hci.wa
 refine ⟨I9 h hp hi (by omega) hci.se ⟨by omega, by omega⟩ (by have := hci.va; split <;> omega), MX.saidSame hp ?_⟩
 constructor <;> simp only <;> intro hk <;> first | exact ⟨Int.le_refl _, fun _ => ⟨trivial, trivial⟩⟩ | exact ⟨Int.le_refl _, fun _ => .inl ⟨trivial, hk, by rw [if_pos hk]⟩⟩ | omega
theorem Qy (h : Inv n nl x M) {p : Nat} (hp : p < n) : ∀ (k : Nat) (l : List Line), (cor x p).lines.drop k = l → ∀ m ∈ C7 p n k l, Bq (G5 n nl) m = 0 ∧ MX n x m := by
 intro k l
 induction l generalizing k with
 | nil => intro _ m hm; cases hm
 | cons e l ih =>
  intro hd m hm
  have hk : k < (cor x p).lines.length := by
   apply Classical.byContradiction
   intro hge
   rw [List.drop_of_length_le (by omega)] at hd; cases hd
  rw [List.drop_eq_getElem_cons hk] at hd
  injection hd with he hd
  have hlin : lin x k p = e := by unfold lin; rw [List.getD_eq_getElem?_getD, List.getElem?_eq_getElem hk, he]; rfl
  simp only [C7] at hm
  split at hm
  ·rename_i hw
   rcases List.mem_cons.1 hm with hm | hm
   ·rw [hm, ← hlin]
    exact ask_ok h hp (by rw [← h.ncl p hp]; exact hk) (by rw [hlin]; exact hw)
   ·exact ih (k + 1) hd m (by push_cast; exact hm)
  ·exact ih (k + 1) hd m (by push_cast; exact hm)
theorem P2 (h : Inv n nl x M) {p : Nat} (hp : p < n) : Inv n nl ⟨x.cores, x.home, way x.frames (D6 (cor x p) p n)⟩ M :=
 h.way fun m hm => Qy h hp 0 _ rfl m hm
theorem Aiw (h : Inv n nl x M) {i : Nat} (hi : i < nl) (e' : Entry) (fr : Frames) : ent ⟨x.cores, x.home.set i e', fr⟩ i = e' := by
 unfold ent
 rw [Df _ _ _ _ _ (by rw [h.nh]; exact hi), if_pos rfl]
theorem Inv.homeSays {i : Nat} {e' : Entry} (h : Inv n nl x M) (hi : i < nl) (hI : Inv n nl ⟨x.cores, x.home.set i e', x.frames⟩ M) : Inv n nl ⟨x.cores, x.home.set i e', Go.Proofs.Ytehpekiedfpnkaa.way x.frames (Gb e' i n)⟩ M := by
 have := S9 hI hi
 rw [Aiw h hi] at this
 exact hI.way this
end
end Go.Proofs.Ytehpekiedfpnkaa
namespace Go.Proofs.Ytehpekiedfpnkaa
open Abs
section
variable {n nl : Nat} {x : Chip} {M : List Int}
theorem Vr (e : Entry) : (ab e).alone = 1 ↔ e.alone = true := by simp only [ab]; cases e.alone <;> simp
theorem S4 (e : Entry) : (ab e).alone = 0 ↔ e.alone = false := by simp only [ab]; cases e.alone <;> simp
theorem Ags {p i : Nat} {m : Msg} (h : Inv n nl x M) (hp : p < n) (hi : i < nl) (hs : m.src = p) (hms : 0 ≤ m.serial ∧ m.serial ≤ 65535) (hM : MI (ab (ent x i)) p (lin x i p) m) (hk : m.kind = 1 ∨ m.kind = 2) (h0 : (ent x i).phase = 0)
  (hl : Dx (ent x i) m.src < m.serial) (ht : (ent x i).turn < 65535) : Inv n nl ⟨x.cores, x.home.set i (K3 (ent x i) m), x.frames⟩ M := by
 have hn := h.n1
 have hb := h.bit i hi
 have hgi := h.gi i hi
 have hlast : (ent x i).last.getD p 0 < m.serial := by unfold Dx at hl; rw [hs, Int.toNat_natCast] at hl; exact hl
 have hla := h.nla i hi
 have hlu : (fun q => ((ent x i).last.set p m.serial).getD q 0) = upd (ab (ent x i)).last p m.serial := by
  funext q; rw [Df _ _ _ _ _ (by rw [hla]; exact hp)]; rfl
 have hclr := Vj (by omega) hb.1 (show p < 4 by omega)
 have hbc := K9 (Mc (by omega) hb.1) (show p < 4 by omega)
 have hal : (if (m.kind == 2) = true then (1 : Int) else 0) = m.kind - 1 := by rcases hk with hk | hk <;> simp [hk]
 unfold K3 Bi
 simp only [hs, Int.toNat_natCast]
 by_cases ho : 0 ≤ (ent x i).owner
 ·rw [if_pos ho]
  refine ZeE ?_
  exact Agy hgi (h.ci i hi) hp hM hk hms h0 hlast ht rfl rfl rfl rfl rfl hal rfl hlu (.inl ⟨ho, rfl, fun q => Fh q⟩)
 ·rw [if_neg ho]
  by_cases hc : (m.kind == 2) = true ∧ Hv (ent x i).sharers p ≠ 0
  ·rw [if_pos hc]
   refine h.home hi (by simpa using hla) ⟨hb.1, hclr⟩ ?_
   refine Agy hgi (h.ci i hi) hp hM hk hms h0 hlast ht rfl rfl rfl rfl rfl hal rfl hlu (.inr (.inl ⟨by simp only [ab]; omega, by simpa using hc.1, rfl, Su (by omega) hclr hc.2, fun q => ?_⟩))
   show Fp (Hv (ent x i).sharers p) q = _
   rw [hbc]; rfl
  ·rw [if_neg hc]
   refine ZeE ?_
   refine Agy hgi (h.ci i hi) hp hM hk hms h0 hlast ht rfl rfl rfl rfl rfl hal rfl hlu (.inr (.inr ⟨by simp only [ab]; omega, rfl, fun q => Fh q, fun hk2 q hq hqp => ?_⟩))
   have hz : Hv (ent x i).sharers p = 0 := Classical.byContradiction fun hz => hc ⟨by simp [hk2], hz⟩
   have := congrFun hbc q
   exact ZgF
theorem Agr {p i : Nat} {m : Msg} (h : Inv n nl x M) (hp : p < n) (hi : i < nl) (hs : m.src = p) (hms : 0 ≤ m.serial ∧ m.serial ≤ 65535) (hmv : 0 ≤ m.value ∧ m.value ≤ 255) (hM : MI (ab (ent x i)) p (lin x i p) m) (hk : m.kind = 3) (h0 : (ent x i).phase = 0) :
  Inv n nl ⟨x.cores, x.home.set i (E1 (ent x i) m), x.frames⟩ M ∧ m.serial ≤ (E1 (ent x i) m).last.getD p 0 := by
 have hb := h.bit i hi
 have hgi := h.gi i hi
 have hla := h.nla i hi
 have hlu : (fun q => ((ent x i).last.set p m.serial).getD q 0) = upd (ab (ent x i)).last p m.serial := by
  funext q; rw [Df _ _ _ _ _ (by rw [hla]; exact hp)]; rfl
 have hlast : Dx (ent x i) m.src = (ent x i).last.getD p 0 := by unfold Dx; rw [hs, Int.toNat_natCast]
 unfold E1
 simp only [hs, Int.toNat_natCast] at hlast ⊢
 rw [hlast]
 by_cases hl : (ent x i).last.getD p 0 < m.serial
 ·rw [if_pos hl]
  by_cases ho : (ent x i).owner = p
  ·rw [if_pos ho]
   refine ⟨h.home hi (by simpa using hla) hb ?_, ?_⟩
   ·exact h_put hgi (h.ci i hi) hp hM hk hmv h0 hl rfl rfl rfl rfl rfl hlu rfl rfl (.inl ⟨ho, rfl, rfl⟩)
   ·exact ZgE
  ·rw [if_neg ho]
   refine ⟨h.home hi (by simpa using hla) hb ?_, ?_⟩
   ·exact h_put hgi (h.ci i hi) hp hM hk hmv h0 hl rfl rfl rfl rfl rfl hlu rfl rfl (.inr ⟨ho, rfl, rfl⟩)
   ·exact ZgE
 ·rw [if_neg hl]
  have : x.home.set i (ent x i) = x.home := F1 _ _ _ (by rw [h.nh]; exact hi)
  rw [this]
  exact ⟨h, by omega⟩
theorem Acg {p i : Nat} {m : Msg} (h : Inv n nl x M) (hp : p < n) (hi : i < nl) (hs : m.src = p) (hmv : 0 ≤ m.value ∧ m.value ≤ 255) (hM : MI (ab (ent x i)) p (lin x i p) m) (hk : m.kind = 9) (h0 : (ent x i).phase = 1) (ht : m.turn = (ent x i).turn) (ho : m.src = (ent x i).owner) :
  Inv n nl ⟨x.cores, x.home.set i (F5 (ent x i) m), x.frames⟩ M := by
 have hn := h.n1
 have hb := h.bit i hi
 have hgi := h.gi i hi
 have hla := h.nla i hi
 have hop : (ent x i).owner = p := by rw [← ho]; exact hs
 have hf := hgi.f1 h0
 have hsh0 : ∀ q, q < n → Fp (ent x i).sharers q = 0 := by
  intro q hq
  have h1 := (h.ci i hi q hq).shs
  have h2 := (h.ci i hi q hq).bits
  simp only [ab] at h1 h2 hf
  omega
 have hz : (ent x i).sharers = 0 := by
  refine N6 (Mc (by omega) hb.1) fun q _ => ?_
  by_cases hq : q < n
  ·exact hsh0 q hq
  ·unfold Fp
   refine Ze9 ?_
   rfl
 have hpos : 0 < 2 ^ n := Nat.two_pow_pos n
 unfold F5 Bi
 simp only
 rw [if_neg (by omega)]
 have hclr0 : ∀ w : Int, Hv 0 w = 0 := by intro w; unfold Hv La; simp
 have hc : ¬ ((ent x i).alone = true ∧ Hv (if (ent x i).alone = true then (ent x i).sharers else I1 (ent x i).sharers (ent x i).owner) (ent x i).who ≠ 0) := by
  rintro ⟨h1, h2⟩
  rw [if_pos h1, hz, hclr0] at h2
  exact h2 rfl
 rw [if_neg hc]
 refine h.home hi hla ⟨?_, ⟨by simp only; omega, by simp only; omega⟩⟩ ?_
 ·simp only
  split
  ·exact hb.1
  ·rw [hop]; exact Aet (by omega) hb.1 hp
 ·refine h_data hgi (h.ci i hi) hp hM hk hmv h0 ht hop rfl rfl (fun q => ?_) rfl rfl rfl rfl rfl rfl (fun q => Fh q)
  show Fp (if (ent x i).alone = true then (ent x i).sharers else I1 (ent x i).sharers (ent x i).owner) q = if q = p ∧ (ab (ent x i)).alone = 0 then 1 else Fp (ent x i).sharers q
  have ha0 := S4 (ent x i)
  have hbs := Sv (Mc (by omega) hb.1) (show p < 4 by omega) q
  rw [hop]
  cases hal : (ent x i).alone with
  | true => rw [hal] at ha0; simp only [Bool.true_eq_false, iff_false] at ha0; simp [ha0]
  | false => rw [hal] at ha0; simp only [iff_true] at ha0; simp [ha0, hbs]
theorem Acf {p i : Nat} {m : Msg} (h : Inv n nl x M) (hp : p < n) (hi : i < nl) (hs : m.src = p) (hM : MI (ab (ent x i)) p (lin x i p) m) (hk : m.kind = 8) (h0 : (ent x i).phase = 2) (ht : m.turn = (ent x i).turn) (ho : La (ent x i).need m.src = true) :
  Inv n nl ⟨x.cores, x.home.set i (if (Co (ent x i) m).need = 0 then Bi (Co (ent x i) m) else Co (ent x i) m), x.frames⟩ M := by
 have hn := h.n1
 have hb := h.bit i hi
 have hgi := h.gi i hi
 have hla := h.nla i hi
 have hnd : Fp (ent x i).need p = 1 := by rw [hs] at ho; exact (Yo _ _).1 ho
 have hc1 := Vj (by omega) hb.1 (show p < 4 by omega)
 have hc2 := Vj (by omega) hb.2 (show p < 4 by omega)
 have hb1 := K9 (Mc (by omega) hb.1) (show p < 4 by omega)
 have hb2 := K9 (Mc (by omega) hb.2) (show p < 4 by omega)
 have hown := hgi.f23 (by show 2 ≤ (ent x i).phase; omega)
 simp only [ab] at hown
 have hal := (hgi.c2 h0).1
 rw [Vr] at hal
 unfold Co
 simp only [hs]
 by_cases hz : Hv (ent x i).need p = 0
 ·rw [if_pos hz]
  have hrest : ∀ q : Nat, q ≠ p → q < n → Fp (ent x i).need q = 0 := by
   intro q hqp hq
   have := congrFun hb2 q
   exact ZgF
  have hpw : (ent x i).who ≠ p := ((h.ci i hi p hp).ned hnd).2.1
  have hsh : ∀ q, q < n → (ent x i).who ≠ q → q ≠ p → Fp (ent x i).sharers q = 0 := by
   intro q hq hqw hqp
   have := (h.ci i hi q hq).cle h0 hqw
   simp only [ab] at this
   rw [← this]; exact hrest q hqp hq
  have hw := hgi.whor (by show (ent x i).phase ≠ 0; omega)
  simp only [ab] at hw
  obtain ⟨w, hw'⟩ : ∃ w : Nat, (ent x i).who = w := ⟨(ent x i).who.toNat, by omega⟩
  have hcc : Hv (Hv (ent x i).sharers p) (ent x i).who = 0 := by
   rw [hw']
   have hc3 := Vj (by omega) hc1 (show w < 4 by omega)
   refine N6 (Mc (by omega) hc3) fun q hq4 => ?_
   rw [K9 (Mc (by omega) hc1) (by omega), hb1]
   unfold upd
   split
   ·rfl
   ·split
    ·rfl
    ·by_cases hq : q < n
     ·exact hsh q hq (by omega) (by assumption)
     ·unfold Fp
      refine Ze9 ?_
      rfl
  have hne : Bi { ent x i with need := Hv (ent x i).need p, sharers := Hv (ent x i).sharers p } = { ent x i with need := 0, sharers := Hv (ent x i).sharers p, phase := 3 } := by
   unfold Bi
   simp only
   rw [if_neg (by omega), if_neg (by rintro ⟨_, h2⟩; exact h2 hcc)]
  rw [hne]
  refine h.home hi hla ⟨hc1, ⟨by simp only; omega, by have : 0 < 2 ^ n := Nat.two_pow_pos n; simp only; omega⟩⟩ ?_
  exact Afd hgi (h.ci i hi) hp hM hk h0 ht hnd rfl rfl hb1 rfl rfl rfl rfl rfl (.inr ⟨rfl, fun q => Fh q, fun q h1 h2 => hrest q h1 h2⟩)
 ·rw [if_neg hz]
  refine h.home hi hla ⟨hc1, hc2⟩ ?_
  exact Afd hgi (h.ci i hi) hp hM hk h0 ht hnd rfl rfl hb1 rfl rfl rfl rfl rfl (.inl ⟨h0, hb2, Su (by omega) hc2 hz⟩)
theorem Wb {p i : Nat} {m : Msg} (h : Inv n nl x M) (hp : p < n) (hi : i < nl) (hs : m.src = p) (hM : MI (ab (ent x i)) p (lin x i p) m) (hk : m.kind = 10) (h0 : (ent x i).phase = 3) (ht : m.turn = (ent x i).turn) (ho : m.src = (ent x i).who) :
  Inv n nl ⟨x.cores, x.home.set i (Di (ent x i)), x.frames⟩ M := by
 have hn := h.n1
 have hb := h.bit i hi
 have hgi := h.gi i hi
 have hla := h.nla i hi
 have hwp : (ent x i).who = p := by rw [← ho]; exact hs
 have hpos : 0 < 2 ^ n := Nat.two_pow_pos n
 unfold Di
 split
 ·rename_i hal
  refine h.home hi hla ⟨⟨by simp only; omega, by simp only; omega⟩, hb.2⟩ ?_
  exact U6 hgi (h.ci i hi) hp hM hk h0 ht hwp rfl rfl rfl rfl rfl rfl rfl (fun q => rfl) (.inl ⟨(Vr _).2 hal, hwp, fun q => Fh q⟩)
 ·rename_i hal
  refine h.home hi hla ⟨by simp only; rw [hwp]; exact Aet (by omega) hb.1 hp, hb.2⟩ ?_
  refine U6 hgi (h.ci i hi) hp hM hk h0 ht hwp rfl rfl rfl rfl rfl rfl rfl (fun q => rfl) (.inr ⟨(S4 _).2 (by simpa using hal), rfl, fun q => ?_⟩)
  show Fp (I1 (ent x i).sharers (ent x i).who) q = _
  rw [hwp, Sv (Mc (by omega) hb.1) (by omega)]; rfl
theorem Rz {p : Nat} {m : Msg} (h : Inv n nl x M) (hp : p < n) (hs : m.src = p) (hd : m.dst = n) (hl : 0 ≤ m.line ∧ m.line < nl) (hr : (0 ≤ m.serial ∧ m.serial ≤ 65535) ∧ (0 ≤ m.turn ∧ m.turn ≤ 65535) ∧ (0 ≤ m.value ∧ m.value ≤ 255)) (hm : MX n x m) :
  Inv n nl ⟨x.cores, (Al x.home n m).1, way x.frames (Al x.home n m).2⟩ M := by
 obtain ⟨i, hi⟩ : ∃ i : Nat, m.line = i := ⟨m.line.toNat, by omega⟩
 have hin : i < nl := by omega
 have hen : Ad x.home m.line = ent x i := by unfold Ad ent; rw [hi, Int.toNat_natCast]
 have hla := h.nla i hin
 have hMI : MI (ab (ent x i)) p (lin x i p) m := by
  unfold MX at hm
  have : Ro n m = p := by unfold Ro; rw [if_pos hd, hs]; simp
  rw [this, hi, Int.toNat_natCast] at hm
  exact hm
 have hsame : x.home.set i (ent x i) = x.home := F1 _ _ _ (by rw [h.nh]; exact hin)
 unfold Al
 rw [hen, if_neg (by rw [h.nh, hla]; omega)]
 simp only [hi, Int.toNat_natCast]
 unfold Ag
 by_cases k1 : m.kind = 1 ∨ m.kind = 2
 ·rw [if_pos k1]
  by_cases hc : (ent x i).phase ≠ 0 ∨ m.serial ≤ Dx (ent x i) m.src ∨ 65535 ≤ (ent x i).turn
  ·rw [if_pos hc]; simp only [way]; rw [hsame]; exact h
  ·rw [if_neg hc, hi]
   exact h.homeSays hin (Ags h hp hin hs hr.1 hMI k1 (by omega) (by omega) (by omega))
 rw [if_neg k1]
 by_cases k3 : m.kind = 3
 ·rw [if_pos k3]
  by_cases hc : (ent x i).phase ≠ 0
  ·rw [if_pos hc]; simp only [way]; rw [hsame]; exact h
  ·rw [if_neg hc]
   obtain ⟨hI, hle⟩ := Agr h hp hin hs hr.1 hr.2.2 hMI k3 (by omega)
   refine hI.way fun m' hm' => ?_
   rw [List.mem_singleton.1 hm', hs, hi]
   refine ⟨Pi h hp hin (by omega) hr.1 (by omega) (by omega), MX.told h hp hin ?_⟩
   constructor <;> simp only <;> intro hk <;> first | omega | exact hle
 rw [if_neg k3]
 by_cases k9 : m.kind = 9 ∧ m.turn = (ent x i).turn ∧ (ent x i).phase = 1 ∧ m.src = (ent x i).owner
 ·rw [if_pos k9, hi]
  exact h.homeSays hin (Acg h hp hin hs hr.2.2 hMI k9.1 k9.2.2.1 k9.2.1 k9.2.2.2)
 rw [if_neg k9]
 by_cases k8 : m.kind = 8 ∧ m.turn = (ent x i).turn ∧ (ent x i).phase = 2 ∧ La (ent x i).need m.src = true
 ·rw [if_pos k8]
  have hI := Acf h hp hin hs hMI k8.1 k8.2.2.1 k8.2.1 k8.2.2.2
  by_cases hz : (Co (ent x i) m).need = 0
  ·rw [if_pos hz] at hI ⊢; rw [hi]; exact h.homeSays hin hI
  ·rw [if_neg hz] at hI ⊢; exact hI
 rw [if_neg k8]
 by_cases k10 : m.kind = 10 ∧ m.turn = (ent x i).turn ∧ (ent x i).phase = 3 ∧ m.src = (ent x i).who
 ·rw [if_pos k10]
  exact Wb h hp hin hs hMI k10.1 k10.2.2.1 k10.2.1 k10.2.2.2
 ·rw [if_neg k10]; simp only [way]; rw [hsame]; exact h
theorem Afh (h : Inv n nl x M) : Aq x = G5 n nl := by unfold Aq G5 Bd; rw [h.nc, h.nh]
theorem Qi {p : Nat} : Ar x p = cor x p := by unfold Ar cor; rw [Int.toNat_natCast]
theorem R3 {b : List UInt8} (h : Inv n nl x M) (hb : b.length = 12 ∧ ∀ m, Af (G5 n nl) b = (m, 0) → MX n x m) :
  ∃ M', Inv n nl (Az x b).1 M' ∧ E7 M (Az x b).2 M' := by
 unfold Az
 rw [Afh h]
 have hnc : Bd x = n := by unfold Bd; rw [h.nc]
 rw [hnc]
 by_cases he : (Af (G5 n nl) b).2 ≠ 0
 ·rw [if_pos he]; exact ⟨M, h, rfl⟩
 rw [if_neg he]
 have hpar : Af (G5 n nl) b = ((Af (G5 n nl) b).1, 0) := by
  have : (Af (G5 n nl) b).2 = 0 := Classical.byContradiction he
  rw [← this]
 have hm := hb.2 _ hpar
 obtain ⟨w1, w2, w3, w4, w5, w6, w7⟩ := Gp (Gs hpar).2.2.2.2.1
 generalize (Af (G5 n nl) b).1 = m at hm w1 w2 w3 w4 w5 w6 w7 ⊢
 simp only [G5] at w2 w3 w7
 by_cases hd : m.dst = (n : Int)
 ·rw [if_pos hd]
  have hs : ¬ m.src = (n : Int) := fun hs => w7 ⟨fun _ => hd, fun _ => hs⟩
  obtain ⟨p, hp⟩ : ∃ p : Nat, m.src = p := ⟨m.src.toNat, by omega⟩
  exact ⟨M, Rz h (by omega) hp hd w3 ⟨w4, w5, w6⟩ hm, rfl⟩
 ·rw [if_neg hd]
  have hs : m.src = (n : Int) := Classical.byContradiction fun hs => w7 ⟨fun h => absurd h hs, fun h => absurd h hd⟩
  obtain ⟨p, hp⟩ : ∃ p : Nat, m.dst = p := ⟨m.dst.toNat, by omega⟩
  rw [hp, Qi]
  exact Ace h (by omega) hp hs w3 ⟨w4, w5, w6⟩ hm
theorem Jk {s : Step} (h : Inv n nl x M) (hok : (Ak x s).2.2 = 0) : ∃ M', Inv n nl (Ak x s).1 M' ∧ E7 M (Ak x s).2.1 M' := by
 have hnc : Bd x = n := by unfold Bd; rw [h.nc]
 have hcf := Afh h
 unfold Ak at hok ⊢
 rw [hnc] at hok ⊢
 rw [hcf] at hok ⊢
 by_cases k1 : s.kind = 1
 ·rw [if_pos k1] at hok ⊢
  split at hok
  ·cases hok
  rename_i hnode
  rw [if_neg hnode]
  obtain ⟨p, hp⟩ : ∃ p : Nat, s.node = p := ⟨s.node.toNat, by omega⟩
  have hpn : p < n := by omega
  rw [hp, Qi] at hok ⊢
  split at hok
  ·rename_i hz; exact absurd hok hz
  rename_i hz
  rw [if_neg hz]
  exact Yh h hpn (Classical.byContradiction hz)
 rw [if_neg k1] at hok ⊢
 by_cases k2 : s.kind = 2
 ·rw [if_pos k2] at hok ⊢
  split at hok
  ·cases hok
  rename_i hf
  rw [if_neg hf]
  exact R3 (h.erase _) (h.mi _ (Kz hf))
 rw [if_neg k2] at hok ⊢
 by_cases k3 : s.kind = 3
 ·rw [if_pos k3] at hok ⊢
  split at hok
  ·cases hok
  rename_i hf
  rw [if_neg hf]
  exact ⟨M, h.erase _, rfl⟩
 rw [if_neg k3] at hok ⊢
 by_cases k4 : s.kind = 4
 ·rw [if_pos k4] at hok ⊢
  split at hok
  ·cases hok
  rename_i hf
  rw [if_neg hf]
  exact ⟨M, h.send (h.mi _ (Kz hf)), rfl⟩
 rw [if_neg k4] at hok ⊢
 by_cases k5 : s.kind = 5
 ·rw [if_pos k5] at hok ⊢
  split at hok
  ·cases hok
  rename_i hf
  rw [if_neg hf]
  split at hok
  ·cases hok
  rename_i hq
  rw [if_neg hq]
  split at hok
  ·rename_i hz; exact absurd hok hz
  rename_i hz
  rw [if_neg hz]
  have hf' : ¬ (s.n < 0 ∨ (x.frames.length : Int) ≤ s.n) := hf
  unfold Br at hz ⊢
  rw [if_neg hf'] at hz ⊢
  split at hz
  ·exact absurd (show (3 : Int) ≠ 0 by decide) hz
  rename_i hbit
  rw [if_neg hbit]
  exact ⟨M, h.spoil hf' (Classical.byContradiction hq) (by omega) (by omega), rfl⟩
 rw [if_neg k5] at hok ⊢
 by_cases k6 : s.kind = 6
 ·rw [if_pos k6] at hok ⊢
  split at hok
  ·cases hok
  rename_i hnode
  rw [if_neg hnode]
  by_cases hh : s.node = (n : Int)
  ·rw [if_pos hh, hh]; exact ⟨M, P1 h, rfl⟩
  ·rw [if_neg hh]
   obtain ⟨p, hp⟩ : ∃ p : Nat, s.node = p := ⟨s.node.toNat, by omega⟩
   rw [hp, Qi]
   exact ⟨M, P2 h (by omega), rfl⟩
 ·rw [if_neg k6] at hok; cases hok
end
end Go.Proofs.Ytehpekiedfpnkaa
namespace Go.Proofs.Ytehpekiedfpnkaa
open Abs
section
variable {n nl : Nat} {x : Chip} {M : List Int}
theorem Gv {α : Type} (k i : Nat) (a d : α) (h : i < k) : (List.replicate k a).getD i d = a := by
 rw [List.getD_eq_getElem?_getD, List.getElem?_replicate, if_pos h]; rfl
theorem J7 {α : Type} (k i : Nat) (a : α) : (List.replicate k a).getD i a = a := by
 rw [List.getD_eq_getElem?_getD, List.getElem?_replicate]; split <;> rfl
def Ew (n nl : Nat) : Chip := ⟨List.replicate n ⟨List.replicate nl zLine, zOp⟩, List.replicate nl { A7 with last := List.replicate n 0 }, []⟩
theorem Nq (hn : 1 ≤ n ∧ n ≤ 4) (hl : 1 ≤ nl ∧ nl ≤ 4) : Inv n nl (Ew n nl) (List.replicate nl 0) := by
 have hcor : ∀ p, p < n → cor (Ew n nl) p = ⟨List.replicate nl zLine, zOp⟩ := fun p hp => Gv _ _ _ _ hp
 have hlin : ∀ i p, i < nl → p < n → lin (Ew n nl) i p = zLine := by
  intro i p hi hp; unfold lin; rw [hcor p hp]; exact Gv _ _ _ _ hi
 have hent : ∀ i, i < nl → ent (Ew n nl) i = { A7 with last := List.replicate n 0 } := fun i hi => Gv _ _ _ _ hi
 have hpos : 0 < 2 ^ n := Nat.two_pow_pos n
 have hM : ∀ i, (List.replicate nl (0 : Int)).getD i 0 = 0 := fun i => J7 _ _ _
 refine ⟨hn, hl, by simp [Ew], by simp [Ew], ?_, ?_, by simp, ?_, ?_, ?_, ?_, ?_, by simp [Ew], ?_⟩
 ·intro p hp; rw [hcor p hp]; simp
 ·intro i hi; rw [hent i hi]; simp
 ·intro i hi; rw [hM]; omega
 ·intro i hi; rw [hent i hi]; simp only [A7]; omega
 ·intro i hi; rw [hent i hi]
  have h1 : ∀ q, Fp 0 q = 0 := fun q => Fh q
  constructor <;> simp only [ab, A7] <;> first | omega | (intro h; omega) | simp
 ·intro i hi p hp
  rw [hent i hi, hlin i p hi hp, hM]
  have h1 : Fp 0 p = 0 := Fh p
  have h2 : (List.replicate n (0 : Int)).getD p 0 = 0 := J7 _ _ _
  constructor <;> simp only [ab, A7, zLine] <;> (try rw [h1]) <;> (try rw [h2]) <;> first | omega | simp
 ·intro p hp
  rw [hcor p hp]
  constructor
  ·intro _; exact ⟨rfl, fun i hi => by rw [Gv _ _ _ _ hi]; rfl⟩
  ·intro h; exact absurd rfl h
 ·intro b hb; cases hb
theorem Ih {c : Config} (h : (A8 c).2 = 0) : ∃ n nl : Nat, (1 ≤ n ∧ n ≤ 4) ∧ (1 ≤ nl ∧ nl ≤ 4) ∧ c = G5 n nl ∧ A8 c = (Ew n nl, 0) := by
 unfold A8 at h ⊢
 split at h
 ·cases h
 rename_i hc
 have hc0 : Dz c = 0 := Classical.byContradiction hc
 unfold Dz at hc0
 split at hc0
 ·cases hc0
 rename_i hr
 refine ⟨c.cores.toNat, c.lines.toNat, by omega, by omega, ?_, ?_⟩
 ·unfold G5; cases c; simp only [Config.mk.injEq]; simp only at hr; omega
 ·rw [if_neg hc]; rfl
theorem K4 {M M' M'' : List Int} : ∀ {a b : List Done}, E7 M a M' → E7 M' b M'' → E7 M (a ++ b) M''
 | [], b, h1, h2 => by rw [show M' = M from h1] at h2; exact h2
 | d :: a, b, ⟨h1, h2, h3, h4, h5⟩, h6 => ⟨h1, h2, h3, h4, K4 h5 h6⟩
theorem Gy : ∀ (l : List Step) {x : Chip} {M : List Int}, Inv n nl x M → ∃ M', Inv n nl (C0 x l).1 M' ∧ E7 M (C0 x l).2 M'
 | [], x, M, h => ⟨M, h, rfl⟩
 | s :: r, x, M, h => by
  simp only [C0]
  split
  ·rename_i hok
   obtain ⟨M1, h1, d1⟩ := Jk h hok
   obtain ⟨M2, h2, d2⟩ := Gy r h1
   exact ⟨M2, h2, K4 d1 d2⟩
  ·exact Gy r h
theorem Nr {c : Config} {l : List Step} (h : (A8 c).2 = 0) : ∃ n nl : Nat, c = G5 n nl ∧ ∃ M, Inv n nl (build c l).1 M ∧ E7 (List.replicate nl 0) (build c l).2 M := by
 obtain ⟨n, nl, h1, h2, h3, h4⟩ := Ih h
 refine ⟨n, nl, h3, ?_⟩
 unfold build
 rw [if_neg (by rw [h]; simp), h4]
 exact Gy _ (Nq h1 h2)
end
set_option maxHeartbeats 1000000
set_option maxRecDepth 8000
variable {L : List Chunk} {R : List Fact} {w : World}
theorem U7 {α : Type} {l : List α} {d : α} {P : α → Prop} (h : ∀ i, i < l.length → P (l.getD i d)) : ∀ x ∈ l, P x := by
 intro x hx
 obtain ⟨i, hi, rfl⟩ := List.getElem_of_mem hx
 have := h i hi
 rwa [List.getD_eq_getElem?_getD, List.getElem?_eq_getElem hi] at this
section
variable {n nl : Nat} {x : Chip} {M : List Int}
open Abs
theorem Inv.kb (h : Inv n nl x M) {p : Nat} (hp : p < n) : KB (cor x p) := by
 have h1 := h.ncl p hp
 have h2 := h.l1
 refine ⟨by omega, fun i hi => (h.ci i (by omega) p hp).va, by rw [h1]; exact h.cw p hp⟩
theorem Inv.eb (h : Inv n nl x M) {i : Nat} (hi : i < nl) : EB (ent x i) := by
 have hg := h.gi i hi
 have hb := h.bit i hi
 have hn := h.n1
 have b1 := Mc hn.2 hb.1
 have b2 := Mc hn.2 hb.2
 have w : 0 ≤ (ent x i).who ∧ (ent x i).who < 4 := by
  by_cases h0 : (ent x i).phase = 0
  ·have := (hg.idle h0).1; simp only [ab] at this; omega
  ·have := hg.whor h0; simp only [ab] at this; omega
 have o := hg.own; have ph := hg.ph; have tu := hg.tu; have va := hg.va; have se := hg.se
 simp only [ab] at o ph tu va se
 unfold EB Entry.wf Ap
 omega
theorem Inv.ebd (h : Inv n nl x M) {i : Nat} (hi : i < nl) : ((ent x i).turn ≤ 65535) ∧ (0 ≤ (ent x i).serial ∧ (ent x i).serial ≤ 65535) ∧ (0 ≤ (ent x i).value ∧ (ent x i).value ≤ 255) := by
 have hg := h.gi i hi
 exact ⟨hg.tu.2, hg.se, hg.va⟩
def LB (l : Line) : Prop := (0 ≤ l.value ∧ l.value ≤ 255) ∧ (0 ≤ l.want ∧ l.want ≤ 3) ∧ (0 ≤ l.serial ∧ l.serial ≤ 65535) ∧ (0 ≤ l.gave ∧ l.gave ≤ 65535) ∧ (0 ≤ l.given ∧ l.given ≤ 255) ∧ (0 ≤ l.seen ∧ l.seen ≤ 65535) ∧ (0 ≤ l.state ∧ l.state ≤ 3)
theorem Inv.lb (h : Inv n nl x M) {i p : Nat} (hi : i < nl) (hp : p < n) : LB (lin x i p) := by
 have hc := h.ci i hi p hp
 have ht := (h.gi i hi).tu
 have h1 := hc.ga
 exact ⟨hc.va, hc.wa, hc.se, by omega, hc.gi, by omega, hc.st⟩
end
theorem Afp {l : Line} (h : LB l) {id home i : Int} (h1 : 0 ≤ id ∧ id ≤ 15) (h2 : 0 ≤ home ∧ home ≤ 15) (h3 : 0 ≤ i ∧ i ≤ 255) : MsgIn (Cr l id home i) := by
 unfold Cr MsgIn; unfold LB at h; simp only; split <;> omega
theorem Ms {kind id home i t v : Int} (h1 : 0 ≤ id ∧ id ≤ 15) (h2 : 0 ≤ home ∧ home ≤ 15) (h3 : 0 ≤ i ∧ i ≤ 255) (hk : 0 ≤ kind ∧ kind ≤ 255) (ht : 0 ≤ t ∧ t ≤ 65535) (hv : 0 ≤ v ∧ v ≤ 255) : MsgIn (Bm kind id home i t v) := by
 unfold Bm MsgIn; simp only; omega
theorem Vm {c : Core} {id home : Int} {o : Op} (h1 : 0 ≤ id ∧ id ≤ 15) (h2 : 0 ≤ home ∧ home ≤ 15) (hl : c.lines.length ≤ 4) (hb : ∀ i, i < c.lines.length → LB (c.lines.getD i zLine)) : ∀ m ∈ (Aj c id home o).2.1, MsgIn m := by
 unfold Aj
 split
 ·intro m hm; cases hm
 split
 ·intro m hm; cases hm
 split
 ·intro m hm; cases hm
 rename_i k1 k2 k3
 split
 ·intro m hm; cases hm
 ·intro m hm
  rw [List.mem_singleton.1 hm]
  have hL : LB (Ac c o.line) := hb o.line.toNat (by omega)
  refine Afp ?_ h1 h2 (by omega)
  unfold LB at hL ⊢
  unfold Ba
  split
  ·split <;> simp only <;> omega
  split
  ·exfalso
   rename_i h3 h4 h5
   apply h3
   unfold Bk
   rw [if_neg h4]
   simp; omega
  ·split <;> simp only <;> omega
theorem Yn {c : Core} {id home : Int} {m : Msg} (h1 : 0 ≤ id ∧ id ≤ 15) (h2 : 0 ≤ home ∧ home ≤ 15) (hl : c.lines.length ≤ 4) (hb : ∀ i, i < c.lines.length → LB (c.lines.getD i zLine)) (ht : 0 ≤ m.turn ∧ m.turn ≤ 65535) : ∀ a ∈ (Ae c id home m).2.1, MsgIn a := by
 unfold Ae
 split
 ·exact Zgl
 rename_i k1
 have hL : LB (Ac c m.line) := hb m.line.toNat (by omega)
 have h3 : 0 ≤ m.line ∧ m.line ≤ 255 := by omega
 unfold LB at hL
 split
 ·exact ZfM
 split
 ·split
  ·exact ZfM
  split
  ·intro a ha; rw [List.mem_singleton.1 ha]; exact Ms h1 h2 h3 (by omega) (by omega) (by omega)
  ·exact Zgl
 split
 ·split
  ·exact Zgl
  split
  ·exact ZfM
  ·exact ZfM
 split
 ·exact Zgl
 ·exact Zgl
theorem says_in {e : Entry} {i id : Int} (he : EB e) (ht : e.turn ≤ 65535) (hs : 0 ≤ e.serial ∧ e.serial ≤ 65535) (hv : 0 ≤ e.value ∧ e.value ≤ 255) (hp : e.phase = 1 → 0 ≤ e.owner) (hi : 0 ≤ i ∧ i ≤ 255) (hd : 0 ≤ id ∧ id ≤ 15) : ∀ a ∈ Gb e i id, MsgIn a := by
 unfold Gb
 unfold EB at he
 split
 ·rename_i h1
  have := hp h1
  intro a ha; rw [List.mem_singleton.1 ha]; unfold MsgIn; simp only; split <;> omega
 split
 ·intro a ha
  obtain ⟨p, hp, rfl⟩ := List.mem_map.1 ha
  have h4 := (List.mem_filter.1 hp).1
  have : 0 ≤ p ∧ p ≤ 3 := by
   simp only [List.mem_cons, List.not_mem_nil, or_false] at h4; omega
  unfold MsgIn; simp only; omega
 split
 ·exact Zhc
 ·exact Zgl
theorem Pz {e : Entry} : (Bi e).phase = 1 → 0 ≤ (Bi e).owner := by
 unfold Bi; split
 ·intro _; assumption
 split
 ·intro h; simp at h
 ·intro h; simp at h
theorem Jw (e : Entry) : (Bi e).turn = e.turn ∧ (Bi e).serial = e.serial ∧ (Bi e).value = e.value ∧ (Bi e).owner = e.owner ∧ (Bi e).last = e.last := by
 unfold Bi; split
 ·simp
 split <;> simp
theorem Nt {l : List Entry} {id : Int} {m : Msg} (hd : 0 ≤ id ∧ id ≤ 15) (hl : l.length ≤ 4) (hb : ∀ i, i < l.length → EB (l.getD i A7) ∧ (l.getD i A7).turn ≤ 65535 ∧ (0 ≤ (l.getD i A7).serial ∧ (l.getD i A7).serial ≤ 65535) ∧ (0 ≤ (l.getD i A7).value ∧ (l.getD i A7).value ≤ 255) ∧ (l.getD i A7).last.length ≤ 4)
  (hs : 0 ≤ m.serial ∧ m.serial ≤ 65535) (hv : 0 ≤ m.value ∧ m.value ≤ 255) : ∀ a ∈ (Al l id m).2, MsgIn a := by
 unfold Al
 split
 ·exact Zgl
 rename_i k
 obtain ⟨h1, h2, h3, h4, h5⟩ := hb m.line.toNat (by omega)
 change EB (Ad l m.line) at h1
 change (Ad l m.line).turn ≤ 65535 at h2
 change 0 ≤ (Ad l m.line).serial ∧ (Ad l m.line).serial ≤ 65535 at h3
 change 0 ≤ (Ad l m.line).value ∧ (Ad l m.line).value ≤ 255 at h4
 change (Ad l m.line).last.length ≤ 4 at h5
 have hi : 0 ≤ m.line ∧ m.line ≤ 255 := by omega
 have hE := h1
 unfold EB Entry.wf Ap at hE
 simp only
 generalize Ad l m.line = e at h1 h2 h3 h4 h5 hE k
 unfold Ag
 split
 ·split
  ·exact Zgl
  ·rename_i k2
   have hX : EB { e with last := e.last.set m.src.toNat m.serial, who := m.src, serial := m.serial, alone := m.kind == 2, turn := e.turn + 1 } := by unfold EB Entry.wf Ap; simp only; omega
   have hr := Jw { e with last := e.last.set m.src.toNat m.serial, who := m.src, serial := m.serial, alone := m.kind == 2, turn := e.turn + 1 }
   simp only at hr
   unfold K3
   exact says_in (Dv hX) (by rw [hr.1]; omega) (by rw [hr.2.1]; exact hs) (by rw [hr.2.2.1]; exact h4) Pz hi hd
 split
 ·split
  ·exact Zgl
  ·exact Zhc
 split
 ·rename_i k3
  have hs4 : 0 ≤ (if e.alone = true then e.sharers else I1 e.sharers e.owner) ∧ (if e.alone = true then e.sharers else I1 e.sharers e.owner) < 16 := by
   split
   ·omega
   ·obtain ⟨_, _, r, _⟩ := Cz hE.2.1.1 hE.2.1.2 (show 0 ≤ e.owner by omega) hE.2.2.2.2.1.2; exact r
  have hX : EB { e with value := m.value, sharers := if e.alone then e.sharers else I1 e.sharers e.owner, owner := -1 } := by
   exact Zg1
  have hr := Jw { e with value := m.value, sharers := if e.alone then e.sharers else I1 e.sharers e.owner, owner := -1 }
  simp only at hr
  unfold F5
  exact says_in (Dv hX) (by rw [hr.1]; exact h2) (by rw [hr.2.1]; exact h3) (by rw [hr.2.2.1]; exact hv) Pz hi hd
 split
 ·split
  ·have c1 := (Cz hE.2.1.1 hE.2.1.2 (show 0 ≤ m.src by omega) (show m.src < 4 by omega)).2.2.2
   have c2 := (Cz hE.2.2.1.1 hE.2.2.1.2 (show 0 ≤ m.src by omega) (show m.src < 4 by omega)).2.2.2
   have hX : EB (Co e m) := by
    unfold Co EB Entry.wf Ap; simp only; omega
   have hr := Jw (Co e m)
   exact says_in (Dv hX) (by rw [hr.1]; exact h2) (by rw [hr.2.1]; exact h3) (by rw [hr.2.2.1]; exact h4) Pz hi hd
  ·exact Zgl
 split
 ·exact Zgl
 ·exact Zgl
theorem Pk {id home : Int} (h1 : 0 ≤ id ∧ id ≤ 15) (h2 : 0 ≤ home ∧ home ≤ 15) : ∀ (l : List Line) (i : Int), 0 ≤ i → i + l.length ≤ 256 → (∀ x ∈ l, LB x) → ∀ a ∈ C7 id home i l, MsgIn a
 | [], _, _, _, _ => fun a ha => by cases ha
 | x :: l, i, h0, hn, hb => by
  intro a ha
  simp only [List.length_cons] at hn
  have ih := Pk h1 h2 l (i + 1) (by omega) (by omega) (fun y hy => hb y (.tail _ hy))
  simp only [C7] at ha
  split at ha
  ·rcases List.mem_cons.1 ha with e | e
   ·rw [e]; exact Afp (hb x (.head _)) h1 h2 (by omega)
   ·exact ih a e
  ·exact ih a ha
theorem Jt : ∀ (a b : List Msg) (f : Frames), way f (a ++ b) = way (way f a) b
 | [], _, _ => rfl
 | _ :: a, b, _ => Jt a b _
theorem Im (id : Int) : ∀ (l : List Entry) (i : Int) (x : Entry), De id i (l ++ [x]) = De id i l ++ Gb x (i + l.length) id
 | [], i, x => by simp [De]
 | a :: l, i, x => by
  have ih := Im id l (i + 1) x
  have e : i + 1 + (l.length : Int) = i + ((a :: l).length : Int) := by simp only [List.length_cons]; omega
  rw [e] at ih
  simp only [List.cons_append, De, ih, List.append_assoc]
theorem Ks {α : Type} {l : List α} {i : Nat} {d : α} : l.set i (l.getD i d) = l := by
 by_cases h : i < l.length
 ·rw [List.getD_eq_getElem?_getD, List.getElem?_eq_getElem h]; exact List.set_getElem_self h
 ·exact List.set_eq_of_length_le (by omega)
theorem q_mx {P : Program} {n : Nat} {L : List Chunk} {R : List Fact} {al : List (Nat × Value)} {d : Nat} {x : Operand} {T ty : TypeId} {pos : String} {aft : Array Edge} {a : Int} (hx : ev n al x = some (vi a)) (h0 : 0 ≤ a) : Bb P n al L R ⟨some d, .call { callee := .builtin .max, args := #[x, .const (.int .i64 0)], argTypes := #[T, T] }, ty, pos, aft, none⟩ (vi a) :=
 ⟨rfl, fun ρ w h _ => by
  have hx' := h x (by simp [Op.operands, Call.operands]) _ hx
  have hc' := h (.const (.int .i64 0)) (by simp [Op.operands, Call.operands]) _ rfl
  simp [execOp, resolve, invoke, builtin, hx', hc', Builtin.max_, Builtin.max2, show ¬ (a < 0) from by omega]⟩
theorem Ais {a : Int} (hs : St (L) R w) (h0 : 0 ≤ a) (h1 : a ≤ 16777216) : Calls Try.prog 97 [vi a].toArray w (Bu (fun v : Value => v) (fun v => row 3 v (List.replicate a.toNat (0 : Int)) :: L) (fun v => R)) := by
 refine Ai Try.func97 rfl Try.ntmps97 rfl hs ?_
 clear hs
 refine ZaS ?_
 refine ob (q_mx (a := a) rfl h0) ?_
 refine Ur (α := Int) (x0 := 0) (zc := [vi 0]) E6 rfl (by decide) rfl rfl rfl (fun j => ⟨rfl, by unfold Ap; omega⟩) h0 h1 ?_; intro v5
 refine Ga1 ?_
 exact Bg v5
theorem Ait {v0 : Value} {m : List Int} {o : Op} (hs : St (L) R w) (h0 : sl v0 m ∈ R) : Calls Try.prog 98 [v0, .agg o.cells.toArray].toArray w (Bu (fun v : Value => .tuple #[v, vi (Cg m o).2.1, vi (Cg m o).2.2]) (fun v => L) (fun v => sl v (Cg m o).1 :: R)) := by
 have hlen := Bj h0 hs
 refine Ai Try.func98 rfl Try.ntmps98 rfl hs ?_
 clear hs
 refine Zah ?_;intro b3
 refine Ga3 ?_
 rcases (show (o.kind < 1) ∨ (¬ o.kind < 1 ∧ 4 < o.kind) ∨ (1 ≤ o.kind ∧ o.kind ≤ 4) from by omega) with hc | hc | hc
 ·refine ZZ ?_
  refine Gd6 ?_
  exact ZgB
 ·refine Zbf ?_
  refine Gd2 ?_
  exact ZgB
 ·refine Zaw ?_
  refine Gc2 ?_
  rcases (show (o.line < 0) ∨ (0 ≤ o.line ∧ (m.length : Int) ≤ o.line) ∨ (0 ≤ o.line ∧ o.line < (m.length : Int) ∧ o.value < 0) ∨ (0 ≤ o.line ∧ o.line < (m.length : Int) ∧ 255 < o.value) ∨ (0 ≤ o.line ∧ o.line < (m.length : Int) ∧ 0 ≤ o.value ∧ o.value ≤ 255) from by omega) with hc | hc | hc | hc | hc
  ·refine ZZ ?_
   refine Gc18 ?_
   exact ZfU
  ·refine Zag ?_
   refine ZO ?_
   refine Hm ?_
   refine Gc12 ?_
   exact ZfU
  ·refine ZbK ?_
   refine ZaD ?_
   refine Gc7 ?_
   exact ZfU
  ·refine ZbK ?_
   refine ZaT ?_
   refine Gc2 ?_
   exact ZfU
  ·refine ZbK ?_
   refine Za0 ?_
   refine Gc2 ?_
   refine JC.rowNil 3 Int ?_
   refine kp [0, 3, 4, 5, 6, 7, 39, 40] ?_
   refine ZC ?_
   refine ap E6 (hb := fun w hs => by have := Bj h0 hs; have : maxN = 16777216 := rfl; simp; omega) (k := ?_); intro v40
   refine Ga1 ?_
   refine JC.open0 (xs := m) (v := v0) o.line.toNat mm (by omega) (fun hw => ?_)
   have hw9 : Ap (m.getD o.line.toNat 0) := hw
   refine Aa ?_
   refine Gb6 ?_
   refine Ga2 ?_
   rcases (show (o.kind = 1) ∨ (o.kind = 2) ∨ (o.kind = 3) ∨ (o.kind = 4) from by omega) with hc | hc | hc | hc
   ·refine Aa ?_
    refine Cj ?_
    refine Gd1 ?_
    refine Ga5 ?_
    have er : Cg m o = (m, m.getD o.line.toNat 0, 0) := by unfold Cg; rw [if_neg (by omega), if_neg (by omega), opv1 hc]; exact congrArg (·, _) Ks
    exact ZfT
   ·refine Aa ?_
    refine ZaA ?_
    refine rn6 ?_
    refine Fa (xs := m) Try.sizeOf3 rfl rfl pkk (getD_some 0 (by omega)) (by unfold Ap at hw9 ⊢; omega) ?_
    refine ZaP ?_
    have er : Cg m o = ((m.set o.line.toNat o.value), 0, 0) := by unfold Cg; rw [if_neg (by omega), if_neg (by omega), opv2 hc]
    exact ZfT
   ·refine Aa ?_
    refine ZH ?_
    refine ZaA ?_
    refine rn6 ?_
    refine ob (Gi (a := m.getD o.line.toNat 0) (b := o.value) Afn) ?_
    refine ob (Gi (b := 255) Aej) ?_
    rw [Ot]
    refine rn1 ?_
    refine Fa (xs := m) Try.sizeOf3 rfl rfl pkk (getD_some 0 (by omega)) (by unfold Ap at hw9 ⊢; omega) ?_
    refine Gm ?_
    refine Ga5 ?_
    have er : Cg m o = ((m.set o.line.toNat ((m.getD o.line.toNat 0 + o.value) % 256)), m.getD o.line.toNat 0, 0) := by unfold Cg; rw [if_neg (by omega), if_neg (by omega), opv3 hc]
    exact ZfT
   ·refine Aa ?_
    refine ZH ?_
    refine ZH ?_
    refine ZH ?_
    refine Ga4 ?_
    have er : Cg m o = (m, 0, 0) := by unfold Cg; rw [if_neg (by omega), if_neg (by omega), opv4 hc]; exact congrArg (·, _) Ks
    exact ZfT
theorem W5 {v0 : Value} {xs : List Line} (hs : St (L) R w) (h0 : sl v0 xs ∈ R) : Calls Try.prog 93 [v0].toArray w (Bu (fun v : Value => v) (fun v => row 82 v xs :: L) (fun v => R)) := by
 refine Ai Try.func93 rfl Try.ntmps93 rfl hs ?_
 clear hs
 refine ZaS ?_
 refine ob (Age Try.underlying55 (Ez h0)) ?_
 refine Gl ?_
 refine Bo (b := ?b1) ?e1 ?_ ?_; case e1 => exact rfl
 ·intro ht4
  refine JC.nilOf ht4 h0 (fun hx => ?_)
  refine ZA ?_
  exact Bg (.slice none 0 0) (hs := fun w hs => by rw [hx]; exact Ah (hs.rowNil 82 Line))
 ·intro ht4
  refine Gm ?_
  refine liO ([] : List Line) Wu rfl (fun j h => Hk) ?_; intro v5
  refine rn1 ?_
  refine ap Wu (hb := fun w hs => by have := Bj h0 hs; have : maxN = 16777216 := rfl; simp; omega) (k := ?_); intro v7
  refine Ga1 ?_
  exact Bg v7
theorem Zo {v0 : Value} {xs : List Int} (hs : St (L) R w) (h0 : sl v0 xs ∈ R) : Calls Try.prog 91 [v0].toArray w (Bu (fun v : Value => v) (fun v => row 3 v xs :: L) (fun v => R)) := by
 refine Ai Try.func91 rfl Try.ntmps91 rfl hs ?_
 clear hs
 refine ZaS ?_
 refine ob (Age Try.underlying68 (Ez h0)) ?_
 refine Gl ?_
 refine Bo (b := ?b1) ?e1 ?_ ?_; case e1 => exact rfl
 ·intro ht4
  refine JC.nilOf ht4 h0 (fun hx => ?_)
  refine ZA ?_
  exact Bg (.slice none 0 0) (hs := fun w hs => by rw [hx]; exact Ah (hs.rowNil 3 Int))
 ·intro ht4
  refine Gm ?_
  refine liO ([] : List Int) E6 rfl (fun j h => Hk) ?_; intro v5
  refine rn1 ?_
  refine ap E6 (hb := fun w hs => by have := Bj h0 hs; have : maxN = 16777216 := rfl; simp; omega) (k := ?_); intro v7
  refine Ga1 ?_
  exact Bg v7
def pr (p : Prop) : Fact := ⟨fun _ => p, fun _ _ _ h => h⟩
theorem St.pr {p : Prop} (h : p) (hs : St L R w) : St L (pr p :: R) w := by
 obtain ⟨m, j, hd, hm, hj, hst, hr⟩ := hs
 exact ⟨m, j, hd, hm, hj, hst, fun q hq => by
  rcases List.mem_cons.1 hq with e | e
  ·rw [e]; exact h
  ·exact hr q e⟩
theorem H8 {p : Prop} (hm : pr p ∈ R) (hs : St L R w) : p := hs.fact hm
theorem J1 {P : Program} {γ δ : Type} {f : FuncId} {args : Array Value} {w : World} {val : γ → Value} {val2 : δ → Value} {L : γ → List Chunk} {R : γ → List Fact} {L2 : δ → List Chunk} {R2 : δ → List Fact} (h : Calls P f args w (Bu val L R)) (hk : ∀ g w', St (L g) (R g) w' → ∃ d, val g = val2 d ∧ St (L2 d) (R2 d) w') : Calls P f args w (Bu val2 L2 R2) := by
 refine h.mono ?_
 rintro e w' ⟨g, rfl, hs'⟩
 obtain ⟨d, h1, h2⟩ := hk g w' hs'
 exact ⟨d, by rw [h1], h2⟩
structure EV where
 e : Entry
 u : Value
instance instEncEV : Enc EV where
 sz := 10
 rd x cs _ := cs = x.e.cells x.u ∧ x.e.wf ∧ x.u.oneCell' = true
 mono _ _ _ _ _ h := h
 len x cs _ h := by rw [h.1]; rfl
 one x cs _ h := by have := h.2.2; rw [h.1]; simp [Entry.cells, Value.oneCell'] at this ⊢; exact this
def J6 (x : EV) : Chunk := row 3 x.u x.e.last
def Aca (x : EV) : Fact := sl x.u x.e.last
theorem Lh {L : List Chunk} {w : World} : ∀ (l : List EV) {R : List Fact}, St (l.map J6 ++ L) R w → St L (l.map Aca ++ R) w
 | [], _, hs => hs
 | x :: l, R, hs => by
  have h1 : St (row 3 x.u x.e.last :: (l.map J6 ++ L)) R w := hs
  have h2 := Lh l h1.shut
  exact h2.sub .refl (fun f hf => by
   simp only [List.map_cons, List.cons_append, List.mem_append, List.mem_cons] at hf ⊢
   rcases hf with e | e | e
   ·exact .inr (.inl e)
   ·exact .inl e
   ·exact .inr (.inr e))
theorem X1 {α : Type} : ∀ (l : List α) (i : Nat) (hi : i < l.length), l.Perm (l[i] :: l.eraseIdx i)
 | x :: l, 0, _ => .refl _
 | x :: l, i + 1, hi => ((X1 l i (by simpa using hi)).cons x).trans (.swap ..)
theorem Aby {l : List EV} {i : Nat} (hi : i < l.length) (hs : St (l.map J6 ++ L) R w) : St (J6 l[i] :: ((l.eraseIdx i).map J6 ++ L)) R w := by
 refine hs.perm ?_
 have h := (X1 l i hi).map J6
 exact h.append_right L
theorem V4 {T : TypeId} {v : Value} {l : List EV} {i : Nat} (hi : i < l.length) (hf : ∀ (k : Nat) x, k ≠ i → l[k]? = some x → Aca x ∈ R) (hs : St (row T v l :: L) R w) : St (foc T v (l.map EV.e) i (Entry.cells l[i].u l[i].e) :: L) R w := by
 obtain ⟨m, j, hd, hm, hj, ⟨m1, m2, hd', h1, h2, hc, hst⟩, hr⟩ := hs
 obtain ⟨rs, r1, r2, r3⟩ := Ld hc
 have hir : i < rs.length := by rw [r2]; exact hi
 refine ⟨m, j, hd, hm, hj, ⟨m1, m2, hd', h1, h2, ⟨rs, r1, by rw [r2]; simp, ⟨rs[i], List.getElem?_eq_getElem hir, ?_⟩, fun k e r hk he hkr => ?_⟩, hst⟩, hr⟩
 ·exact (r3 i l[i] rs[i] (List.getElem?_eq_getElem hi) (List.getElem?_eq_getElem hir)).1
 ·rw [List.getElem?_map] at he
  obtain ⟨x, hx, hxe⟩ := Option.map_eq_some_iff.1 he
  have h3 := r3 k x r hx hkr
  refine ⟨x.u, ?_, ?_, ?_⟩
  ·rw [← hxe]; exact h3.1
  ·rw [← hxe]; exact hr _ (hf k x hk hx)
  ·rw [← hxe]; exact h3.2.1
theorem V5 {T : TypeId} {v : Value} {l : List EV} (hf : ∀ x ∈ l, Aca x ∈ R) (hs : St (row T v l :: L) R w) : St (row T v (l.map EV.e) :: L) R w := by
 obtain ⟨m, j, hd, hm, hj, ⟨m1, m2, hd', h1, h2, hc, hst⟩, hr⟩ := hs
 obtain ⟨rs, r1, r2, r3⟩ := Ld hc
 refine ⟨m, j, hd, hm, hj, ⟨m1, m2, hd', h1, h2, Tj (xs := l.map EV.e) (rs := rs) r1 (by rw [r2]; simp) (fun k e r he hkr => ?_), hst⟩, hr⟩
 exact ZfA
theorem N0 {v : Value} {l : List EV} (hs : St (row 80 v l :: (l.map J6 ++ L)) R w) : St L (sl v (l.map EV.e) :: R) w := by
 have h1 : St (l.map J6 ++ (row 80 v l :: L)) R w := hs.perm List.perm_middle.symm
 have h2 := V5 (fun x hx => List.mem_append.2 (.inl (List.mem_map.2 ⟨x, hx, rfl⟩))) (Lh l h1)
 exact h2.shut.sub .refl (fun f hf => by
  rcases List.mem_cons.1 hf with e | e
  ·exact List.mem_cons.2 (.inl e)
  ·exact List.mem_cons.2 (.inr (List.mem_append.2 (.inr e))))
theorem Kk {v : Value} {l : List EV} {es : List Entry} (i : Nat) (he : l.map EV.e = es) (hi : i < es.length) (hs : St (row 80 v l :: (l.map J6 ++ L)) R w) : ∃ u, (es.getD i A7).wf ∧ u.oneCell' = true ∧ St (foc 80 v es i (Entry.cells u (es.getD i A7)) :: row 3 u (es.getD i A7).last :: L) R w := by
 subst he
 have hil : i < l.length := by simpa using hi
 have e1 : (l.map EV.e).getD i A7 = l[i].e := by rw [List.getD_eq_getElem?_getD, List.getElem?_map, List.getElem?_eq_getElem hil]; rfl
 refine ⟨l[i].u, ?_⟩
 rw [e1]
 have hw : l[i].e.wf ∧ l[i].u.oneCell' = true := by
  obtain ⟨m, j, hd, hm, hj, ⟨m1, m2, hd', h1, h2, hc, hst⟩, hr⟩ := hs
  obtain ⟨rs, r1, r2, r3⟩ := Ld hc
  exact (r3 i l[i] rs[i] (List.getElem?_eq_getElem hil) (List.getElem?_eq_getElem (by rw [r2]; exact hil))).2
 refine ⟨hw.1, hw.2, ?_⟩
 have h1 : St (l.map J6 ++ (row 80 v l :: L)) R w := hs.perm List.perm_middle.symm
 have h2 := Aby hil h1
 have h3 : St ((l.eraseIdx i).map J6 ++ (J6 l[i] :: row 80 v l :: L)) R w := h2.perm List.perm_middle.symm
 have h4 := Lh _ h3
 have h5 : St (row 80 v l :: J6 l[i] :: L) ((l.eraseIdx i).map Aca ++ R) w := h4.perm (.swap ..)
 have h6 := V4 hil (fun k x hk hx => List.mem_append.2 (.inl (List.mem_map.2 ⟨x, ?_, rfl⟩))) h5
 ·exact h6.sub .refl (fun f hf => List.mem_append.2 (.inr hf))
 ·obtain ⟨hkl, hkx⟩ := List.getElem?_eq_some_iff.1 hx
  rw [← hkx]
  exact List.mem_eraseIdx_iff_getElem.2 ⟨k, hkl, hk, rfl⟩
theorem It {v0 : Value} {l : List Entry} (hs : St (L) R w) (h0 : sl v0 l ∈ R) : Calls Try.prog 60 [v0].toArray w (Bu (fun g : Value × List EV => g.1) (fun g => row 80 g.1 g.2 :: (g.2.map J6 ++ L)) (fun g => pr (g.2.map EV.e = l) :: R)) := by
 have hlen := Bj h0 hs
 refine Ai Try.func60 rfl Try.ntmps60 rfl hs ?_
 clear hs
 refine ZP ?_
 refine Za1 ?_
 refine JC.rowNil 80 EV ?_
 refine Bl (γ := Nat × Value × List EV) (fun g => g.1 ≤ l.length ∧ g.2.2.map EV.e = l.take g.1) (fun g => row 80 g.2.1 g.2.2 :: (g.2.2.map J6 ++ L)) (fun _ => R) (fun g => [(3, g.2.1), (6, v0), (7, vi (l.length : Int)), (8, vi (g.1 : Int))]) (fun g => l.length - g.1) (0, .slice none 0 0, []) ⟨Nat.zero_le _, by simp⟩ alT (fun w hs => hs) ?_
 rintro ⟨k, vs, xs⟩ ⟨hk, hx⟩
 try simp only at hk hx ⊢
 have hxl : xs.length = k := by
  have := congrArg List.length hx
  simp at this; omega
 refine ZA ?_
 refine cdy ?_ ?_
 ·intro ht9
  refine Gl ?_
  refine JC.open1 (xs := l) (v := v0) k mm (by omega) (fun hwE u => ?_)
  refine JC.know (p := u.oneCell' = true) (fun w hs => isSlice.one (hs.fact (.tail _ (.head _)))) (fun honeu => ?_)
  refine ZB ?_
  refine al_ (cs := zEC) Try.zeroValue80 ?_; intro b5
  refine s_B (cs := Entry.cells u (l.getD k A7)) Try.sizeOf80 ?_
  refine ZI ?_
  refine Am Try.call91 rfl (fun w hs => Zo (xs := (l.getD k A7).last) hs mm) ?_; intro v14
  refine J.know (p := v14.oneCell' = true) (fun w hs => Cm .hd hs) (fun honev => ?_)
  refine ZK ?_
  refine ZI ?_
  refine li (α := EV) [⟨(l.getD k A7), v14⟩] Sg rfl (fun j hj => ⟨⟨_, rfl, rfl, hwE, honev⟩, trivial⟩) ?_; intro v18
  refine ap Sg (hb := fun w hs => by have : maxN = 16777216 := rfl; simp only [List.length_cons, List.length_nil]; omega) (k := ?_); intro v19
  refine ZF ?_
  refine A6 (k + 1, v19, xs ++ [⟨(l.getD k A7), v14⟩]) ⟨by show k + 1 ≤ l.length; omega, by rw [List.map_append, hx, Fk A7 (by omega)]; rfl⟩ (by show l.length - (k + 1) < l.length - k; omega) alT (fun w hs => ?_)
  try simp only
  have h9 : St (row 80 v19 (xs ++ [⟨(l.getD k A7), v14⟩]) :: row 3 v14 (l.getD k A7).last :: (xs.map J6 ++ L)) R w := Ah hs
  refine h9.perm (.cons _ ?_)
  rw [List.map_append, List.append_assoc]
  exact List.perm_middle.symm
 ·intro ht9
  refine ZD ?_
  have hkl : k = l.length := by omega
  rw [hkl, List.take_length] at hx
  exact Bg (vs, xs) (hs := fun w hs => St.pr hx (Ah hs))
theorem U5 {v0 : Value} {l : List Entry} (hs : St (L) R w) (h0 : sl v0 l ∈ R) : Calls Try.prog 60 [v0].toArray w (Bu (fun v : Value => v) (fun _ => L) (fun v => sl v l :: R)) :=
 J1 (It hs h0) (fun g w' hs' => ⟨g.1, rfl, by
  have h1 : g.2.map EV.e = l := H8 (.head _) hs'
  have h2 := N0 hs'
  rw [h1] at h2
  exact h2.sub .refl (fun f hf => by
   rcases List.mem_cons.1 hf with e | e
   ·exact List.mem_cons.2 (.inl e)
   ·exact List.mem_cons.2 (.inr (.tail _ e)))⟩)
def Kp (s : Int) : Int := if s = 0 then 0 else if s < 2 then 1 else if s < 4 then 2 else if s < 8 then 3 else 4
theorem q_ixS {P : Program} {n : Nat} {L : List Chunk} {R : List Fact} {al : List (Nat × Value)} {d : Nat} {x y : Operand} {T ty : TypeId} {pos : String} {aft : Array Edge} {s : ByteArray} {k : IntKind} {i : Int} {b : UInt8} (ht : P.underlying T = some .string) (hx : ev n al x = some (.string s)) (hy : ev n al y = some (.int k i)) (h0 : 0 ≤ i) (hb : s[i.toNat]? = some b) : Bb P n al L R ⟨some d, .index T x y, ty, pos, aft, none⟩ (vb b) :=
 ⟨rfl, fun ρ w h _ => by
  show (Instr.index T (ρ x) (ρ y) >>= fun v => Pure.pure (Next.value v)).run P w = _
  rw [h x (by simp [Op.operands]) _ hx, h y (by simp [Op.operands]) _ hy]
  simp [Instr.index, asIntOf, C9 ht, h0, hb]⟩
theorem len64 {s : Int} (hs : St (L) R w) (h0 : 0 ≤ s) (h1 : s < 16) : Calls Try.prog 114 [.int .u64 s].toArray w (Bu (fun _ : Unit => vi (Kp s)) (fun _ => L) (fun _ => R)) := by
 refine Ai Try.func114 rfl Try.ntmps114 rfl hs ?_
 clear hs
 refine ZaS ?_
 refine Dq ?_
 refine ZaQ ?_
 refine Dq ?_
 refine ZaQ ?_
 refine Dq ?_
 refine Gmc ?_
 refine rn2 ?_
 refine ob (As (v := .int .u8 s) Try.underlying162 Try.underlying5 rfl (by rcases (show s = 0 ∨ s = 1 ∨ s = 2 ∨ s = 3 ∨ s = 4 ∨ s = 5 ∨ s = 6 ∨ s = 7 ∨ s = 8 ∨ s = 9 ∨ s = 10 ∨ s = 11 ∨ s = 12 ∨ s = 13 ∨ s = 14 ∨ s = 15 by omega) with h | h | h | h | h | h | h | h | h | h | h | h | h | h | h | h <;> subst h <;> rfl)) ?_
 refine ob (q_ixS (b := u8 (Kp s)) Try.underlying9 rfl rfl h0 (by rcases (show s = 0 ∨ s = 1 ∨ s = 2 ∨ s = 3 ∨ s = 4 ∨ s = 5 ∨ s = 6 ∨ s = 7 ∨ s = 8 ∨ s = 9 ∨ s = 10 ∨ s = 11 ∨ s = 12 ∨ s = 13 ∨ s = 14 ∨ s = 15 by omega) with h | h | h | h | h | h | h | h | h | h | h | h | h | h | h | h <;> subst h <;> kernel_rfl)) ?_
 refine ob (As (v := vi (Kp s)) Try.underlying5 Try.underlying3 rfl (by rcases (show s = 0 ∨ s = 1 ∨ s = 2 ∨ s = 3 ∨ s = 4 ∨ s = 5 ∨ s = 6 ∨ s = 7 ∨ s = 8 ∨ s = 9 ∨ s = 10 ∨ s = 11 ∨ s = 12 ∨ s = 13 ∨ s = 14 ∨ s = 15 by omega) with h | h | h | h | h | h | h | h | h | h | h | h | h | h | h | h <;> subst h <;> rfl)) ?_
 refine ob (G1 (a := 0) (b := Kp s) (by exact rfl) (by exact rfl) (by unfold Kp; omega) (by unfold Kp; omega)) ?_
 rw [Int.zero_add]
 refine Ga1 ?_
 exact Bg ()
theorem Ajv {s : Int} (hs : St (L) R w) (h0 : 0 ≤ s) (h1 : s < 16) : Calls Try.prog 112 [.int .u64 s].toArray w (Bu (fun _ : Unit => vi (Kp s)) (fun _ => L) (fun _ => R)) := by
 refine Ai Try.func112 rfl Try.ntmps112 rfl hs ?_
 clear hs
 refine Gm ?_
 refine Gd1 ?_
 refine rn1 ?_
 refine Am Try.call114 rfl (fun w hs => len64 hs h0 h1) ?_; intro _
 refine Ga1 ?_
 exact Bg ()
section
variable {P : Program} {n : Nat} {Q : Exit → Act → World → Prop} {Sh : Rho → (Nat → Bool) → List Chunk} {R0 : List Fact} {al0 : List (Nat × Value)}
variable {ops : Array Oper} {i : Nat} {rest : List Oper} {its : List Item} {d : Nat} {x y : Operand} {T ty : TypeId} {pos : String} {aft : Array Edge}
theorem Yz {γ : Type} [Gh γ] {val : γ → Value} {F : γ → List Fact} {C : γ → List Chunk} {f : FuncId} {args : List Operand} {ts : Array TypeId} {vs : Rho → List Value} (hf : ∀ args w, (callFunc f args).run P w = .ok (.enter f args) w)
  (ha : ∀ ρ, evL n (Eu its al0 ρ) args = some (vs ρ)) (hc : ∀ ρ L' R' w, Deps ops R0 its i ρ R' → St L' R' w → Calls P f (vs ρ).toArray w (Bu val (fun g => C g ++ L') (fun g => F g ++ R'))) (hSh : Ko ops Sh i)
  (k : DJ P n ops Q Sh R0 al0 (i + 1) rest (⟨i, some d, fun ρ => val (Gh.dec (ρ i)), fun ρ => F (Gh.dec (ρ i)), fun ρ => C (Gh.dec (ρ i))⟩ :: its)) :
  DJ P n ops Q Sh R0 al0 i (⟨some d, .call { callee := .value (.func f), args := args.toArray, argTypes := ts }, ty, pos, aft, none⟩ :: rest) its :=
 Ade (C := C) rfl rfl hSh (fun ρ S a L' R' w K h hK => by
  unfold Oper.wp
  rw [K1 hf rfl, Oper.upon_enter, List.map_toArray, Ht h.agree (fun x hx => by simp [Op.operands, Call.operands, hx]) (ha ρ)]
  refine (hc ρ _ _ w ⟨h.base, h.deps⟩ h.st).mono ?_
  rintro e w' ⟨g, rfl, hs'⟩
  exact hK g w' hs') k
end
theorem H4 {u : Value} {c : Core} (hs : St (L) R w) (hu : sl u c.lines ∈ R) : Calls Try.prog 62 [.agg (c.cells u).toArray].toArray w (Bu (fun v : Value => .agg (Core.cells v c).toArray) (fun v => row 82 v c.lines :: L) (fun v => R)) := by
 refine ZaF ?_;intro hone0
 refine Ai Try.func62 rfl Try.ntmps62 rfl hs ?_
 clear hs
 refine Gm ?_
 refine bx ?_; intro b1
 refine al_ (cs := [.slice none 0 0, vi 0, vi 0, vi 0]) Try.zeroValue57 ?_; intro b2
 refine Gl ?_
 refine cq_ (blk b2 57 [.slice none 0 0, vi 0, vi 0, vi 0] :: blk b1 57 (c.cells u) :: L) ?_
 refine jd_ (fun ρ S => blk b2 57 (bif S 6 then [(Gh.dec (γ := Value) (ρ 2)), vi c.wait.kind, vi c.wait.line, vi c.wait.value] else [.slice none 0 0, vi 0, vi 0, vi 0]) :: blk b1 57 (c.cells u) :: L) ?_
 refine dn2 ?_
 refine Yz (γ := Value) (val := fun v => v) (F := fun v => [pr (v.oneCell' = true)]) (C := fun v => [row 82 v c.lines]) Try.call93 (fun _ => rfl) (fun ρ L R w hd hs => J1 (W5 (xs := c.lines) hs (hd.base mm)) (fun v w hs => ⟨v, rfl, St.pr (Cm .hd hs) hs⟩)) (fun ρ g S hS hA => by have u6 : upS S 2 6 = S 6 := rfl; have h6 : S 6 = false := hA 6 ⟨0, rfl⟩; simp only [u6, h6, cond_false]) ?_
 refine dn2 ?_
 refine e_pd (v := fun ρ => .agg ([(Gh.dec (γ := Value) (ρ 2)), vi c.wait.kind, vi c.wait.line, vi c.wait.value]).toArray) (fun ρ S R' L' w hd hs => by have h1 : ((Gh.dec (γ := Value) (ρ 2))).oneCell' = true := hs.fact (hd.dep (it := ⟨2, _, _, _, _⟩) (by repeat (first | exact List.Mem.head _ | refine List.Mem.tail _ ?_)) ⟨9, rfl⟩ (List.Mem.head _)); exact Fz Il) (Ind.gh (h := fun g => Value.agg ([(Gh.dec (γ := Value) g), vi c.wait.kind, vi c.wait.line, vi c.wait.value]).toArray) 2 3 rfl) (fun _ _ _ _ _ => rfl) ?_
 refine es_ 57 0 [] [] (fun ρ => b2) (fun ρ => [.slice none 0 0, vi 0, vi 0, vi 0]) (fun ρ => [(Gh.dec (γ := Value) (ρ 2)), vi c.wait.kind, vi c.wait.line, vi c.wait.value]) Try.sizeOf57 (h1 := (fun ρ R w L' hd hs => Bp (hs.fact (hd.dep (it := ⟨2, _, _, _, _⟩) (by repeat (first | exact List.Mem.head _ | refine List.Mem.tail _ ?_)) ⟨9, rfl⟩ (List.Mem.head _)) : ((Gh.dec (γ := Value) (ρ 2))).oneCell' = true) (by repeat (first | exact D8 | refine Bp rfl ?_)))) ?_
 refine dnl ?_; intro ρ
 refine JX.conseq (L' := row 82 (Gh.dec (γ := Value) (ρ 2)) c.lines :: blk b2 57 [(Gh.dec (γ := Value) (ρ 2)), vi c.wait.kind, vi c.wait.line, vi c.wait.value] :: blk b1 57 (c.cells u) :: L) (fun w hs => Ah hs) ?_
 generalize (Gh.dec (γ := Value) (ρ 2)) = v5
 refine Gl ?_
 exact M9 v5 Try.isAgg57 Try.sizeOf57
theorem F8 {LX : List Chunk} {R : List Fact} {w : World} {vL vo vd : Value} {bk : Nat} {q : Op} {id home : Int} {ms : List Msg} {kind line serial turn value : Int} (hs : St (blk bk 120 [vL, vi q.kind, vi q.line, vi q.value, vi id, vi home, vo, vd] :: row 49 vo ms :: LX) R w) (hn : ms.length ≤ 1000) (hwf : (⟨kind, id, home, line, serial, turn, value, false⟩ : Msg).wf) : Calls Try.prog 104 [bp bk 0, vi kind, vi line, vi serial, vi turn, vi value].toArray w (Bu (fun v : Value => .tuple #[]) (fun v => blk bk 120 [vL, vi q.kind, vi q.line, vi q.value, vi id, vi home, v, vd] :: row 49 v (ms ++ [(⟨kind, id, home, line, serial, turn, value, false⟩ : Msg)]) :: LX) (fun v => R)) := by
 refine Ai Try.func104 rfl Try.ntmps104 rfl hs ?_
 clear hs
 refine cq_ (blk bk 120 [vL, vi q.kind, vi q.line, vi q.value, vi id, vi home, vo, vd] :: row 49 vo ms :: LX) ?_
 refine jd_ (fun ρ S => blk bk 120 (bif S 23 then [vL, vi q.kind, vi q.line, vi q.value, vi id, vi home, (Gh.dec (γ := Value) (ρ 20)), vd] else [vL, vi q.kind, vi q.line, vi q.value, vi id, vi home, vo, vd]) :: (bif S 20 then row 49 (Gh.dec (γ := Value) (ρ 20)) (ms ++ [(⟨kind, id, home, line, serial, turn, value, false⟩ : Msg)]) else row 49 vo ms) :: (LX)) ?_
 refine dn4 ?_
 refine I5 (v := vo) (fun ρ S hS hB hA => by have h23 : S 23 = false := hA 23 ⟨0, rfl⟩; simp only [h23, cond_false]; exact Da (hc := A9 pkk (by repeat (first | exact rfl | refine Dk rfl ?_))) Try.isAgg86) (fun _ _ _ _ _ => rfl) ?_
 refine dn4 ?_
 refine I5 (v := vi id) (fun ρ S hS hB hA => by have h23 : S 23 = false := hA 23 ⟨0, rfl⟩; simp only [h23, cond_false]; exact Da (hc := A9 pkk (by repeat (first | exact rfl | refine Dk rfl ?_))) Try.isAgg3) (fun _ _ _ _ _ => rfl) ?_
 refine dn3 ?_
 refine I5 (v := vi home) (fun ρ S hS hB hA => by have h23 : S 23 = false := hA 23 ⟨0, rfl⟩; simp only [h23, cond_false]; exact Da (hc := A9 pkk (by repeat (first | exact rfl | refine Dk rfl ?_))) Try.isAgg3) (fun _ _ _ _ _ => rfl) ?_
 refine dn4 ?_
 first | refine epc (fun _ _ => Ej En) ?_ | refine epc (fun _ _ => Fz En) ?_ | refine epp (fun _ _ => Ej En) ?_ | refine epp (fun _ _ => Fz En) ?_
 refine F6 ([(⟨kind, id, home, line, serial, turn, value, false⟩ : Msg)] : List Msg) Gd rfl (fun _ => rfl) rfl (fun _ => rfl) rfl rfl (fun ρ R hd => Jf hwf) (fun _ _ _ _ _ => rfl) ?_
 refine F7 (e := 49) (xs := ms) (ys := [(⟨kind, id, home, line, serial, turn, value, false⟩ : Msg)]) (v := vo) Gd (fun _ => rfl) (fun _ => rfl) rfl (by decide) (fun ρ R hd => (hd.dep (it := ⟨19, _, _, _, _⟩) (by repeat (first | exact List.Mem.head _ | refine List.Mem.tail _ ?_)) ⟨9, rfl⟩ (List.Mem.head _))) (by have : maxN = 16777216 := rfl; simp only [List.length_cons, List.length_nil]; omega) (fun ρ g S hS hB hA => ?_) ?_
 ·have ui : upS S 20 20 = true := rfl; have u23 : upS S 20 23 = S 23 := rfl; have h23 : S 23 = false := hA 23 ⟨0, rfl⟩; have rs : (Gh.dec (γ := Value) (Rho.set ρ 20 (Gh.enc g) 20)) = g := rfl
  simp only [ui, hS, u23, h23, rs, cond_true, cond_false]
  exact pex
 refine dn2 ?_
 refine Er (T0 := 120) (f := 6) (vs := fun ρ => [vL, vi q.kind, vi q.line, vi q.value, vi id, vi home, vo, vd]) (v := fun ρ => (Gh.dec (γ := Value) (ρ 20))) (fun ρ => bk) Try.sizeOf86 (fun _ => rfl) (fun _ => rfl) (fun ρ S R w L9 hB hd hs => by have h20 : S 20 = true := hB 20 ⟨9, rfl⟩; simp only [h20, cond_true] at hs; exact Cm pkk hs) (fun _ => rfl) (fun ρ g S hS hB hA => ?_) ?_
 ·have ui : upS S 23 23 = true := rfl; have u20 : upS S 23 20 = S 20 := rfl; have r20 : Rho.set ρ 23 g 20 = ρ 20 := rfl
  simp only [ui, hS, u20, r20, cond_true, cond_false]
  exact pex
 refine dnl ?_; intro ρ
 refine xq_ (blk bk 120 [vL, vi q.kind, vi q.line, vi q.value, vi id, vi home, (Gh.dec (γ := Value) (ρ 20)), vd] :: row 49 (Gh.dec (γ := Value) (ρ 20)) (ms ++ [(⟨kind, id, home, line, serial, turn, value, false⟩ : Msg)]) :: (LX)) ?_
 generalize (Gh.dec (γ := Value) (ρ 19)) = v31
 generalize (Gh.dec (γ := Value) (ρ 20)) = v32
 refine Bs (.inl rfl) (fun B w hs => Ja rfl _ w) (fun w hs => ⟨v32, rfl, Ah hs⟩)
theorem Iq {P : Program} {n : Nat} {Q : Exit → Act → World → Prop} {L : List Chunk} {R : List Fact} {al : List (Nat × Value)} {cd : Code} {v : Value} {x : Chip} (p : Nat) (hm : sl v x.cores ∈ R) (hp : p < x.cores.length) (k : (cor x p).wait.wf → ∀ u, u.oneCell' = true → JC P n cd Q L (cF v 4 p (Core.cells u (cor x p)) :: sl u (cor x p).lines :: R) al) : JC P n cd Q L R al :=
 JC.open1 p hm hp fun hw u => JC.know (p := u.oneCell' = true) (fun w hs => isSlice.one (hs.fact (.tail _ (.head _)))) (k hw u)
theorem Uv {P : Program} {n : Nat} {Q : Exit → Act → World → Prop} {L : List Chunk} {R : List Fact} {al : List (Nat × Value)} {cd : Code} {v : Value} {x : Chip} (i : Nat) (hm : sl v x.home ∈ R) (hi : i < x.home.length) (k : (ent x i).wf → ∀ u, u.oneCell' = true → JC P n cd Q L (cF v 10 i (Entry.cells u (ent x i)) :: sl u (ent x i).last :: R) al) : JC P n cd Q L R al :=
 JC.open1 i hm hi fun hw u => JC.know (p := u.oneCell' = true) (fun w hs => isSlice.one (hs.fact (.tail _ (.head _)))) (k hw u)
section
variable {P : Program} {n : Nat} {Q : Exit → Act → World → Prop} {Sh : Rho → (Nat → Bool) → List Chunk} {R0 : List Fact} {al0 : List (Nat × Value)}
variable {ops : Array Oper} {i : Nat} {rest : List Oper} {its : List Item} {d : Nat} {x y : Operand} {T ty : TypeId} {pos : String} {aft : Array Edge}
theorem Y0 {α : Type} [Enc α] {t e : TypeId} {d sz bytes : Nat} {z : Value} {xs : List α} {ys : Rho → List α} {v : Value} {u : Rho → Value} (he : ElemOf P t e sz z bytes) (hx : ∀ ρ, ev n (Eu its al0 ρ) x = some v) (hy : ∀ ρ, ev n (Eu its al0 ρ) y = some (u ρ)) (hsz : Enc.sz α = sz) (hpos : 0 < sz)
  (hm : ∀ ρ R', Deps ops R0 its i ρ R' → sl (u ρ) (ys ρ) ∈ R') (hb : ∀ ρ, xs.length + (ys ρ).length ≤ maxN)
  (hSh : ∀ ρ (g : Value) S, S i = false → (∀ j, Bef ops j i → S j = true) → (∀ j, Bef ops i j → S j = false) → ∃ L1, (Sh ρ S).Perm (row e v xs :: L1) ∧ (Sh (Rho.set ρ i (Gh.enc g)) (upS S i)).Perm (row e g (xs ++ ys ρ) :: L1))
  (k : DJ P n ops Q Sh R0 al0 (i + 1) rest (⟨i, some d, fun ρ => (Gh.dec (ρ i) : Value), fun _ => [], fun _ => []⟩ :: its)) :
  DJ P n ops Q Sh R0 al0 i (⟨some d, .call { callee := .builtin .append, args := #[x, y], argTypes := #[t, t] }, ty, pos, aft, none⟩ :: rest) its := by
 refine dj ⟨⟨i, some d, fun ρ => (Gh.dec (ρ i) : Value), fun _ => [], fun _ => []⟩, rfl, rfl, Ind.self (h := fun g => (Gh.dec g : Value)), Ind.const _, Ind.const _, ?_, k⟩
 intro ρ S a L' R' w K hS hbef haft hag hdep hbase hst hK
 rw [if_pos (by simp [Region.wanted])]
 left
 unfold Oper.wp
 obtain ⟨L1, p1, _⟩ := hSh ρ undef S hS hbef haft
 have hs' : St (row e v xs :: (L1 ++ L')) R' w := hst.perm (p1.append_right L')
 obtain ⟨v', w', h1, h2⟩ := Lt (ty := ty) he hsz hpos hs' (hm ρ R' ⟨hbase, hdep⟩) (hb ρ)
 have hx' := C2 hag (by simp [Op.operands, Call.operands]) (hx ρ)
 have hy' := C2 hag (by simp [Op.operands, Call.operands]) (hy ρ)
 rw [Ho (w' := w') (v := v') (by rw [hx', hy']; exact h1), Oper.upon_value]
 obtain ⟨L2, q1, q2⟩ := hSh ρ v' S hS hbef haft
 have e2 : (Rho.set ρ i (Gh.enc v')) i = Gh.enc v' := by simp [Rho.set]
 have h3 := h2
 have hL : L1.Perm L2 := (List.perm_cons _).1 (p1.symm.trans q1)
 have := hK (Gh.enc v') w' ((h3.perm ((hL.append_right L').cons _)).perm (by
  refine List.Perm.trans ?_ (q2.symm.append_right L')
  exact List.Perm.refl _))
 simp only [e2, Gh.ok] at this
 exact this
theorem e_litR {α : Type} [Enc α] {t el : TypeId} {sz bytes len : Nat} {z : Value} {parts : List (Nat × Operand)} {vs : Rho → List Value} (xs : Rho → List α) (he : ElemOf P t el sz z bytes) (hsz : Enc.sz α = sz)
  (ha : ∀ ρ, evL n (Eu its al0 ρ) (parts.map (·.2)) = some (vs ρ)) (hidx : parts.map (·.1) = List.range' 0 len) (hlv : ∀ ρ, (vs ρ).length = len) (hsmall : Nat.ble (len * sz) 1000 = true) (hsm2 : Nat.ble len 1000 = true)
  (hrd : ∀ ρ R', Deps ops R0 its i ρ R' → ∀ j, (∀ q ∈ R', q.p j) → RdV (xs ρ) (vs ρ) j) (hxi : Ind ops i xs) (hxs : ∀ ρ g, xs (Rho.set ρ i g) = xs ρ) (hSh : Ko ops Sh i)
  (k : DJ P n ops Q Sh R0 al0 (i + 1) rest (⟨i, some d, fun ρ => (Gh.dec (ρ i) : Value), fun ρ => [sl (Gh.dec (ρ i) : Value) (xs ρ)], fun _ => []⟩ :: its)) :
  DJ P n ops Q Sh R0 al0 i (⟨some d, .buildSlice t len parts.toArray, ty, pos, aft, none⟩ :: rest) its := by
 refine dj ⟨⟨i, some d, fun ρ => (Gh.dec (ρ i) : Value), fun ρ => [sl (Gh.dec (ρ i) : Value) (xs ρ)], fun _ => []⟩, rfl, rfl, Ind.self (h := fun g => (Gh.dec g : Value)), (fun q g ρ hq hn => ?_), Ind.const _, ?_, k⟩
 ·show [sl (Gh.dec ((Rho.set ρ q g) i) : Value) (xs (Rho.set ρ q g))] = [sl (Gh.dec (ρ i) : Value) (xs ρ)]
  rw [hxi q g ρ hq hn]; simp [Rho.set, Ne.symm hq]
 intro ρ S ac L' R' w K hS hbef haft hag hdep hbase hst hK
 rw [if_pos (by simp [Region.wanted])]
 left
 obtain ⟨j, hj, hrj⟩ := hst.ex
 have hrd' := hrd ρ R' ⟨hbase, hdep⟩
 obtain ⟨h1, h2, h3⟩ := (hrd' j hrj).list
 have hlen := hlv ρ
 have hb := Nat.le_of_ble_eq_true hsmall
 have hb2 := Nat.le_of_ble_eq_true hsm2
 have hrun := Hz (vs := vs ρ) he (fun v hv => by rw [h2 v hv, hsz]) (by rw [hlen]; exact hb) w
 have e : (execOp ac.eval ⟨some d, .buildSlice t len parts.toArray, ty, pos, aft, none⟩).run P w = .ok (.value (.slice (some ⟨w.heap.size, 0, none⟩) len len)) (w.alloc (.cells ((vs ρ).flatMap fun v => v.cells.toList).toArray el)) := by
  show (Instr.buildSlice t len (parts.toArray.map fun (i, x) => (i, ac.eval x)) >>= fun v => Pure.pure (Next.value v)).run P w = _
  have hp : (parts.toArray.map fun (i, x) => (i, ac.eval x)) = ((parts.map (·.1)).zip (vs ρ)).toArray := by
   rw [← Ht hag (fun x hx => by simpa [Op.operands] using hx) (ha ρ)]
   simp only [List.map_toArray, List.map_map, List.zip_map', Function.comp_def]
  rw [hp, hidx, Sem.run_bind, ← hlen, hrun]; rfl
 unfold Oper.wp
 rw [e, Oper.upon_value]
 obtain ⟨m, j', hd, hmw, hjw, hst', hr⟩ := hst
 have hnew : St (row el (.slice (some ⟨w.heap.size, 0, none⟩) len len) (xs ρ) :: (Sh ρ S ++ L')) R' (w.alloc (.cells ((vs ρ).flatMap fun v => v.cells.toList).toArray el)) := by
  obtain ⟨g1, g2, g3⟩ := (hrd' j' hr).list
  have hcl : ((vs ρ).flatMap fun v => v.cells.toList).length = len * sz := by rw [g3.len, g1, hlen, hsz]
  exact St.newC hd hmw hjw hst' hr rfl rfl rfl ⟨by rw [g1, hlen]; have : maxN = 16777216 := rfl; omega, .inr ⟨w.heap.size, len, _, _, by rw [g1, hlen], Gt _ _, by rw [g1, hlen]; exact Nat.le_refl _, by unfold maxLen; omega, by rw [hsz]; simpa using hcl, rfl, by
   rw [g1, hlen, hsz, ← hcl, List.toList_toArray, List.take_length]; exact g3⟩⟩
 have e2 : (Rho.set ρ i (Gh.enc (Value.slice (some ⟨w.heap.size, 0, none⟩) len len))) i = Gh.enc (Value.slice (some ⟨w.heap.size, 0, none⟩) len len) := by simp [Rho.set]
 have := hK (Gh.enc (Value.slice (some ⟨w.heap.size, 0, none⟩) len len)) (w.alloc (.cells ((vs ρ).flatMap fun v => v.cells.toList).toArray el))
 simp only [e2, Gh.ok, hxs, hSh ρ _ S hS haft] at this
 exact this hnew.shut
end
structure KV where
 c : Core
 u : Value
instance instEncKV : Enc KV where
 sz := 4
 rd x cs _ := cs = x.c.cells x.u ∧ x.c.wait.wf ∧ x.u.oneCell' = true
 mono _ _ _ _ _ h := h
 len x cs _ h := by rw [h.1]; rfl
 one x cs _ h := by have := h.2.2; rw [h.1]; simp [Core.cells] at this ⊢; refine ⟨this, ?_⟩; simp [Value.oneCell']
def Z8 (x : KV) : Chunk := row 82 x.u x.c.lines
def linF (x : KV) : Fact := sl x.u x.c.lines
theorem Rv {L : List Chunk} {w : World} : ∀ (l : List KV) {R : List Fact}, St (l.map Z8 ++ L) R w → St L (l.map linF ++ R) w
 | [], _, hs => hs
 | x :: l, R, hs => by
  have h1 : St (row 82 x.u x.c.lines :: (l.map Z8 ++ L)) R w := hs
  have h2 := Rv l h1.shut
  exact h2.sub .refl (fun f hf => by
   simp only [List.map_cons, List.cons_append, List.mem_append, List.mem_cons] at hf ⊢
   rcases hf with e | e | e
   ·exact .inr (.inl e)
   ·exact .inl e
   ·exact .inr (.inr e))
theorem V3 {T : TypeId} {v : Value} {l : List KV} (hf : ∀ x ∈ l, linF x ∈ R) (hs : St (row T v l :: L) R w) : St (row T v (l.map KV.c) :: L) R w := by
 obtain ⟨m, j, hd, hm, hj, ⟨m1, m2, hd', h1, h2, hc, hst⟩, hr⟩ := hs
 obtain ⟨rs, r1, r2, r3⟩ := Ld hc
 refine ⟨m, j, hd, hm, hj, ⟨m1, m2, hd', h1, h2, Tj (xs := l.map KV.c) (rs := rs) r1 (by rw [r2]; simp) (fun k e r he hkr => ?_), hst⟩, hr⟩
 exact ZfA
theorem Ajj {cv hv fv : Value} {x : Chip} (hs : St (L) R w) (hcv : sl cv x.cores ∈ R) (hhv : sl hv x.home ∈ R) (hfv : sl fv x.frames ∈ R) (hn4 : x.cores.length ≤ 1000) : Calls Try.prog 22 [.agg #[cv, hv, fv]].toArray w (Bu (fun g : Value × Value × Value × List KV => .agg #[g.1, g.2.1, g.2.2.1]) (fun g => row 57 g.1 g.2.2.2 :: (g.2.2.2.map Z8 ++ L)) (fun g => pr (g.2.2.2.map KV.c = x.cores) :: sl g.2.2.1 x.frames :: sl g.2.1 x.home :: R)) := by
 refine Zbm ?_;intro honec honeh honef
 refine Ai Try.func22 rfl Try.ntmps22 rfl hs ?_
 clear hs
 refine Zbv ?_;intro b1 b2
 refine Gl ?_
 refine cq_ (blk b2 33 [.slice none 0 0, .slice none 0 0, .slice none 0 0] :: blk b1 33 [cv, hv, fv] :: L) ?_
 refine jd_ (fun ρ S => blk b2 33 [.slice none 0 0, .slice none 0 0, .slice none 0 0] :: blk b1 33 [cv, hv, fv] :: ((bif S 7 then [blk (Gh.dec (γ := Nat) (ρ 7)) 33 (bif S 8 then [.slice none 0 0, (Gh.dec (γ := Value) (ρ 2)), (Gh.dec (γ := Value) (ρ 5))] else [.slice none 0 0, .slice none 0 0, .slice none 0 0])] else []) ++ (L))) ?_
 refine dn2 ?_
 refine Cd (γ := Value) (val := fun v => v) (F := fun v => [sl v x.home]) Try.call60 (fun _ => rfl) (fun ρ L R w hd hs => U5 (l := x.home) hs (hd.base mm)) (fun ρ g S hS hA => by have u7 : upS S 2 7 = S 7 := rfl; have u8 : upS S 2 8 = S 8 := rfl; have r5 : Rho.set ρ 2 g 5 = ρ 5 := rfl; have r7 : Rho.set ρ 2 g 7 = ρ 7 := rfl; have h8 : S 8 = false := hA 8 ⟨0, rfl⟩; simp only [u7, u8, r5, r7, h8, cond_false]) ?_
 refine dn2 ?_
 refine Cd (γ := Value) (val := fun v => v) (F := fun v => [sl v x.frames]) Try.call61 (fun _ => rfl) (fun ρ L R w hd hs => frz (Uz (l := x.frames) hs (hd.base mm))) (fun ρ g S hS hA => by have u7 : upS S 5 7 = S 7 := rfl; have u8 : upS S 5 8 = S 8 := rfl; have r2 : Rho.set ρ 5 g 2 = ρ 2 := rfl; have r7 : Rho.set ρ 5 g 7 = ρ 7 := rfl; have h8 : S 8 = false := hA 8 ⟨0, rfl⟩; simp only [u7, u8, r2, r7, h8, cond_false]) ?_
 refine e_pd (v := fun ρ => .agg ([.slice none 0 0, (Gh.dec (γ := Value) (ρ 2)), (Gh.dec (γ := Value) (ρ 5))]).toArray) (fun ρ S R' L' w hd hs => by have h1 : ((Gh.dec (γ := Value) (ρ 2))).oneCell' = true := isSlice.one (hs.fact (hd.dep (it := ⟨2, _, _, _, _⟩) (by repeat (first | exact List.Mem.head _ | refine List.Mem.tail _ ?_)) ⟨9, rfl⟩ (List.Mem.head _))); have h2 : ((Gh.dec (γ := Value) (ρ 5))).oneCell' = true := isSlice.one (hs.fact (hd.dep (it := ⟨5, _, _, _, _⟩) (by repeat (first | exact List.Mem.head _ | refine List.Mem.tail _ ?_)) ⟨9, rfl⟩ (List.Mem.head _))); exact Fz H7) (Ind.gh2 (h := fun g g' => Value.agg ([.slice none 0 0, (Gh.dec (γ := Value) g), (Gh.dec (γ := Value) g')]).toArray) 2 5 3 rfl rfl) (fun _ _ _ _ _ => rfl) ?_
 refine Hq (cs := [.slice none 0 0, .slice none 0 0, .slice none 0 0]) Try.zeroValue33 rfl (fun ρ b S hS hA => ?_) ?_
 ·have ui : upS S 7 7 = true := rfl; have u8 : upS S 7 8 = S 8 := rfl; have r2 : Rho.set ρ 7 (Gh.enc b) 2 = ρ 2 := rfl; have r5 : Rho.set ρ 7 (Gh.enc b) 5 = ρ 5 := rfl; have h8 : S 8 = false := hA 8 ⟨0, rfl⟩; have rs : (Gh.dec (γ := Nat) (Rho.set ρ 7 (Gh.enc b) 7)) = b := rfl
  simp only [ui, hS, u8, r2, r5, h8, rs, cond_true, cond_false, List.nil_append]
  exact Zfb
 refine es_ 33 0 [7] [] (fun ρ => (Gh.dec (γ := Nat) (ρ 7))) (fun ρ => [.slice none 0 0, .slice none 0 0, .slice none 0 0]) (fun ρ => [.slice none 0 0, (Gh.dec (γ := Value) (ρ 2)), (Gh.dec (γ := Value) (ρ 5))]) Try.sizeOf33 (h1 := (fun ρ R w L' hd hs => Bp rfl (Bp (isSlice.one (hs.fact (hd.dep (it := ⟨2, _, _, _, _⟩) (by repeat (first | exact List.Mem.head _ | refine List.Mem.tail _ ?_)) ⟨9, rfl⟩ (List.Mem.head _)))) (Bp (isSlice.one (hs.fact (hd.dep (it := ⟨5, _, _, _, _⟩) (by repeat (first | exact List.Mem.head _ | refine List.Mem.tail _ ?_)) ⟨9, rfl⟩ (List.Mem.head _)))) D8)))) ?_
 refine dnl ?_; intro ρ
 refine xq_ (blk b2 33 [.slice none 0 0, .slice none 0 0, .slice none 0 0] :: blk b1 33 [cv, hv, fv] :: (blk (Gh.dec (γ := Nat) (ρ 7)) 33 [.slice none 0 0, (Gh.dec (γ := Value) (ρ 2)), (Gh.dec (γ := Value) (ρ 5))] :: L)) ?_
 generalize (Gh.dec (γ := Value) (ρ 2)) = v8
 generalize (Gh.dec (γ := Value) (ρ 5)) = v11
 generalize (Gh.dec (γ := Nat) (ρ 7)) = b3
 refine ZaP ?_
 refine JC.rowNil 57 KV ?_
 refine Bl (γ := Nat × Value × List KV) (fun g => g.1 ≤ x.cores.length ∧ g.2.2.map KV.c = x.cores.take g.1) (fun g => row 57 g.2.1 g.2.2 :: blk b3 33 [g.2.1, v8, v11] :: blk b2 33 [.slice none 0 0, .slice none 0 0, .slice none 0 0] :: blk b1 33 [cv, hv, fv] :: (g.2.2.map Z8 ++ L)) (fun _ => sl v11 x.frames :: sl v8 x.home :: R) (fun g => [(2, bp b2 0), (3, bp b3 0), (14, cv), (15, vi (x.cores.length : Int)), (16, vi (g.1 : Int))]) (fun g => x.cores.length - g.1) (0, .slice none 0 0, []) ⟨Nat.zero_le _, by simp⟩ alT (fun w hs => Ah hs) ?_
 rintro ⟨k, vs, xs⟩ ⟨hk, hxc⟩
 try simp only at hk hxc ⊢
 have hxl : xs.length = k := by
  have := congrArg List.length hxc
  simp at this; omega
 refine ZA ?_
 refine cdy ?_ ?_
 ·intro ht17
  refine Gl ?_
  refine Iq k (v := cv) mm (by omega) (fun hwp up honep => ?_)
  refine ZB ?_
  refine al_ (cs := [.slice none 0 0, vi 0, vi 0, vi 0]) Try.zeroValue57 ?_; intro b5
  refine s_B (cs := Core.cells up (cor x k)) Try.sizeOf57 ?_
  refine Gl ?_
  refine cq_ (blk b3 33 [vs, v8, v11] :: row 57 vs xs :: blk b5 57 (Core.cells up (cor x k)) :: blk b2 33 [.slice none 0 0, .slice none 0 0, .slice none 0 0] :: blk b1 33 [cv, hv, fv] :: (xs.map Z8 ++ L)) ?_
  refine jd_ (fun ρ S => blk b3 33 (bif S 7 then [(Gh.dec (γ := Value) (ρ 5)), v8, v11] else [vs, v8, v11]) :: (bif S 5 then row 57 (Gh.dec (γ := Value) (ρ 5)) (xs ++ [(⟨cor x k, (Gh.dec (γ := Value) (ρ 3))⟩ : KV)]) else row 57 vs xs) :: blk b5 57 (Core.cells up (cor x k)) :: blk b2 33 [.slice none 0 0, .slice none 0 0, .slice none 0 0] :: blk b1 33 [cv, hv, fv] :: ((xs.map Z8 ++ L))) ?_
  refine dn1 ?_
  refine I5 (v := vs) (fun ρ S hS hB hA => by have h7 : S 7 = false := hA 7 ⟨0, rfl⟩; simp only [h7, cond_false]; exact Da (hc := A9 pkk (by repeat (first | exact rfl | refine Dk rfl ?_))) Try.isAgg29) (fun _ _ _ _ _ => rfl) ?_
  refine dn1 ?_
  refine Yz (γ := Value) (val := fun v => .agg (Core.cells v (cor x k)).toArray) (F := fun v => [pr (v.oneCell' = true)]) (C := fun v => [row 82 v (cor x k).lines]) Try.call62 (fun _ => rfl) (fun ρ L R w hd hs => J1 (H4 (u := up) (c := cor x k) hs (hd.base mm)) (fun v w hs => ⟨v, rfl, St.pr (Cm .hd hs) hs⟩)) (fun ρ g S hS hA => by have u5 : upS S 3 5 = S 5 := rfl; have u7 : upS S 3 7 = S 7 := rfl; have r5 : Rho.set ρ 3 g 5 = ρ 5 := rfl; have h5 : S 5 = false := hA 5 ⟨0, rfl⟩; simp only [u5, u7, r5, h5, cond_false]) ?_
  refine e_litR (fun ρ => [(⟨cor x k, (Gh.dec (γ := Value) (ρ 3))⟩ : KV)]) Si rfl (fun _ => rfl) rfl (fun _ => rfl) rfl rfl (fun ρ R hd j hj => ⟨⟨_, rfl, rfl, hwp, hj (pr (((Gh.dec (γ := Value) (ρ 3))).oneCell' = true)) (hd.dep (it := ⟨3, _, _, _, _⟩) (by repeat (first | exact List.Mem.head _ | refine List.Mem.tail _ ?_)) ⟨9, rfl⟩ (List.Mem.head _))⟩, trivial⟩) (Ind.gh (h := fun g => [(⟨cor x k, Gh.dec (γ := Value) g⟩ : KV)]) 3 0 rfl) (fun _ _ => rfl) (fun _ _ _ _ _ => rfl) ?_
  refine Y0 (e := 57) (xs := xs) (ys := fun ρ => [(⟨cor x k, (Gh.dec (γ := Value) (ρ 3))⟩ : KV)]) (v := vs) Si (fun _ => rfl) (fun _ => rfl) rfl (by decide) (fun ρ R hd => (hd.dep (it := ⟨4, _, _, _, _⟩) (by repeat (first | exact List.Mem.head _ | refine List.Mem.tail _ ?_)) ⟨9, rfl⟩ (List.Mem.head _))) (fun _ => by have : maxN = 16777216 := rfl; simp only [List.length_cons, List.length_nil]; omega) (fun ρ g S hS hB hA => ?_) ?_
  ·have ui : upS S 5 5 = true := rfl; have u7 : upS S 5 7 = S 7 := rfl; have r3 : Rho.set ρ 5 (Gh.enc g) 3 = ρ 3 := rfl; have h7 : S 7 = false := hA 7 ⟨0, rfl⟩; have rs : (Gh.dec (γ := Value) (Rho.set ρ 5 (Gh.enc g) 5)) = g := rfl
   simp only [ui, hS, u7, r3, h7, rs, cond_true, cond_false]
   exact pex
  refine dn1 ?_
  refine Er (T0 := 33) (f := 0) (vs := fun ρ => [vs, v8, v11]) (v := fun ρ => (Gh.dec (γ := Value) (ρ 5))) (fun ρ => b3) Try.sizeOf29 (fun _ => rfl) (fun _ => rfl) (fun ρ S R w L9 hB hd hs => by have h5 : S 5 = true := hB 5 ⟨9, rfl⟩; simp only [h5, cond_true] at hs; exact Cm pkk hs) (fun _ => rfl) (fun ρ g S hS hB hA => ?_) ?_
  ·have ui : upS S 7 7 = true := rfl; have u5 : upS S 7 5 = S 5 := rfl; have r3 : Rho.set ρ 7 g 3 = ρ 3 := rfl; have r5 : Rho.set ρ 7 g 5 = ρ 5 := rfl
   simp only [ui, hS, u5, r3, r5, cond_true, cond_false]
   exact pex
  refine dnl ?_; intro ρ
  refine JX.conseq (L' := row 82 (Gh.dec (γ := Value) (ρ 3)) (cor x k).lines :: blk b3 33 [(Gh.dec (γ := Value) (ρ 5)), v8, v11] :: row 57 (Gh.dec (γ := Value) (ρ 5)) (xs ++ [(⟨cor x k, (Gh.dec (γ := Value) (ρ 3))⟩ : KV)]) :: blk b5 57 (Core.cells up (cor x k)) :: blk b2 33 [.slice none 0 0, .slice none 0 0, .slice none 0 0] :: blk b1 33 [cv, hv, fv] :: ((xs.map Z8 ++ L))) (fun w hs => Ah hs) ?_
  generalize (Gh.dec (γ := Value) (ρ 3)) = v23
  generalize (Gh.dec (γ := Value) (ρ 4)) = v24
  generalize (Gh.dec (γ := Value) (ρ 5)) = v25
  refine ZD ?_
  refine A6 (k + 1, v25, xs ++ [⟨cor x k, v23⟩]) ⟨by show k + 1 ≤ x.cores.length; omega, by rw [List.map_append, hxc, Fk E8 (by omega)]; rfl⟩ (by show x.cores.length - (k + 1) < x.cores.length - k; omega) alT (fun w hs => ?_)
  try simp only
  have h9 : St (row 57 v25 (xs ++ [⟨cor x k, v23⟩]) :: blk b3 33 [v25, v8, v11] :: blk b2 33 [.slice none 0 0, .slice none 0 0, .slice none 0 0] :: blk b1 33 [cv, hv, fv] :: row 82 v23 (cor x k).lines :: (xs.map Z8 ++ L)) (sl v11 x.frames :: sl v8 x.home :: R) w := Ah hs
  refine h9.perm (.cons _ (.cons _ (.cons _ (.cons _ ?_))))
  rw [List.map_append, List.append_assoc]
  exact List.perm_middle.symm
 ·intro ht17
  refine Gl ?_
  refine JC.know (p := vs.oneCell' = true) (fun w hs => Cm .hd hs) (fun hone5 => ?_)
  refine JC.know (p := v8.oneCell' = true ∧ v11.oneCell' = true) (fun w hs => ⟨isSlice.one (hs.fact (.tail _ (.head _))), isSlice.one (hs.fact (.head _))⟩) (fun h12 => ?_)
  obtain ⟨hone1, hone2⟩ := h12
  refine ZC ?_
  refine s_B (cs := [vs, v8, v11]) Try.sizeOf33 ?_
  refine Gl ?_
  have hkl : k = x.cores.length := by omega
  rw [hkl, List.take_length] at hxc
  exact M9 (vs, v8, v11, xs) Try.isAgg33 Try.sizeOf33 (hs := fun w hs => St.pr hxc (Ah hs))
theorem H2 {v0 : Value} {b : List UInt8} (hs : St L R w) (h0 : sl v0 b ∈ R) : Calls Try.prog 99 [v0].toArray w (Bu (fun _ : Unit => vi (Ik b)) (fun _ => L) (fun _ => R)) := by
 have hlen := Bj h0 hs
 refine Ai Try.func99 rfl Try.ntmps99 rfl hs ?_
 clear hs
 repeat refine Bt ?_
 refine ZaR ?_
 repeat refine Bt ?_
 refine ZaR ?_
 repeat refine Bt ?_
 refine Zds ?_
 repeat refine Bt ?_
 refine Ed ?_
 refine Bl (γ := Nat) (fun k => k ≤ b.length) (fun _ => L) (fun _ => R) (fun k => [(0, v0), (6, v0), (7, vi (b.length : Int)), (8, vi (k : Int)), (3, vi ((Lb b k).toNat : Int))]) (fun k => b.length - k) 0 (by omega) ⟨rfl, rfl, rfl, rfl, rfl, trivial⟩ (fun w hs => hs) ?_
 intro k hk
 repeat refine Bt ?_
 refine ZbZ ?_
 repeat refine Bt ?_
 refine Bo rfl (fun ht9 => ?_) (fun ht9 => ?_)
 ·
  try simp only [decide_eq_true_eq, decide_eq_false_iff_not, beq_iff_eq, bne_iff_ne, beq_eq_false_iff_ne, bne_eq_false_iff_eq, Int.not_lt, Int.not_le, Bool.not_eq_true, ne_eq, Bool.not_eq_eq_eq_not, Bool.not_true, Bool.not_false] at ht9
  refine ZaO ?_
  repeat refine Bt ?_
  refine Ed ?_
  repeat refine Bt ?_
  refine Aa ?_
  first | refine Hx C4 rfl rfl (by first | exact D3 pkk | exact Ez mm) (by first | assumption | omega | (simp only [List.length_nil, List.length_cons, List.length_append, List.length_take, List.length_drop, List.length_set, List.length_replicate]; omega)) ?_ | refine Hl C4 rfl rfl (by first | exact D3 pkk | exact Ez mm) (by first | assumption | omega | (simp only [List.length_nil, List.length_cons, List.length_append, List.length_take, List.length_drop, List.length_set, List.length_replicate]; omega)) (by first | assumption | omega | (simp only [List.length_nil, List.length_cons, List.length_append, List.length_take, List.length_drop, List.length_set, List.length_replicate]; omega)) ?_
  first | refine Io Try.isAgg5 rfl (A9 pkk (by exact rfl)) ?_ | refine Io Try.isAgg5 rfl (J4 pkk (by first | assumption | omega | (simp only [List.length_nil, List.length_cons, List.length_append, List.length_take, List.length_drop, List.length_set, List.length_replicate]; omega))) ?_ | refine Io Try.isAgg5 rfl (Mq mm (by first | assumption | omega | (simp only [List.length_nil, List.length_cons, List.length_append, List.length_take, List.length_drop, List.length_set, List.length_replicate]; omega))) ?_
  refine Zar ?_
  repeat refine Bt ?_
  refine ZQ ?_
  refine Bw rfl ?_
  refine r_p (As Try.underlying5 Try.underlying3 rfl (Bf _)) rfl ?_
  refine Pt rfl rfl (Zw (s := 8) (by omega) (by have := (b.getD k 0).toNat_lt; omega)) ?_
  refine Ep rfl rfl (Vn (lt63 _) (by have := (b.getD k 0).toNat_lt; omega)) ?_
  refine Zar ?_
  repeat refine Bt ?_
  refine ZQ ?_
  refine Zaq ?_
  refine Ed ?_
  refine Bl (γ := Nat) (fun j => j ≤ 8) (fun _ => L) (fun _ => R) (fun j => [(0, v0), (6, v0), (7, vi (b.length : Int)), (8, vi (k : Int)), (17, vi (j : Int)), (3, vi ((Iy j (Lb b k ^^^ (El (b.getD k 0) <<< 8))).toNat : Int))]) (fun j => 8 - j) 0 (by omega) ⟨rfl, rfl, rfl, rfl, rfl, congrArg (fun z : Nat => some (vi (z : Int))) (crc_in _ _), trivial⟩ (fun w hs => hs) ?_
  intro j hj
  generalize hx : Iy j (Lb b k ^^^ (El (b.getD k 0) <<< 8)) = x
  have hcb : Iy (j + 1) (Lb b k ^^^ (El (b.getD k 0) <<< 8)) = I4 x := by rw [← hx]; rfl
  repeat refine Bt ?_
  refine ZbZ ?_
  repeat refine Bt ?_
  refine Bo rfl (fun ht18 => ?_) (fun ht18 => ?_)
  ·
   try simp only [decide_eq_true_eq, decide_eq_false_iff_not, beq_iff_eq, bne_iff_ne, beq_eq_false_iff_ne, bne_eq_false_iff_eq, Int.not_lt, Int.not_le, Bool.not_eq_true, ne_eq, Bool.not_eq_eq_eq_not, Bool.not_true, Bool.not_false] at ht18
   refine ZaO ?_
   repeat refine Bt ?_
   refine Ed ?_
   repeat refine Bt ?_
   refine ZQ ?_
   refine Ep rfl rfl (Vo (b := 32768) (lt63 _) (by omega)) ?_
   refine Ep rfl rfl Zx ?_
   refine Zaq ?_
   repeat refine Bt ?_
   refine Bo rfl (fun ht21 => ?_) (fun ht21 => ?_)
   ·
    try simp only [decide_eq_true_eq, decide_eq_false_iff_not, beq_iff_eq, bne_iff_ne, beq_eq_false_iff_ne, bne_eq_false_iff_eq, Int.not_lt, Int.not_le, Bool.not_eq_true, ne_eq, Bool.not_eq_eq_eq_not, Bool.not_true, Bool.not_false] at ht21
    replace ht21 : x.toNat &&& 32768 ≠ 0 := by intro h; apply ht21; rw [h]; rfl
    refine ZQ ?_
    refine Pt rfl rfl (Zw (s := 1) (by omega) (by have := x.isLt; omega)) ?_
    refine Ep rfl rfl (Vn (b := 4129) (by have := x.isLt; omega) (by omega)) ?_
    refine Zar ?_
    refine ZQ ?_
    refine Ep rfl rfl (Vo (b := 65535) (Ul (by have := x.isLt; omega) (by omega)) (by omega)) ?_
    refine Zbs ?_
    refine Zb7 ?_
    refine A6 (j + 1) (by omega) (by omega) ⟨rfl, rfl, rfl, rfl, rfl, ?_, trivial⟩ (fun w hs => hs)
    rw [hcb]; exact congrArg (fun z : Nat => some (vi (z : Int))) (crc_hi x ht21)
   ·
    try simp only [decide_eq_true_eq, decide_eq_false_iff_not, beq_iff_eq, bne_iff_ne, beq_eq_false_iff_ne, bne_eq_false_iff_eq, Int.not_lt, Int.not_le, Bool.not_eq_true, ne_eq, Bool.not_eq_eq_eq_not, Bool.not_true, Bool.not_false] at ht21
    replace ht21 : x.toNat &&& 32768 = 0 := by omega
    refine ZQ ?_
    refine Pt rfl rfl (Zw (s := 1) (by omega) (by have := x.isLt; omega)) ?_
    refine Zar ?_
    refine ZQ ?_
    refine Ep rfl rfl (Vo (b := 65535) (by have := x.isLt; omega) (by omega)) ?_
    refine Zbs ?_
    refine Zb7 ?_
    refine A6 (j + 1) (by omega) (by omega) ⟨rfl, rfl, rfl, rfl, rfl, ?_, trivial⟩ (fun w hs => hs)
    rw [hcb]; exact congrArg (fun z : Nat => some (vi (z : Int))) (crc_lo x ht21)
  ·
   try simp only [decide_eq_true_eq, decide_eq_false_iff_not, beq_iff_eq, bne_iff_ne, beq_eq_false_iff_ne, bne_eq_false_iff_eq, Int.not_lt, Int.not_le, Bool.not_eq_true, ne_eq, Bool.not_eq_eq_eq_not, Bool.not_true, Bool.not_false] at ht18
   refine H1 ?_
   repeat (first | refine D9 ?_ | refine E5 rfl ?_)
   refine Eb ?_
   refine Zb7 ?_
   refine A6 (k + 1) (by omega) (by omega) ⟨rfl, rfl, rfl, rfl, ?_, trivial⟩ (fun w hs => hs)
   have h8 : j = 8 := by omega
   subst h8
   rw [Ox (by omega), ← hx]; rfl
 ·
  try simp only [decide_eq_true_eq, decide_eq_false_iff_not, beq_iff_eq, bne_iff_ne, beq_eq_false_iff_ne, bne_eq_false_iff_eq, Int.not_lt, Int.not_le, Bool.not_eq_true, ne_eq, Bool.not_eq_eq_eq_not, Bool.not_true, Bool.not_false] at ht9
  refine H1 ?_
  repeat (first | refine D9 ?_ | refine E5 rfl ?_)
  refine Eb ?_
  refine Ax ?_
  repeat refine Bt ?_
  refine ZbJ ?_
  repeat (first | refine Ev ?_ | refine Ea ?_)
  have hkl : k = b.length := by omega
  subst hkl
  rw [Aer]
  refine Bs (.inr rfl) (fun B w _ => Aew rfl rfl B w) (fun w hs => ⟨(), ?_, Ah hs⟩)
  rfl
theorem Jc {v0 : Value} {b : List UInt8} (hs : St L R w) (h0 : sl v0 b ∈ R) : Calls Try.prog 63 [v0].toArray w (Bu (fun _ : Unit => vi (Ik b)) (fun _ => L) (fun _ => R)) := by
 have hlen := Bj h0 hs
 refine Ai Try.func63 rfl Try.ntmps63 rfl hs ?_
 clear hs
 repeat refine Bt ?_
 refine ZaR ?_
 repeat refine Bt ?_
 refine ZaR ?_
 repeat refine Bt ?_
 refine Zds ?_
 repeat refine Bt ?_
 refine Ed ?_
 refine Bl (γ := Nat) (fun k => k ≤ b.length) (fun _ => L) (fun _ => R) (fun k => [(0, v0), (9, v0), (10, vi (b.length : Int)), (11, vi (k : Int)), (3, vi ((Lb b k).toNat : Int))]) (fun k => b.length - k) 0 (by omega) ⟨rfl, rfl, rfl, rfl, rfl, trivial⟩ (fun w hs => hs) ?_
 intro k hk
 repeat refine Bt ?_
 refine ZbZ ?_
 repeat refine Bt ?_
 refine Bo rfl (fun ht12 => ?_) (fun ht12 => ?_)
 ·
  try simp only [decide_eq_true_eq, decide_eq_false_iff_not, beq_iff_eq, bne_iff_ne, beq_eq_false_iff_ne, bne_eq_false_iff_eq, Int.not_lt, Int.not_le, Bool.not_eq_true, ne_eq, Bool.not_eq_eq_eq_not, Bool.not_true, Bool.not_false] at ht12
  refine ZaO ?_
  repeat refine Bt ?_
  refine Ed ?_
  repeat refine Bt ?_
  refine Aa ?_
  first | refine Hx C4 rfl rfl (by first | exact D3 pkk | exact Ez mm) (by first | assumption | omega | (simp only [List.length_nil, List.length_cons, List.length_append, List.length_take, List.length_drop, List.length_set, List.length_replicate]; omega)) ?_ | refine Hl C4 rfl rfl (by first | exact D3 pkk | exact Ez mm) (by first | assumption | omega | (simp only [List.length_nil, List.length_cons, List.length_append, List.length_take, List.length_drop, List.length_set, List.length_replicate]; omega)) (by first | assumption | omega | (simp only [List.length_nil, List.length_cons, List.length_append, List.length_take, List.length_drop, List.length_set, List.length_replicate]; omega)) ?_
  first | refine Io Try.isAgg5 rfl (A9 pkk (by exact rfl)) ?_ | refine Io Try.isAgg5 rfl (J4 pkk (by first | assumption | omega | (simp only [List.length_nil, List.length_cons, List.length_append, List.length_take, List.length_drop, List.length_set, List.length_replicate]; omega))) ?_ | refine Io Try.isAgg5 rfl (Mq mm (by first | assumption | omega | (simp only [List.length_nil, List.length_cons, List.length_append, List.length_take, List.length_drop, List.length_set, List.length_replicate]; omega))) ?_
  refine Zar ?_
  repeat refine Bt ?_
  refine ZaR ?_
  refine Ed ?_
  refine Bl (γ := Nat) (fun j => j ≤ 8) (fun _ => L) (fun _ => R) (fun j => [(0, v0), (9, v0), (10, vi (b.length : Int)), (11, vi (k : Int)), (5, vb (b.getD k 0)), (6, vi (7 - (j : Int))), (3, vi ((Je (b.getD k 0) j (Lb b k)).toNat : Int))]) (fun j => 8 - j) 0 (by omega) ⟨rfl, rfl, rfl, rfl, rfl, rfl, rfl, trivial⟩ (fun w hs => hs) ?_
  intro j hj
  generalize hx : Je (b.getD k 0) j (Lb b k) = x
  repeat refine Bt ?_
  refine ZQ ?_
  refine Ep rfl rfl Qr ?_
  refine Zaq ?_
  repeat refine Bt ?_
  refine Bo rfl (fun ht16 => ?_) (fun ht16 => ?_)
  ·
   try simp only [decide_eq_true_eq, decide_eq_false_iff_not, beq_iff_eq, bne_iff_ne, beq_eq_false_iff_ne, bne_eq_false_iff_eq, Int.not_lt, Int.not_le, Bool.not_eq_true, ne_eq, Bool.not_eq_eq_eq_not, Bool.not_true, Bool.not_false] at ht16
   refine ZaO ?_
   repeat refine Bt ?_
   refine Ed ?_
   repeat refine Bt ?_
   obtain ⟨q, hq⟩ : ∃ q : Nat, 7 - (j : Int) = (q : Int) := ⟨7 - j, by omega⟩
   have hq2 : q = 7 - j := by omega
   rw [hq]
   refine ZQ ?_
   refine r_p (As Try.underlying5 Try.underlying3 rfl (Bf _)) rfl ?_
   refine Bw rfl ?_
   refine Pt rfl rfl (b_shr (by omega) (by omega)) ?_
   rw [Int.toNat_natCast, show ((b.getD k 0).toNat : Int) / 2 ^ q = ((((b.getD k 0).toNat : Int) / 2 ^ q).toNat : Int) from (Int.toNat_of_nonneg (Int.ediv_nonneg (by omega) (Int.pow_nonneg (by omega)))).symm]
   refine Ep rfl rfl (Vo (b := 1) (by have := (b.getD k 0).toNat_lt; have h1 := Int.ediv_le_self (a := ((b.getD k 0).toNat : Int)) (2 ^ q) (by omega); omega) (by omega)) ?_
   rw [Aam _ _ (by omega)]
   refine Zar ?_
   repeat refine Bt ?_
   refine ZQ ?_
   refine Ep rfl rfl (b_quo (by decide) (by rw [Te]; split <;> omega) (by rw [Te]; split <;> omega)) ?_
   rw [Te]
   refine Zar ?_
   repeat refine Bt ?_
   refine ZQ ?_
   refine Ep rfl rfl b_mulw ?_
   refine Ep rfl rfl (Aeg (by decide) (by rw [Tf]; omega) (by rw [Tf]; have := (x <<< 1).isLt; omega)) ?_
   rw [Tf]
   refine Zar ?_
   repeat refine Bt ?_
   refine ZQ ?_
   refine Bw rfl ?_
   refine Ep rfl rfl Zx ?_
   refine Zaq ?_
   refine Bo rfl (fun ht31 => ?_) (fun ht31 => ?_)
   ·
    try simp only [decide_eq_true_eq, decide_eq_false_iff_not, beq_iff_eq, bne_iff_ne, beq_eq_false_iff_ne, bne_eq_false_iff_eq, Int.not_lt, Int.not_le, Bool.not_eq_true, ne_eq, Bool.not_eq_eq_eq_not, Bool.not_true, Bool.not_false] at ht31
    replace ht31 : (x.msb ^^ (b.getD k 0).toBitVec.getLsbD (7 - j)) = true := by rw [← hq2]; generalize b.getD k 0 = c at ht31 ⊢; cases h1 : x.msb <;> cases h2 : c.toBitVec.getLsbD q <;> simp [h1, h2] at ht31 ⊢
    refine ZQ ?_
    refine Ep rfl rfl (Vn (b := 4129) (lt63 _) (by omega)) ?_
    refine Zbs ?_
    refine E0 ?_
    refine Ax ?_
    refine ZQ ?_
    refine Ep rfl rfl (Zu (by omega) (by omega)) ?_
    refine Zbs ?_
    refine A6 (j + 1) (by omega) (by omega) ⟨rfl, rfl, rfl, rfl, rfl, ?_, ?_, trivial⟩ (fun w hs => hs)
    ·exact Zg4
    rw [Ly, hx]
    exact congrArg (fun z : Nat => some (vi (z : Int))) (by rw [Afz]; unfold O7; rw [if_pos ht31])
   ·
    try simp only [decide_eq_true_eq, decide_eq_false_iff_not, beq_iff_eq, bne_iff_ne, beq_eq_false_iff_ne, bne_eq_false_iff_eq, Int.not_lt, Int.not_le, Bool.not_eq_true, ne_eq, Bool.not_eq_eq_eq_not, Bool.not_true, Bool.not_false] at ht31
    replace ht31 : (x.msb ^^ (b.getD k 0).toBitVec.getLsbD (7 - j)) = false := by rw [← hq2]; generalize b.getD k 0 = c at ht31 ⊢; cases h1 : x.msb <;> cases h2 : c.toBitVec.getLsbD q <;> simp [h1, h2] at ht31 ⊢
    refine Fw ?_
    refine E0 ?_
    refine Ax ?_
    refine ZQ ?_
    refine Ep rfl rfl (Zu (by omega) (by omega)) ?_
    refine Zbs ?_
    refine A6 (j + 1) (by omega) (by omega) ⟨rfl, rfl, rfl, rfl, rfl, ?_, ?_, trivial⟩ (fun w hs => hs)
    ·exact Zg4
    rw [Ly, hx]
    exact congrArg (fun z : Nat => some (vi (z : Int))) (by unfold O7; rw [if_neg (by rw [ht31]; decide), BitVec.xor_zero])
  ·
   try simp only [decide_eq_true_eq, decide_eq_false_iff_not, beq_iff_eq, bne_iff_ne, beq_eq_false_iff_ne, bne_eq_false_iff_eq, Int.not_lt, Int.not_le, Bool.not_eq_true, ne_eq, Bool.not_eq_eq_eq_not, Bool.not_true, Bool.not_false] at ht16
   refine H1 ?_
   repeat (first | refine D9 ?_ | refine E5 rfl ?_)
   refine Eb ?_
   refine Zb7 ?_
   refine A6 (k + 1) (by omega) (by omega) ⟨rfl, rfl, rfl, rfl, ?_, trivial⟩ (fun w hs => hs)
   have h8 : j = 8 := by omega
   subst h8
   rw [Ox (by omega), T3, hx]; rfl
 ·
  try simp only [decide_eq_true_eq, decide_eq_false_iff_not, beq_iff_eq, bne_iff_ne, beq_eq_false_iff_ne, bne_eq_false_iff_eq, Int.not_lt, Int.not_le, Bool.not_eq_true, ne_eq, Bool.not_eq_eq_eq_not, Bool.not_true, Bool.not_false] at ht12
  refine H1 ?_
  repeat (first | refine D9 ?_ | refine E5 rfl ?_)
  refine Eb ?_
  refine Ax ?_
  repeat refine Bt ?_
  refine ZbJ ?_
  repeat (first | refine Ev ?_ | refine Ea ?_)
  have hkl : k = b.length := by omega
  subst hkl
  rw [Aer]
  refine Bs (.inr rfl) (fun B w _ => Aew rfl rfl B w) (fun w hs => ⟨(), ?_, Ah hs⟩)
  rfl
theorem Aan {c : Config} {m : Msg} (hs : St (L) R w) (hcw : c.wf) (hm : m.wf) : Calls Try.prog 64 [.agg c.cells.toArray, .agg m.cells.toArray].toArray w (Bu (fun _ : Unit => vi (Bq c m)) (fun _ => L) (fun _ => R)) := by
 refine Ai Try.func64 rfl Try.ntmps64 rfl hs ?_
 clear hs
 refine Zay ?_;intro b2
 refine bx ?_; intro b3
 refine Ga1 ?_
 rcases (show (m.kind < 1) ∨ (¬ m.kind < 1 ∧ 11 < m.kind) ∨ (1 ≤ m.kind ∧ m.kind ≤ 11) from by omega) with hc | hc | hc
 ·refine ZZ ?_
  refine Gd5 ?_
  refine Ga1 ?_
  exact Zgn
 ·refine Zbf ?_
  refine Gd1 ?_
  refine Ga1 ?_
  exact Zgn
 ·refine Zaw ?_
  refine Gd1 ?_
  refine rn4 ?_
  refine ZbV ?_
  refine rn4 ?_
  refine ZbV ?_
  refine rn2 ?_
  refine ZbV ?_
  refine rn2 ?_
  refine ZbV ?_
  refine rn2 ?_
  refine ZbV ?_
  refine li (α := Int × Int) [(m.src, c.cores), (m.dst, c.cores), (m.serial, 65535), (m.turn, 65535), (m.value, 255)] eo_142 rfl (fun j hj => ⟨⟨_, rfl, rfl, hm.2.1, hcw.1⟩, ⟨_, rfl, rfl, hm.2.2.1, hcw.1⟩, ⟨_, rfl, rfl, hm.2.2.2.2.1, by unfold Ap; simp only; omega⟩, ⟨_, rfl, rfl, hm.2.2.2.2.2.1, by unfold Ap; simp only; omega⟩, ⟨_, rfl, rfl, hm.2.2.2.2.2.2, by unfold Ap; simp only; omega⟩, trivial⟩) ?_; intro v34
  have hxl : ([(m.src, c.cores), (m.dst, c.cores), (m.serial, 65535), (m.turn, 65535), (m.value, 255)] : List (Int × Int)).length = 5 := rfl
  generalize hxs : ([(m.src, c.cores), (m.dst, c.cores), (m.serial, 65535), (m.turn, 65535), (m.value, 255)] : List (Int × Int)) = xs at hxl ⊢
  refine Ga2 ?_
  refine Bl (γ := Nat) (fun k => k ≤ 5 ∧ (0 < k → ¬ (m.line < 0 ∨ c.lines ≤ m.line)) ∧ ∀ i, i < k → ¬ ((xs.getD i (0, 0)).1 < 0 ∨ (xs.getD i (0, 0)).2 < (xs.getD i (0, 0)).1)) (fun _ => blk b3 49 m.cells :: blk b2 23 c.cells :: L) (fun _ => sl v34 xs :: R) (fun k => [(2, bp b2 0), (3, bp b3 0), (34, v34), (35, vi (5 : Int)), (36, vi (k : Int))]) (fun k => 5 - k) 0 ⟨by omega, fun h => by omega, fun i hi => by omega⟩ ⟨rfl, rfl, rfl, congrArg (fun z : Nat => some (vi (z : Int))) hxl, rfl, trivial⟩ (fun w hs => Ah hs) ?_
  rintro k ⟨hk, hkl, hkx⟩
  refine Gl ?_
  refine kp [2, 3, 4, 34, 35, 36, 37] ?_
  refine ZX ?_
  refine cdy ?_ ?_
  ·intro ht37
   refine Gl ?_
   refine JC.open0 (xs := xs) (v := v34) k mm (by omega) (fun hpw => ?_)
   refine ZB ?_
   refine al_ (cs := [vi 0, vi 0]) Try.zeroValue141 ?_; intro b6
   refine s_B (cs := [vi (xs.getD k (0, 0)).1, vi (xs.getD k (0, 0)).2]) Try.sizeOf141 ?_
   refine Gl ?_
   refine Zdo ?_
   refine Ds 61 (.bool (decide (((xs.getD k (0, 0)).1 < 0) ∨ ((xs.getD k (0, 0)).2 < (xs.getD k (0, 0)).1) ∨ (m.line < 0) ∨ (c.lines ≤ m.line)))) ?_ ?_
   ·rcases (show (((xs.getD k (0, 0)).1 < 0)) ∨ (¬ ((xs.getD k (0, 0)).1 < 0) ∧ ((xs.getD k (0, 0)).2 < (xs.getD k (0, 0)).1)) ∨ (¬ ((xs.getD k (0, 0)).1 < 0) ∧ ¬ ((xs.getD k (0, 0)).2 < (xs.getD k (0, 0)).1) ∧ (m.line < 0)) ∨ (¬ ((xs.getD k (0, 0)).1 < 0) ∧ ¬ ((xs.getD k (0, 0)).2 < (xs.getD k (0, 0)).1) ∧ ¬ (m.line < 0) ∧ (c.lines ≤ m.line)) ∨ (¬ ((xs.getD k (0, 0)).1 < 0) ∧ ¬ ((xs.getD k (0, 0)).2 < (xs.getD k (0, 0)).1) ∧ ¬ (m.line < 0) ∧ ¬ (c.lines ≤ m.line)) from by omega) with hm | hm | hm | hm | hm
    ·refine Aa ?_
     refine ZcP ?_
     refine D2 ?_
     refine Ga19 ?_
     exact Zfa
    ·refine Zcq ?_
     refine G3 ?_
     refine Ga13 ?_
     exact Zfa
    ·refine Zdo ?_
     refine Zcq ?_
     refine Ei ?_
     refine ZaD ?_
     refine Ga8 ?_
     exact Zfa
    ·refine Zcq ?_
     refine Ei ?_
     refine ZG ?_
     refine Bh ?_
     refine ZaL ?_
     refine Ga1 ?_
     exact Zfa
    ·refine Zdo ?_
     refine Zcq ?_
     refine Ei ?_
     refine ZG ?_
     refine ZaX ?_
     refine Ga1 ?_
     exact Zfc
   ·refine Ax ?_
    first | (refine cdx (p := ?p2) (hd := ?d2) ?e2 ?_ ?_; case e2 => exact rfl) | (refine Bo (b := ?b2) ?e2 ?_ ?_; case e2 => exact rfl)
    ·intro ht61
     refine ZA ?_
     have hr : m.src < 0 ∨ c.cores < m.src ∨ m.dst < 0 ∨ c.cores < m.dst ∨ m.line < 0 ∨ c.lines ≤ m.line ∨ m.serial < 0 ∨ 65535 < m.serial ∨ m.turn < 0 ∨ 65535 < m.turn ∨ m.value < 0 ∨ 255 < m.value := by
      subst hxs
      have hk5 : k = 0 ∨ k = 1 ∨ k = 2 ∨ k = 3 ∨ k = 4 := by omega
      rcases hk5 with rfl | rfl | rfl | rfl | rfl <;> simp only [List.getD_cons_zero, List.getD_cons_succ] at ht61 <;> omega
     have er : Bq c m = 3 := by unfold Bq; rw [if_neg (by omega), if_pos hr]
     exact ZfO
    ·intro ht61
     refine ZD ?_
     refine A6 (k + 1) ⟨by omega, fun _ => by omega, fun i hi => ?_⟩ (by omega) alT (fun w hs => Ah hs)
     by_cases hik : i = k
     ·subst hik; omega
     ·exact hkx i (by omega)
  ·intro ht37
   refine Gl ?_
   refine Zeg ?_
   refine Ds 88 (.bool (decide (m.src = c.cores ↔ m.dst = c.cores))) ?_ ?_
   ·rcases (show (m.src = c.cores ∧ m.dst = c.cores) ∨ (m.src = c.cores ∧ m.dst ≠ c.cores) ∨ (m.src ≠ c.cores ∧ m.dst = c.cores) ∨ (m.src ≠ c.cores ∧ m.dst ≠ c.cores) from by omega) with hm | hm | hm | hm
    ·refine ZE ?_
     refine Cj ?_
     refine ZO ?_
     refine Cj ?_
     refine Ga15 ?_
     exact Zfa
    ·refine ZE ?_
     refine Cj ?_
     refine ZO ?_
     refine Av ?_
     refine rn6 ?_
     refine gy ?_
     refine Ib ?_
     refine Ga8 ?_
     exact Zfc
    ·refine Zeg ?_
     refine ZbX ?_
     refine Ia ?_
     refine ZO ?_
     refine Ib ?_
     refine Ga2 ?_
     exact Zfc
    ·refine ZbX ?_
     refine Ia ?_
     refine ZO ?_
     refine Ia ?_
     refine Ga2 ?_
     exact Zfa
   ·refine Ax ?_
    refine Gl ?_
    first | (refine cdx (p := ?p3) (hd := ?d3) ?e3 ?_ ?_; case e3 => exact rfl) | (refine Bo (b := ?b3) ?e3 ?_ ?_; case e3 => exact rfl)
    ·intro ht88
     refine Gl ?_
     refine kp [4] ?_
     refine ZX ?_
     have hk5 : k = 5 := by omega
     subst hk5
     have hl := hkl (by omega)
     subst hxs
     have q0 := hkx 0 (by omega)
     have q1 := hkx 1 (by omega)
     have q2 := hkx 2 (by omega)
     have q3 := hkx 3 (by omega)
     have q4 := hkx 4 (by omega)
     simp only [List.getD_cons_zero, List.getD_cons_succ] at q0 q1 q2 q3 q4
     refine Zeu ?_;intro hr
     have er : Bq c m = 6 := by unfold Bq; rw [if_neg (by omega), if_neg hr, if_pos ht88]
     exact ZfO
    ·intro ht88
     refine Gl ?_
     refine kp [4] ?_
     refine ZX ?_
     have hk5 : k = 5 := by omega
     subst hk5
     have hl := hkl (by omega)
     subst hxs
     have q0 := hkx 0 (by omega)
     have q1 := hkx 1 (by omega)
     have q2 := hkx 2 (by omega)
     have q3 := hkx 3 (by omega)
     have q4 := hkx 4 (by omega)
     simp only [List.getD_cons_zero, List.getD_cons_succ] at q0 q1 q2 q3 q4
     refine Zeu ?_;intro hr
     have er : Bq c m = 0 := by unfold Bq; rw [if_neg (by omega), if_neg hr, if_neg ht88]
     exact ZfO
theorem Abb {m : Msg} (hs : St (L) R w) (hin : MsgIn m) : Calls Try.prog 84 [.agg m.cells.toArray].toArray w (Bu (fun v : Value => v) (fun v => L) (fun v => sl v (Ce m) :: R)) := by
 obtain ⟨k0, k1, k2, k3, k4, k5, k6⟩ := hin
 refine Ai Try.func84 rfl Try.ntmps84 rfl hs ?_
 clear hs
 refine Gm ?_
 refine bx ?_; intro b1
 refine Gb1 ?_
 refine ZF ?_
 refine Bo (b := ?b1) ?e1 ?_ ?_; case e1 => exact rfl
 ·intro ht9
  refine Aa ?_
  refine Gb1 ?_
  refine Gb1 ?_
  refine Afy ?_
  refine Zcu ?_
  refine rn2 ?_
  refine Zcu ?_
  refine rn3 ?_
  refine li (α := Int) ([m.kind, 16 * m.src + m.dst, m.line, m.serial / 256, m.serial % 256, m.turn / 256, m.turn % 256, m.value, 1, 0] : List Int) E6 rfl (fun j hj => ⟨⟨_, rfl, rfl, by unfold Ap; omega⟩, ⟨⟨_, rfl, rfl, by unfold Ap; omega⟩, ⟨⟨_, rfl, rfl, by unfold Ap; omega⟩, ⟨⟨_, rfl, rfl, by unfold Ap; omega⟩, ⟨⟨_, rfl, rfl, by unfold Ap; omega⟩, ⟨⟨_, rfl, rfl, by unfold Ap; omega⟩, ⟨⟨_, rfl, rfl, by unfold Ap; omega⟩, ⟨⟨_, rfl, rfl, by unfold Ap; omega⟩, ⟨⟨_, rfl, rfl, by unfold Ap; omega⟩, ⟨⟨_, rfl, rfl, by unfold Ap; omega⟩, trivial⟩⟩⟩⟩⟩⟩⟩⟩⟩⟩) ?_; intro v35
  have hxl : ([m.kind, 16 * m.src + m.dst, m.line, m.serial / 256, m.serial % 256, m.turn / 256, m.turn % 256, m.value, 1, 0] : List Int).length = 10 := rfl
  have hxb : ([m.kind, 16 * m.src + m.dst, m.line, m.serial / 256, m.serial % 256, m.turn / 256, m.turn % 256, m.value, 1, 0] : List Int).map u8 = Ct m := by
   exact ZfK
  generalize hxs : ([m.kind, 16 * m.src + m.dst, m.line, m.serial / 256, m.serial % 256, m.turn / 256, m.turn % 256, m.value, 1, 0] : List Int) = xs at hxl hxb ⊢
  exact ZeS
 ·intro ht9
  refine ZP ?_
  refine Afy ?_
  refine Zcu ?_
  refine rn2 ?_
  refine Zcu ?_
  refine rn3 ?_
  refine li (α := Int) ([m.kind, 16 * m.src + m.dst, m.line, m.serial / 256, m.serial % 256, m.turn / 256, m.turn % 256, m.value, 0, 0] : List Int) E6 rfl (fun j hj => ⟨⟨_, rfl, rfl, by unfold Ap; omega⟩, ⟨⟨_, rfl, rfl, by unfold Ap; omega⟩, ⟨⟨_, rfl, rfl, by unfold Ap; omega⟩, ⟨⟨_, rfl, rfl, by unfold Ap; omega⟩, ⟨⟨_, rfl, rfl, by unfold Ap; omega⟩, ⟨⟨_, rfl, rfl, by unfold Ap; omega⟩, ⟨⟨_, rfl, rfl, by unfold Ap; omega⟩, ⟨⟨_, rfl, rfl, by unfold Ap; omega⟩, ⟨⟨_, rfl, rfl, by unfold Ap; omega⟩, ⟨⟨_, rfl, rfl, by unfold Ap; omega⟩, trivial⟩⟩⟩⟩⟩⟩⟩⟩⟩⟩) ?_; intro v35
  have hxl : ([m.kind, 16 * m.src + m.dst, m.line, m.serial / 256, m.serial % 256, m.turn / 256, m.turn % 256, m.value, 0, 0] : List Int).length = 10 := rfl
  have hxb : ([m.kind, 16 * m.src + m.dst, m.line, m.serial / 256, m.serial % 256, m.turn / 256, m.turn % 256, m.value, 0, 0] : List Int).map u8 = Ct m := by
   exact ZfK
  generalize hxs : ([m.kind, 16 * m.src + m.dst, m.line, m.serial / 256, m.serial % 256, m.turn / 256, m.turn % 256, m.value, 0, 0] : List Int) = xs at hxl hxb ⊢
  exact ZeS
theorem Ha {P : Program} {n : Nat} {Q : Exit → Act → World → Prop} {L : List Chunk} {R : List Fact} {al : List (Nat × Value)} {c : Code} {v : Value} {b : List UInt8} (i : Nat) (hm : sl v b ∈ R) (hi : i < b.length) (k : JC P n c Q L (cF v 1 i [vb (b.getD i 0)] :: R) al) : JC P n c Q L R al := JC.open0 (xs := b) i hm hi (fun _ => k)
theorem Pp {v1 : Value} {b : List UInt8} {c : Config} (hs : St (L) R w) (h1 : sl v1 b ∈ R) (hc : c.wf) : Calls Try.prog 24 [.agg c.cells.toArray, v1].toArray w (Bu (fun _ : Unit => .tuple #[.agg (Af c b).1.cells.toArray, vi (Af c b).2]) (fun _ => L) (fun _ => R)) := by
 have hlen := Bj h1 hs
 have B : ∀ i, (b.getD i 0).toNat < 256 := fun i => (b.getD i 0).toNat_lt
 refine Ai Try.func24 rfl Try.ntmps24 rfl hs ?_
 clear hs
 refine Zay ?_;intro b2
 refine al_ (cs := zMsg.cells) Try.zeroValue49 ?_; intro b4
 refine Za1 ?_
 refine cdy ?_ ?_
 ·intro ht10
  exact Zgc
 ·intro ht10
  refine Gl ?_
  have B0 := B 0; have B1 := B 1; have B2 := B 2; have B3 := B 3; have B4 := B 4; have B5 := B 5; have B6 := B 6; have B7 := B 7; have B8 := B 8; have B9 := B 9; have B10 := B 10; have B11 := B 11
  refine Ha (v := v1) (b := b) 10 mm (by omega) ?_
  refine Ha (v := v1) (b := b) 11 mm (by omega) ?_
  refine Cf ?_
  refine dn1 ?_
  refine Zey ?_
  refine I3 (γ := Unit) (val := fun _ => vi (Ik (b.take 10))) (F := fun _ => []) (C := fun _ => []) Try.call63 (fun _ => rfl) (fun _ _ _ _ => rfl) (fun ρ L R w hd hs => Jc hs (hd.dep (it := ⟨1, _, _, _, _⟩) (by repeat (first | exact List.Mem.head _ | refine List.Mem.tail _ ?_)) ⟨9, rfl⟩ (List.Mem.head _))) ?_
  refine dn1 ?_
  refine dj ?_
  first | refine dc (fun _ _ => Gc (i := 10) C4) ?_ | refine dp (fun _ _ => Gc (i := 10) C4) ?_
  refine dj ?_
  first | refine dc (fun _ _ => Da Try.isAgg5) ?_ | refine dp (fun _ _ => Da Try.isAgg5) ?_
  refine dj ?_
  first | refine dc (fun _ _ => As Try.underlying5 Try.underlying3 rfl (Bf _)) ?_ | refine dp (fun _ _ => As Try.underlying5 Try.underlying3 rfl (Bf _)) ?_
  refine dj ?_
  first | refine dc (fun _ _ => Oj) ?_ | refine dp (fun _ _ => Oj) ?_
  refine dn1 ?_
  refine dj ?_
  first | refine dc (fun _ _ => Gc (i := 11) C4) ?_ | refine dp (fun _ _ => Gc (i := 11) C4) ?_
  refine dj ?_
  first | refine dc (fun _ _ => Da Try.isAgg5) ?_ | refine dp (fun _ _ => Da Try.isAgg5) ?_
  refine dj ?_
  first | refine dc (fun _ _ => As Try.underlying5 Try.underlying3 rfl (Bf _)) ?_ | refine dp (fun _ _ => As Try.underlying5 Try.underlying3 rfl (Bf _)) ?_
  refine dj ?_
  first | refine dc (fun _ _ => Fx) ?_ | refine dc (fun _ _ => G1) ?_ | refine dp (fun _ _ => Fx) ?_ | refine dp (fun _ _ => G1) ?_
  refine dj ?_
  first | refine dc (fun _ _ => Gi Sz) ?_ | refine dp (fun _ _ => Gi Sz) ?_
  refine dnl ?_; intro ρ
  refine Gl ?_
  refine cdy ?_ ?_
  ·intro ht25
   exact ZfQ
  ·intro ht25
   refine Gl ?_
   refine Ze3 ?_
   refine jgx (t := 31) (p := ?p3) (hd := ?d3) ?e3 ?_ ?_; case e3 => exact rfl
   ·intro ht31
    refine Gd5 ?_
    exact Zfi
   ·intro ht31
    refine ZaH ?_
    refine ob (Gc (i := 9) C4) ?_
    refine Ga3 ?_
    refine cdy ?_ ?_
    ·intro ht36
     refine Gm ?_
     exact Zfi
    ·intro ht36
     refine ZdU ?_
     refine Zec ?_
     first | refine epc (fun _ _ => Gc (i := 0) C4) ?_ | refine epp (fun _ _ => Gc (i := 0) C4) ?_
     first | refine epc (fun _ _ => Da Try.isAgg5) ?_ | refine epp (fun _ _ => Da Try.isAgg5) ?_
     first | refine epc (fun _ _ => As Try.underlying5 Try.underlying3 rfl (Bf _)) ?_ | refine epp (fun _ _ => As Try.underlying5 Try.underlying3 rfl (Bf _)) ?_
     refine dn1 ?_
     first | refine epc (fun _ _ => Gc (i := 1) C4) ?_ | refine epp (fun _ _ => Gc (i := 1) C4) ?_
     first | refine epc (fun _ _ => Da Try.isAgg5) ?_ | refine epp (fun _ _ => Da Try.isAgg5) ?_
     first | refine epc (fun _ _ => As Try.underlying5 Try.underlying3 rfl (Bf _)) ?_ | refine epp (fun _ _ => As Try.underlying5 Try.underlying3 rfl (Bf _)) ?_
     refine Kd (fun _ _ => Ao rfl rfl (L7 (b := 16) (by omega) (by omega) (by omega))) (fun _ _ _ _ _ => rfl) ?_
     refine dn1 ?_
     first | refine epc (fun _ _ => Gc (i := 1) C4) ?_ | refine epp (fun _ _ => Gc (i := 1) C4) ?_
     first | refine epc (fun _ _ => Da Try.isAgg5) ?_ | refine epp (fun _ _ => Da Try.isAgg5) ?_
     first | refine epc (fun _ _ => As Try.underlying5 Try.underlying3 rfl (Bf _)) ?_ | refine epp (fun _ _ => As Try.underlying5 Try.underlying3 rfl (Bf _)) ?_
     refine Kd (fun _ _ => Ao rfl rfl (L6 (b := 16) (by omega) (by omega) (by omega))) (fun _ _ _ _ _ => rfl) ?_
     refine dn1 ?_
     first | refine epc (fun _ _ => Gc (i := 2) C4) ?_ | refine epp (fun _ _ => Gc (i := 2) C4) ?_
     first | refine epc (fun _ _ => Da Try.isAgg5) ?_ | refine epp (fun _ _ => Da Try.isAgg5) ?_
     first | refine epc (fun _ _ => As Try.underlying5 Try.underlying3 rfl (Bf _)) ?_ | refine epp (fun _ _ => As Try.underlying5 Try.underlying3 rfl (Bf _)) ?_
     refine dn1 ?_
     first | refine epc (fun _ _ => Gc (i := 3) C4) ?_ | refine epp (fun _ _ => Gc (i := 3) C4) ?_
     first | refine epc (fun _ _ => Da Try.isAgg5) ?_ | refine epp (fun _ _ => Da Try.isAgg5) ?_
     first | refine epc (fun _ _ => As Try.underlying5 Try.underlying3 rfl (Bf _)) ?_ | refine epp (fun _ _ => As Try.underlying5 Try.underlying3 rfl (Bf _)) ?_
     first | refine epc (fun _ _ => Oj) ?_ | refine epp (fun _ _ => Oj) ?_
     refine dn1 ?_
     first | refine epc (fun _ _ => Gc (i := 4) C4) ?_ | refine epp (fun _ _ => Gc (i := 4) C4) ?_
     first | refine epc (fun _ _ => Da Try.isAgg5) ?_ | refine epp (fun _ _ => Da Try.isAgg5) ?_
     first | refine epc (fun _ _ => As Try.underlying5 Try.underlying3 rfl (Bf _)) ?_ | refine epp (fun _ _ => As Try.underlying5 Try.underlying3 rfl (Bf _)) ?_
     first | refine epc (fun _ _ => Fx) ?_ | refine epc (fun _ _ => G1) ?_ | refine epp (fun _ _ => Fx) ?_ | refine epp (fun _ _ => G1) ?_
     refine dn1 ?_
     first | refine epc (fun _ _ => Gc (i := 5) C4) ?_ | refine epp (fun _ _ => Gc (i := 5) C4) ?_
     first | refine epc (fun _ _ => Da Try.isAgg5) ?_ | refine epp (fun _ _ => Da Try.isAgg5) ?_
     first | refine epc (fun _ _ => As Try.underlying5 Try.underlying3 rfl (Bf _)) ?_ | refine epp (fun _ _ => As Try.underlying5 Try.underlying3 rfl (Bf _)) ?_
     first | refine epc (fun _ _ => Oj) ?_ | refine epp (fun _ _ => Oj) ?_
     refine dn1 ?_
     first | refine epc (fun _ _ => Gc (i := 6) C4) ?_ | refine epp (fun _ _ => Gc (i := 6) C4) ?_
     first | refine epc (fun _ _ => Da Try.isAgg5) ?_ | refine epp (fun _ _ => Da Try.isAgg5) ?_
     first | refine epc (fun _ _ => As Try.underlying5 Try.underlying3 rfl (Bf _)) ?_ | refine epp (fun _ _ => As Try.underlying5 Try.underlying3 rfl (Bf _)) ?_
     first | refine epc (fun _ _ => Fx) ?_ | refine epc (fun _ _ => G1) ?_ | refine epp (fun _ _ => Fx) ?_ | refine epp (fun _ _ => G1) ?_
     refine dn1 ?_
     first | refine epc (fun _ _ => Gc (i := 7) C4) ?_ | refine epp (fun _ _ => Gc (i := 7) C4) ?_
     first | refine epc (fun _ _ => Da Try.isAgg5) ?_ | refine epp (fun _ _ => Da Try.isAgg5) ?_
     first | refine epc (fun _ _ => As Try.underlying5 Try.underlying3 rfl (Bf _)) ?_ | refine epp (fun _ _ => As Try.underlying5 Try.underlying3 rfl (Bf _)) ?_
     refine dn1 ?_
     first | refine epc (fun _ _ => Gc (i := 8) C4) ?_ | refine epp (fun _ _ => Gc (i := 8) C4) ?_
     first | refine epc (fun _ _ => Da Try.isAgg5) ?_ | refine epp (fun _ _ => Da Try.isAgg5) ?_
     first | refine epc (fun _ _ => Gi S1) ?_ | refine epp (fun _ _ => Gi S1) ?_
     first | refine epc (fun _ _ => Ej En) ?_ | refine epc (fun _ _ => Fz En) ?_ | refine epp (fun _ _ => Ej En) ?_ | refine epp (fun _ _ => Fz En) ?_
     refine Hq (cs := zMsg.cells) Try.zeroValue49 rfl (fun ρ b S hS hA => ?_) ?_
     ·exact Zf8
     refine Zeh ?_;intro ρ
     generalize (Gh.dec (γ := Nat) (ρ 47)) = b6
     refine Gl ?_
     refine kp [2, 4, 5, 6, 7, 85, 86, 87] ?_
     refine ZB ?_
     refine Am Try.call64 rfl (fun w hs => Aan (c := c) (m := Hu b) hs hc (P0 b)) ?_; intro _
     refine ZF ?_
     refine cdy ?_ ?_
     ·intro ht89
      exact Zf4
     ·intro ht89
      exact ZfD
theorem Pick.perm {L L' : List Chunk} {c : Chunk} (h : Pick L c L') : L.Perm (c :: L') := by
 induction h with
 | hd => exact .refl _
 | tl _ ih => exact (ih.cons _).trans (.swap ..)
theorem b_subE {P : Program} {T : TypeId} {a b r : Int} (h : a - b = r) (h1 : -9223372036854775808 ≤ r) (h2 : r ≤ 9223372036854775807) (w : World) : (binOp .sub T (vi a) (vi b)).run P w = .ok (vi r) w := by subst h; exact Zu h1 h2 w
theorem Ec {L1 : List Chunk} {n : Int} {c : Config} {b2 : Nat} (hs : St (L) R w) (hp : Pick L (blk b2 23 c.cells) L1) : Calls Try.prog 110 [vi n, bp b2 0].toArray w (Bu (fun _ : Unit => .bool (decide (0 ≤ n ∧ n ≤ c.cores))) (fun _ => L) (fun _ => R)) := by
 refine Ai Try.func110 rfl Try.ntmps110 rfl hs ?_
 clear hs
 refine ZA ?_
 refine JC.pick hp ?_
 rcases (show (n < 0) ∨ (0 ≤ n ∧ n ≤ c.cores) ∨ (0 ≤ n ∧ c.cores < n) from by omega) with hc | hc | hc
 ·refine ZC ?_
  refine Dq ?_
  refine Ga7 ?_
  exact Zf7
 ·refine ZC ?_
  refine Hm ?_
  refine ZG ?_
  refine Agj ?_
  refine Ga2 ?_
  exact Zf7
 ·refine ZC ?_
  refine Hm ?_
  refine ZG ?_
  refine Tp ?_
  refine Ga2 ?_
  exact Zf7
theorem Acn {c : Config} {m : Msg} (hs : St (L) R w) : Calls Try.prog 100 [.agg c.cells.toArray, .agg m.cells.toArray].toArray w (Bu (fun _ : Unit => vi (Bq c m)) (fun _ => L) (fun _ => R)) := by
 refine Ai Try.func100 rfl Try.ntmps100 rfl hs ?_
 clear hs
 refine Zay ?_;intro b2
 refine bx ?_; intro b3
 refine Gb1 ?_
 refine Dy (vs := [bp b2 0]) rfl ?_
 refine Ga1 ?_
 refine kp [2, 3, 4, 5, 7, 8, 9, 10, 11, 12, 13, 14, 15] ?_
 refine Ds 7 (.bool (decide ((m.kind < 1) ∨ (11 < m.kind)))) ?_ ?_
 ·rcases (show ((m.kind < 1)) ∨ (¬ (m.kind < 1) ∧ (11 < m.kind)) ∨ (¬ (m.kind < 1) ∧ ¬ (11 < m.kind)) from by omega) with hm | hm | hm
  ·refine ZZ ?_
   refine Ga6 ?_
   exact Zfa
  ·refine Zbf ?_
   refine Ga2 ?_
   exact Zfa
  ·refine Zaw ?_
   refine Ga2 ?_
   exact Zfc
 ·refine Ax ?_
  first | (refine cdx (p := ?p1) (hd := ?d1) ?e1 ?_ ?_; case e1 => exact rfl) | (refine Bo (b := ?b1) ?e1 ?_ ?_; case e1 => exact rfl)
  ·intro ht7
   refine ZA ?_
   exact Zgn
  ·intro ht7
   refine Gl ?_
   refine ZdB ?_
   refine Ds 16 (.bool (decide (m.src < 0 ∨ c.cores < m.src ∨ m.dst < 0 ∨ c.cores < m.dst ∨ m.line < 0 ∨ c.lines ≤ m.line ∨ m.serial < 0 ∨ 65535 < m.serial ∨ m.turn < 0 ∨ 65535 < m.turn ∨ m.value < 0 ∨ 255 < m.value))) ?_ ?_
   ·rcases (show ((¬ (0 ≤ m.src ∧ m.src ≤ c.cores))) ∨ ((0 ≤ m.src ∧ m.src ≤ c.cores) ∧ (¬ (0 ≤ m.dst ∧ m.dst ≤ c.cores))) ∨ ((0 ≤ m.src ∧ m.src ≤ c.cores) ∧ (0 ≤ m.dst ∧ m.dst ≤ c.cores) ∧ (m.line < 0)) ∨ ((0 ≤ m.src ∧ m.src ≤ c.cores) ∧ (0 ≤ m.dst ∧ m.dst ≤ c.cores) ∧ ¬ (m.line < 0) ∧ (c.lines ≤ m.line)) ∨ ((0 ≤ m.src ∧ m.src ≤ c.cores) ∧ (0 ≤ m.dst ∧ m.dst ≤ c.cores) ∧ ¬ (m.line < 0) ∧ ¬ (c.lines ≤ m.line) ∧ (m.serial < 0)) ∨ ((0 ≤ m.src ∧ m.src ≤ c.cores) ∧ (0 ≤ m.dst ∧ m.dst ≤ c.cores) ∧ ¬ (m.line < 0) ∧ ¬ (c.lines ≤ m.line) ∧ ¬ (m.serial < 0) ∧ (65535 < m.serial)) ∨ ((0 ≤ m.src ∧ m.src ≤ c.cores) ∧ (0 ≤ m.dst ∧ m.dst ≤ c.cores) ∧ ¬ (m.line < 0) ∧ ¬ (c.lines ≤ m.line) ∧ ¬ (m.serial < 0) ∧ ¬ (65535 < m.serial) ∧ (m.turn < 0)) ∨ ((0 ≤ m.src ∧ m.src ≤ c.cores) ∧ (0 ≤ m.dst ∧ m.dst ≤ c.cores) ∧ ¬ (m.line < 0) ∧ ¬ (c.lines ≤ m.line) ∧ ¬ (m.serial < 0) ∧ ¬ (65535 < m.serial) ∧ ¬ (m.turn < 0) ∧ (65535 < m.turn)) ∨ ((0 ≤ m.src ∧ m.src ≤ c.cores) ∧ (0 ≤ m.dst ∧ m.dst ≤ c.cores) ∧ ¬ (m.line < 0) ∧ ¬ (c.lines ≤ m.line) ∧ ¬ (m.serial < 0) ∧ ¬ (65535 < m.serial) ∧ ¬ (m.turn < 0) ∧ ¬ (65535 < m.turn) ∧ (m.value < 0)) ∨ ((0 ≤ m.src ∧ m.src ≤ c.cores) ∧ (0 ≤ m.dst ∧ m.dst ≤ c.cores) ∧ ¬ (m.line < 0) ∧ ¬ (c.lines ≤ m.line) ∧ ¬ (m.serial < 0) ∧ ¬ (65535 < m.serial) ∧ ¬ (m.turn < 0) ∧ ¬ (65535 < m.turn) ∧ ¬ (m.value < 0) ∧ (255 < m.value)) ∨ ((0 ≤ m.src ∧ m.src ≤ c.cores) ∧ (0 ≤ m.dst ∧ m.dst ≤ c.cores) ∧ ¬ (m.line < 0) ∧ ¬ (c.lines ≤ m.line) ∧ ¬ (m.serial < 0) ∧ ¬ (65535 < m.serial) ∧ ¬ (m.turn < 0) ∧ ¬ (65535 < m.turn) ∧ ¬ (m.value < 0) ∧ ¬ (255 < m.value)) from by grind) with hm | hm | hm | hm | hm | hm | hm | hm | hm | hm | hm
    ·refine ZJ ?_
     refine Ci (γ := Unit) (val := fun _ => .bool (decide (0 ≤ m.src ∧ m.src ≤ c.cores))) (caps := [bp b2 0]) (vs := [vi m.src]) rfl Try.call110 rfl (fun w hs => Ec hs pkk) ?_; intro _
     refine ob (Aex rfl (decide_eq_false (by omega))) ?_
     refine Aev ?_
     refine Ga18 ?_
     refine Au ?_ (fun w hs => hs)
     exact meT
    ·refine Za5 ?_
     refine Ci (γ := Unit) (val := fun _ => .bool (decide (0 ≤ m.src ∧ m.src ≤ c.cores))) (caps := [bp b2 0]) (vs := [vi m.src]) rfl Try.call110 rfl (fun w hs => Ec hs pkk) ?_; intro _
     refine Zai ?_
     refine Ci (γ := Unit) (val := fun _ => .bool (decide (0 ≤ m.dst ∧ m.dst ≤ c.cores))) (caps := [bp b2 0]) (vs := [vi m.dst]) rfl Try.call110 rfl (fun w hs => Ec hs pkk) ?_; intro _
     refine gy ?_
     refine ob (Aex rfl (decide_eq_false (by omega))) ?_
     refine Aev ?_
     refine Ga12 ?_
     refine Au ?_ (fun w hs => hs)
     exact meT
    ·refine Za5 ?_
     refine Ci (γ := Unit) (val := fun _ => .bool (decide (0 ≤ m.src ∧ m.src ≤ c.cores))) (caps := [bp b2 0]) (vs := [vi m.src]) rfl Try.call110 rfl (fun w hs => Ec hs pkk) ?_; intro _
     refine Zai ?_
     refine Ci (γ := Unit) (val := fun _ => .bool (decide (0 ≤ m.dst ∧ m.dst ≤ c.cores))) (caps := [bp b2 0]) (vs := [vi m.dst]) rfl Try.call110 rfl (fun w hs => Ec hs pkk) ?_; intro _
     refine gy ?_
     refine Zai ?_
     refine D2 ?_
     refine Aev ?_
     refine Ga7 ?_
     refine Au ?_ (fun w hs => hs)
     exact meT
    ·refine Za5 ?_
     refine Ci (γ := Unit) (val := fun _ => .bool (decide (0 ≤ m.src ∧ m.src ≤ c.cores))) (caps := [bp b2 0]) (vs := [vi m.src]) rfl Try.call110 rfl (fun w hs => Ec hs pkk) ?_; intro _
     refine Zai ?_
     refine Ci (γ := Unit) (val := fun _ => .bool (decide (0 ≤ m.dst ∧ m.dst ≤ c.cores))) (caps := [bp b2 0]) (vs := [vi m.dst]) rfl Try.call110 rfl (fun w hs => Ec hs pkk) ?_; intro _
     refine gy ?_
     refine Zai ?_
     refine Bh ?_
     refine ZaL ?_
     refine Ga32 ?_
     refine Au ?_ (fun w hs => hs)
     exact meT
    ·refine Za5 ?_
     refine Ci (γ := Unit) (val := fun _ => .bool (decide (0 ≤ m.src ∧ m.src ≤ c.cores))) (caps := [bp b2 0]) (vs := [vi m.src]) rfl Try.call110 rfl (fun w hs => Ec hs pkk) ?_; intro _
     refine Zai ?_
     refine Ci (γ := Unit) (val := fun _ => .bool (decide (0 ≤ m.dst ∧ m.dst ≤ c.cores))) (caps := [bp b2 0]) (vs := [vi m.dst]) rfl Try.call110 rfl (fun w hs => Ec hs pkk) ?_; intro _
     refine gy ?_
     refine Zai ?_
     refine ZaX ?_
     refine ZaD ?_
     refine Ga27 ?_
     refine Au ?_ (fun w hs => hs)
     exact meT
    ·refine Za5 ?_
     refine Ci (γ := Unit) (val := fun _ => .bool (decide (0 ≤ m.src ∧ m.src ≤ c.cores))) (caps := [bp b2 0]) (vs := [vi m.src]) rfl Try.call110 rfl (fun w hs => Ec hs pkk) ?_; intro _
     refine Zai ?_
     refine Ci (γ := Unit) (val := fun _ => .bool (decide (0 ≤ m.dst ∧ m.dst ≤ c.cores))) (caps := [bp b2 0]) (vs := [vi m.dst]) rfl Try.call110 rfl (fun w hs => Ec hs pkk) ?_; intro _
     refine gy ?_
     refine Zai ?_
     refine ZaX ?_
     refine ZaT ?_
     refine Ga22 ?_
     refine Au ?_ (fun w hs => hs)
     exact meT
    ·refine Za5 ?_
     refine Ci (γ := Unit) (val := fun _ => .bool (decide (0 ≤ m.src ∧ m.src ≤ c.cores))) (caps := [bp b2 0]) (vs := [vi m.src]) rfl Try.call110 rfl (fun w hs => Ec hs pkk) ?_; intro _
     refine Zai ?_
     refine Ci (γ := Unit) (val := fun _ => .bool (decide (0 ≤ m.dst ∧ m.dst ≤ c.cores))) (caps := [bp b2 0]) (vs := [vi m.dst]) rfl Try.call110 rfl (fun w hs => Ec hs pkk) ?_; intro _
     refine ZbW ?_
     refine ZaD ?_
     refine Ga17 ?_
     refine Au ?_ (fun w hs => hs)
     exact meT
    ·refine Za5 ?_
     refine Ci (γ := Unit) (val := fun _ => .bool (decide (0 ≤ m.src ∧ m.src ≤ c.cores))) (caps := [bp b2 0]) (vs := [vi m.src]) rfl Try.call110 rfl (fun w hs => Ec hs pkk) ?_; intro _
     refine Zai ?_
     refine Ci (γ := Unit) (val := fun _ => .bool (decide (0 ≤ m.dst ∧ m.dst ≤ c.cores))) (caps := [bp b2 0]) (vs := [vi m.dst]) rfl Try.call110 rfl (fun w hs => Ec hs pkk) ?_; intro _
     refine ZbW ?_
     refine ZaT ?_
     refine Ga12 ?_
     refine Au ?_ (fun w hs => hs)
     exact meT
    ·refine Za5 ?_
     refine Ci (γ := Unit) (val := fun _ => .bool (decide (0 ≤ m.src ∧ m.src ≤ c.cores))) (caps := [bp b2 0]) (vs := [vi m.src]) rfl Try.call110 rfl (fun w hs => Ec hs pkk) ?_; intro _
     refine Zai ?_
     refine Ci (γ := Unit) (val := fun _ => .bool (decide (0 ≤ m.dst ∧ m.dst ≤ c.cores))) (caps := [bp b2 0]) (vs := [vi m.dst]) rfl Try.call110 rfl (fun w hs => Ec hs pkk) ?_; intro _
     refine ZbW ?_
     refine Za0 ?_
     refine ZaD ?_
     refine Ga7 ?_
     refine Au ?_ (fun w hs => hs)
     exact meT
    ·refine Za5 ?_
     refine Ci (γ := Unit) (val := fun _ => .bool (decide (0 ≤ m.src ∧ m.src ≤ c.cores))) (caps := [bp b2 0]) (vs := [vi m.src]) rfl Try.call110 rfl (fun w hs => Ec hs pkk) ?_; intro _
     refine Zai ?_
     refine Ci (γ := Unit) (val := fun _ => .bool (decide (0 ≤ m.dst ∧ m.dst ≤ c.cores))) (caps := [bp b2 0]) (vs := [vi m.dst]) rfl Try.call110 rfl (fun w hs => Ec hs pkk) ?_; intro _
     refine ZbW ?_
     refine Za0 ?_
     refine ZaT ?_
     refine Ga2 ?_
     refine Au ?_ (fun w hs => hs)
     exact meT
    ·refine Za5 ?_
     refine Ci (γ := Unit) (val := fun _ => .bool (decide (0 ≤ m.src ∧ m.src ≤ c.cores))) (caps := [bp b2 0]) (vs := [vi m.src]) rfl Try.call110 rfl (fun w hs => Ec hs pkk) ?_; intro _
     refine Zai ?_
     refine Ci (γ := Unit) (val := fun _ => .bool (decide (0 ≤ m.dst ∧ m.dst ≤ c.cores))) (caps := [bp b2 0]) (vs := [vi m.dst]) rfl Try.call110 rfl (fun w hs => Ec hs pkk) ?_; intro _
     refine ZbW ?_
     refine Za0 ?_
     refine Za0 ?_
     refine Ga2 ?_
     refine Au ?_ (fun w hs => hs)
     exact meF
   ·refine Ax ?_
    first | (refine cdx (p := ?p2) (hd := ?d2) ?e2 ?_ ?_; case e2 => exact rfl) | (refine Bo (b := ?b2) ?e2 ?_ ?_; case e2 => exact rfl)
    ·intro ht16
     refine Gl ?_
     refine kp [2, 3, 4] ?_
     refine ZX ?_
     have er : Bq c m = 3 := by unfold Bq; rw [if_neg (by omega), if_pos ht16]
     exact ZfO
    ·intro ht16
     refine Gl ?_
     refine kp [2, 3, 4, 71, 72, 73, 74, 75, 76, 77, 78, 79, 80, 81, 82] ?_
     refine Aa ?_
     refine rn10 ?_
     refine ob (Aey rfl rfl (Aei Try.underlying4)) ?_
     refine Ga1 ?_
     refine Bo (b := ?b3) ?e3 ?_ ?_; case e3 => exact rfl
     ·intro ht71
      refine ZA ?_
      have er : Bq c m = 6 := by unfold Bq; rw [if_neg (by omega), if_neg ht16, if_pos (decide_eq_decide.1 (beq_iff_eq.1 ht71))]
      exact ZfO
     ·intro ht71
      refine ZA ?_
      have er : Bq c m = 0 := by unfold Bq; rw [if_neg (by omega), if_neg ht16, if_neg (fun h => by rw [beq_iff_eq.2 (decide_eq_decide.2 h)] at ht71; cases ht71)]
      exact ZfO
theorem U8 {v1 : Value} {b : List UInt8} {c : Config} (hs : St (L) R w) (h1 : sl v1 b ∈ R) : Calls Try.prog 74 [.agg c.cells.toArray, v1].toArray w (Bu (fun _ : Unit => .tuple #[.agg (Af c b).1.cells.toArray, vi (Af c b).2]) (fun _ => L) (fun _ => R)) := by
 have hlen := Bj h1 hs
 have B : ∀ i, (b.getD i 0).toNat < 256 := fun i => (b.getD i 0).toNat_lt
 refine Ai Try.func74 rfl Try.ntmps74 rfl hs ?_
 clear hs
 refine Zay ?_;intro b2
 refine al_ (cs := zMsg.cells) Try.zeroValue49 ?_; intro b4
 refine Za1 ?_
 refine cdy ?_ ?_
 ·intro ht11
  exact Zgc
 ·intro ht11
  refine Gl ?_
  have B0 := B 0; have B1 := B 1; have B2 := B 2; have B3 := B 3; have B4 := B 4; have B5 := B 5; have B6 := B 6; have B7 := B 7; have B8 := B 8; have B9 := B 9; have B10 := B 10; have B11 := B 11
  refine ZB ?_
  refine ob (Ao rfl rfl (b_subE (r := ((10 : Nat) : Int)) (by omega) (by omega) (by omega))) ?_
  refine Ga1 ?_
  refine Ha (v := v1) (b := b) 10 mm (by omega) ?_
  refine Ha (v := v1) (b := b) 11 mm (by omega) ?_
  refine Zao ?_
  refine Zey ?_
  refine I3 (γ := Unit) (val := fun _ => vi (Ik (b.take 10))) (F := fun _ => []) (C := fun _ => []) Try.call99 (fun _ => rfl) (fun _ _ _ _ => rfl) (fun ρ L R w hd hs => H2 hs (hd.dep (it := ⟨2, _, _, _, _⟩) (by repeat (first | exact List.Mem.head _ | refine List.Mem.tail _ ?_)) ⟨9, rfl⟩ (List.Mem.head _))) ?_
  refine dn2 ?_
  refine djc (fun _ _ => Gc (i := 10) C4) ?_
  refine dj ?_
  first | refine dc (fun _ _ => Da Try.isAgg5) ?_ | refine dp (fun _ _ => Da Try.isAgg5) ?_
  refine dj ?_
  first | refine dc (fun _ _ => As Try.underlying5 Try.underlying3 rfl (Bf _)) ?_ | refine dp (fun _ _ => As Try.underlying5 Try.underlying3 rfl (Bf _)) ?_
  refine djc (fun _ _ => Ao rfl rfl (Qq (by omega) (by omega))) ?_
  refine dn2 ?_
  refine dj ?_
  refine dc (fun _ _ => Ao rfl rfl (v := vi ((11 : Nat) : Int)) (Afo (a := 10) (b := 1) (by omega))) ?_
  refine djc (fun _ _ => Gc (i := 11) C4) ?_
  refine dj ?_
  first | refine dc (fun _ _ => Da Try.isAgg5) ?_ | refine dp (fun _ _ => Da Try.isAgg5) ?_
  refine dj ?_
  first | refine dc (fun _ _ => As Try.underlying5 Try.underlying3 rfl (Bf _)) ?_ | refine dp (fun _ _ => As Try.underlying5 Try.underlying3 rfl (Bf _)) ?_
  refine djc (fun _ _ => Ao rfl rfl (Ue (by omega) (by omega) (by omega) (by omega))) ?_
  refine dj ?_
  first | refine dc (fun _ _ => Gi Sz) ?_ | refine dp (fun _ _ => Gi Sz) ?_
  refine dnl ?_; intro ρ
  refine Gl ?_
  refine cdy ?_ ?_
  ·intro ht33
   exact ZfQ
  ·intro ht33
   refine Gl ?_
   refine Ze3 ?_
   refine jgx (t := 39) (p := ?p3) (hd := ?d3) ?e3 ?_ ?_; case e3 => exact rfl
   ·intro ht39
    refine Gc5 ?_
    refine kp [1, 2, 4, 5, 45] ?_
    refine Aa ?_
    exact Zfi
   ·intro ht39
    refine ZaH ?_
    refine ob (Gc (i := 9) C4) ?_
    refine Ga3 ?_
    refine cdy ?_ ?_
    ·intro ht44
     refine Gl ?_
     refine kp [1, 2, 4, 5, 45] ?_
     refine Aa ?_
     exact Zfi
    ·intro ht44
     refine ZdU ?_
     refine kp [1, 2, 4, 5, 7, 46, 47, 48, 49, 50, 51, 52, 53, 54, 55, 56, 57, 58, 59, 60, 61, 62, 63, 64, 65, 66, 67, 68, 69, 70, 71, 72, 73, 74, 75, 76, 77, 78, 79, 80, 81, 82, 83, 84, 85, 86, 87, 88, 89, 90, 91, 92] ?_
     refine Zec ?_
     first | refine epc (fun _ _ => Gc (i := 0) C4) ?_ | refine epp (fun _ _ => Gc (i := 0) C4) ?_
     first | refine epc (fun _ _ => Da Try.isAgg5) ?_ | refine epp (fun _ _ => Da Try.isAgg5) ?_
     first | refine epc (fun _ _ => As Try.underlying5 Try.underlying3 rfl (Bf _)) ?_ | refine epp (fun _ _ => As Try.underlying5 Try.underlying3 rfl (Bf _)) ?_
     refine dn1 ?_
     first | refine epc (fun _ _ => Gc (i := 1) C4) ?_ | refine epp (fun _ _ => Gc (i := 1) C4) ?_
     first | refine epc (fun _ _ => Da Try.isAgg5) ?_ | refine epp (fun _ _ => Da Try.isAgg5) ?_
     refine epc (fun _ _ => Ao rfl rfl Ajx) ?_
     refine epc (fun _ _ => As Try.underlying5 Try.underlying3 rfl (W3 _)) ?_
     refine dn1 ?_
     first | refine epc (fun _ _ => Gc (i := 1) C4) ?_ | refine epp (fun _ _ => Gc (i := 1) C4) ?_
     first | refine epc (fun _ _ => Da Try.isAgg5) ?_ | refine epp (fun _ _ => Da Try.isAgg5) ?_
     refine epc (fun _ _ => Ao rfl rfl Aek) ?_
     refine epc (fun _ _ => As Try.underlying5 Try.underlying3 rfl (W2 _)) ?_
     refine dn1 ?_
     first | refine epc (fun _ _ => Gc (i := 2) C4) ?_ | refine epp (fun _ _ => Gc (i := 2) C4) ?_
     first | refine epc (fun _ _ => Da Try.isAgg5) ?_ | refine epp (fun _ _ => Da Try.isAgg5) ?_
     first | refine epc (fun _ _ => As Try.underlying5 Try.underlying3 rfl (Bf _)) ?_ | refine epp (fun _ _ => As Try.underlying5 Try.underlying3 rfl (Bf _)) ?_
     refine dn1 ?_
     first | refine epc (fun _ _ => Gc (i := 3) C4) ?_ | refine epp (fun _ _ => Gc (i := 3) C4) ?_
     first | refine epc (fun _ _ => Da Try.isAgg5) ?_ | refine epp (fun _ _ => Da Try.isAgg5) ?_
     first | refine epc (fun _ _ => As Try.underlying5 Try.underlying3 rfl (Bf _)) ?_ | refine epp (fun _ _ => As Try.underlying5 Try.underlying3 rfl (Bf _)) ?_
     refine epc (fun _ _ => Ao rfl rfl (Qq (by omega) (by omega))) ?_
     refine dn1 ?_
     first | refine epc (fun _ _ => Gc (i := 4) C4) ?_ | refine epp (fun _ _ => Gc (i := 4) C4) ?_
     first | refine epc (fun _ _ => Da Try.isAgg5) ?_ | refine epp (fun _ _ => Da Try.isAgg5) ?_
     first | refine epc (fun _ _ => As Try.underlying5 Try.underlying3 rfl (Bf _)) ?_ | refine epp (fun _ _ => As Try.underlying5 Try.underlying3 rfl (Bf _)) ?_
     refine epc (fun _ _ => Ao rfl rfl (Ue (by omega) (by omega) (by omega) (by omega))) ?_
     refine dn1 ?_
     first | refine epc (fun _ _ => Gc (i := 5) C4) ?_ | refine epp (fun _ _ => Gc (i := 5) C4) ?_
     first | refine epc (fun _ _ => Da Try.isAgg5) ?_ | refine epp (fun _ _ => Da Try.isAgg5) ?_
     first | refine epc (fun _ _ => As Try.underlying5 Try.underlying3 rfl (Bf _)) ?_ | refine epp (fun _ _ => As Try.underlying5 Try.underlying3 rfl (Bf _)) ?_
     refine epc (fun _ _ => Ao rfl rfl (Qq (by omega) (by omega))) ?_
     refine dn1 ?_
     first | refine epc (fun _ _ => Gc (i := 6) C4) ?_ | refine epp (fun _ _ => Gc (i := 6) C4) ?_
     first | refine epc (fun _ _ => Da Try.isAgg5) ?_ | refine epp (fun _ _ => Da Try.isAgg5) ?_
     first | refine epc (fun _ _ => As Try.underlying5 Try.underlying3 rfl (Bf _)) ?_ | refine epp (fun _ _ => As Try.underlying5 Try.underlying3 rfl (Bf _)) ?_
     refine epc (fun _ _ => Ao rfl rfl (Ue (by omega) (by omega) (by omega) (by omega))) ?_
     refine dn1 ?_
     first | refine epc (fun _ _ => Gc (i := 7) C4) ?_ | refine epp (fun _ _ => Gc (i := 7) C4) ?_
     first | refine epc (fun _ _ => Da Try.isAgg5) ?_ | refine epp (fun _ _ => Da Try.isAgg5) ?_
     first | refine epc (fun _ _ => As Try.underlying5 Try.underlying3 rfl (Bf _)) ?_ | refine epp (fun _ _ => As Try.underlying5 Try.underlying3 rfl (Bf _)) ?_
     refine dn1 ?_
     first | refine epc (fun _ _ => Gc (i := 8) C4) ?_ | refine epp (fun _ _ => Gc (i := 8) C4) ?_
     first | refine epc (fun _ _ => Da Try.isAgg5) ?_ | refine epp (fun _ _ => Da Try.isAgg5) ?_
     first | refine epc (fun _ _ => Gi S1) ?_ | refine epp (fun _ _ => Gi S1) ?_
     first | refine epc (fun _ _ => Ej En) ?_ | refine epc (fun _ _ => Fz En) ?_ | refine epp (fun _ _ => Ej En) ?_ | refine epp (fun _ _ => Fz En) ?_
     refine Hq (cs := zMsg.cells) Try.zeroValue49 rfl (fun ρ b S hS hA => ?_) ?_
     ·exact Zf8
     refine Zeh ?_;intro ρ
     generalize (Gh.dec (γ := Nat) (ρ 47)) = b7
     refine Gl ?_
     refine kp [2, 4, 5, 7, 8, 93, 94, 95] ?_
     refine ZB ?_
     refine Am Try.call100 rfl (fun w hs => Acn (c := c) (m := Hu b) hs) ?_; intro _
     refine ZF ?_
     refine cdy ?_ ?_
     ·intro ht97
      exact Zf4
     ·intro ht97
      exact ZfD
theorem Nv {v0 : Value} {b : List UInt8} {bit : Int} (hs : St L R w) (h0 : sl v0 b ∈ R) (hbit : Ap bit) : Calls Try.prog 107 [v0, vi bit].toArray w (Bu (fun v : Value => v) (fun _ => L) (fun v => sl v (Bz b bit) :: R)) := by
 have hlen := Bj h0 hs
 have hbit' := hbit
 unfold Ap at hbit'
 refine Ai Try.func107 rfl Try.ntmps107 rfl hs ?_
 clear hs
 repeat refine Bt ?_
 refine ZaR ?_
 repeat refine Bt ?_
 refine ZQ ?_
 refine J.rowNil 5 UInt8 ?_
 refine Kw Hp rfl rfl rfl (by decide) .hd h0 (fun w hs => by have : maxN = 16777216 := rfl; simp; omega) ?_; intro v7
 rw [List.nil_append]
 refine Zar ?_
 repeat refine Bt ?_
 refine ZQ ?_
 refine Ep rfl rfl Qr ?_
 refine Bw rfl ?_
 refine Kj (t := 10) (b := ?b1) ?e1 ?_ ?_
 case e1 => exact rfl
 ·
  intro ht10
  try simp only [decide_eq_true_eq, decide_eq_false_iff_not, beq_iff_eq, bne_iff_ne, beq_eq_false_iff_ne, bne_eq_false_iff_eq, Int.not_lt, Int.not_le, Bool.not_eq_true, ne_eq, Bool.not_eq_eq_eq_not, Bool.not_true, Bool.not_false] at ht10
  refine J.guardYes ?_ ?_
  ·exact rfl
  refine Bw rfl ?_
  refine J.guardYes ?_ ?_
  ·exact rfl
  refine Bw rfl ?_
  refine J.guardYes ?_ ?_
  ·exact rfl
  refine Abk Try.underlying52 rfl (by first | exact D3 pkk | exact Ez mm) ?_
  refine J.guardYes ?_ ?_
  ·exact rfl
  refine Zca ?_
  refine J.guardYes ?_ ?_
  ·exact rfl
  refine Ep rfl rfl Lp ?_
  refine Xy rfl rfl ?_
  refine Zaq ?_
  repeat refine Bt ?_
  refine Bo rfl (fun ht16 => ?_) (fun ht16 => ?_)
  ·
   try simp only [decide_eq_true_eq, decide_eq_false_iff_not, beq_iff_eq, bne_iff_ne, beq_eq_false_iff_ne, bne_eq_false_iff_eq, Int.not_lt, Int.not_le, Bool.not_eq_true, ne_eq, Bool.not_eq_eq_eq_not, Bool.not_true, Bool.not_false] at ht16
   obtain ⟨q, rfl⟩ : ∃ q : Nat, bit = (q : Int) := ⟨bit.toNat, by omega⟩
   have hq : q / 8 < b.length := by omega
   have hq8 : q % 8 < 8 := by omega
   refine Tw Agm (by kernel_rfl) (by kernel_rfl) (fun _ _ => _) (fun _ => rfl) ?_
   refine dj ?_
   refine Zdi ?_
   refine Zdi ?_
   refine d_pc (fun _ _ => Ao rfl rfl (Afl (b := 8) (by omega) (by decide))) rfl (fun _ _ _ _ => rfl) ?_
   refine dj ?_
   first | refine d_pc (fun _ _ => Jh C4 rfl rfl (by first | exact D3 pkk | exact Ez mm) (by first | assumption | omega | (simp only [List.length_nil, List.length_cons, List.length_append, List.length_take, List.length_drop, List.length_set, List.length_replicate]; omega))) rfl (fun _ _ _ _ => rfl) ?_ | refine d_indexAddr C4 (fun _ => rfl) (fun _ => rfl) (fun _ _ => (by first | exact D3 pkk | exact Ez mm)) (by first | assumption | omega | (simp only [List.length_nil, List.length_cons, List.length_append, List.length_take, List.length_drop, List.length_set, List.length_replicate]; omega)) (by first | assumption | omega | (simp only [List.length_nil, List.length_cons, List.length_append, List.length_take, List.length_drop, List.length_set, List.length_replicate]; omega)) (fun _ _ _ _ => rfl) ?_
   refine dj ?_
   first | refine T2 Try.isAgg5 (fun _ => rfl) (fun _ _ => A9 pkk (by exact rfl)) (fun _ _ _ _ => rfl) ?_ | refine T2 Try.isAgg5 (fun _ => rfl) (fun _ _ => J4 pkk (by first | assumption | omega | (simp only [List.length_nil, List.length_cons, List.length_append, List.length_take, List.length_drop, List.length_set, List.length_replicate]; omega))) (fun _ _ _ _ => rfl) ?_ | refine T2 Try.isAgg5 (fun _ => rfl) (fun _ _ => Mq mm (by first | assumption | omega | (simp only [List.length_nil, List.length_cons, List.length_append, List.length_take, List.length_drop, List.length_set, List.length_replicate]; omega))) (fun _ _ _ _ => rfl) ?_
   refine dj ?_
   refine Zdi ?_
   refine d_pc (fun _ _ => Ao rfl rfl (Afk (b := 8) (by decide) (by decide))) rfl (fun _ _ _ _ => rfl) ?_
   refine dj ?_
   refine d_pc (fun _ _ => Ao rfl rfl (b_shl8 (x := 1) (by omega) (by omega))) rfl (fun _ _ _ _ => rfl) ?_
   refine dj ?_
   first | refine d_pc (fun _ _ => Ao rfl rfl Afi) rfl (fun _ _ _ _ => rfl) ?_ | refine d_p (fun _ _ => Ao rfl rfl Afi) rfl (by first | exact Ind.const _ | exact fun _ _ _ _ _ => rfl | exact Ind.self | exact Ind.gh _ 3 rfl) (fun _ _ _ _ => rfl) ?_
   refine Y6 (by kernel_rfl) ?_; intro ρ; simp only [G6, facts, Eu, List.append_nil, List.nil_append, List.cons_append]
   first | refine Hx C4 rfl rfl (by first | exact D3 pkk | exact Ez mm) (by first | assumption | omega | (simp only [List.length_nil, List.length_cons, List.length_append, List.length_take, List.length_drop, List.length_set, List.length_replicate]; omega)) ?_ | refine Hl C4 rfl rfl (by first | exact D3 pkk | exact Ez mm) (by first | assumption | omega | (simp only [List.length_nil, List.length_cons, List.length_append, List.length_take, List.length_drop, List.length_set, List.length_replicate]; omega)) (by first | assumption | omega | (simp only [List.length_nil, List.length_cons, List.length_append, List.length_take, List.length_drop, List.length_set, List.length_replicate]; omega)) ?_
   refine Jv (α := UInt8) (f := 0) (e' := b.getD (q / 8) 0 ^^^ ((1 : UInt8) <<< UInt8.ofNat (q % 8))) Try.sizeOf5 rfl rfl rfl rfl (by intro u hu; cases List.mem_singleton.1 hu; rfl) pkk (getD_some 0 hq) (fun ds m hr => by rw [show ds = [vb _] from hr]; exact Nat.le_refl _) (fun j _ ds hr => by rw [show ds = [vb _] from hr]; show [vb (b.getD (q / 8) 0 ^^^ u8 (((1 : UInt8).toNat : Int) * 2 ^ (((q % 8 : Nat) : Int)).toNat))] = [vb _]; rw [Int.toNat_natCast, Ago ⟨q % 8, hq8⟩]) ?_
   refine Zaq ?_
   repeat refine Bt ?_
   refine ZbJ ?_
   repeat (first | refine Ev ?_ | refine Ea ?_)
   have e1 : ((q : Int) / 8).toNat = q / 8 := by omega
   have e2 : ((q : Int) % 8).toNat = q % 8 := by omega
   have ht : Bz b (q : Int) = b.set (q / 8) (b.getD (q / 8) 0 ^^^ ((1 : UInt8) <<< UInt8.ofNat (q % 8))) := by unfold Bz; rw [if_pos (by omega), e1, e2]
   refine ZcF ?_;intro w hs
   refine ⟨v7, rfl, ?_⟩
   rw [ht]
   exact (St.shut (hs.pick pkk)).sub (by repeat (first | exact .refl | exact .nil | refine .cons pkk ?_ | refine .drop ?_)) (by repeat (first | exact FSub.refl | exact FSub.nil | refine FSub.cons (by first | assumption | (repeat (first | assumption | exact List.Mem.head _ | refine .tail _ ?_))) ?_ | refine FSub.drop ?_))
  ·
   try simp only [decide_eq_true_eq, decide_eq_false_iff_not, beq_iff_eq, bne_iff_ne, beq_eq_false_iff_ne, bne_eq_false_iff_eq, Int.not_lt, Int.not_le, Bool.not_eq_true, ne_eq, Bool.not_eq_eq_eq_not, Bool.not_true, Bool.not_false] at ht16
   refine ZaO ?_
   repeat refine Bt ?_
   refine ZbJ ?_
   repeat (first | refine Ev ?_ | refine Ea ?_)
   have ht : Bz b bit = b := by unfold Bz; rw [if_neg (by omega)]
   refine ZcF ?_;intro w hs
   refine ⟨v7, rfl, ?_⟩
   rw [ht]
   exact (St.shut (hs.pick pkk)).sub (by repeat (first | exact .refl | exact .nil | refine .cons pkk ?_ | refine .drop ?_)) (by repeat (first | exact FSub.refl | exact FSub.nil | refine FSub.cons (by first | assumption | (repeat (first | assumption | exact List.Mem.head _ | refine .tail _ ?_))) ?_ | refine FSub.drop ?_))
 ·
  intro ht10
  try simp only [decide_eq_true_eq, decide_eq_false_iff_not, beq_iff_eq, bne_iff_ne, beq_eq_false_iff_ne, bne_eq_false_iff_eq, Int.not_lt, Int.not_le, Bool.not_eq_true, ne_eq, Bool.not_eq_eq_eq_not, Bool.not_true, Bool.not_false] at ht10
  refine J.guardNo ?_ ?_
  ·exact rfl
  refine J.guardNo ?_ ?_
  ·exact rfl
  refine J.guardNo ?_ ?_
  ·exact rfl
  refine J.guardNo ?_ ?_
  ·exact rfl
  refine J.guardNo ?_ ?_
  ·exact rfl
  refine Xz rfl rfl ?_
  refine Zaq ?_
  repeat refine Bt ?_
  refine Ml rfl ?_
  refine ZaO ?_
  repeat refine Bt ?_
  refine ZbJ ?_
  repeat (first | refine Ev ?_ | refine Ea ?_)
  have ht : Bz b bit = b := by unfold Bz; rw [if_neg (by omega)]
  refine ZcF ?_;intro w hs
  refine ⟨v7, rfl, ?_⟩
  rw [ht]
  exact (St.shut (hs.pick pkk)).sub (by repeat (first | exact .refl | exact .nil | refine .cons pkk ?_ | refine .drop ?_)) (by repeat (first | exact FSub.refl | exact FSub.nil | refine FSub.cons (by first | assumption | (repeat (first | assumption | exact List.Mem.head _ | refine .tail _ ?_))) ?_ | refine FSub.drop ?_))
theorem Nb {v0 : Value} {b : List UInt8} {bit : Int} (hs : St L R w) (h0 : sl v0 b ∈ R) (hbit : Ap bit) : Calls Try.prog 57 [v0, vi bit].toArray w (Bu (fun v : Value => v) (fun _ => L) (fun v => sl v (Bz b bit) :: R)) := by
 have hlen := Bj h0 hs
 have hbit' := hbit
 unfold Ap at hbit'
 refine Ai Try.func57 rfl Try.ntmps57 rfl hs ?_
 clear hs
 repeat refine Bt ?_
 refine ZaR ?_
 repeat refine Bt ?_
 refine ZaR ?_
 repeat refine Bt ?_
 refine Zds ?_
 repeat refine Bt ?_
 refine Ed ?_
 have hbl : (Bz b bit).length = b.length := Ju b bit
 refine JC.rowNil 5 UInt8 ?_
 refine Bl (γ := Nat × Value) (fun g => g.1 ≤ b.length) (fun g => row 5 g.2 ((Bz b bit).take g.1) :: L) (fun _ => R) (fun g => [(1, vi bit), (5, g.2), (9, v0), (10, vi (b.length : Int)), (11, vi (g.1 : Int))]) (fun g => b.length - g.1) (0, .slice none 0 0) (by omega) ⟨rfl, rfl, rfl, rfl, rfl, trivial⟩ (fun w hs => hs) ?_
 rintro ⟨k, v5⟩ hk
 simp only at hk ⊢
 repeat refine Bt ?_
 refine ZbZ ?_
 repeat refine Bt ?_
 refine Bo rfl (fun ht12 => ?_) (fun ht12 => ?_)
 ·
  try simp only [decide_eq_true_eq, decide_eq_false_iff_not, beq_iff_eq, bne_iff_ne, beq_eq_false_iff_ne, bne_eq_false_iff_eq, Int.not_lt, Int.not_le, Bool.not_eq_true, ne_eq, Bool.not_eq_eq_eq_not, Bool.not_true, Bool.not_false] at ht12
  refine ZaO ?_
  repeat refine Bt ?_
  refine Ed ?_
  repeat refine Bt ?_
  refine ZQ ?_
  first | refine Hx C4 rfl rfl (by first | exact D3 pkk | exact Ez mm) (by first | assumption | omega | (simp only [List.length_nil, List.length_cons, List.length_append, List.length_take, List.length_drop, List.length_set, List.length_replicate]; omega)) ?_ | refine Hl C4 rfl rfl (by first | exact D3 pkk | exact Ez mm) (by first | assumption | omega | (simp only [List.length_nil, List.length_cons, List.length_append, List.length_take, List.length_drop, List.length_set, List.length_replicate]; omega)) (by first | assumption | omega | (simp only [List.length_nil, List.length_cons, List.length_append, List.length_take, List.length_drop, List.length_set, List.length_replicate]; omega)) ?_
  first | refine Io Try.isAgg5 rfl (A9 pkk (by exact rfl)) ?_ | refine Io Try.isAgg5 rfl (J4 pkk (by first | assumption | omega | (simp only [List.length_nil, List.length_cons, List.length_append, List.length_take, List.length_drop, List.length_set, List.length_replicate]; omega))) ?_ | refine Io Try.isAgg5 rfl (Mq mm (by first | assumption | omega | (simp only [List.length_nil, List.length_cons, List.length_append, List.length_take, List.length_drop, List.length_set, List.length_replicate]; omega))) ?_
  refine Bx rfl ?_
  refine Zar ?_
  repeat refine Bt ?_
  refine ZQ ?_
  refine Bw rfl ?_
  refine Zca ?_
  refine Ep rfl rfl Qr ?_
  refine Bw rfl ?_
  refine Kj (t := 20) (b := ?b1) ?e1 ?_ ?_
  case e1 => exact rfl
  ·
   intro ht20
   try simp only [decide_eq_true_eq, decide_eq_false_iff_not, beq_iff_eq, bne_iff_ne, beq_eq_false_iff_ne, bne_eq_false_iff_eq, Int.not_lt, Int.not_le, Bool.not_eq_true, ne_eq, Bool.not_eq_eq_eq_not, Bool.not_true, Bool.not_false] at ht20
   refine J.guardYes ?_ ?_
   ·exact rfl
   refine Bw rfl ?_
   refine J.guardYes ?_ ?_
   ·exact rfl
   refine Bw rfl ?_
   refine J.guardYes ?_ ?_
   ·exact rfl
   refine Zca ?_
   refine J.guardYes ?_ ?_
   ·exact rfl
   refine Ep rfl rfl (Me (by omega) (by omega)) ?_
   refine J.guardYes ?_ ?_
   ·exact rfl
   refine Ep rfl rfl Lp ?_
   refine Xy rfl rfl ?_
   refine Zaq ?_
   repeat refine Bt ?_
   refine Bo rfl (fun ht26 => ?_) (fun ht26 => ?_)
   ·
    try simp only [decide_eq_true_eq, decide_eq_false_iff_not, beq_iff_eq, bne_iff_ne, beq_eq_false_iff_ne, bne_eq_false_iff_eq, Int.not_lt, Int.not_le, Bool.not_eq_true, ne_eq, Bool.not_eq_eq_eq_not, Bool.not_true, Bool.not_false] at ht26
    repeat refine Bt ?_
    obtain ⟨r, hr⟩ : ∃ r : Nat, bit = 8 * (k : Int) + r := ⟨(bit - 8 * (k : Int)).toNat, by omega⟩
    have hr8 : r < 8 := by omega
    have hget : (Bz b bit).getD k 0 = b.getD k 0 ^^^ ((1 : UInt8) <<< UInt8.ofNat r) := by
     have e1 : (bit / 8).toNat = k := by omega
     have e2 : (bit % 8).toNat = r := by omega
     unfold Bz
     rw [if_pos (by omega), e1, e2, Df _ _ _ _ _ (by omega), if_pos rfl]
    refine ZaR ?_
    repeat refine Bt ?_
    refine ZQ ?_
    refine Bw rfl ?_
    refine Zca ?_
    refine Ep rfl rfl (Zu (by omega) (by omega)) ?_
    refine Bw rfl ?_
    refine Zaq ?_
    repeat refine Bt ?_
    refine Ed ?_
    rw [show bit - 8 * (k : Int) = (r : Int) by omega]
    refine Bl (γ := Nat) (fun j => j ≤ r) (fun _ => row 5 v5 ((Bz b bit).take k) :: L) (fun _ => R) (fun j => [(1, vi bit), (5, v5), (9, v0), (10, vi (b.length : Int)), (11, vi (k : Int)), (7, vb (b.getD k 0)), (30, vi (r : Int)), (31, vi (j : Int)), (8, vi ((2 ^ j : Nat) : Int))]) (fun j => r - j) 0 (by omega) ⟨rfl, rfl, rfl, rfl, rfl, rfl, rfl, rfl, rfl, trivial⟩ (fun w hs => Ah hs) ?_
    intro j hj
    repeat refine Bt ?_
    refine ZbZ ?_
    repeat refine Bt ?_
    refine Bo rfl (fun ht32 => ?_) (fun ht32 => ?_)
    ·
     try simp only [decide_eq_true_eq, decide_eq_false_iff_not, beq_iff_eq, bne_iff_ne, beq_eq_false_iff_ne, bne_eq_false_iff_eq, Int.not_lt, Int.not_le, Bool.not_eq_true, ne_eq, Bool.not_eq_eq_eq_not, Bool.not_true, Bool.not_false] at ht32
     refine ZaO ?_
     repeat refine Bt ?_
     refine Ed ?_
     refine ZQ ?_
     have hp := Nat.pow_le_pow_right (show 0 < 2 by decide) (show j ≤ 8 by omega)
     have hp1 : (0 : Int) ≤ ((2 ^ j : Nat) : Int) := Int.natCast_nonneg _
     have hp2 : ((2 ^ j : Nat) : Int) ≤ 256 := Int.ofNat_le.2 hp
     refine Zca ?_
     refine Zbs ?_
     refine Zb7 ?_
     have hp3 : 2 ^ (j + 1) = 2 ^ j * 2 := Nat.pow_succ ..
     refine A6 (j + 1) (by omega) (by omega) ⟨rfl, rfl, rfl, rfl, rfl, rfl, rfl, rfl, ?_, trivial⟩ (fun w hs => hs)
     exact congrArg (fun z => some (vi z)) (show 2 * ((2 ^ j : Nat) : Int) = ((2 ^ (j + 1) : Nat) : Int) by rw [hp3, Int.natCast_mul]; exact Int.mul_comm _ _)
    ·
     try simp only [decide_eq_true_eq, decide_eq_false_iff_not, beq_iff_eq, bne_iff_ne, beq_eq_false_iff_ne, bne_eq_false_iff_eq, Int.not_lt, Int.not_le, Bool.not_eq_true, ne_eq, Bool.not_eq_eq_eq_not, Bool.not_true, Bool.not_false] at ht32
     refine H1 ?_
     repeat (first | refine D9 ?_ | refine E5 rfl ?_)
     refine Eb ?_
     refine Ax ?_
     refine ZQ ?_
     refine r_p (As Try.underlying5 Try.underlying3 rfl (Bf _)) rfl ?_
     refine Bw rfl ?_
     have hjr : j = r := by omega
     subst hjr
     have hp := Nat.pow_le_pow_right (show 0 < 2 by decide) (show j ≤ 8 by omega)
     refine r_p (Ao rfl rfl (Vn (by have := (b.getD k 0).toNat_lt; omega) (by omega))) rfl ?_
     refine r_p (As Try.underlying3 Try.underlying5 rfl (Cw _)) rfl ?_
     rw [Aaa _ _ hr8]
     refine Zar ?_
     refine ZQ ?_
     refine Bw rfl ?_
     refine X0 (α := UInt8) [b.getD k 0 ^^^ ((1 : UInt8) <<< UInt8.ofNat j)] Hp rfl rfl rfl rfl rfl rfl (fun j hj => ⟨⟨_, rfl, rfl⟩, trivial⟩) ?_; intro v43
     refine ZdO ?_;intro v44 w hs
     have hxk : ((Bz b bit)[k]?).toList = [b.getD k 0 ^^^ ((1 : UInt8) <<< UInt8.ofNat j)] := by
      rw [getD_some 0 (show k < (Bz b bit).length by omega)]
      have hg : (Bz b bit).getD k 0 = b.getD k 0 ^^^ ((1 : UInt8) <<< UInt8.ofNat j) := hget
      rw [hg]; rfl
     show St (row 5 v44 ((Bz b bit).take (k + 1)) :: _) _ w
     rw [List.take_add_one, hxk]; exact Ah hs
   ·
    try simp only [decide_eq_true_eq, decide_eq_false_iff_not, beq_iff_eq, bne_iff_ne, beq_eq_false_iff_ne, bne_eq_false_iff_eq, Int.not_lt, Int.not_le, Bool.not_eq_true, ne_eq, Bool.not_eq_eq_eq_not, Bool.not_true, Bool.not_false] at ht26
    have hget : (Bz b bit).getD k 0 = b.getD k 0 := by
     exact ZgN
    refine Ze5 ?_;intro v43 v44 w hs
    have hxk : ((Bz b bit)[k]?).toList = [b.getD k 0] := by
     exact Zgs
    show St (row 5 v44 ((Bz b bit).take (k + 1)) :: _) _ w
    rw [List.take_add_one, hxk]; exact Ah hs
  ·
   intro ht20
   try simp only [decide_eq_true_eq, decide_eq_false_iff_not, beq_iff_eq, bne_iff_ne, beq_eq_false_iff_ne, bne_eq_false_iff_eq, Int.not_lt, Int.not_le, Bool.not_eq_true, ne_eq, Bool.not_eq_eq_eq_not, Bool.not_true, Bool.not_false] at ht20
   have hget : (Bz b bit).getD k 0 = b.getD k 0 := by
    exact ZgN
   refine J.guardNo ?_ ?_
   ·exact rfl
   refine J.guardNo ?_ ?_
   ·exact rfl
   refine J.guardNo ?_ ?_
   ·exact rfl
   refine J.guardNo ?_ ?_
   ·exact rfl
   refine J.guardNo ?_ ?_
   ·exact rfl
   refine Xz rfl rfl ?_
   refine Zaq ?_
   repeat refine Bt ?_
   refine Ml rfl ?_
   refine Ze5 ?_;intro v43 v44 w hs
   have hxk : ((Bz b bit)[k]?).toList = [b.getD k 0] := by
    exact Zgs
   show St (row 5 v44 ((Bz b bit).take (k + 1)) :: _) _ w
   rw [List.take_add_one, hxk]; exact Ah hs
 ·
  try simp only [decide_eq_true_eq, decide_eq_false_iff_not, beq_iff_eq, bne_iff_ne, beq_eq_false_iff_ne, bne_eq_false_iff_eq, Int.not_lt, Int.not_le, Bool.not_eq_true, ne_eq, Bool.not_eq_eq_eq_not, Bool.not_true, Bool.not_false] at ht12
  refine H1 ?_
  repeat (first | refine D9 ?_ | refine E5 rfl ?_)
  refine Eb ?_
  refine Ax ?_
  repeat refine Bt ?_
  refine ZbJ ?_
  repeat (first | refine Ev ?_ | refine Ea ?_)
  have hkl : k = b.length := by omega
  refine ZcF ?_;intro w hs
  refine ⟨v5, rfl, ?_⟩
  have h := St.shut (hs.pick pkk)
  rw [List.take_of_length_le (by omega)] at h
  exact h.sub (by repeat (first | exact .refl | exact .nil | refine .cons pkk ?_ | refine .drop ?_)) (by repeat (first | exact FSub.refl | exact FSub.nil | refine FSub.cons (by first | assumption | (repeat (first | assumption | exact List.Mem.head _ | refine .tail _ ?_))) ?_ | refine FSub.drop ?_))
theorem Tz {α : Type} {l : List α} {i : Nat} : l.eraseIdx i = l.take i ++ l.drop (i + 1) := List.eraseIdx_eq_take_drop_succ ..
theorem RdL.erase {α : Type} [Enc α] {m : Mem} {xs : List α} {cs : List Value} {i : Nat} (hz : Enc.sz α = 1) (hi : i < xs.length) (h : RdL xs cs m) : RdL (xs.eraseIdx i) (cs.take i ++ cs.drop (i + 1)) m := by
 have h1 : xs = xs.take i ++ xs.drop i := (List.take_append_drop i xs).symm
 rw [h1] at h
 obtain ⟨a, b, e1, e2, e3⟩ := RdL.split h
 have la : a.length = i := by rw [e2.len, hz, List.length_take]; omega
 rw [List.drop_eq_getElem_cons hi] at e3
 obtain ⟨c1, c2, g1, g2, g3⟩ := e3
 have lc : c1.length = 1 := by rw [Enc.len _ _ _ g2, hz]
 rw [Tz]
 have ea : cs.take i = a := by rw [e1, ← la]; simp
 have eb : cs.drop (i + 1) = c2 := by
  rw [e1, g1, ← la, List.drop_append, show a.length + 1 - a.length = 1 by omega, List.drop_append, lc]
  simp [List.drop_of_length_le, lc]
 rw [ea, eb]
 exact RdL.append g3 e2
theorem Tv {L : List Chunk} {R : List Fact} {a : Addr} {k c : Nat} : E3 L R (.slice (some a) k c) k := fun w _ => ⟨some a, c, rfl, fun _ => ⟨a, rfl⟩⟩
theorem Abn {P : Program} {n : Nat} {L : List Chunk} {R : List Fact} {al : List (Nat × Value)} {d : Nat} {x p q r : Operand} {T ty : TypeId} {pos : String} {aft : Array Edge} {e : TypeId} {sz len cap lo hi mx : Nat} {a : Addr} (ht : Du P T e sz) (hx : ev n al x = some (.slice (some a) len cap)) (h1 : ev n al p = some (vi (lo : Int))) (h2 : ev n al q = some (vi (hi : Int))) (h3 : ev n al r = some (vi (mx : Int))) (l1 : lo ≤ hi) (l2 : hi ≤ mx) (l3 : mx ≤ cap) :
  Bb P n al L R ⟨some d, .slice T x (some p) (some q) (some r), ty, pos, aft, none⟩ (.slice (if mx = lo then some a else some (a.add (lo * sz))) (hi - lo) (mx - lo)) :=
 ⟨rfl, fun ρ w h hs => by
  show (Instr.sliceAt T (ρ x) (some (ρ p)) (some (ρ q)) (some (ρ r)) >>= fun v => Pure.pure (Next.value v)).run P w = _
  rw [h x (by simp [Op.operands]) _ hx, h p (by simp [Op.operands]) _ h1, h q (by simp [Op.operands]) _ h2, h r (by simp [Op.operands]) _ h3, Sem.run_bind]
  have : (Instr.sliceAt T (.slice (some a) len cap) (some (vi (lo : Int))) (some (vi (hi : Int))) (some (vi (mx : Int)))).run P w = .ok (.slice (if mx = lo then some a else some (a.add (lo * sz))) (hi - lo) (mx - lo)) w := by
   have e1 : (0 : Int) ≤ (lo : Int) ∧ (lo : Int) ≤ (hi : Int) := by omega
   have e2 : (0 : Int) ≤ (hi : Int) ∧ (hi : Int) ≤ (mx : Int) := by omega
   have e3 : (0 : Int) ≤ (mx : Int) ∧ (mx : Int) ≤ (cap : Int) := by omega
   simp [Instr.sliceAt, Instr.slice, Instr.sliceBounds, Instr.sliceBound, C9 ht.1, ht.2, asIntOf, e1, e2, e3, l1, l2, l3]
  rw [this]; rfl⟩
theorem Ya {v0 : Value} {l : Frames} {i : Nat} (hs : St (row 52 v0 l :: L) R w) (hi : i < l.length) : Calls Try.prog 73 [v0, vi (i : Int), vi ((i + 1 : Nat) : Int)].toArray w (Bu (fun v : Value => v) (fun v => row 52 v (l.eraseIdx i) :: L) (fun v => R)) := by
 have hlen := Afu (L := row 52 v0 l :: L) .hd hs
 have hne : l ≠ [] := by intro h; rw [h] at hi; simp at hi
 obtain ⟨g, cap, cs, rfl, hcap, hml, hN, hcl, hs, h1⟩ := Afw hne hs
 have hz : Enc.sz (List UInt8) = 1 := rfl
 rw [hz, Nat.mul_one] at hcl hs h1
 have fin : ∀ (w : World), St (blk g 52 ((cs.take i ++ (cs.drop (i + 1)).take (l.length - (i + 1)) ++ cs.drop (i + (l.length - (i + 1)))).take (i + (l.length - (i + 1))) ++ [.slice none 0 0] ++ (cs.take i ++ (cs.drop (i + 1)).take (l.length - (i + 1)) ++ cs.drop (i + (l.length - (i + 1)))).drop (i + (l.length - (i + 1)) + 1)) :: L) (rdL l (cs.take l.length) :: R) w →
    ∃ u, Value.slice (some ⟨g, 0, none⟩) (i + (l.length - (i + 1))) cap = u ∧ St (row 52 u (l.eraseIdx i) :: L) R w := by
   intro w hs
   have he : (l.eraseIdx i).length = i + (l.length - (i + 1)) := by rw [List.length_eraseIdx, if_pos hi]; omega
   have hA : (cs.take i ++ (cs.drop (i + 1)).take (l.length - (i + 1))).length = i + (l.length - (i + 1)) := by simp; omega
   refine ⟨_, rfl, ?_⟩
   have := Aju (T := 52) (g := g) (cap := cap) (xs := l.eraseIdx i) (by omega) (by omega) hml (by rw [hz, Nat.mul_one]; simp only [List.length_append, List.length_take, List.length_drop, List.length_cons, List.length_nil]; omega) (fun j hj => ?_) hs
   ·rw [he] at this; exact Ah this
   ·have hr : RdL l (cs.take l.length) j := hj _ (List.Mem.head _)
    have hr2 := hr.erase hz hi
    rw [he, hz, Nat.mul_one]
    have : ((cs.take i ++ (cs.drop (i + 1)).take (l.length - (i + 1)) ++ cs.drop (i + (l.length - (i + 1)))).take (i + (l.length - (i + 1))) ++ [Value.slice none 0 0] ++ (cs.take i ++ (cs.drop (i + 1)).take (l.length - (i + 1)) ++ cs.drop (i + (l.length - (i + 1)))).drop (i + (l.length - (i + 1)) + 1)).take (i + (l.length - (i + 1))) = (cs.take l.length).take i ++ (cs.take l.length).drop (i + 1) := by
     rw [List.append_assoc, List.take_append_of_le_length (by simp; omega), List.take_take, Nat.min_self, List.take_append_of_le_length (by rw [hA]; exact Nat.le_refl _), List.take_of_length_le (by rw [hA]; exact Nat.le_refl _), List.take_take, Nat.min_eq_left (by omega), List.drop_take]
    rw [this]; exact hr2
 refine Ai Try.func73 rfl Try.ntmps73 rfl hs ?_
 clear hs
 refine ZP ?_
 refine rn4 ?_
 refine ob (Ri (hl := Tv) Try.underlying31) ?_
 refine ob (Abn (a := ⟨g, 0, none⟩) Pl (lo := i) (hi := i + 1) (mx := l.length) rfl rfl rfl rfl (by omega) (by omega) hcap) ?_
 refine ZI ?_
 refine Av ?_
 refine ZaQ ?_
 refine ob (Ri (hl := Tv) Try.underlying31) ?_
 refine Ga1 ?_
 refine Zao ?_
 refine djc (fun _ _ => q_sl0 (hi := i) Pl rfl rfl (by omega)) ?_
 refine dn2 ?_
 refine djc (fun _ _ => q_slN (lo := i + 1) (hi := l.length) Pl rfl rfl rfl (by omega) (by omega)) ?_
 refine dtl ?_; intro ρ
 refine ap_in (j := i + 1) (cs := cs) K2 rfl rfl (fun hm => by rw [if_neg (by omega)]; unfold Addr.add; simp) .hd hcl (by omega) (by omega) (fun u hu => h1 u (by rw [← List.drop_take] at hu; exact List.mem_of_mem_drop hu)) ?_
 refine Za8 ?_
 refine ob (Ri (hl := Tv) Try.underlying31) ?_
 refine rn1 ?_
 refine ob (q_slN (lo := i + (l.length - (i + 1))) (hi := l.length) Pl rfl rfl rfl (by omega) (by omega)) ?_
 refine clr (o := i + (l.length - (i + 1))) (c2 := cap - (i + (l.length - (i + 1)))) (z := .slice none 0 0) K2 Try.zeroValue52 rfl rfl ?_ .hd ?_ ?_
 ·refine congrArg some ?_; rw [if_neg (by omega), show l.length - (i + (l.length - (i + 1))) = 1 by omega]; rw [Ij]; simp
 ·simp only [List.length_append, List.length_take, List.length_drop]; omega
 intro cs_ hcs_; subst hcs_
 refine ZD ?_
 refine Bs (.inr rfl) (fun B w hs => Aew rfl rfl B w) (fun w hs => fin w hs)
theorem Aes {f : Fact} (hs : St L R w) (h : f ∈ R) : St L (f :: R) w := hs.sub .refl (fun g hg => by
 rcases List.mem_cons.1 hg with e | e
 ·rw [e]; exact h
 ·exact e)
theorem Q5 {v0 v1 : Value} {fs : Frames} {ms : List Msg} (hs : St (L) R w) (h0 : sl v0 fs ∈ R) (h1 : sl v1 ms ∈ R) (hm : ∀ m ∈ ms, MsgIn m) : Calls Try.prog 52 [v0, v1].toArray w (Bu (fun v : Value => v) (fun v => L) (fun v => sl v (way fs ms) :: R)) := by
 have hlen := Bj h1 hs
 refine Ai Try.func52 rfl Try.ntmps52 rfl hs ?_
 clear hs
 refine ZP ?_
 refine Ga3 ?_
 refine Bl (γ := Nat × Value) (fun g => g.1 ≤ ms.length) (fun _ => L) (fun g => sl g.2 (way fs (ms.take g.1)) :: R) (fun g => [(0, g.2), (7, v1), (8, vi (ms.length : Int)), (9, vi (g.1 : Int))]) (fun g => ms.length - g.1) (0, v0) (Nat.zero_le _) alT (fun w hs => Aes hs h0) ?_
 rintro ⟨k, vs⟩ hk
 try simp only at hk ⊢
 refine ZA ?_
 refine cdy ?_ ?_
 ·intro ht10
  refine Gl ?_
  refine JC.open0 (xs := ms) (v := v1) k mm (by omega) (fun _ => ?_)
  have hin : MsgIn (ms.getD k zMsg) := hm _ (by rw [List.getD_eq_getElem?_getD, List.getElem?_eq_getElem (by omega)]; exact List.getElem_mem _)
  refine ZB ?_
  refine al_ (cs := zMsg.cells) Try.zeroValue49 ?_; intro b6
  refine s_B (cs := (ms.getD k zMsg).cells) Try.sizeOf49 ?_
  refine ZI ?_
  refine Am Try.call84 rfl (fun w hs => Abb hs hin) ?_; intro v15
  refine Am Try.call56 rfl (fun w hs => Xt hs (l := way fs (ms.take k)) (b := Ce (ms.getD k zMsg)) mm mm) ?_; intro v16
  refine ZF ?_
  refine A6 (k + 1, v16) (by show k + 1 ≤ ms.length; omega) (by show ms.length - (k + 1) < ms.length - k; omega) alT (fun w hs => ?_)
  try simp only
  rw [Fk zMsg (by omega), Jt]; exact Ah hs
 ·intro ht10
  refine ZD ?_
  have hkl : k = ms.length := by omega
  subst hkl
  rw [List.take_length]
  exact Bg vs
theorem Le {e : Int} (hs : St (L) R w) : Calls Try.prog 49 [vi e].toArray w (Bu (fun _ : Unit => .tuple #[.agg #[.slice none 0 0, .slice none 0 0, .slice none 0 0], .slice none 0 0, vi e]) (fun _ => L) (fun _ => R)) := by
 refine Ai Try.func49 rfl Try.ntmps49 rfl hs ?_
 clear hs
 refine Gm ?_
 refine al_ (cs := [.slice none 0 0, .slice none 0 0, .slice none 0 0]) Try.zeroValue33 ?_; intro b2
 refine Gb2 ?_
 refine ZaG ?_
 refine rn1 ?_
 refine s_B Try.sizeOf33 ?_
 refine Ga2 ?_
 exact Cl () Try.isAgg33 Try.sizeOf33
theorem Aak {v0 v1 : Value} {a b : List Done} (hs : St (L) R w) (h0 : sl v0 a ∈ R) (h1 : sl v1 b ∈ R) : Calls Try.prog 21 [v0, v1].toArray w (Bu (fun _ : Unit => .bool (decide (a = b))) (fun _ => L) (fun _ => R)) := by
 have hla := Bj h0 hs
 have hlb := Bj h1 hs
 refine Ai Try.func21 rfl Try.ntmps21 rfl hs ?_
 clear hs
 refine ZP ?_
 refine Ga5 ?_
 refine cdy ?_ ?_
 ·exact ZfW
 ·intro ht10
  refine ZcX ?_
  rintro k ⟨hk, hab⟩
  refine ZA ?_
  refine cdy ?_ ?_
  ·intro ht14
   refine ZD ?_
   refine JC.open0 (xs := a) (v := v0) k h0 (by omega) (fun _ => ?_)
   refine JC.open0 (xs := b) (v := v1) k (.tail _ h1) (by omega) (fun _ => ?_)
   refine Zac ?_
   refine djc (fun _ _ => Ji rfl rfl (Akc _ _ _) (Aeb _ _)) ?_
   refine dnl ?_; intro ρ
   refine Gl ?_
   refine cdy ?_ ?_
   ·exact Zg8
   ·intro ht24
    refine ZD ?_
    refine A6 (k + 1) ⟨by omega, ?_⟩ (by omega) alT (fun w hs => Ah hs)
    rw [Fk (El0.df : Done) (by omega), Fk (El0.df : Done) (by omega), hab]
    exact ZgS
  ·intro ht14
   exact Zfj
theorem Aal {u0 u1 : Value} {a b : Core} (hs : St (L) R w) (h0 : sl u0 a.lines ∈ R) (h1 : sl u1 b.lines ∈ R) : Calls Try.prog 25 [.agg (a.cells u0).toArray, .agg (b.cells u1).toArray].toArray w (Bu (fun _ : Unit => .bool (decide (a = b))) (fun _ => L) (fun _ => R)) := by
 have hla := Bj h0 hs
 have hlb := Bj h1 hs
 have hone0 : u0.oneCell' = true := isSlice.one (hs.fact h0)
 have hone1 : u1.oneCell' = true := isSlice.one (hs.fact h1)
 refine Ai Try.func25 rfl Try.ntmps25 rfl hs ?_
 clear hs
 refine Zay ?_;intro b2
 refine bx ?_; intro b3
 refine Ga1 ?_
 refine kp [2, 3, 4, 6, 7, 8, 9, 10, 11, 12, 13, 14, 15, 16, 17, 18, 19] ?_
 refine Ds 19 (.bool (decide (¬ (a.wait = b.wait ∧ a.lines.length = b.lines.length)))) ?_ ?_
 ·rcases (show (¬ a.wait = b.wait) ∨ (a.wait = b.wait ∧ ¬ a.lines.length = b.lines.length) ∨ (a.wait = b.wait ∧ a.lines.length = b.lines.length) from by by_cases h1 : a.wait = b.wait <;> by_cases h2 : a.lines.length = b.lines.length <;> simp [h1, h2]) with hm | hm | hm
  ·refine ZC ?_
   refine ZbF ?_
   refine rn2 ?_
   refine ob (Ji rfl rfl (Aen a.wait b.wait _) (Ajr (x := a.wait) (y := b.wait) hm)) ?_
   refine Ga9 ?_
   exact Zf9
  ·refine Ze0 ?_
   refine Ia ?_
   refine Ga1 ?_
   exact Zf9
  ·refine Ze0 ?_
   refine Ib ?_
   refine Ga1 ?_
   refine Au ?_ (fun w hs => hs)
   refine ⟨by first | exact congrArg (fun b => some (Value.bool b)) (decide_eq_false (by first | exact fun h => hm h.1 | exact fun h => hm.2 h.2 | exact fun h => h hm)).symm | exact congrArg (fun b => some (Value.bool b)) (by simp; omega), alT⟩
 ·refine Ax ?_
  refine Gl ?_
  first | (refine cdx (p := ?p1) (hd := ?d1) ?e1 ?_ ?_; case e1 => exact rfl) | (refine Bo (b := ?b1) ?e1 ?_ ?_; case e1 => exact rfl)
  ·intro ht19
   refine Gl ?_
   refine kp [2, 3, 4] ?_
   refine ZX ?_
   have e : a ≠ b := by
    intro h
    have hw : a.wait = b.wait := by rw [h]
    have hl : a.lines.length = b.lines.length := by rw [h]
    first | exact ht19 ⟨hw, hl⟩ | omega
   exact Zfu
  ·intro ht19
   refine Gl ?_
   refine kp [2, 3, 4, 20, 21, 22, 23] ?_
   refine Aa ?_
   refine Ga4 ?_
   refine Bl (γ := Nat) (fun k => k ≤ a.lines.length ∧ a.lines.take k = b.lines.take k) (fun _ => blk b2 57 (a.cells u0) :: blk b3 57 (b.cells u1) :: L) (fun _ => R) (fun k => [(2, bp b2 0), (3, bp b3 0), (22, vi (a.lines.length : Int)), (23, vi (k : Int))]) (fun k => a.lines.length - k) 0 ⟨Nat.zero_le _, rfl⟩ alT (fun w hs => Ah hs) ?_
   rintro k ⟨hk, hab⟩
   refine ZA ?_
   refine cdy ?_ ?_
   ·intro ht24
    refine ZD ?_
    refine JC.open0 (xs := a.lines) (v := u0) k mm (by omega) (fun _ => ?_)
    refine JC.open0 (xs := b.lines) (v := u1) k mm (by omega) (fun _ => ?_)
    refine Cf ?_
    refine Y5 ?_
    refine djc (fun _ _ => Ji rfl rfl (Akb _ _ _) (Aea _ _)) ?_
    refine dnl ?_; intro ρ
    refine Gl ?_
    refine cdy ?_ ?_
    ·intro ht36
     refine ZA ?_
     have e : a ≠ b := by intro h; apply ht36; rw [h]
     exact Zfu
    ·intro ht36
     refine ZD ?_
     refine A6 (k + 1) ⟨by omega, ?_⟩ (by omega) alT (fun w hs => Ah hs)
     rw [Fk zLine (by omega), Fk zLine (by omega), hab]
     exact congrArg (fun z => b.lines.take k ++ [z]) (Classical.byContradiction ht36)
   ·intro ht24
    refine ZA ?_
    have e : a = b := by
     have hkl : k = a.lines.length := by omega
     obtain ⟨hw, hl⟩ := Decidable.not_not.1 ht19
     rw [hkl, List.take_length, hl, List.take_length] at hab
     cases a; cases b; simp only at hab hw; rw [hab, hw]
    exact Zfu
theorem Mi {P : Program} {n : Nat} {Q : Exit → Act → World → Prop} {L : List Chunk} {R : List Fact} {al : List (Nat × Value)} {c : Code} {v : Value} {l : List Entry} (i : Nat) (hm : sl v l ∈ R) (hi : i < l.length) (k : (l.getD i A7).wf → ∀ u, JC P n c Q L (cF v 10 i (Entry.cells u (l.getD i A7)) :: sl u (l.getD i A7).last :: R) al) : JC P n c Q L R al := JC.open1 i hm hi k
theorem Aix {a b : Entry} (h0 : a.value = b.value) (h1 : a.owner = b.owner) (h2 : a.sharers = b.sharers) (h3 : a.phase = b.phase) (h4 : a.who = b.who) (h5 : a.serial = b.serial) (h6 : a.alone = b.alone) (h7 : a.turn = b.turn) (h8 : a.need = b.need) (h9 : a.last = b.last) : a = b := by
 cases a; cases b; simp only at *; subst h0 h1 h2 h3 h4 h5 h6 h7 h8 h9; rfl
theorem Aaj {v0 v1 : Value} {a b : List Entry} (hs : St (L) R w) (h0 : sl v0 a ∈ R) (h1 : sl v1 b ∈ R) : Calls Try.prog 26 [v0, v1].toArray w (Bu (fun _ : Unit => .bool (decide (a = b))) (fun _ => L) (fun _ => R)) := by
 have hla := Bj h0 hs
 have hlb := Bj h1 hs
 refine Ai Try.func26 rfl Try.ntmps26 rfl hs ?_
 clear hs
 refine ZP ?_
 refine Ga5 ?_
 refine cdy ?_ ?_
 ·intro ht12
  refine ZA ?_
  have e : a ≠ b := by intro h; apply ht12; rw [h]
  exact Zfu
 ·intro ht12
  refine ZU ?_
  refine Bl (γ := Nat) (fun k => k ≤ a.length ∧ a.take k = b.take k) (fun _ => L) (fun _ => R) (fun k => [(0, v0), (1, v1), (14, vi (a.length : Int)), (15, vi (k : Int))]) (fun k => a.length - k) 0 ⟨Nat.zero_le _, rfl⟩ alT (fun w hs => hs) ?_
  rintro k ⟨hk, hab⟩
  refine ZA ?_
  refine cdy ?_ ?_
  ·intro ht16
   refine ZD ?_
   refine Mi (l := a) (v := v0) k mm (by omega) (fun _ ua => ?_)
   refine Mi (l := b) (v := v1) k mm (by omega) (fun _ ub => ?_)
   refine JC.know (p := ua.oneCell' = true ∧ ub.oneCell' = true) (fun w hs => ⟨isSlice.one (hs.fact (.tail _ (.tail _ (.tail _ (.head _))))), isSlice.one (hs.fact (.tail _ (.head _)))⟩) (fun h12 => ?_)
   obtain ⟨hone1, hone2⟩ := h12
   refine cq_ (L) ?_
   refine jd_ (fun ρ S => (bif S 8 then [blk (Gh.dec (γ := Nat) (ρ 8)) 80 (bif S 10 then (Entry.cells ua (a.getD k A7)) else zEC)] else []) ++ ((bif S 9 then [blk (Gh.dec (γ := Nat) (ρ 9)) 80 (bif S 11 then (Entry.cells ub (b.getD k A7)) else zEC)] else []) ++ (L))) ?_
   refine dn8 ?_
   refine Hq (cs := zEC) Try.zeroValue80 rfl (fun ρ b S hS hA => ?_) ?_
   ·have ui : upS S 8 8 = true := rfl; have u9 : upS S 8 9 = S 9 := rfl; have u10 : upS S 8 10 = S 10 := rfl; have u11 : upS S 8 11 = S 11 := rfl; have r9 : Rho.set ρ 8 (Gh.enc b) 9 = ρ 9 := rfl; have h10 : S 10 = false := hA 10 ⟨0, rfl⟩; have rs : (Gh.dec (γ := Nat) (Rho.set ρ 8 (Gh.enc b) 8)) = b := rfl
    simp only [ui, hS, u9, u10, u11, r9, h10, rs, cond_true, cond_false, List.nil_append]
    exact Zfb
   refine Hq (cs := zEC) Try.zeroValue80 rfl (fun ρ b S hS hA => ?_) ?_
   ·have ui : upS S 9 9 = true := rfl; have u8 : upS S 9 8 = S 8 := rfl; have u10 : upS S 9 10 = S 10 := rfl; have u11 : upS S 9 11 = S 11 := rfl; have r8 : Rho.set ρ 9 (Gh.enc b) 8 = ρ 8 := rfl; have h11 : S 11 = false := hA 11 ⟨0, rfl⟩; have rs : (Gh.dec (γ := Nat) (Rho.set ρ 9 (Gh.enc b) 9)) = b := rfl
    simp only [ui, hS, u8, u10, u11, r8, h11, rs, cond_true, cond_false, List.nil_append]
    exact Zfb
   refine es_ 80 0 [8] [] (fun ρ => (Gh.dec (γ := Nat) (ρ 8))) (fun ρ => zEC) (fun ρ => (Entry.cells ua (a.getD k A7))) Try.sizeOf80 ?_
   refine es_ 80 0 [9] [] (fun ρ => (Gh.dec (γ := Nat) (ρ 9))) (fun ρ => zEC) (fun ρ => (Entry.cells ub (b.getD k A7))) Try.sizeOf80 ?_
   refine dnl ?_; intro ρ
   refine xq_ (blk (Gh.dec (γ := Nat) (ρ 8)) 80 (Entry.cells ua (a.getD k A7)) :: blk (Gh.dec (γ := Nat) (ρ 9)) 80 (Entry.cells ub (b.getD k A7)) :: L) ?_
   generalize (Gh.dec (γ := Nat) (ρ 8)) = b6
   generalize (Gh.dec (γ := Nat) (ρ 9)) = b7
   refine Gm ?_
   refine rn6 ?_
   refine jgx (t := 31) (p := ?p3) (hd := ?d3) ?e3 ?_ ?_; case e3 => exact rfl
   ·intro ht31
    refine Aev ?_
    refine Gc31 ?_
    refine Za4 ?_
    have e : a ≠ b := by intro h; apply ht31; rw [h]
    exact Zfu
   ·intro ht31
    refine rn7 ?_
    refine jgx (t := 38) (p := ?p4) (hd := ?d4) ?e4 ?_ ?_; case e4 => exact rfl
    ·intro ht38
     refine Aev ?_
     refine Gc24 ?_
     refine Za4 ?_
     have e : a ≠ b := by intro h; apply ht38; rw [h]
     exact Zfu
    ·intro ht38
     refine rn7 ?_
     refine jgx (t := 45) (p := ?p5) (hd := ?d5) ?e5 ?_ ?_; case e5 => exact rfl
     ·intro ht45
      refine Aev ?_
      refine Gc17 ?_
      refine Za4 ?_
      have e : a ≠ b := by intro h; apply ht45; rw [h]
      exact Zfu
     ·intro ht45
      refine rn7 ?_
      refine jgx (t := 52) (p := ?p6) (hd := ?d6) ?e6 ?_ ?_; case e6 => exact rfl
      ·intro ht52
       refine Aev ?_
       refine Gc10 ?_
       refine Za4 ?_
       have e : a ≠ b := by intro h; apply ht52; rw [h]
       exact Zfu
      ·intro ht52
       refine rn7 ?_
       refine jgx (t := 59) (p := ?p7) (hd := ?d7) ?e7 ?_ ?_; case e7 => exact rfl
       ·intro ht59
        refine Aev ?_
        refine Gc3 ?_
        refine Za4 ?_
        have e : a ≠ b := by intro h; apply ht59; rw [h]
        exact Zfu
       ·intro ht59
        refine rn7 ?_
        refine jgx (t := 66) (p := ?p8) (hd := ?d8) ?e8 ?_ ?_; case e8 => exact rfl
        ·intro ht66
         refine Gc28 ?_
         refine Za4 ?_
         have e : a ≠ b := by intro h; apply ht66; rw [h]
         exact Zfu
        ·intro ht66
         refine ZG ?_
         refine ob (Aey rfl rfl (Aeh Try.underlying4)) ?_
         refine rn2 ?_
         refine Kj (t := 73) (b := ?b9) ?e9 ?_ ?_; case e9 => exact rfl
         ·intro ht73
          refine Gc21 ?_
          refine Za4 ?_
          have e : a ≠ b := by intro h; rw [h] at ht73; simp at ht73
          exact Zfu
         ·intro ht73
          refine rn7 ?_
          refine jgx (t := 80) (p := ?p10) (hd := ?d10) ?e10 ?_ ?_; case e10 => exact rfl
          ·intro ht80
           refine Gc14 ?_
           refine Za4 ?_
           have e : a ≠ b := by intro h; apply ht80; rw [h]
           exact Zfu
          ·intro ht80
           refine rn7 ?_
           refine jgx (t := 87) (p := ?p11) (hd := ?d11) ?e11 ?_ ?_; case e11 => exact rfl
           ·intro ht87
            refine Gc7 ?_
            refine Za4 ?_
            have e : a ≠ b := by intro h; apply ht87; rw [h]
            exact Zfu
           ·intro ht87
            refine ZG ?_
            refine Am Try.call65 rfl (fun w hs => Aai (a := (a.getD k A7).last) (b := (b.getD k A7).last) hs mm mm) ?_; intro _
            refine Ga2 ?_
            first | (refine cdx (p := ?p12) (hd := ?d12) ?e12 ?_ ?_; case e12 => exact rfl) | (refine Bo (b := ?b12) ?e12 ?_ ?_; case e12 => exact rfl)
            ·intro ht94
             refine Gl ?_
             refine Za4 ?_
             have e : a ≠ b := by intro h; rw [h] at ht94; simp at ht94
             exact Zfu
            ·intro ht94
             refine Gl ?_
             refine kp [0, 1, 4, 5, 6, 7, 14, 15, 16, 17, 18, 19, 20, 21, 22, 23, 24, 25, 26, 27, 28, 29, 30, 31, 32, 33, 34, 35, 36, 37, 38, 39, 40, 41, 42, 43, 44, 45, 46, 47, 48, 49, 50, 51, 52, 53, 54, 55, 56, 57, 58, 59, 60, 61, 62, 63, 64, 65, 66, 67, 68, 69, 70, 71, 72, 73, 74, 75, 76, 77, 78, 79, 80, 81, 82, 83, 84, 85, 86, 87, 88, 89, 90, 91, 92, 93, 94, 95] ?_
             refine ZR ?_
             refine A6 (k + 1) ⟨by omega, ?_⟩ (by omega) alT (fun w hs => Ah hs)
             rw [Fk A7 (by omega), Fk A7 (by omega), hab]
             exact congrArg (fun z => b.take k ++ [z]) (Aix (Decidable.not_not.1 ht31) (Decidable.not_not.1 ht38) (Decidable.not_not.1 ht45) (Decidable.not_not.1 ht52) (Decidable.not_not.1 ht59) (Decidable.not_not.1 ht66) (by simpa using ht73) (Decidable.not_not.1 ht80) (Decidable.not_not.1 ht87) (by simpa using ht94))
  ·intro ht16
   exact Zfj
def Ie (c : Config) : Entry := { A7 with last := List.replicate c.cores.toNat 0 }
def L4 (c : Config) : Core := ⟨List.replicate c.lines.toNat zLine, zOp⟩
theorem Mh {α : Type} (k : Nat) (a : α) : List.replicate (k + 1) a = List.replicate k a ++ [a] := List.replicate_succ' ..
theorem Rs (c : Config) : (Ie c).wf := by unfold Ie A7 Entry.wf Ap; simp only; omega
theorem Iz {c : Config} (h : c.cores < 1 ∨ 4 < c.cores ∨ c.lines < 1 ∨ 4 < c.lines) : A8 c = (Dn, 3) := by unfold A8 Dz; rw [if_pos h, if_pos (by decide)]
theorem Sq {c : Config} (h : ¬ (c.cores < 1 ∨ 4 < c.cores ∨ c.lines < 1 ∨ 4 < c.lines)) : A8 c = (⟨List.replicate c.cores.toNat (L4 c), List.replicate c.lines.toNat (Ie c), []⟩, 0) := by unfold A8 Dz; rw [if_neg h, if_neg (by decide)]; rfl
theorem Xu {c : Config} (hs : St (L) R w) (hc : c.wf) : Calls Try.prog 16 [.agg c.cells.toArray].toArray w (Bu (fun v : Value × Value => .tuple #[.agg #[v.1, v.2, .slice none 0 0], vi (A8 c).2]) (fun v => L) (fun v => sl v.1 (A8 c).1.cores :: sl v.2 (A8 c).1.home :: sl (.slice none 0 0) (A8 c).1.frames :: R)) := by
 refine Ai Try.func16 rfl Try.ntmps16 rfl hs ?_
 clear hs
 refine Zbv ?_;intro b1 b2
 refine Ga1 ?_
 rcases (show (c.cores < 1) ∨ (¬ c.cores < 1 ∧ 4 < c.cores) ∨ (¬ c.cores < 1 ∧ ¬ 4 < c.cores ∧ c.lines < 1) ∨ (¬ c.cores < 1 ∧ ¬ 4 < c.cores ∧ ¬ c.lines < 1 ∧ 4 < c.lines) ∨ (1 ≤ c.cores ∧ c.cores ≤ 4 ∧ 1 ≤ c.lines ∧ c.lines ≤ 4) from by omega) with hc | hc | hc | hc | hc
 ·refine ZZ ?_
  refine Gc15 ?_
  exact ZfE
 ·refine Zbf ?_
  refine Gc11 ?_
  exact ZfE
 ·refine Zaw ?_
  refine ZaD ?_
  refine Gc6 ?_
  exact ZfE
 ·refine Zaw ?_
  refine ZaT ?_
  refine Gc1 ?_
  exact ZfE
 ·refine Zaw ?_
  refine Za0 ?_
  refine Gd1 ?_
  refine Zcm ?_;intro b4
  refine ZU ?_
  refine JC.rowNil 80 Entry ?_
  refine Bl (γ := Nat × Value) (fun g => (g.1 : Int) ≤ c.lines) (fun g => row 80 g.2 (List.replicate g.1 (Ie c)) :: blk b4 33 [.slice none 0 0, g.2, .slice none 0 0] :: blk b1 23 c.cells :: blk b2 33 [.slice none 0 0, .slice none 0 0, .slice none 0 0] :: L) (fun _ => R) (fun g => [(1, bp b1 0), (2, bp b2 0), (4, bp b4 0), (25, vi c.lines), (26, vi (g.1 : Int))]) (fun g => c.lines.toNat - g.1) (0, .slice none 0 0) (by show (0 : Int) ≤ c.lines; omega) alT (fun w hs => Ah hs) ?_
  rintro ⟨k, vh⟩ hk
  try simp only at hk ⊢
  refine ZA ?_
  refine cdy ?_ ?_
  ·intro ht27
   refine Gl ?_
   refine cq_ (row 80 vh (List.replicate k (Ie c)) :: blk b4 33 [.slice none 0 0, vh, .slice none 0 0] :: blk b1 23 c.cells :: blk b2 33 [.slice none 0 0, .slice none 0 0, .slice none 0 0] :: L) ?_
   refine jd_ (fun ρ S => row 80 vh (List.replicate k (Ie c)) :: blk b4 33 [.slice none 0 0, vh, .slice none 0 0] :: blk b1 23 c.cells :: blk b2 33 [.slice none 0 0, .slice none 0 0, .slice none 0 0] :: L) ?_
   refine dn4 ?_
   refine Aff (a := c.cores) (x0 := (0 : Int)) (zc := [vi 0]) E6 rfl (by decide) (fun _ => rfl) (fun _ => rfl) rfl (fun j => ⟨rfl, by unfold Ap; omega⟩) (by omega) (by omega) (fun _ _ _ _ => rfl) ?_
   refine e_pd (v := fun ρ => .agg ([vi 0, vi (-1), vi 0, vi 0, vi 0, vi 0, .bool false, vi 0, vi 0, (Gh.dec (γ := Value) (ρ 4))]).toArray) (fun ρ S R' L' w hd hs => by have h1 : (Gh.dec (γ := Value) (ρ 4)).oneCell' = true := isSlice.one (hs.fact (hd.dep (it := ⟨4, _, _, _, _⟩) (by repeat (first | exact List.Mem.head _ | refine List.Mem.tail _ ?_)) ⟨9, rfl⟩ (List.Mem.head _))); exact Fz st_80) (Ind.gh (h := fun g => Value.agg ([vi 0, vi (-1), vi 0, vi 0, vi 0, vi 0, .bool false, vi 0, vi 0, (Gh.dec (γ := Value) g)]).toArray) 4 3 rfl) (fun _ _ _ _ _ => rfl) ?_
   refine F6 ([Ie c] : List Entry) Sg rfl (fun _ => rfl) rfl (fun _ => rfl) rfl rfl (fun ρ R hd j hj => ⟨⟨_, rfl, ⟨_, rfl, hj _ (hd.dep (it := ⟨4, _, _, _, _⟩) (by repeat (first | exact List.Mem.head _ | refine List.Mem.tail _ ?_)) ⟨9, rfl⟩ (List.Mem.head _)), Rs c⟩⟩, trivial⟩) (fun _ _ _ _ _ => rfl) ?_
   refine dtl ?_; intro ρ
   refine J.conseq (L' := row 80 vh (List.replicate k (Ie c)) :: blk b4 33 [.slice none 0 0, vh, .slice none 0 0] :: blk b1 23 c.cells :: blk b2 33 [.slice none 0 0, .slice none 0 0, .slice none 0 0] :: L) (fun w hs => hs) ?_
   generalize (Gh.dec (γ := Value) (ρ 4)) = v32
   generalize (Gh.dec (γ := Value) (ρ 6)) = v34
   refine ap Sg (hb := fun w hs => by have : maxN = 16777216 := rfl; simp only [List.length_cons, List.length_nil, List.length_replicate]; omega) (k := ?_); intro v35
   refine rn1 ?_
   refine J.know (p := v35.oneCell' = true) (fun w hs => Cm (v := v35) pkk hs) (fun honev35 => ?_)
   refine sc ?_
   refine Gl ?_
   refine kp [1, 2, 3, 4, 25, 26, 27, 28, 29, 30, 31, 32, 33, 34, 35, 36, 37] ?_
   refine ZR ?_
   refine A6 (k + 1, v35) (by show ((k + 1 : Nat) : Int) ≤ c.lines; omega) (by show c.lines.toNat - (k + 1) < c.lines.toNat - k; omega) alT (fun w hs => ?_)
   try simp only
   rw [Mh]; exact Ah hs
  ·intro ht27
   refine ZU ?_
   refine JC.shut (v := vh) pkk ?_
   refine JC.know (p := vh.oneCell' = true) (fun w hs => isSlice.one (hs.fact (List.Mem.head _))) (fun honeh => ?_)
   refine JC.rowNil 57 Core ?_
   refine Bl (γ := Nat × Value) (fun g => (g.1 : Int) ≤ c.cores) (fun g => row 57 g.2 (List.replicate g.1 (L4 c)) :: blk b4 33 [g.2, vh, .slice none 0 0] :: blk b1 23 c.cells :: blk b2 33 [.slice none 0 0, .slice none 0 0, .slice none 0 0] :: L) (fun _ => sl vh (List.replicate k (Ie c)) :: R) (fun g => [(1, bp b1 0), (2, bp b2 0), (4, bp b4 0), (39, vi c.cores), (40, vi (g.1 : Int))]) (fun g => c.cores.toNat - g.1) (0, .slice none 0 0) (by show (0 : Int) ≤ c.cores; omega) alT (fun w hs => Ah hs) ?_
   rintro ⟨k2, vc⟩ hk2
   try simp only at hk2 ⊢
   refine ZA ?_
   refine cdy ?_ ?_
   ·intro ht41
    refine Gl ?_
    refine cq_ (row 57 vc (List.replicate k2 (L4 c)) :: blk b4 33 [vc, vh, .slice none 0 0] :: blk b1 23 c.cells :: blk b2 33 [.slice none 0 0, .slice none 0 0, .slice none 0 0] :: L) ?_
    refine jd_ (fun ρ S => row 57 vc (List.replicate k2 (L4 c)) :: blk b4 33 [vc, vh, .slice none 0 0] :: blk b1 23 c.cells :: blk b2 33 [.slice none 0 0, .slice none 0 0, .slice none 0 0] :: L) ?_
    refine dn4 ?_
    refine Aff (a := c.lines) (x0 := zLine) (zc := zLine.cells) Wu rfl (by decide) (fun _ => rfl) (fun _ => rfl) rfl (fun j => ⟨rfl, by unfold Line.wf Ap zLine; simp only; omega⟩) (by omega) (by omega) (fun _ _ _ _ => rfl) ?_
    refine e_pd (v := fun ρ => .agg ([(Gh.dec (γ := Value) (ρ 4)), vi 0, vi 0, vi 0]).toArray) (fun ρ S R' L' w hd hs => by have h1 : (Gh.dec (γ := Value) (ρ 4)).oneCell' = true := isSlice.one (hs.fact (hd.dep (it := ⟨4, _, _, _, _⟩) (by repeat (first | exact List.Mem.head _ | refine List.Mem.tail _ ?_)) ⟨9, rfl⟩ (List.Mem.head _))); exact Fz Il) (Ind.gh (h := fun g => Value.agg ([(Gh.dec (γ := Value) g), vi 0, vi 0, vi 0]).toArray) 4 3 rfl) (fun _ _ _ _ _ => rfl) ?_
    refine F6 ([L4 c] : List Core) Si rfl (fun _ => rfl) rfl (fun _ => rfl) rfl rfl (fun ρ R hd j hj => ⟨⟨_, rfl, ⟨_, rfl, hj _ (hd.dep (it := ⟨4, _, _, _, _⟩) (by repeat (first | exact List.Mem.head _ | refine List.Mem.tail _ ?_)) ⟨9, rfl⟩ (List.Mem.head _)), by unfold L4 zOp Op.wf Ap; simp only; omega⟩⟩, trivial⟩) (fun _ _ _ _ _ => rfl) ?_
    refine dtl ?_; intro ρ
    refine J.conseq (L' := row 57 vc (List.replicate k2 (L4 c)) :: blk b4 33 [vc, vh, .slice none 0 0] :: blk b1 23 c.cells :: blk b2 33 [.slice none 0 0, .slice none 0 0, .slice none 0 0] :: L) (fun w hs => hs) ?_
    generalize (Gh.dec (γ := Value) (ρ 4)) = v46
    generalize (Gh.dec (γ := Value) (ρ 6)) = v48
    refine ap Si (hb := fun w hs => by have : maxN = 16777216 := rfl; simp only [List.length_cons, List.length_nil, List.length_replicate]; omega) (k := ?_); intro v49
    refine rn1 ?_
    refine J.know (p := v49.oneCell' = true) (fun w hs => Cm (v := v49) pkk hs) (fun honev49 => ?_)
    refine sc ?_
    refine Gl ?_
    refine kp [1, 2, 3, 4, 39, 40, 41, 42, 43, 44, 45, 46, 47, 48, 49, 50, 51] ?_
    refine ZR ?_
    refine A6 (k2 + 1, v49) (by show ((k2 + 1 : Nat) : Int) ≤ c.cores; omega) (by show c.cores.toNat - (k2 + 1) < c.cores.toNat - k2; omega) alT (fun w hs => ?_)
    try simp only
    rw [Mh]; exact Ah hs
   ·intro ht41
    refine Gl ?_
    refine JC.shut (v := vc) pkk ?_
    refine JC.know (p := vc.oneCell' = true) (fun w hs => isSlice.one (hs.fact (List.Mem.head _))) (fun honec => ?_)
    refine JC.slNil (List UInt8) ?_
    refine ZC ?_
    refine s_B Try.sizeOf33 ?_
    refine Ga1 ?_
    have er : A8 c = (⟨List.replicate k2 (L4 c), List.replicate k (Ie c), []⟩, 0) := by rw [Sq (by omega), show c.lines.toNat = k by omega, show c.cores.toNat = k2 by omega]
    rw [er]
    exact G7 (vc, vh) Try.isAgg33 Try.sizeOf33
theorem D5 {v : Value} {ls : List Line} {i : Nat} (e : Line) (he : e.wf) (hs : St (foc 82 v ls i e.cells :: L) R w) : St (row 82 v (ls.set i e) :: L) R w := hs.unfocus (fun j _ => ⟨rfl, he⟩)
theorem Yd {v : Value} {ls : List Line} {i : Nat} (he : (ls.getD i zLine).wf) (hs : St (foc 82 v ls i (ls.getD i zLine).cells :: L) R w) : St (row 82 v ls :: L) R w := by
 have h := D5 _ he hs
 rwa [Ks] at h
theorem Ey {v : Value} {ls : List Line} {i : Nat} {l : Line} (hl : ls.getD i zLine = l) (he : l.wf) (hs : St (foc 82 v ls i [vi l.state, vi l.value, vi l.want, vi l.serial, vi l.seen, vi l.gave, vi l.given] :: L) R w) : St (row 82 v ls :: L) R w := by
 subst hl
 exact Yd he hs
theorem Iu {P : Program} {n : Nat} {Q : Exit → Act → World → Prop} {L L' : List Chunk} {R : List Fact} {al : List (Nat × Value)} {cd : Code} {vL : Value} {ls : List Line} {l : Line} {i : Int} (hp : Pick L (row 82 vL ls) L') (hl : ls.getD i.toNat zLine = l) (h0 : 0 ≤ i) (hi : i < (ls.length : Int)) (k : l.wf → EpAll vL 7 i.toNat → JC P n cd Q (foc 82 vL ls i.toNat [vi l.state, vi l.value, vi l.want, vi l.serial, vi l.seen, vi l.gave, vi l.given] :: L') R al) : JC P n cd Q L R al := by
 subst hl
 refine JC.focus0 (xs := ls) i.toNat hp (by omega) (fun hw => ?_)
 refine JC.know (p := EpAll vL 7 i.toNat) (fun w hs => Z7 (α := Line) (xs := ls) .hd w hs) (fun hA => ?_)
 exact k hw hA
theorem Sp {LX : List Chunk} {R : List Fact} {w : World} {vL vo vd : Value} {bk : Nat} {q : Op} {id home : Int} {ls : List Line} {l : Line} {ms : List Msg} {line : Int} (hs : St (blk bk 120 [vL, vi q.kind, vi q.line, vi q.value, vi id, vi home, vo, vd] :: row 82 vL ls :: row 49 vo ms :: LX) R w) (hl : ls.getD line.toNat zLine = l) (hi : 0 ≤ line ∧ line < (ls.length : Int)) (hll : ls.length ≤ 100) (hn : ms.length ≤ 1000) (hid : Ap id) (hhome : Ap home) : Calls Try.prog 96 [bp bk 0, vi line].toArray w (Bu (fun v : Value => .tuple #[]) (fun v => blk bk 120 [vL, vi q.kind, vi q.line, vi q.value, vi id, vi home, v, vd] :: row 82 vL ls :: row 49 v (ms ++ [(Cr l id home line)]) :: LX) (fun v => R)) := by
 refine Zbp ?_;intro hid0 hhome0
 refine Ai Try.func96 rfl Try.ntmps96 rfl hs ?_
 clear hs
 refine Gl ?_
 refine Iu (ls := ls) (l := l) (i := line) pkk hl (by omega) (by omega) (fun hlw hA => ?_)
 have hlw0 := hlw
 unfold Line.wf Ap at hlw0
 have honeL : (ep vL 7 line.toNat 0).oneCell' = true := hA.one
 refine Zam ?_
 refine ob (Jg (v := vL) (i := line) Mw (hl := D4 (α := Line) (xs := ls) pkk)) ?_
 refine Gb1 ?_
 refine Gb1 ?_
 refine Ga5 ?_
 refine cdy ?_ ?_
 ·intro ht17
  refine Aa ?_
  refine Ga5 ?_
  refine Cf ?_
  refine dn11 ?_
  refine dtl ?_; intro ρ
  have er : (Cr l id home line) = ⟨l.want, id, home, line, l.serial, 0, l.value, false⟩ := by unfold Cr; rw [if_pos ht17]
  refine Am Try.call104 rfl (fun w hs => F8 (vL := vL) (vd := vd) (q := q) (id := id) (home := home) (ms := ms) (kind := l.want) (line := line) (serial := l.serial) (turn := 0) (value := l.value) (LX := foc 82 vL ls line.toNat [vi l.state, vi l.value, vi l.want, vi l.serial, vi l.seen, vi l.gave, vi l.given] :: LX) (Ah hs) hn (by unfold Msg.wf Ap; simp only; omega)) ?_; intro v33
  refine Gl ?_
  rw [er]
  refine Bs (.inl rfl) (fun B w hs => Ja rfl _ w) (fun w hs => ⟨v33, rfl, Ah (Ey hl hlw (hs.pick pkk))⟩)
 ·intro ht17
  refine Gl ?_
  refine Cf ?_
  refine dn11 ?_
  refine dtl ?_; intro ρ
  have er : (Cr l id home line) = ⟨l.want, id, home, line, l.serial, 0, 0, false⟩ := by unfold Cr; rw [if_neg ht17]
  refine Am Try.call104 rfl (fun w hs => F8 (vL := vL) (vd := vd) (q := q) (id := id) (home := home) (ms := ms) (kind := l.want) (line := line) (serial := l.serial) (turn := 0) (value := 0) (LX := foc 82 vL ls line.toNat [vi l.state, vi l.value, vi l.want, vi l.serial, vi l.seen, vi l.gave, vi l.given] :: LX) (Ah hs) hn (by unfold Msg.wf Ap; simp only; omega)) ?_; intro v33
  refine Gl ?_
  rw [er]
  refine Bs (.inl rfl) (fun B w hs => Ja rfl _ w) (fun w hs => ⟨v33, rfl, Ah (Ey hl hlw (hs.pick pkk))⟩)
theorem T4 {LX : List Chunk} {R : List Fact} {w : World} {vL vo vd : Value} {bk : Nat} {q : Op} {id home : Int} {ls : List Line} {l : Line} {q0 : Op} {ms : List Msg} {want : Int} (hs : St (blk bk 120 [vL, vi q0.kind, vi q0.line, vi q0.value, vi id, vi home, vo, vd] :: row 82 vL ls :: row 49 vo ms :: LX) R w) (hl : ls.getD q.line.toNat zLine = l) (hi : 0 ≤ q.line ∧ q.line < (ls.length : Int)) (hll : ls.length ≤ 100) (hid : Ap id) (hhome : Ap home) (hn : ms.length ≤ 1000) (hser : l.serial < 65535) (hw : Ap want) : Calls Try.prog 69 [bp bk 0, .agg q.cells.toArray, vi want].toArray w (Bu (fun v : Value => .tuple #[]) (fun v => blk bk 120 [vL, vi q.kind, vi q.line, vi q.value, vi id, vi home, v, vd] :: row 82 vL (ls.set q.line.toNat ({ l with want := want, serial := l.serial + 1 })) :: row 49 v (ms ++ [Cr ({ l with want := want, serial := l.serial + 1 }) id home q.line]) :: LX) (fun v => R)) := by
 refine Zbp ?_;intro hid0 hhome0
 have hw0 := hw
 unfold Ap at hw0
 refine Ai Try.func69 rfl Try.ntmps69 rfl hs ?_
 clear hs
 refine Gm ?_
 refine bx ?_; intro b4
 refine Gl ?_
 refine Zd5 ?_;intro hlw hA hlw0 honeL
 refine Zd6 ?_
 refine ZT ?_;intro ρ
 refine Gm ?_
 refine rn4 ?_
 refine sc ?_
 refine Gm ?_
 refine rn7 ?_
 refine sc ?_
 refine Gm ?_
 refine rn5 ?_
 refine s_N [vL, vi q.kind, vi q.line, vi q.value, vi id, vi home, vo, vd] Try.sizeOf26 ?_
 refine Gl ?_
 refine JC.conseq (L' := row 82 vL (ls.set q.line.toNat ({ l with want := want, serial := l.serial + 1 })) :: blk bk 120 [vL, vi q.kind, vi q.line, vi q.value, vi id, vi home, vo, vd] :: row 49 vo ms :: blk b4 26 q.cells :: LX) (fun w hs => Ah (D5 ({ l with want := want, serial := l.serial + 1 }) (by unfold Line.wf Ap; simp only; omega) (hs.pick pkk))) ?_
 refine ZJ ?_
 refine Am Try.call96 rfl (fun w hs => Sp (vL := vL) (vd := vd) (q := q) (id := id) (home := home) (ms := ms) (line := q.line) (ls := (ls.set q.line.toNat ({ l with want := want, serial := l.serial + 1 }))) (l := { l with want := want, serial := l.serial + 1 }) (LX := LX) (Ah hs) (by rw [List.getD_eq_getElem?_getD, List.getElem?_set_self (by omega)]; rfl) (by rw [List.length_set]; exact hi) (by rw [List.length_set]; exact hll) hn hid hhome) ?_; intro v34
 refine Gl ?_
 refine Bs (.inl rfl) (fun B w hs => Ja rfl _ w) (fun w hs => ⟨v34, rfl, Ah hs⟩)
theorem Lm {LX : List Chunk} {R : List Fact} {w : World} {vL vo vd : Value} {bk : Nat} {q : Op} {id home : Int} {ls : List Line} {l : Line} {q0 : Op} {ds : List Done} (hs : St (blk bk 120 [vL, vi q0.kind, vi q0.line, vi q0.value, vi id, vi home, vo, vd] :: row 82 vL ls :: row 66 vd ds :: LX) R w) (hl : ls.getD q.line.toNat zLine = l) (hi : 0 ≤ q.line ∧ q.line < (ls.length : Int)) (hll : ls.length ≤ 100) (hid : Ap id) (hhome : Ap home) (hn : ds.length ≤ 1000) (hq : q.wf) (hk : 1 ≤ q.kind ∧ q.kind ≤ 4) (hval : 0 ≤ q.value ∧ q.value ≤ 255) : Calls Try.prog 70 [bp bk 0, .agg q.cells.toArray].toArray w (Bu (fun v : Value => .tuple #[]) (fun v => blk bk 120 [vL, vi 0, vi 0, vi 0, vi id, vi home, vo, v] :: row 82 vL (ls.set q.line.toNat ({ l with value := (A0 l.value q).1 })) :: row 66 v (ds ++ [(⟨id, q, (A0 l.value q).2⟩ : Done)]) :: LX) (fun v => R)) := by
 refine Zbp ?_;intro hid0 hhome0
 refine Ai Try.func70 rfl Try.ntmps70 rfl hs ?_
 clear hs
 refine Zah ?_;intro b3
 refine Gl ?_
 refine Zd5 ?_;intro hlw hA hlw0 honeL
 refine Zd6 ?_
 refine ZT ?_;intro ρ
 refine Gm ?_
 refine rn3 ?_
 refine Am Try.call97 rfl (fun w hs => Ais (a := q.line + 1) hs (by omega) (by omega)) ?_; intro v19
 refine Ga1 ?_
 refine ZaU ?_
 refine djc (fun _ _ => Jg Xk (h1 := by rw [List.length_replicate]; omega)) ?_
 refine dtl ?_; intro ρ
 refine Fa (xs := List.replicate (q.line + 1).toNat 0) Try.sizeOf3 rfl rfl pkk (getD_some 0 (by rw [List.length_replicate]; omega)) (by unfold Ap; omega) ?_
 refine Gl ?_
 refine JC.shut (xs := (Kg l.value q)) (v := v19) pkk ?_
 have hml := Mu (v := l.value) hi.1
 refine ZB ?_
 refine Am Try.call98 rfl (fun w hs => by have h := Ait (o := q) hs (List.Mem.head _); rw [Aeq hk hi.1 hval] at h; exact h) ?_; intro v31
 refine Ga7 ?_
 refine JC.open0 (xs := (dX (Kg l.value q) q)) (v := v31) q.line.toNat mm (by unfold dX; rw [List.length_set, hml]; omega) (fun hw => ?_)
 have e9 : (dX (Kg l.value q) q).getD q.line.toNat 0 = (A0 l.value q).1 := by rw [dX_at (by rw [hml]; omega), Mg hi.1]
 refine kp [0, 3, 4, 5, 6, 35, 36, 37, 38, 39, 40, 41, 42] ?_
 refine ZE ?_
 refine ob (Jg Xk (len := (dX (Kg l.value q) q).length) (hl := Ez (.tail _ (.head _))) (h1 := by unfold dX; rw [List.length_set, hml]; omega)) ?_
 refine rn3 ?_
 refine sc ?_
 refine Gl ?_
 have hvb := Px (o := q) hlw.2.1 hval.1 hval.2
 have hvb2 := Nl (o := q) hlw.2.1
 unfold Ap at hvb hvb2
 have e9 : (dX (Kg l.value q) q).getD q.line.toNat El0.df = (A0 l.value q).1 := e9
 rw [e9]
 refine cq_ (blk bk 120 [vL, vi q0.kind, vi q0.line, vi q0.value, vi id, vi home, vo, vd] :: row 66 vd ds :: foc 82 vL ls q.line.toNat [vi l.state, vi (A0 l.value q).1, vi l.want, vi l.serial, vi l.seen, vi l.gave, vi l.given] :: blk b3 26 q.cells :: LX) ?_
 refine jd_ (fun ρ S => blk bk 120 (bif S 16 then [vL, vi q0.kind, vi q0.line, vi q0.value, vi id, vi home, vo, (Gh.dec (γ := Value) (ρ 13))] else [vL, vi q0.kind, vi q0.line, vi q0.value, vi id, vi home, vo, vd]) :: (bif S 13 then row 66 (Gh.dec (γ := Value) (ρ 13)) (ds ++ [(⟨id, q, (A0 l.value q).2⟩ : Done)]) else row 66 vd ds) :: foc 82 vL ls q.line.toNat [vi l.state, vi (A0 l.value q).1, vi l.want, vi l.serial, vi l.seen, vi l.gave, vi l.given] :: blk b3 26 q.cells :: (LX)) ?_
 refine dn4 ?_
 refine I5 (v := vd) (fun ρ S hS hB hA => by have h16 : S 16 = false := hA 16 ⟨0, rfl⟩; simp only [h16, cond_false]; exact Da (hc := A9 pkk (by repeat (first | exact rfl | refine Dk rfl ?_))) Try.isAgg34) (fun _ _ _ _ _ => rfl) ?_
 refine dn3 ?_
 refine I5 (v := vi id) (fun ρ S hS hB hA => by have h16 : S 16 = false := hA 16 ⟨0, rfl⟩; simp only [h16, cond_false]; exact Da (hc := A9 pkk (by repeat (first | exact rfl | refine Dk rfl ?_))) Try.isAgg3) (fun _ _ _ _ _ => rfl) ?_
 refine dn2 ?_
 first | refine epc (fun _ _ => Ej I8) ?_ | refine epc (fun _ _ => Fz I8) ?_ | refine epp (fun _ _ => Ej I8) ?_ | refine epp (fun _ _ => Fz I8) ?_
 refine F6 ([(⟨id, q, (A0 l.value q).2⟩ : Done)] : List Done) Ff rfl (fun _ => rfl) rfl (fun _ => rfl) rfl rfl (fun ρ R hd => Gg ⟨hid, hq.1, hq.2.1, hq.2.2, by unfold Ap; simp only; omega⟩) (fun _ _ _ _ _ => rfl) ?_
 refine F7 (e := 66) (xs := ds) (ys := [(⟨id, q, (A0 l.value q).2⟩ : Done)]) (v := vd) Ff (fun _ => rfl) (fun _ => rfl) rfl (by decide) (fun ρ R hd => (hd.dep (it := ⟨12, _, _, _, _⟩) (by repeat (first | exact List.Mem.head _ | refine List.Mem.tail _ ?_)) ⟨9, rfl⟩ (List.Mem.head _))) (by have : maxN = 16777216 := rfl; simp only [List.length_cons, List.length_nil]; omega) (fun ρ g S hS hB hA => ?_) ?_
 ·exact ZfB
 refine dn2 ?_
 refine Er (T0 := 120) (f := 7) (vs := fun ρ => [vL, vi q0.kind, vi q0.line, vi q0.value, vi id, vi home, vo, vd]) (v := fun ρ => (Gh.dec (γ := Value) (ρ 13))) (fun ρ => bk) Try.sizeOf34 (fun _ => rfl) (fun _ => rfl) (fun ρ S R w L9 hB hd hs => by have h13 : S 13 = true := hB 13 ⟨9, rfl⟩; simp only [h13, cond_true] at hs; exact Cm pkk hs) (fun _ => rfl) (fun ρ g S hS hB hA => ?_) ?_
 ·exact ZfV
 refine dnl ?_; intro ρ
 refine xq_ (blk bk 120 [vL, vi q0.kind, vi q0.line, vi q0.value, vi id, vi home, vo, (Gh.dec (γ := Value) (ρ 13))] :: row 66 (Gh.dec (γ := Value) (ρ 13)) (ds ++ [(⟨id, q, (A0 l.value q).2⟩ : Done)]) :: foc 82 vL ls q.line.toNat [vi l.state, vi (A0 l.value q).1, vi l.want, vi l.serial, vi l.seen, vi l.gave, vi l.given] :: blk b3 26 q.cells :: (LX)) ?_
 generalize (Gh.dec (γ := Value) (ρ 12)) = v55
 generalize (Gh.dec (γ := Value) (ρ 13)) = v56
 refine ZL ?_
 refine Zb6 ?_
 refine rn3 ?_
 refine s_N [vL, vi 0, vi 0, vi 0, vi id, vi home, vo, v56] Try.sizeOf26 ?_
 refine Gl ?_
 refine Bs (.inl rfl) (fun B w hs => Ja rfl _ w) (fun w hs => ⟨v56, rfl, Ah (D5 ({ l with value := (A0 l.value q).1 }) (by unfold Line.wf Ap; simp only; omega) (hs.pick pkk))⟩)
end Go.Proofs.Ytehpekiedfpnkaa
