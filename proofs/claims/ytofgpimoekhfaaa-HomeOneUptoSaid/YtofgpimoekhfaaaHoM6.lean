/- This file proves parts of what its law needs: each part is told ahead of it. No conditions. -/
import Derived.Test.YtofgpimoekhfaaaHoM2
import Derived.Test.YtofgpimoekhfaaaHoM5
/- This file proves that the closed fact of the program's home holds, and what the laws of it compute. No conditions. -/
set_option linter.unusedVariables false
set_option linter.unusedSimpArgs false
set_option maxHeartbeats 1000000
set_option maxRecDepth 8000
namespace Go.Proofs.Ytofgpimoekhfaaa
open Go
theorem Ny {L : List Chunk} {R : List Fact} {w : World}  (hs : St (L) R w) : Calls Try.prog 38 [].toArray w (C2 (fun _ : Unit => .bool true) (fun _ => L) (fun _ => R)) := by
 refine Au Try.func38 rfl Try.ntmps38 rfl hs ?_
 clear hs
 refine sr ?_
 refine rn1 ?_
 refine nr ?_
 refine A1 Try.call37 rfl (fun w hs => by have h := O8 (cores := 2) (lines := 1) hs (by decide) (by decide); rw [hE_new] at h; exact h) ?_; intro v6
 refine rn1 ?_
 refine A1 Try.call29 rfl (fun w hs => hearE (m := ⟨2, 1, 2, 0, 1, 0, 0, false⟩) hE_1 hs mm (fun i hi => (hE0_b i hi).1) (fun i hi => (hE0_b i hi).2) (by unfold Msg.wf Ax; decide) (by unfold Ax; decide)) ?_; intro ⟨v8a, v8b⟩
 refine rn5 ?_
 refine nx ?_
 refine E8 (l := hE1) (v := v8a) 0 mm (by decide) (fun _ ua => ?_)
 refine JC.open0 (xs := hM1) (v := v8b) 0 mm (by decide) (fun _ => ?_)
 refine Aa ?_
 refine rn2 ?_
 refine ob (Ah rfl rfl (Bu (by decide))) ?_
 refine rn3 ?_
 refine gy ?_
 refine ob (Ah rfl rfl (Bu (by decide))) ?_
 refine rn3 ?_
 refine gy ?_
 refine ob (Gd (i := 0) Ss) ?_
 refine rn2 ?_
 refine gy ?_
 refine ob (Ah rfl rfl (Bu (by decide))) ?_
 refine rn3 ?_
 refine gy ?_
 refine ob (Gd (i := 0) Ss) ?_
 refine rn2 ?_
 refine gy ?_
 refine ob (Ah rfl rfl (Bu (by decide))) ?_
 refine rn3 ?_
 refine gy ?_
 refine ob (Gd (i := 0) Ss) ?_
 refine rn2 ?_
 refine gy ?_
 refine ob (q_notT rfl (by decide)) ?_
 refine rn3 ?_
 refine gy ?_
 refine ob (Gd (i := 0) Jd) ?_
 refine rn2 ?_
 refine gy ?_
 refine ob (Ah rfl rfl (Bu (by decide))) ?_
 refine rn1 ?_
 refine nx ?_
 refine cF_ ?_
 refine Ak ?_
 refine Ae ?_
 refine sq ?_
 refine kp [0, 1, 3, 4, 47, 48, 49, 50, 51, 52] ?_
 refine Aa ?_
 refine rn2 ?_
 refine A1 Try.call29 rfl (fun w hs => hearE (l := hE1) (m := ⟨10, 1, 2, 0, 0, 1, 0, false⟩) hE_2 hs mm (fun i hi => (Vx i hi).1) (fun i hi => (Vx i hi).2) (by unfold Msg.wf Ax; decide) (by unfold Ax; decide)) ?_; intro ⟨v50a, v50b⟩
 refine rn5 ?_
 refine nx ?_
 refine E8 (l := hE2) (v := v50a) 0 mm (by decide) (fun _ ub => ?_)
 refine Aa ?_
 refine rn2 ?_
 refine ob (Ah rfl rfl (A2 (by decide))) ?_
 refine rn3 ?_
 refine gy ?_
 refine ob (Ah rfl rfl (A2 (by decide))) ?_
 refine rn3 ?_
 refine gy ?_
 refine ob (Gd (i := 0) Jd) ?_
 refine rn2 ?_
 refine gy ?_
 refine ob (Ah rfl rfl (A2 (by decide))) ?_
 refine rn3 ?_
 refine gy ?_
 refine A1 Try.call36 rfl (fun w hs => K1 (l := hE1) hs mm (fun i hi => (Vx i hi).1) (by decide) (by unfold Ax; decide)) ?_; intro v70
 refine rn1 ?_
 refine gy ?_
 refine ob (Ah rfl rfl (A2 (by decide))) ?_
 refine rn3 ?_
 refine gy ?_
 refine A1 Try.call33 rfl (fun w hs => Ly (l := hE1) hs mm) ?_; intro v76
 refine rn1 ?_
 refine gy ?_
 refine ob (Ah rfl rfl (A2 (by decide))) ?_
 refine rn2 ?_
 refine nx ?_
 refine rt ?_
 refine Aj (.inr rfl) (fun B w hs => Ek rfl rfl B w) (fun w hs => ⟨(), ?_, Ag hs⟩)
 rfl
theorem Kj {L : List Chunk} {R : List Fact} {w : World} {vl : Value} {c : Config} {l : List Step} {m : Msg} (hs : St (L) R w) (hl : sl vl l ∈ R) (hcw : c.wf) (hmw : m.wf) : Calls Try.prog 6 [.agg c.cells.toArray, vl, .agg m.cells.toArray].toArray w (C2 (fun _ : Unit => .bool true) (fun _ => L) (fun _ => R)) := by
  refine Au Try.func6 rfl Try.ntmps6 rfl hs ?_
  clear hs
  refine sr ?_
  refine bx ?_; intro b3
  refine bx ?_; intro b5
  refine rn1 ?_
  refine nr ?_
  refine rn2 ?_
  refine A1 Try.call28 rfl (fun w hs => Li (c := c) (l := l) hs mm hcw) ?_; intro v22
  refine J.know (p := v22.1.oneCell' = true ∧ v22.2.1.oneCell' = true ∧ v22.2.2.1.oneCell' = true) (fun w hs => ⟨isSlice.one (hs.fact (.head _)), isSlice.one (hs.fact (.tail _ (.head _))), isSlice.one (hs.fact (.tail _ (.tail _ (.head _))))⟩) (fun h12 => ?_)
  obtain ⟨hone1, hone2, hone3⟩ := h12
  refine rn3 ?_
  refine al_ (cs := [.slice none 0 0, .slice none 0 0, .slice none 0 0]) Try.zeroValue46 ?_; intro b7
  refine s_B (cs := [v22.1, v22.2.1, v22.2.2.1]) Try.sizeOf46 ?_
  refine rn1 ?_
  refine nr ?_
  refine rn4 ?_
  refine nr ?_
  refine rn2 ?_
  refine nx ?_
  refine cdx (p := ?p1) (hd := ?d1) ?e1 ?_ ?_; case e1 => exact rfl
  ·
   intro ht29
   refine sr ?_
   refine rn1 ?_
   refine nx ?_
   refine rt ?_
   refine Aj (.inr rfl) (fun B w hs => Ek rfl rfl B w) (fun w hs => ⟨(), ?_, Ag hs⟩)
   rfl
  ·
   intro ht29
   obtain ⟨hok, n, nl, hcc, M, hI⟩ := J8 ht29
   have hnc := hI.nc
   have hnh := hI.nh
   have hn1 := hI.n1
   have hn2 := hI.l1
   have hn64 : Ax ((build c l).1.cores.length : Int) := by unfold Ax; omega
   refine Ak ?_
   refine Ae ?_
   refine sr ?_
   refine rn4 ?_
   refine A1 Try.call29 rfl (fun w hs => Ey (l := (build c l).1.home) (id := ((build c l).1.cores.length : Int)) (m := m) hs mm (fun i hi => (hI.ebs i hi).1) (fun i hi => (hI.ebs i hi).2.2.2.2) hmw hn64) ?_; intro ⟨va35, vb35⟩
   refine rn5 ?_
   refine nr ?_
   refine rn4 ?_
   refine A1 Try.call30 rfl (fun w hs => Jk (l := (build c l).1.home) (id := ((build c l).1.cores.length : Int)) (m := m) hs mm (fun i hi => (hI.ebs i hi).1) (fun i hi => (hI.ebs i hi).2.2.2.2) hmw hn64) ?_; intro ⟨va43, vb43⟩
   refine rn5 ?_
   refine nx ?_
   refine kp [3, 6, 7, 9, 10, 11, 12, 13, 46, 47, 48, 49, 50, 51, 52, 53, 54, 55, 56, 57, 58, 59, 60, 61, 62, 63, 64] ?_
   refine Al Ay (by kernel_rfl) (by kernel_rfl) (fun _ _ => _) (fun _ => rfl) ?_
   refine dn2 ?_
   refine dj ?_
   refine Hx (γ := Unit) (val := fun _ => .bool true) (F := fun _ => []) (C := fun _ => []) Try.call31 (fun _ => rfl) (fun _ _ _ _ => rfl) (fun ρ L R w hd hs => Fg (a := (Ai (build c l).1.home ((build c l).1.cores.length : Int) m).1) rfl hs (hd.base mm) (hd.base mm)) ?_
   refine dj ?_
   first | refine dc (fun _ _ => Jm) ?_ | refine dc (fun _ _ => Ln) ?_
   refine dj ?_
   first | refine dc (fun _ _ => Bh) ?_
   refine dn2 ?_
   refine dj (dgy ?_)
   refine Hx (γ := Unit) (val := fun _ => .bool true) (F := fun _ => []) (C := fun _ => []) Try.call32 (fun _ => rfl) (fun _ _ _ _ => rfl) (fun ρ L R w hd hs => Mm (a := (Ai (build c l).1.home ((build c l).1.cores.length : Int) m).2) rfl hs (hd.base mm) (hd.base mm)) ?_
   refine dj (dgy ?_)
   first | refine dc (fun _ _ => Jm) ?_ | refine dc (fun _ _ => Ln) ?_
   refine dj ?_
   first | refine dc (fun _ _ => Bp) ?_
   refine dj ?_
   first | refine dc (fun _ _ => Bh) ?_
   refine dn2 ?_
   refine dj (dgy ?_)
   refine Hx (γ := Value) (val := fun v => v) (F := fun v => [sl v (build c l).1.home]) (C := fun _ => []) Try.call33 (fun _ => rfl) (fun _ _ _ _ => rfl) (fun ρ L R w hd hs => Ly (l := (build c l).1.home) hs (hd.base mm)) ?_
   refine dn2 ?_
   refine dj (dgy ?_)
   refine Hx (γ := Unit) (val := fun _ => .bool true) (F := fun _ => []) (C := fun _ => []) Try.call31 (fun _ => rfl) (fun _ _ _ _ => rfl) (fun ρ L R w hd hs => Fg (a := (build c l).1.home) rfl hs (hd.dep (it := ⟨13, _, _, _, _⟩) (by repeat (first | exact List.Mem.head _ | refine List.Mem.tail _ ?_)) ⟨9, rfl⟩ (List.Mem.head _)) (hd.base mm)) ?_
   refine dj (dgy ?_)
   first | refine dc (fun _ _ => Jm) ?_ | refine dc (fun _ _ => Ln) ?_
   refine dj ?_
   first | refine dc (fun _ _ => Bp) ?_
   refine Aw ?_; intro ρ; simp only [Ao, facts, Bb, List.append_nil, List.nil_append, List.cons_append]
   refine Ae ?_
   refine sq ?_
   refine cF_ ?_
   refine Ak ?_
   refine Ae ?_
   refine sr ?_
   refine rn1 ?_
   refine nr ?_
   refine rn4 ?_
   refine nx ?_
   refine Av ?_
   refine JC.rowNil 42 Msg ?_
   refine Ck (γ := Nat × Value) (fun g => g.1 ≤ (build c l).1.home.length) (fun g => row 42 g.2 (Cr ((build c l).1.cores.length : Int) 0 ((build c l).1.home.take g.1)) :: blk b7 46 [v22.1, v22.2.1, v22.2.2.1] :: blk b3 39 c.cells :: L) (fun _ => sl v22.2.1 (build c l).1.home :: R) (fun g => [(3, bp b3 0), (7, bp b7 0), (9, vi ((build c l).1.cores.length : Int)), (14, g.2), (66, v22.2.1), (67, vi ((build c l).1.home.length : Int)), (68, vi (g.1 : Int))]) (fun g => (build c l).1.home.length - g.1) (0, .slice none 0 0) (Nat.zero_le _) alT (fun w hs => Ag hs) ?_
   rintro ⟨k, vs⟩ hk
   try simp only at hk ⊢
   have hsl := Gf ((build c l).1.cores.length : Int) ((build c l).1.home.take k) 0
   rw [List.length_take] at hsl
   refine sr ?_
   refine rn1 ?_
   refine nx ?_
   refine cdx (p := ?p2) (hd := ?d2) ?e2 ?_ ?_; case e2 => exact rfl
   ·
    intro ht69
    refine Ak ?_
    refine Ae ?_
    refine sq ?_
    refine Av ?_
    refine sq ?_
    refine E8 (l := (build c l).1.home) (v := v22.2.1) k mm (by omega) (fun _ ue => ?_)
    refine JC.know (p := ue.oneCell' = true) (fun w hs => isSlice.one (hs.fact (.tail _ (.head _)))) (fun honeu => ?_)
    refine Aa ?_
    refine rn3 ?_
    refine al_ (cs := zEC) Try.zeroValue58 ?_; intro b16
    refine rn1 ?_
    refine s_B (cs := Entry.cells ue ((build c l).1.home.getD k Aq)) Try.sizeOf58 ?_
    refine nx ?_
    refine kp [3, 6, 7, 9, 14, 15, 16, 66, 67, 68, 69, 70, 71, 72, 73, 74, 75, 76, 77, 78] ?_
    refine Aa ?_
    refine rn4 ?_
    have hs4 := Le ((build c l).1.home.getD k Aq) (k : Int) ((build c l).1.cores.length : Int)
    refine A1 Try.call34 rfl (fun w hs => F3 (e := ((build c l).1.home.getD k Aq)) (line := (k : Int)) (id := ((build c l).1.cores.length : Int)) (u := ue) hs (hI.ebs k (by omega)).1 honeu (by unfold Ax; omega) hn64) ?_; intro v77
    refine ap Em (hb := fun w hs => by have : maxN = 16777216 := rfl; omega) (k := ?_); intro v78
    refine rn1 ?_
    refine J.nil ?_
    refine As ?_
    refine Ae ?_
    refine Aa ?_
    refine rn2 ?_
    refine J.nil ?_
    refine Bk (k + 1, v78) (by show k + 1 ≤ (build c l).1.home.length; omega) (by show (build c l).1.home.length - (k + 1) < (build c l).1.home.length - k; omega) alT (fun w hs => ?_)
    try simp only
    rw [Fp Aq (by omega), E6, List.length_take, Nat.min_eq_left (by omega), Int.zero_add]; exact Ag hs
   ·
    intro ht69
    refine xt ?_
    refine Ae ?_
    refine sr ?_
    refine rn1 ?_
    refine A1 Try.call35 rfl (fun w hs => Uu (c := c) hs hcw) ?_; intro v82
    refine J.know (p := v82.1.oneCell' = true ∧ v82.2.oneCell' = true) (fun w hs => ⟨isSlice.one (hs.fact (.head _)), isSlice.one (hs.fact (.tail _ (.head _)))⟩) (fun h12 => ?_)
    obtain ⟨hone4, hone5⟩ := h12
    refine rn3 ?_
    refine al_ (cs := [.slice none 0 0, .slice none 0 0, .slice none 0 0]) Try.zeroValue46 ?_; intro b17
    refine s_B (cs := [v82.1, v82.2, .slice none 0 0]) Try.sizeOf46 ?_
    refine rn1 ?_
    refine nx ?_
    refine JC.shut (v := vs) pkk ?_
    have hke : (build c l).1.home.take k = (build c l).1.home := by rw [List.take_of_length_le (by omega)]
    rw [hke]
    have hcg : ¬ (c.cores < 1 ∨ 4 < c.cores ∨ c.lines < 1 ∨ 4 < c.lines) := fun h9 => by rw [Fk h9] at hok; exact absurd hok (by decide)
    have hnw : Ij c.cores c.lines = (Cc c).1.home := by rw [Ix hcg]; rfl
    refine kp [3, 6, 7, 9, 14, 17, 85, 86, 87, 88, 89, 90, 91, 92, 93, 94, 95, 96, 97, 98, 99, 100] ?_
    refine Al Ay (by kernel_rfl) (by kernel_rfl) (fun _ _ => _) (fun _ => rfl) ?_
    refine dn3 ?_
    refine dj ?_
    refine Hx (γ := Value) (val := fun v => v) (F := fun v => [sl v (Fy (build c l).1.home ((build c l).1.cores.length : Int))]) (C := fun _ => []) Try.call36 (fun _ => rfl) (fun _ _ _ _ => rfl) (fun ρ L R w hd hs => K1 (l := (build c l).1.home) (id := ((build c l).1.cores.length : Int)) hs (hd.base mm) (fun i hi => (hI.ebs i hi).1) (by omega) hn64) ?_
    refine dn1 ?_
    refine dj ?_
    refine Hx (γ := Unit) (val := fun _ => .bool true) (F := fun _ => []) (C := fun _ => []) Try.call32 (fun _ => rfl) (fun _ _ _ _ => rfl) (fun ρ L R w hd hs => Mm (a := Fy (build c l).1.home ((build c l).1.cores.length : Int)) (b := Cr ((build c l).1.cores.length : Int) 0 (build c l).1.home) rfl hs (hd.dep (it := ⟨3, _, _, _, _⟩) (by repeat (first | exact List.Mem.head _ | refine List.Mem.tail _ ?_)) ⟨9, rfl⟩ (List.Mem.head _)) (hd.base mm)) ?_
    refine dj ?_
    first | refine dc (fun _ _ => Bh) ?_
    refine dn4 ?_
    refine dj (dgy ?_)
    refine Hx (γ := Value) (val := fun v => v) (F := fun v => [sl v (Ij c.cores c.lines)]) (C := fun _ => []) Try.call37 (fun _ => rfl) (fun _ _ _ _ => rfl) (fun ρ L R w hd hs => O8 (cores := c.cores) (lines := c.lines) hs (by omega) (by omega)) ?_
    refine dn2 ?_
    refine dj (dgy ?_)
    refine Hx (γ := Unit) (val := fun _ => .bool true) (F := fun _ => []) (C := fun _ => []) Try.call31 (fun _ => rfl) (fun _ _ _ _ => rfl) (fun ρ L R w hd hs => Fg hnw hs (hd.dep (it := ⟨11, _, _, _, _⟩) (by repeat (first | exact List.Mem.head _ | refine List.Mem.tail _ ?_)) ⟨9, rfl⟩ (List.Mem.head _)) (hd.base mm)) ?_
    refine dj ?_
    first | refine dc (fun _ _ => Ew) ?_
    refine dj ?_
    first | refine dc (fun _ _ => Cz) ?_
    refine Aw ?_; intro ρ; simp only [Ao, facts, Bb, List.append_nil, List.nil_append, List.cons_append]
    refine Ae ?_
    refine rt ?_
    refine Aj (.inr rfl) (fun B w hs => Ek rfl rfl B w) (fun w hs => ⟨(), ?_, Ag hs⟩)
    rfl
theorem Vs {l : List Entry} {id : Int} {m : Msg} {k : Nat} (hb : ∀ i, i < l.length → EB (l.getD i Aq) ∧ (l.getD i Aq).last.length ≤ 4) (hm : m.wf) (hk : k < l.length) : EB ((Ai l id m).1.getD k Aq) ∧ ((Ai l id m).1.getD k Aq).last.length ≤ 4 := by
  by_cases c : m.line < 0 ∨ (l.length : Int) ≤ m.line ∨ m.src < 0 ∨ ((Ad l m.line).last.length : Int) ≤ m.src
  · have h1 : Ai l id m = (l, []) := by unfold Ai; rw [if_pos c]
    rw [h1]; exact hb k hk
  · have h1 : (Ai l id m).1 = l.set m.line.toNat (Af (Ad l m.line) id m).1 := by unfold Ai; rw [if_neg c]
    by_cases h : m.line.toNat = k
    · have h2 : (Ai l id m).1.getD k Aq = (Af (l.getD k Aq) id m).1 := by
        rw [h1, ← h, List.getD_eq_getElem?_getD, List.getElem?_set_self (by omega)]; rfl
      have h3 := (hb k hk).2
      have h4 : (Ad l m.line).last.length ≤ 4 := by unfold Ad; rw [h]; exact h3
      rw [h2, O5]
      exact ⟨Dj (hb k hk).1 hm (by omega), h3⟩
    · rw [h1, List.getD_eq_getElem?_getD, List.getElem?_set_ne h, ← List.getD_eq_getElem?_getD]; exact hb k hk
theorem Ki {L : List Chunk} {R : List Fact} {w : World} {vl : Value} {c : Config} {l : List Step} {m : Msg} (hs : St (L) R w) (hl : sl vl l ∈ R) (hcw : c.wf) (hmw : m.wf) : Calls Try.prog 7 [.agg c.cells.toArray, vl, .agg m.cells.toArray].toArray w (C2 (fun _ : Unit => .bool true) (fun _ => L) (fun _ => R)) := by
  refine Au Try.func7 rfl Try.ntmps7 rfl hs ?_
  clear hs
  refine sr ?_
  refine bx ?_; intro b3
  refine bx ?_; intro b5
  refine rn1 ?_
  refine nr ?_
  refine A1 Try.call38 rfl (fun w hs => Ny hs) ?_; intro _
  refine rn1 ?_
  refine nx ?_
  refine cF_ ?_
  refine Ak ?_
  refine Ae ?_
  refine sr ?_
  refine rn2 ?_
  refine A1 Try.call28 rfl (fun w hs => Li (c := c) (l := l) hs mm hcw) ?_; intro v19
  refine J.know (p := v19.1.oneCell' = true ∧ v19.2.1.oneCell' = true ∧ v19.2.2.1.oneCell' = true) (fun w hs => ⟨isSlice.one (hs.fact (.head _)), isSlice.one (hs.fact (.tail _ (.head _))), isSlice.one (hs.fact (.tail _ (.tail _ (.head _))))⟩) (fun h12 => ?_)
  obtain ⟨hone1, hone2, hone3⟩ := h12
  refine rn3 ?_
  refine al_ (cs := [.slice none 0 0, .slice none 0 0, .slice none 0 0]) Try.zeroValue46 ?_; intro b7
  refine s_B (cs := [v19.1, v19.2.1, v19.2.2.1]) Try.sizeOf46 ?_
  refine rn1 ?_
  refine nr ?_
  refine rn4 ?_
  refine nr ?_
  refine rn2 ?_
  refine nx ?_
  refine cdx (p := ?p1) (hd := ?d1) ?e1 ?_ ?_; case e1 => exact rfl
  ·
   intro ht26
   refine sr ?_
   refine rn1 ?_
   refine nx ?_
   refine rt ?_
   refine Aj (.inr rfl) (fun B w hs => Ek rfl rfl B w) (fun w hs => ⟨(), ?_, Ag hs⟩)
   rfl
  ·
   intro ht26
   obtain ⟨hok, n, nl, hcc, M, hI⟩ := J8 ht26
   have hnc := hI.nc
   have hnh := hI.nh
   have hn1 := hI.n1
   have hn2 := hI.l1
   have hn64 : Ax ((build c l).1.cores.length : Int) := by unfold Ax; omega
   have hE9 : ∀ i, i < (build c l).1.home.length → EB ((Ai (build c l).1.home ((build c l).1.cores.length : Int) m).1.getD i Aq) ∧ ((Ai (build c l).1.home ((build c l).1.cores.length : Int) m).1.getD i Aq).last.length ≤ 4 := fun i hi => Vs (fun i hi => ⟨(hI.ebs i hi).1, (hI.ebs i hi).2.2.2.2⟩) hmw hi
   have h29 : ((Ai (build c l).1.home ((build c l).1.cores.length : Int) m).1 : List Entry) = (Ai (Ai (build c l).1.home ((build c l).1.cores.length : Int) m).1 ((build c l).1.cores.length : Int) m).1 := (P7 (fun i hi => ⟨(hI.ebs i hi).1, (hI.ebs i hi).2.2.2.2⟩)).symm
   refine Ak ?_
   refine Ae ?_
   refine sr ?_
   refine rn4 ?_
   refine A1 Try.call29 rfl (fun w hs => Ey (l := (build c l).1.home) (id := ((build c l).1.cores.length : Int)) (m := m) hs mm (fun i hi => (hI.ebs i hi).1) (fun i hi => (hI.ebs i hi).2.2.2.2) hmw hn64) ?_; intro ⟨va32, vb32⟩
   refine rn5 ?_
   refine nr ?_
   refine rn3 ?_
   have hl2 := Lw (build c l).1.home ((build c l).1.cores.length : Int) m
   refine A1 Try.call29 rfl (fun w hs => Ey (l := (Ai (build c l).1.home ((build c l).1.cores.length : Int) m).1) (id := ((build c l).1.cores.length : Int)) (m := m) hs mm (fun i hi => (hE9 i (by omega)).1) (fun i hi => (hE9 i (by omega)).2) hmw hn64) ?_; intro ⟨va39, vb39⟩
   refine rn5 ?_
   refine nx ?_
   refine kp [6, 10, 12, 42, 43, 44] ?_
   refine Aa ?_
   refine rn2 ?_
   refine A1 Try.call31 rfl (fun w hs => Fg h29 hs mm mm) ?_; intro _
   refine rn1 ?_
   refine nx ?_
   refine rt ?_
   refine Aj (.inr rfl) (fun B w hs => Ek rfl rfl B w) (fun w hs => ⟨(), ?_, Ag hs⟩)
   rfl
theorem Nd {L : List Chunk} {R : List Fact} {w : World} {vl : Value} {c : Config} {l : List Step} {m : Msg} (hs : St (L) R w) (hl : sl vl l ∈ R) (hcw : c.wf) (hmw : m.wf) : Calls Try.prog 8 [.agg c.cells.toArray, vl, .agg m.cells.toArray].toArray w (C2 (fun _ : Unit => .bool true) (fun _ => L) (fun _ => R)) := by
  refine Au Try.func8 rfl Try.ntmps8 rfl hs ?_
  clear hs
  refine sr ?_
  refine bx ?_; intro b3
  refine bx ?_; intro b5
  refine rn1 ?_
  refine nr ?_
  refine A1 Try.call38 rfl (fun w hs => Ny hs) ?_; intro _
  refine rn1 ?_
  refine nx ?_
  refine cF_ ?_
  refine Ak ?_
  refine Ae ?_
  refine sr ?_
  refine rn2 ?_
  refine A1 Try.call28 rfl (fun w hs => Li (c := c) (l := l) hs mm hcw) ?_; intro v20
  refine J.know (p := v20.1.oneCell' = true ∧ v20.2.1.oneCell' = true ∧ v20.2.2.1.oneCell' = true) (fun w hs => ⟨isSlice.one (hs.fact (.head _)), isSlice.one (hs.fact (.tail _ (.head _))), isSlice.one (hs.fact (.tail _ (.tail _ (.head _))))⟩) (fun h12 => ?_)
  obtain ⟨hone1, hone2, hone3⟩ := h12
  refine rn3 ?_
  refine al_ (cs := [.slice none 0 0, .slice none 0 0, .slice none 0 0]) Try.zeroValue46 ?_; intro b7
  refine s_B (cs := [v20.1, v20.2.1, v20.2.2.1]) Try.sizeOf46 ?_
  refine rn1 ?_
  refine nr ?_
  refine rn4 ?_
  refine nr ?_
  refine rn2 ?_
  refine nx ?_
  refine cdx (p := ?p1) (hd := ?d1) ?e1 ?_ ?_; case e1 => exact rfl
  ·
   intro ht27
   refine sr ?_
   refine rn1 ?_
   refine nx ?_
   refine rt ?_
   refine Aj (.inr rfl) (fun B w hs => Ek rfl rfl B w) (fun w hs => ⟨(), ?_, Ag hs⟩)
   rfl
  ·
   intro ht27
   obtain ⟨hok, n, nl, hcc, M, hI⟩ := J8 ht27
   have hnc := hI.nc
   have hnh := hI.nh
   have hn1 := hI.n1
   have hn2 := hI.l1
   have hn64 : Ax ((build c l).1.cores.length : Int) := by unfold Ax; omega
   refine Ak ?_
   refine Ae ?_
   refine sr ?_
   refine rn4 ?_
   refine A1 Try.call29 rfl (fun w hs => Ey (l := (build c l).1.home) (id := ((build c l).1.cores.length : Int)) (m := m) hs mm (fun i hi => (hI.ebs i hi).1) (fun i hi => (hI.ebs i hi).2.2.2.2) hmw hn64) ?_; intro ⟨va33, vb33⟩
   refine rn5 ?_
   refine nx ?_
   have hl2 := Lw (build c l).1.home ((build c l).1.cores.length : Int) m
   refine Aa ?_
   refine rn5 ?_
   refine ob (Ah rfl rfl (Bu (by omega))) ?_
   refine nx ?_
   refine cF_ ?_
   refine Ak ?_
   refine Ae ?_
   refine sq ?_
   refine kp [5, 6, 7, 10, 42, 43, 44, 45] ?_
   refine Aa ?_
   refine rn4 ?_
   refine nx ?_
   refine Av ?_
   have hl2 := Lw (build c l).1.home ((build c l).1.cores.length : Int) m
   refine Ck (γ := Nat) (fun k => k ≤ (build c l).1.home.length) (fun _ => blk b7 46 [v20.1, v20.2.1, v20.2.2.1] :: blk b5 42 m.cells :: L) (fun _ => sl va33 (Ai (build c l).1.home ((build c l).1.cores.length : Int) m).1 :: sl v20.2.1 (build c l).1.home :: R) (fun k => [(5, bp b5 0), (10, va33), (43, v20.2.1), (44, vi ((build c l).1.home.length : Int)), (45, vi (k : Int))]) (fun k => (build c l).1.home.length - k) 0 (Nat.zero_le _) alT (fun w hs => Ag hs) ?_
   intro k hk
   refine sr ?_
   refine rn1 ?_
   refine nx ?_
   refine cdx (p := ?p2) (hd := ?d2) ?e2 ?_ ?_; case e2 => exact rfl
   ·
    intro ht46
    refine Ak ?_
    refine Ae ?_
    refine sq ?_
    refine Av ?_
    refine sq ?_
    refine E8 (l := (build c l).1.home) (v := v20.2.1) k mm (by omega) (fun hwe ue => ?_)
    refine JC.know (p := ue.oneCell' = true) (fun w hs => isSlice.one (hs.fact (.tail _ (.head _)))) (fun honeu => ?_)
    refine Aa ?_
    refine rn3 ?_
    refine al_ (cs := zEC) Try.zeroValue58 ?_; intro b13
    refine rn1 ?_
    refine s_B (cs := Entry.cells ue ((build c l).1.home.getD k Aq)) Try.sizeOf58 ?_
    refine nx ?_
    refine E8 (l := (Ai (build c l).1.home ((build c l).1.cores.length : Int) m).1) (v := va33) k mm (by omega) (fun hwf uf => ?_)
    refine JC.know (p := uf.oneCell' = true) (fun w hs => isSlice.one (hs.fact (.tail _ (.head _)))) (fun honef => ?_)
    obtain ⟨⟨g1, g2, g3⟩, g4⟩ := T1 (l := (build c l).1.home) (id := ((build c l).1.cores.length : Int)) (m := m) (k := k) (by omega)
    refine Aa ?_
    refine rn4 ?_
    refine al_ (cs := zEC) Try.zeroValue58 ?_; intro b14
    refine s_B (cs := Entry.cells uf ((Ai (build c l).1.home ((build c l).1.cores.length : Int) m).1.getD k Aq)) Try.sizeOf58 ?_
    refine nx ?_
    rcases (show (((build c l).1.home.getD k Aq).phase = 0) ∨ (((build c l).1.home.getD k Aq).phase ≠ 0 ∧ ((Ai (build c l).1.home ((build c l).1.cores.length : Int) m).1.getD k Aq).phase = 0) ∨ (((build c l).1.home.getD k Aq).phase ≠ 0 ∧ ((Ai (build c l).1.home ((build c l).1.cores.length : Int) m).1.getD k Aq).phase ≠ 0) from by omega) with hc | hc | hc
    ·
     refine Aa ?_
     refine rn4 ?_
     refine ob (Ah rfl rfl (Az (by omega))) ?_
     refine rn3 ?_
     refine gy ?_
     refine ob (Ah rfl rfl (Bu (by omega))) ?_
     refine rn11 ?_
     refine gy ?_
     refine ob (Ah rfl rfl (Bu (by omega))) ?_
     refine rn27 ?_
     refine nx ?_
     refine cF_ ?_
     refine Ak ?_
     refine Ae ?_
     refine sq ?_
     refine kp [5, 6, 10, 12, 13, 14, 43, 44, 45, 46, 47, 48, 49, 50, 51, 52, 53, 54, 55, 56, 57, 58, 59, 60, 61, 62, 63, 64, 65, 66, 67, 68, 69, 70, 71, 72, 73, 74, 75, 76, 77, 78, 79, 80, 81, 82, 83, 84, 85, 86, 87, 88, 89, 90, 91, 92, 93, 94, 95, 96, 97, 98, 99, 100, 101, 102, 103, 104, 105, 106, 107, 108, 109, 110, 111, 112, 113] ?_
     refine Aa ?_
     refine rn5 ?_
     refine jgx (t := 106) (p := ?p3) (hd := ?d3) ?e3 ?_ ?_; case e3 => exact rfl
     ·
      intro ht106
      refine rn1 ?_
      refine gy ?_
      refine li (α := Entry) [((build c l).1.home.getD k Aq)] Hs rfl (fun j hj => ⟨⟨_, rfl, ⟨ue, rfl, hj (sl ue ((build c l).1.home.getD k Aq).last) mm, hwe⟩⟩, trivial⟩) ?_; intro v108
      refine rn1 ?_
      refine gy ?_
      refine li (α := Entry) [((Ai (build c l).1.home ((build c l).1.cores.length : Int) m).1.getD k Aq)] Hs rfl (fun j hj => ⟨⟨_, rfl, ⟨uf, rfl, hj (sl uf ((Ai (build c l).1.home ((build c l).1.cores.length : Int) m).1.getD k Aq).last) mm, hwf⟩⟩, trivial⟩) ?_; intro v110
      refine gy ?_
      refine A1 Try.call31 rfl (fun w hs => Fg (a := [((build c l).1.home.getD k Aq)]) (b := [((Ai (build c l).1.home ((build c l).1.cores.length : Int) m).1.getD k Aq)]) (by rw [g4 ht106]) hs mm mm) ?_; intro _
      refine rn2 ?_
      refine nx ?_
      refine cF_ ?_
      refine Ak ?_
      refine As ?_
      refine Ae ?_
      refine Aa ?_
      refine rn2 ?_
      refine J.nil ?_
      refine Bk (k + 1) (by omega) (by omega) alT (fun w hs => Ag hs)
     ·
      intro ht106
      refine rn7 ?_
      refine nx ?_
      refine cF_ ?_
      refine Ak ?_
      refine As ?_
      refine Ae ?_
      refine Aa ?_
      refine rn2 ?_
      refine J.nil ?_
      refine Bk (k + 1) (by omega) (by omega) alT (fun w hs => Ag hs)
    ·
     refine Aa ?_
     refine rn4 ?_
     refine ob (Ah rfl rfl (Az (by omega))) ?_
     refine rn3 ?_
     refine gy ?_
     refine ob (Ah rfl rfl (C0 (by omega))) ?_
     refine rn5 ?_
     refine gy ?_
     refine ob (Ah rfl rfl (Bu (by have := g2 hc.1; omega))) ?_
     refine rn5 ?_
     refine gy ?_
     refine ob (Ah rfl rfl (C0 (by omega))) ?_
     refine rn3 ?_
     refine gy ?_
     refine ob (Ah rfl rfl (Bu (by omega))) ?_
     refine rn23 ?_
     refine nx ?_
     refine cF_ ?_
     refine Ak ?_
     refine Ae ?_
     refine sq ?_
     refine kp [5, 6, 10, 12, 13, 14, 43, 44, 45, 46, 47, 48, 49, 50, 51, 52, 53, 54, 55, 56, 57, 58, 59, 60, 61, 62, 63, 64, 65, 66, 67, 68, 69, 70, 71, 72, 73, 74, 75, 76, 77, 78, 79, 80, 81, 82, 83, 84, 85, 86, 87, 88, 89, 90, 91, 92, 93, 94, 95, 96, 97, 98, 99, 100, 101, 102, 103, 104, 105, 106, 107, 108, 109, 110, 111, 112, 113] ?_
     refine Aa ?_
     refine rn5 ?_
     refine jgx (t := 106) (p := ?p4) (hd := ?d4) ?e4 ?_ ?_; case e4 => exact rfl
     ·
      intro ht106
      refine rn1 ?_
      refine gy ?_
      refine li (α := Entry) [((build c l).1.home.getD k Aq)] Hs rfl (fun j hj => ⟨⟨_, rfl, ⟨ue, rfl, hj (sl ue ((build c l).1.home.getD k Aq).last) mm, hwe⟩⟩, trivial⟩) ?_; intro v108
      refine rn1 ?_
      refine gy ?_
      refine li (α := Entry) [((Ai (build c l).1.home ((build c l).1.cores.length : Int) m).1.getD k Aq)] Hs rfl (fun j hj => ⟨⟨_, rfl, ⟨uf, rfl, hj (sl uf ((Ai (build c l).1.home ((build c l).1.cores.length : Int) m).1.getD k Aq).last) mm, hwf⟩⟩, trivial⟩) ?_; intro v110
      refine gy ?_
      refine A1 Try.call31 rfl (fun w hs => Fg (a := [((build c l).1.home.getD k Aq)]) (b := [((Ai (build c l).1.home ((build c l).1.cores.length : Int) m).1.getD k Aq)]) (by rw [g4 ht106]) hs mm mm) ?_; intro _
      refine rn2 ?_
      refine nx ?_
      refine cF_ ?_
      refine Ak ?_
      refine As ?_
      refine Ae ?_
      refine Aa ?_
      refine rn2 ?_
      refine J.nil ?_
      refine Bk (k + 1) (by omega) (by omega) alT (fun w hs => Ag hs)
     ·
      intro ht106
      refine rn7 ?_
      refine nx ?_
      refine cF_ ?_
      refine Ak ?_
      refine As ?_
      refine Ae ?_
      refine Aa ?_
      refine rn2 ?_
      refine J.nil ?_
      refine Bk (k + 1) (by omega) (by omega) alT (fun w hs => Ag hs)
    ·
     refine Aa ?_
     refine rn4 ?_
     refine ob (Ah rfl rfl (Az (by omega))) ?_
     refine rn3 ?_
     refine gy ?_
     refine ob (Ah rfl rfl (C0 (by omega))) ?_
     refine rn5 ?_
     refine gy ?_
     refine ob (Ah rfl rfl (Bu (by have := g2 hc.1; omega))) ?_
     refine rn5 ?_
     refine gy ?_
     refine ob (Ah rfl rfl (C0 (by omega))) ?_
     refine rn3 ?_
     refine gy ?_
     refine ob (Ah rfl rfl (C0 (by omega))) ?_
     refine rn6 ?_
     refine gy ?_
     refine ob (Ah rfl rfl (Bu (by have := g3 hc.1 hc.2; omega))) ?_
     refine rn5 ?_
     refine gy ?_
     refine ob (Ah rfl rfl (Bu (by have := g3 hc.1 hc.2; omega))) ?_
     refine rn6 ?_
     refine gy ?_
     refine ob (Ux (v := .bool false) rfl rfl (fun w => by rw [Pi Try.underlying4 w, (g3 hc.1 hc.2).2.2]; simp)) ?_
     refine rn3 ?_
     refine nx ?_
     refine cF_ ?_
     refine Ak ?_
     refine Ae ?_
     refine sq ?_
     refine kp [5, 6, 10, 12, 13, 14, 43, 44, 45, 46, 47, 48, 49, 50, 51, 52, 53, 54, 55, 56, 57, 58, 59, 60, 61, 62, 63, 64, 65, 66, 67, 68, 69, 70, 71, 72, 73, 74, 75, 76, 77, 78, 79, 80, 81, 82, 83, 84, 85, 86, 87, 88, 89, 90, 91, 92, 93, 94, 95, 96, 97, 98, 99, 100, 101, 102, 103, 104, 105, 106, 107, 108, 109, 110, 111, 112, 113] ?_
     refine Aa ?_
     refine rn5 ?_
     refine jgx (t := 106) (p := ?p5) (hd := ?d5) ?e5 ?_ ?_; case e5 => exact rfl
     ·
      intro ht106
      refine rn1 ?_
      refine gy ?_
      refine li (α := Entry) [((build c l).1.home.getD k Aq)] Hs rfl (fun j hj => ⟨⟨_, rfl, ⟨ue, rfl, hj (sl ue ((build c l).1.home.getD k Aq).last) mm, hwe⟩⟩, trivial⟩) ?_; intro v108
      refine rn1 ?_
      refine gy ?_
      refine li (α := Entry) [((Ai (build c l).1.home ((build c l).1.cores.length : Int) m).1.getD k Aq)] Hs rfl (fun j hj => ⟨⟨_, rfl, ⟨uf, rfl, hj (sl uf ((Ai (build c l).1.home ((build c l).1.cores.length : Int) m).1.getD k Aq).last) mm, hwf⟩⟩, trivial⟩) ?_; intro v110
      refine gy ?_
      refine A1 Try.call31 rfl (fun w hs => Fg (a := [((build c l).1.home.getD k Aq)]) (b := [((Ai (build c l).1.home ((build c l).1.cores.length : Int) m).1.getD k Aq)]) (by rw [g4 ht106]) hs mm mm) ?_; intro _
      refine rn2 ?_
      refine nx ?_
      refine cF_ ?_
      refine Ak ?_
      refine As ?_
      refine Ae ?_
      refine Aa ?_
      refine rn2 ?_
      refine J.nil ?_
      refine Bk (k + 1) (by omega) (by omega) alT (fun w hs => Ag hs)
     ·
      intro ht106
      refine rn7 ?_
      refine nx ?_
      refine cF_ ?_
      refine Ak ?_
      refine As ?_
      refine Ae ?_
      refine Aa ?_
      refine rn2 ?_
      refine J.nil ?_
      refine Bk (k + 1) (by omega) (by omega) alT (fun w hs => Ag hs)
   ·
    intro ht46
    refine xt ?_
    refine Ae ?_
    refine sr ?_
    refine rn1 ?_
    refine nx ?_
    refine rt ?_
    refine Aj (.inr rfl) (fun B w hs => Ek rfl rfl B w) (fun w hs => ⟨(), ?_, Ag hs⟩)
    rfl
end Go.Proofs.Ytofgpimoekhfaaa
