/- This file proves parts of what its law needs: each part is told ahead of it. No conditions. -/
import Derived.Test.YtofgpimoekhfaaaHoM2
import Derived.Test.YtofgpimoekhfaaaHoM4
import Derived.Test.YtofgpimoekhfaaaHoM3
/- This file proves what the home hears, by the document's answer: some kinds of messages. No conditions. -/
set_option linter.unusedVariables false
set_option linter.unusedSimpArgs false
set_option maxHeartbeats 1000000
set_option maxRecDepth 8000
namespace Go.Proofs.Ytofgpimoekhfaaa
open Go
theorem Ms {L : List Chunk} {R : List Fact} {w : World} {v0 : Value} {l : List Entry} {id : Int} {m : Msg} (hs : St (L) R w) (h0 : sl v0 l ∈ R) (hb : ∀ i, i < l.length → EB (l.getD i Aq)) (hla : ∀ i, i < l.length → (l.getD i Aq).last.length ≤ 4) (hm : m.wf) (hid : Ax id) (hk : 0 ≤ m.line ∧ m.line < (l.length : Int) ∧ 0 ≤ m.src ∧ m.src < ((Ad l m.line).last.length : Int) ∧ m.kind = 9) : Calls Try.prog 30 [v0, vi id, .agg m.cells.toArray].toArray w (C2 (fun v : Value × Value => .tuple #[v.1, v.2]) (fun v => L) (fun v => sl v.1 (Ai l id m).1 :: sl v.2 (Ai l id m).2 :: R)) := by
  have hlen := Bv h0 hs
  have hm0 := hm
  unfold Msg.wf Ax at hm0
  have hid0 := hid
  unfold Ax at hid0
  refine Au Try.func30 rfl Try.ntmps30 rfl hs ?_
  clear hs
  refine sr ?_
  refine bx ?_; intro b5
  refine rn2 ?_
  refine nx ?_
  refine Dx (v := v0) m.line mm (by omega) (by omega) (fun hEw u => ?_)
  have hE : EB (Ad l m.line) := hb m.line.toNat (by omega)
  have hE0 := hE
  unfold EB Entry.wf Ax at hE0
  have hL : (Ad l m.line).last.length ≤ 4 := hla m.line.toNat (by omega)
  refine JC.know (p := u.oneCell' = true) (fun w hs => isSlice.one (hs.fact (.tail _ (.head _)))) (fun hone => ?_)
  refine JC.know (p := ∀ x ∈ (Ad l m.line).last, Ax x) (fun w hs => Dy (.tail _ (.head _)) hs) (fun hlin => ?_)
  refine Al Ay (by kernel_rfl) (by kernel_rfl) (fun _ _ => _) (fun _ => rfl) ?_
  refine dn2 ?_
  refine dj ?_
  first | refine dc (fun _ _ => Ah rfl rfl (Az (by omega))) ?_
  refine dj ?_
  first | refine dc (fun _ _ => Bh) ?_
  refine dn4 ?_
  refine dj (dgy ?_)
  first | refine dc (fun _ _ => Ah rfl rfl (Bd (by omega))) ?_
  refine dj ?_
  first | refine dc (fun _ _ => Bp) ?_
  refine dj ?_
  first | refine dc (fun _ _ => Bh) ?_
  refine dn2 ?_
  refine dj (dgy ?_)
  first | refine dc (fun _ _ => Ah rfl rfl (Az (by omega))) ?_
  refine dj ?_
  first | refine dc (fun _ _ => Bp) ?_
  refine dj ?_
  first | refine dc (fun _ _ => Bh) ?_
  refine dn9 ?_
  refine dj (dgy ?_)
  first | refine dc (fun _ _ => Ah rfl rfl (Bd (show ¬ ((Ad l m.line).last.length : Int) ≤ m.src by omega))) ?_
  refine dj ?_
  first | refine dc (fun _ _ => Bp) ?_
  refine Aw ?_; intro ρ; simp only [Ao, facts, Bb, List.append_nil, List.nil_append, List.cons_append]
  refine Ae ?_
  refine sq ?_
  refine cF_ ?_
  refine Ak ?_
  refine Ae ?_
  refine sr ?_
  refine rn5 ?_
  refine al_ (cs := zEC) Try.zeroValue58 ?_; intro b8
  refine s_B (cs := Entry.cells u (Ad l m.line)) Try.sizeOf58 ?_
  refine nx ?_
  refine kp [0, 1, 5, 6, 7, 8, 9, 43, 44, 45, 46] ?_
  refine Aa ?_
  refine liO ([] : List Int) D6 rfl (fun j h => Fu) ?_; intro v43
  refine rn2 ?_
  refine ap D6 (hb := fun w hs => by have : maxN = 16777216 := rfl; simp only [List.length_nil]; omega) (k := ?_); intro v46
  refine rn1 ?_
  refine nr ?_
  refine rn2 ?_
  refine nx ?_
  refine Av ?_
  refine sr ?_
  refine ob (Ah rfl rfl (An (by omega))) ?_
  refine rn1 ?_
  refine nx ?_
  refine cF_ ?_
  refine Aa ?_
  refine ob (Ah rfl rfl (An (by omega))) ?_
  refine rn1 ?_
  refine nx ?_
  refine cF_ ?_
  refine sr ?_
  refine ob (Ah rfl rfl (An (by omega))) ?_
  refine rn1 ?_
  refine nx ?_
  refine cF_ ?_
  refine sr ?_
  refine ob (Ah rfl rfl (A2 (by omega))) ?_
  refine rn1 ?_
  refine nx ?_
  refine cT ?_
  refine sr ?_
  refine rn4 ?_
  refine jgx (t := 146) (p := ?p1) (hd := ?d1) ?e1 ?_ ?_; case e1 => exact rfl
  ·
   intro ht146
   refine rn13 ?_
   refine nx ?_
   refine cT ?_
   refine sq ?_
   refine kp [0, 1, 5, 6, 7, 8, 48, 160] ?_
   refine Aa ?_
   refine rn3 ?_
   refine nx ?_
   refine rt ?_
   have er : Ai l id m = (l, []) := Cu (by omega) (by unfold Af; rw [if_neg (by omega), if_neg (by omega), if_neg (by omega), if_neg (by omega), if_neg (by omega)])
   rw [er]
   refine Aj (.inr rfl) (fun B w hs => Ed rfl rfl rfl B w) (fun w hs => ⟨(v0, .slice none 0 0), ?_, Ag (St.shut (hs.rowNil 42 Msg))⟩)
   rfl
  ·
   intro ht146
   refine rn7 ?_
   refine jgx (t := 153) (p := ?p2) (hd := ?d2) ?e2 ?_ ?_; case e2 => exact rfl
   ·
    intro ht153
    refine rn6 ?_
    refine nx ?_
    refine cT ?_
    refine sq ?_
    refine kp [0, 1, 5, 6, 7, 8, 48, 160] ?_
    refine Aa ?_
    refine rn3 ?_
    refine nx ?_
    refine rt ?_
    have er : Ai l id m = (l, []) := Cu (by omega) (by unfold Af; rw [if_neg (by omega), if_neg (by omega), if_neg (by omega), if_neg (by omega), if_neg (by omega)])
    rw [er]
    refine Aj (.inr rfl) (fun B w hs => Ed rfl rfl rfl B w) (fun w hs => ⟨(v0, .slice none 0 0), ?_, Ag (St.shut (hs.rowNil 42 Msg))⟩)
    rfl
   ·
    intro ht153
    refine rn6 ?_
    refine nx ?_
    refine cdx (p := ?p3) (hd := ?d3) ?e3 ?_ ?_; case e3 => exact rfl
    ·
     intro ht159
     refine sq ?_
     refine kp [0, 1, 5, 6, 7, 8, 48, 160] ?_
     refine Aa ?_
     refine rn3 ?_
     refine nx ?_
     refine rt ?_
     have er : Ai l id m = (l, []) := Cu (by omega) (by unfold Af; rw [if_neg (by omega), if_neg (by omega), if_neg (by omega), if_neg (by omega), if_neg (by omega)])
     rw [er]
     refine Aj (.inr rfl) (fun B w hs => Ed rfl rfl rfl B w) (fun w hs => ⟨(v0, .slice none 0 0), ?_, Ag (St.shut (hs.rowNil 42 Msg))⟩)
     rfl
    ·
     intro ht159
     refine Ak ?_
     refine Ae ?_
     refine sq ?_
     refine kp [0, 1, 5, 6, 7, 8, 48, 161, 162, 163, 164, 165, 166, 167, 168, 169, 170, 171] ?_
     refine Aa ?_
     refine rn4 ?_
     refine Ii (t := 164) (b := ?b4) ?e4 ?_ ?_; case e4 => exact rfl
     ·
      intro ht164
      refine rn4 ?_
      refine gy ?_
      generalize hhas : (Ad l m.line).sharers.toNat.testBit (Ad l m.line).owner.toNat = bh
      refine A1 (val := fun _ => .bool bh) Try.call70 rfl (fun w hs => by have h := Kx (z := (Ad l m.line).sharers.toNat) (k := (Ad l m.line).owner.toNat) hs (by omega) (by omega); rw [Int.toNat_of_nonneg (by omega), Int.toNat_of_nonneg (by omega), hhas] at h; exact h) ?_; intro _
      refine rn2 ?_
      refine nx ?_
      refine Ci (b := ?b5) ?e5 ?_ ?_; case e5 => exact rfl
      ·
       intro ht171
       have hp2 : ((2 ^ (Ad l m.line).owner.toNat : Nat) : Int) ≤ 8 := Int.ofNat_le.2 (Nat.pow_le_pow_right (n := 2) (by decide) (show (Ad l m.line).owner.toNat ≤ 3 by omega))
       have hp0 : (0 : Int) ≤ ((2 ^ (Ad l m.line).owner.toNat : Nat) : Int) := Int.natCast_nonneg _
       refine JC.conseq (L' := blk b8 58 [vi (Ad l m.line).value, vi (Ad l m.line).owner, vi (Ad l m.line).sharers, vi (Ad l m.line).phase, vi (Ad l m.line).who, vi (Ad l m.line).serial, .bool (Ad l m.line).alone, vi (Ad l m.line).turn, vi (Ad l m.line).need, u] :: blk b5 42 m.cells :: L) (fun w hs => Ag hs) ?_
       refine Al Ay (by kernel_rfl) (by kernel_rfl) (fun ρ S => blk b8 58 [vi (Ad l m.line).value, vi (Ad l m.line).owner, vi (Ad l m.line).sharers, vi (Ad l m.line).phase, vi (Ad l m.line).who, vi (Ad l m.line).serial, .bool (Ad l m.line).alone, vi (Ad l m.line).turn, vi (Ad l m.line).need, u] :: blk b5 42 m.cells :: L) (fun _ => rfl) ?_
       refine dn4 ?_
       refine Cb (γ := Unit) (val := fun _ => vi ((2 ^ (Ad l m.line).owner.toNat : Nat) : Int)) (F := fun _ => []) Try.call71 (fun _ => rfl) (fun ρ L R w hd hs => by have h := Jl (k := (Ad l m.line).owner.toNat) hs (by omega); rw [Int.toNat_of_nonneg (by omega)] at h; exact h) (fun _ _ _ _ _ => rfl) ?_
       first | refine Dl (fun _ _ => D9) (fun _ _ _ _ _ => rfl) ?_ | refine Dl (fun _ _ => E7) (fun _ _ _ _ _ => rfl) ?_ | refine e_p (fun _ _ => D9) (by first | exact Ind.const _ | exact fun _ _ _ _ _ => rfl | exact Ind.self | exact Ind.gh _ 3 rfl) (fun _ _ _ _ _ => rfl) ?_ | refine e_p (fun _ _ => E7) (by first | exact Ind.const _ | exact fun _ _ _ _ _ => rfl | exact Ind.self | exact Ind.gh _ 3 rfl) (fun _ _ _ _ _ => rfl) ?_
       refine Ei (by kernel_rfl) ?_; intro ρ; simp only [Ao, facts, Bb, List.append_nil, List.nil_append, List.cons_append]
       refine J.conseq (L' := blk b8 58 [vi (Ad l m.line).value, vi (Ad l m.line).owner, vi (Ad l m.line).sharers, vi (Ad l m.line).phase, vi (Ad l m.line).who, vi (Ad l m.line).serial, .bool (Ad l m.line).alone, vi (Ad l m.line).turn, vi (Ad l m.line).need, u] :: blk b5 42 m.cells :: L) (fun w hs => hs) ?_
       refine rn1 ?_
       refine sc ?_
       refine nr ?_
       refine rn3 ?_
       refine sc ?_
       refine rn1 ?_
       refine sc ?_
       refine nr ?_
       refine rn1 ?_
       have hp3 := Ul hE0.2.1.1 hE0.2.1.2 (show 0 ≤ (Ad l m.line).owner by omega) hE0.2.2.2.2.1.2 (by rw [hhas]; simpa using ht171)
       have hX : EB ({ (Ad l m.line) with value := m.value, sharers := ((Ad l m.line).sharers + ((2 ^ (Ad l m.line).owner.toNat : Nat) : Int)), owner := -1 }) := by unfold EB Entry.wf Ax; simp only; omega
       refine A1 Try.call68 rfl (fun w hs => Hc (e := { (Ad l m.line) with value := m.value, sharers := ((Ad l m.line).sharers + ((2 ^ (Ad l m.line).owner.toNat : Nat) : Int)), owner := -1 }) (u := u) hs hX (by assumption)) ?_; intro _
       refine s_B (cs := (A3 ({ (Ad l m.line) with value := m.value, sharers := ((Ad l m.line).sharers + ((2 ^ (Ad l m.line).owner.toNat : Nat) : Int)), owner := -1 })).cells u) Try.sizeOf58 ?_
       refine J.nil ?_
       refine As ?_
       refine Ae ?_
       refine sq ?_
       have ed : (if (Ad l m.line).alone then (Ad l m.line).sharers else Gb (Ad l m.line).sharers (Ad l m.line).owner) = ((Ad l m.line).sharers + ((2 ^ (Ad l m.line).owner.toNat : Nat) : Int)) := by
        obtain ⟨b1, b2, _⟩ := Bz hE0.2.1.1 hE0.2.1.2 (show 0 ≤ (Ad l m.line).owner by omega) hE0.2.2.2.2.1.2
        rw [if_neg (by simpa using ht164), (b2 (by simpa [hhas] using ht171)).1]
       have er : Ai l id m = (l.set m.line.toNat (A3 ({ (Ad l m.line) with value := m.value, sharers := ((Ad l m.line).sharers + ((2 ^ (Ad l m.line).owner.toNat : Nat) : Int)), owner := -1 })), says (A3 ({ (Ad l m.line) with value := m.value, sharers := ((Ad l m.line).sharers + ((2 ^ (Ad l m.line).owner.toNat : Nat) : Int)), owner := -1 })) m.line id) := Dz (by omega) (by unfold Af; rw [if_neg (by omega), if_neg (by omega), if_pos (by omega)]; unfold De; rw [ed])
       refine JC.conseq (L' := blk b8 58 ((A3 ({ (Ad l m.line) with value := m.value, sharers := ((Ad l m.line).sharers + ((2 ^ (Ad l m.line).owner.toNat : Nat) : Int)), owner := -1 })).cells u) :: blk b5 42 m.cells :: L) (fun w hs => Ag hs) ?_
       refine Al Ay (by kernel_rfl) (by kernel_rfl) (fun ρ S => blk b8 58 ((A3 ({ (Ad l m.line) with value := m.value, sharers := ((Ad l m.line).sharers + ((2 ^ (Ad l m.line).owner.toNat : Nat) : Int)), owner := -1 })).cells u) :: blk b5 42 m.cells :: L) (fun _ => rfl) ?_
       refine dn4 ?_
       refine Cb (γ := Value) (val := fun v => v) (F := fun v => [sl v (l.set m.line.toNat (A3 ({ (Ad l m.line) with value := m.value, sharers := ((Ad l m.line).sharers + ((2 ^ (Ad l m.line).owner.toNat : Nat) : Int)), owner := -1 })))]) Try.call69 (fun _ => rfl) (fun ρ L R w hd hs => Bx (e := A3 ({ (Ad l m.line) with value := m.value, sharers := ((Ad l m.line).sharers + ((2 ^ (Ad l m.line).owner.toNat : Nat) : Int)), owner := -1 })) (u := u) hs (hd.base mm) (by rw [Cw]; exact hd.base mm) (C1 hX).1 (by omega)) (fun _ _ _ _ _ => rfl) ?_
       refine dn4 ?_
       refine Cb (γ := Value) (val := fun v => v) (F := fun v => [sl v (says (A3 ({ (Ad l m.line) with value := m.value, sharers := ((Ad l m.line).sharers + ((2 ^ (Ad l m.line).owner.toNat : Nat) : Int)), owner := -1 })) m.line id)]) Try.call34 (fun _ => rfl) (fun ρ L R w hd hs => F3 (e := A3 ({ (Ad l m.line) with value := m.value, sharers := ((Ad l m.line).sharers + ((2 ^ (Ad l m.line).owner.toNat : Nat) : Int)), owner := -1 })) (u := u) hs (C1 hX) (by assumption) hm.2.2.2.1 hid) (fun _ _ _ _ _ => rfl) ?_
       refine e_p (v := fun ρ => (Gh.dec (γ := Value) (ρ 4))) (fun _ _ => Cz) (Ind.gh (h := fun g => ((Gh.dec (γ := Value) g) : Value)) 4 0 rfl) (fun _ _ _ _ _ => rfl) ?_
       refine e_p (v := fun ρ => (Gh.dec (γ := Value) (ρ 9))) (fun _ _ => Cz) (Ind.gh (h := fun g => ((Gh.dec (γ := Value) g) : Value)) 9 0 rfl) (fun _ _ _ _ _ => rfl) ?_
       refine Aw ?_; intro ρ; simp only [Ao, facts, Bb, List.append_nil, List.nil_append, List.cons_append]
       refine JX.conseq (L' := blk b8 58 ((A3 ({ (Ad l m.line) with value := m.value, sharers := ((Ad l m.line).sharers + ((2 ^ (Ad l m.line).owner.toNat : Nat) : Int)), owner := -1 })).cells u) :: blk b5 42 m.cells :: L) (fun w hs => hs) ?_
       generalize (Gh.dec (γ := Value) (ρ 4)) = v287
       generalize (Gh.dec (γ := Value) (ρ 9)) = v292
       refine Ae ?_
       refine rt ?_
       rw [er]
       refine Aj (.inr rfl) (fun B w hs => Ed rfl rfl rfl B w) (fun w hs => ⟨(v287, v292), ?_, Ag hs⟩)
       rfl
      ·
       intro ht171
       refine Ak ?_
       refine Ae ?_
       refine sr ?_
       refine rn3 ?_
       refine sc ?_
       refine rn1 ?_
       refine sc ?_
       refine nr ?_
       refine rn1 ?_
       skip
       have hX : EB ({ (Ad l m.line) with value := m.value, sharers := (Ad l m.line).sharers, owner := -1 }) := by unfold EB Entry.wf Ax; simp only; omega
       refine A1 Try.call68 rfl (fun w hs => Hc (e := { (Ad l m.line) with value := m.value, sharers := (Ad l m.line).sharers, owner := -1 }) (u := u) hs hX (by assumption)) ?_; intro _
       refine s_B (cs := (A3 ({ (Ad l m.line) with value := m.value, sharers := (Ad l m.line).sharers, owner := -1 })).cells u) Try.sizeOf58 ?_
       refine J.nil ?_
       refine As ?_
       refine Ae ?_
       refine sq ?_
       have ed : (if (Ad l m.line).alone then (Ad l m.line).sharers else Gb (Ad l m.line).sharers (Ad l m.line).owner) = (Ad l m.line).sharers := by
        obtain ⟨b1, b2, _⟩ := Bz hE0.2.1.1 hE0.2.1.2 (show 0 ≤ (Ad l m.line).owner by omega) hE0.2.2.2.2.1.2
        rw [if_neg (by simpa using ht164), (b1 (by simpa [hhas] using ht171)).1]
       have er : Ai l id m = (l.set m.line.toNat (A3 ({ (Ad l m.line) with value := m.value, sharers := (Ad l m.line).sharers, owner := -1 })), says (A3 ({ (Ad l m.line) with value := m.value, sharers := (Ad l m.line).sharers, owner := -1 })) m.line id) := Dz (by omega) (by unfold Af; rw [if_neg (by omega), if_neg (by omega), if_pos (by omega)]; unfold De; rw [ed])
       refine JC.conseq (L' := blk b8 58 ((A3 ({ (Ad l m.line) with value := m.value, sharers := (Ad l m.line).sharers, owner := -1 })).cells u) :: blk b5 42 m.cells :: L) (fun w hs => Ag hs) ?_
       refine Al Ay (by kernel_rfl) (by kernel_rfl) (fun ρ S => blk b8 58 ((A3 ({ (Ad l m.line) with value := m.value, sharers := (Ad l m.line).sharers, owner := -1 })).cells u) :: blk b5 42 m.cells :: L) (fun _ => rfl) ?_
       refine dn4 ?_
       refine Cb (γ := Value) (val := fun v => v) (F := fun v => [sl v (l.set m.line.toNat (A3 ({ (Ad l m.line) with value := m.value, sharers := (Ad l m.line).sharers, owner := -1 })))]) Try.call69 (fun _ => rfl) (fun ρ L R w hd hs => Bx (e := A3 ({ (Ad l m.line) with value := m.value, sharers := (Ad l m.line).sharers, owner := -1 })) (u := u) hs (hd.base mm) (by rw [Cw]; exact hd.base mm) (C1 hX).1 (by omega)) (fun _ _ _ _ _ => rfl) ?_
       refine dn4 ?_
       refine Cb (γ := Value) (val := fun v => v) (F := fun v => [sl v (says (A3 ({ (Ad l m.line) with value := m.value, sharers := (Ad l m.line).sharers, owner := -1 })) m.line id)]) Try.call34 (fun _ => rfl) (fun ρ L R w hd hs => F3 (e := A3 ({ (Ad l m.line) with value := m.value, sharers := (Ad l m.line).sharers, owner := -1 })) (u := u) hs (C1 hX) (by assumption) hm.2.2.2.1 hid) (fun _ _ _ _ _ => rfl) ?_
       refine e_p (v := fun ρ => (Gh.dec (γ := Value) (ρ 4))) (fun _ _ => Cz) (Ind.gh (h := fun g => ((Gh.dec (γ := Value) g) : Value)) 4 0 rfl) (fun _ _ _ _ _ => rfl) ?_
       refine e_p (v := fun ρ => (Gh.dec (γ := Value) (ρ 9))) (fun _ _ => Cz) (Ind.gh (h := fun g => ((Gh.dec (γ := Value) g) : Value)) 9 0 rfl) (fun _ _ _ _ _ => rfl) ?_
       refine Aw ?_; intro ρ; simp only [Ao, facts, Bb, List.append_nil, List.nil_append, List.cons_append]
       refine JX.conseq (L' := blk b8 58 ((A3 ({ (Ad l m.line) with value := m.value, sharers := (Ad l m.line).sharers, owner := -1 })).cells u) :: blk b5 42 m.cells :: L) (fun w hs => hs) ?_
       generalize (Gh.dec (γ := Value) (ρ 4)) = v287
       generalize (Gh.dec (γ := Value) (ρ 9)) = v292
       refine Ae ?_
       refine rt ?_
       rw [er]
       refine Aj (.inr rfl) (fun B w hs => Ed rfl rfl rfl B w) (fun w hs => ⟨(v287, v292), ?_, Ag hs⟩)
       rfl
     ·
      intro ht164
      refine rn7 ?_
      refine nx ?_
      refine cF_ ?_
      refine Ak ?_
      refine Ae ?_
      refine sr ?_
      refine rn3 ?_
      refine sc ?_
      refine rn1 ?_
      refine sc ?_
      refine nr ?_
      refine rn1 ?_
      skip
      have hX : EB ({ (Ad l m.line) with value := m.value, sharers := (Ad l m.line).sharers, owner := -1 }) := by unfold EB Entry.wf Ax; simp only; omega
      refine A1 Try.call68 rfl (fun w hs => Hc (e := { (Ad l m.line) with value := m.value, sharers := (Ad l m.line).sharers, owner := -1 }) (u := u) hs hX (by assumption)) ?_; intro _
      refine s_B (cs := (A3 ({ (Ad l m.line) with value := m.value, sharers := (Ad l m.line).sharers, owner := -1 })).cells u) Try.sizeOf58 ?_
      refine J.nil ?_
      refine As ?_
      refine Ae ?_
      refine sq ?_
      have ed : (if (Ad l m.line).alone then (Ad l m.line).sharers else Gb (Ad l m.line).sharers (Ad l m.line).owner) = (Ad l m.line).sharers := by
       obtain ⟨b1, b2, _⟩ := Bz hE0.2.1.1 hE0.2.1.2 (show 0 ≤ (Ad l m.line).owner by omega) hE0.2.2.2.2.1.2
       rw [if_pos (by simpa using ht164)]
      have er : Ai l id m = (l.set m.line.toNat (A3 ({ (Ad l m.line) with value := m.value, sharers := (Ad l m.line).sharers, owner := -1 })), says (A3 ({ (Ad l m.line) with value := m.value, sharers := (Ad l m.line).sharers, owner := -1 })) m.line id) := Dz (by omega) (by unfold Af; rw [if_neg (by omega), if_neg (by omega), if_pos (by omega)]; unfold De; rw [ed])
      refine JC.conseq (L' := blk b8 58 ((A3 ({ (Ad l m.line) with value := m.value, sharers := (Ad l m.line).sharers, owner := -1 })).cells u) :: blk b5 42 m.cells :: L) (fun w hs => Ag hs) ?_
      refine Al Ay (by kernel_rfl) (by kernel_rfl) (fun ρ S => blk b8 58 ((A3 ({ (Ad l m.line) with value := m.value, sharers := (Ad l m.line).sharers, owner := -1 })).cells u) :: blk b5 42 m.cells :: L) (fun _ => rfl) ?_
      refine dn4 ?_
      refine Cb (γ := Value) (val := fun v => v) (F := fun v => [sl v (l.set m.line.toNat (A3 ({ (Ad l m.line) with value := m.value, sharers := (Ad l m.line).sharers, owner := -1 })))]) Try.call69 (fun _ => rfl) (fun ρ L R w hd hs => Bx (e := A3 ({ (Ad l m.line) with value := m.value, sharers := (Ad l m.line).sharers, owner := -1 })) (u := u) hs (hd.base mm) (by rw [Cw]; exact hd.base mm) (C1 hX).1 (by omega)) (fun _ _ _ _ _ => rfl) ?_
      refine dn4 ?_
      refine Cb (γ := Value) (val := fun v => v) (F := fun v => [sl v (says (A3 ({ (Ad l m.line) with value := m.value, sharers := (Ad l m.line).sharers, owner := -1 })) m.line id)]) Try.call34 (fun _ => rfl) (fun ρ L R w hd hs => F3 (e := A3 ({ (Ad l m.line) with value := m.value, sharers := (Ad l m.line).sharers, owner := -1 })) (u := u) hs (C1 hX) (by assumption) hm.2.2.2.1 hid) (fun _ _ _ _ _ => rfl) ?_
      refine e_p (v := fun ρ => (Gh.dec (γ := Value) (ρ 4))) (fun _ _ => Cz) (Ind.gh (h := fun g => ((Gh.dec (γ := Value) g) : Value)) 4 0 rfl) (fun _ _ _ _ _ => rfl) ?_
      refine e_p (v := fun ρ => (Gh.dec (γ := Value) (ρ 9))) (fun _ _ => Cz) (Ind.gh (h := fun g => ((Gh.dec (γ := Value) g) : Value)) 9 0 rfl) (fun _ _ _ _ _ => rfl) ?_
      refine Aw ?_; intro ρ; simp only [Ao, facts, Bb, List.append_nil, List.nil_append, List.cons_append]
      refine JX.conseq (L' := blk b8 58 ((A3 ({ (Ad l m.line) with value := m.value, sharers := (Ad l m.line).sharers, owner := -1 })).cells u) :: blk b5 42 m.cells :: L) (fun w hs => hs) ?_
      generalize (Gh.dec (γ := Value) (ρ 4)) = v287
      generalize (Gh.dec (γ := Value) (ρ 9)) = v292
      refine Ae ?_
      refine rt ?_
      rw [er]
      refine Aj (.inr rfl) (fun B w hs => Ed rfl rfl rfl B w) (fun w hs => ⟨(v287, v292), ?_, Ag hs⟩)
      rfl
end Go.Proofs.Ytofgpimoekhfaaa

/- This file proves what the home hears, by the document's answer: some kinds of messages. No conditions. -/
set_option linter.unusedVariables false
set_option linter.unusedSimpArgs false
set_option maxHeartbeats 1000000
set_option maxRecDepth 8000
namespace Go.Proofs.Ytofgpimoekhfaaa
open Go
theorem Mt {L : List Chunk} {R : List Fact} {w : World} {v0 : Value} {l : List Entry} {id : Int} {m : Msg} (hs : St (L) R w) (h0 : sl v0 l ∈ R) (hb : ∀ i, i < l.length → EB (l.getD i Aq)) (hla : ∀ i, i < l.length → (l.getD i Aq).last.length ≤ 4) (hm : m.wf) (hid : Ax id) (hk : 0 ≤ m.line ∧ m.line < (l.length : Int) ∧ 0 ≤ m.src ∧ m.src < ((Ad l m.line).last.length : Int) ∧ m.kind = 8) : Calls Try.prog 30 [v0, vi id, .agg m.cells.toArray].toArray w (C2 (fun v : Value × Value => .tuple #[v.1, v.2]) (fun v => L) (fun v => sl v.1 (Ai l id m).1 :: sl v.2 (Ai l id m).2 :: R)) := by
  have hlen := Bv h0 hs
  have hm0 := hm
  unfold Msg.wf Ax at hm0
  have hid0 := hid
  unfold Ax at hid0
  refine Au Try.func30 rfl Try.ntmps30 rfl hs ?_
  clear hs
  refine sr ?_
  refine bx ?_; intro b5
  refine rn2 ?_
  refine nx ?_
  refine Dx (v := v0) m.line mm (by omega) (by omega) (fun hEw u => ?_)
  have hE : EB (Ad l m.line) := hb m.line.toNat (by omega)
  have hE0 := hE
  unfold EB Entry.wf Ax at hE0
  have hL : (Ad l m.line).last.length ≤ 4 := hla m.line.toNat (by omega)
  refine JC.know (p := u.oneCell' = true) (fun w hs => isSlice.one (hs.fact (.tail _ (.head _)))) (fun hone => ?_)
  refine JC.know (p := ∀ x ∈ (Ad l m.line).last, Ax x) (fun w hs => Dy (.tail _ (.head _)) hs) (fun hlin => ?_)
  refine Al Ay (by kernel_rfl) (by kernel_rfl) (fun _ _ => _) (fun _ => rfl) ?_
  refine dn2 ?_
  refine dj ?_
  first | refine dc (fun _ _ => Ah rfl rfl (Az (by omega))) ?_
  refine dj ?_
  first | refine dc (fun _ _ => Bh) ?_
  refine dn4 ?_
  refine dj (dgy ?_)
  first | refine dc (fun _ _ => Ah rfl rfl (Bd (by omega))) ?_
  refine dj ?_
  first | refine dc (fun _ _ => Bp) ?_
  refine dj ?_
  first | refine dc (fun _ _ => Bh) ?_
  refine dn2 ?_
  refine dj (dgy ?_)
  first | refine dc (fun _ _ => Ah rfl rfl (Az (by omega))) ?_
  refine dj ?_
  first | refine dc (fun _ _ => Bp) ?_
  refine dj ?_
  first | refine dc (fun _ _ => Bh) ?_
  refine dn9 ?_
  refine dj (dgy ?_)
  first | refine dc (fun _ _ => Ah rfl rfl (Bd (show ¬ ((Ad l m.line).last.length : Int) ≤ m.src by omega))) ?_
  refine dj ?_
  first | refine dc (fun _ _ => Bp) ?_
  refine Aw ?_; intro ρ; simp only [Ao, facts, Bb, List.append_nil, List.nil_append, List.cons_append]
  refine Ae ?_
  refine sq ?_
  refine cF_ ?_
  refine Ak ?_
  refine Ae ?_
  refine sr ?_
  refine rn5 ?_
  refine al_ (cs := zEC) Try.zeroValue58 ?_; intro b8
  refine s_B (cs := Entry.cells u (Ad l m.line)) Try.sizeOf58 ?_
  refine nx ?_
  refine kp [0, 1, 5, 6, 7, 8, 9, 43, 44, 45, 46] ?_
  refine Aa ?_
  refine liO ([] : List Int) D6 rfl (fun j h => Fu) ?_; intro v43
  refine rn2 ?_
  refine ap D6 (hb := fun w hs => by have : maxN = 16777216 := rfl; simp only [List.length_nil]; omega) (k := ?_); intro v46
  refine rn1 ?_
  refine nr ?_
  refine rn2 ?_
  refine nx ?_
  refine Av ?_
  refine sr ?_
  refine ob (Ah rfl rfl (An (by omega))) ?_
  refine rn1 ?_
  refine nx ?_
  refine cF_ ?_
  refine Aa ?_
  refine ob (Ah rfl rfl (An (by omega))) ?_
  refine rn1 ?_
  refine nx ?_
  refine cF_ ?_
  refine sr ?_
  refine ob (Ah rfl rfl (An (by omega))) ?_
  refine rn1 ?_
  refine nx ?_
  refine cF_ ?_
  refine sr ?_
  refine ob (Ah rfl rfl (An (by omega))) ?_
  refine rn1 ?_
  refine nx ?_
  refine cF_ ?_
  refine sr ?_
  refine ob (Ah rfl rfl (A2 (by omega))) ?_
  refine rn1 ?_
  refine nx ?_
  refine cT ?_
  refine sr ?_
  refine rn4 ?_
  refine jgx (t := 190) (p := ?p1) (hd := ?d1) ?e1 ?_ ?_; case e1 => exact rfl
  ·
   intro ht190
   refine rn14 ?_
   refine nx ?_
   refine cT ?_
   refine sq ?_
   refine kp [0, 1, 5, 6, 7, 8, 48, 205] ?_
   refine Aa ?_
   refine rn3 ?_
   refine nx ?_
   refine rt ?_
   have er : Ai l id m = (l, []) := Cu (by omega) (by unfold Af; rw [if_neg (by omega), if_neg (by omega), if_neg (by omega), if_neg (by first | omega | (intro h; have h4 := h.2.2.2; unfold H2 at h4; rw [hhas] at h4; rw [h4] at ht204; exact absurd ht204 (by decide))), if_neg (by omega)])
   rw [er]
   refine Aj (.inr rfl) (fun B w hs => Ed rfl rfl rfl B w) (fun w hs => ⟨(v0, .slice none 0 0), ?_, Ag (St.shut (hs.rowNil 42 Msg))⟩)
   rfl
  ·
   intro ht190
   refine rn7 ?_
   refine jgx (t := 197) (p := ?p2) (hd := ?d2) ?e2 ?_ ?_; case e2 => exact rfl
   ·
    intro ht197
    refine rn7 ?_
    refine nx ?_
    refine cT ?_
    refine sq ?_
    refine kp [0, 1, 5, 6, 7, 8, 48, 205] ?_
    refine Aa ?_
    refine rn3 ?_
    refine nx ?_
    refine rt ?_
    have er : Ai l id m = (l, []) := Cu (by omega) (by unfold Af; rw [if_neg (by omega), if_neg (by omega), if_neg (by omega), if_neg (by first | omega | (intro h; have h4 := h.2.2.2; unfold H2 at h4; rw [hhas] at h4; rw [h4] at ht204; exact absurd ht204 (by decide))), if_neg (by omega)])
    rw [er]
    refine Aj (.inr rfl) (fun B w hs => Ed rfl rfl rfl B w) (fun w hs => ⟨(v0, .slice none 0 0), ?_, Ag (St.shut (hs.rowNil 42 Msg))⟩)
    rfl
   ·
    intro ht197
    refine rn4 ?_
    refine gy ?_
    generalize hhas : (Ad l m.line).need.toNat.testBit m.src.toNat = bh
    refine A1 (val := fun _ => .bool bh) Try.call70 rfl (fun w hs => by have h := Kx (z := (Ad l m.line).need.toNat) (k := m.src.toNat) hs (by omega) (by omega); rw [Int.toNat_of_nonneg (by omega), Int.toNat_of_nonneg (by omega), hhas] at h; exact h) ?_; intro _
    refine rn2 ?_
    refine nx ?_
    refine Ci (b := ?b3) ?e3 ?_ ?_; case e3 => exact rfl
    ·
     intro ht204
     refine sq ?_
     refine kp [0, 1, 5, 6, 7, 8, 48, 205] ?_
     refine Aa ?_
     refine rn3 ?_
     refine nx ?_
     refine rt ?_
     have er : Ai l id m = (l, []) := Cu (by omega) (by unfold Af; rw [if_neg (by omega), if_neg (by omega), if_neg (by omega), if_neg (by first | omega | (intro h; have h4 := h.2.2.2; unfold H2 at h4; rw [hhas] at h4; rw [h4] at ht204; exact absurd ht204 (by decide))), if_neg (by omega)])
     rw [er]
     refine Aj (.inr rfl) (fun B w hs => Ed rfl rfl rfl B w) (fun w hs => ⟨(v0, .slice none 0 0), ?_, Ag (St.shut (hs.rowNil 42 Msg))⟩)
     rfl
    ·
     intro ht204
     refine Ak ?_
     refine Ae ?_
     refine sq ?_
     have hp2 : ((2 ^ m.src.toNat : Nat) : Int) ≤ 8 := Int.ofNat_le.2 (Nat.pow_le_pow_right (n := 2) (by decide) (show m.src.toNat ≤ 3 by omega))
     have hp0 : (0 : Int) ≤ ((2 ^ m.src.toNat : Nat) : Int) := Int.natCast_nonneg _
     refine kp [0, 1, 5, 6, 7, 8, 48, 206, 207, 208, 209, 210, 211, 212] ?_
     refine JC.conseq (L' := blk b8 58 [vi (Ad l m.line).value, vi (Ad l m.line).owner, vi (Ad l m.line).sharers, vi (Ad l m.line).phase, vi (Ad l m.line).who, vi (Ad l m.line).serial, .bool (Ad l m.line).alone, vi (Ad l m.line).turn, vi (Ad l m.line).need, u] :: blk b5 42 m.cells :: L) (fun w hs => Ag hs) ?_
     refine Al Ay (by kernel_rfl) (by kernel_rfl) (fun ρ S => blk b8 58 [vi (Ad l m.line).value, vi (Ad l m.line).owner, vi (Ad l m.line).sharers, vi (Ad l m.line).phase, vi (Ad l m.line).who, vi (Ad l m.line).serial, .bool (Ad l m.line).alone, vi (Ad l m.line).turn, vi (Ad l m.line).need, u] :: blk b5 42 m.cells :: L) (fun _ => rfl) ?_
     refine dn4 ?_
     refine Cb (γ := Unit) (val := fun _ => vi ((2 ^ m.src.toNat : Nat) : Int)) (F := fun _ => []) Try.call71 (fun _ => rfl) (fun ρ L R w hd hs => by have h := Jl (k := m.src.toNat) hs (by omega); rw [Int.toNat_of_nonneg (by omega)] at h; exact h) (fun _ _ _ _ _ => rfl) ?_
     first | refine Dl (fun _ _ => M0) (fun _ _ _ _ _ => rfl) ?_ | refine e_p (fun _ _ => M0) (by first | exact Ind.const _ | exact fun _ _ _ _ _ => rfl | exact Ind.self | exact Ind.gh _ 3 rfl) (fun _ _ _ _ _ => rfl) ?_
     refine Ei (by kernel_rfl) ?_; intro ρ; simp only [Ao, facts, Bb, List.append_nil, List.nil_append, List.cons_append]
     refine J.conseq (L' := blk b8 58 [vi (Ad l m.line).value, vi (Ad l m.line).owner, vi (Ad l m.line).sharers, vi (Ad l m.line).phase, vi (Ad l m.line).who, vi (Ad l m.line).serial, .bool (Ad l m.line).alone, vi (Ad l m.line).turn, vi (Ad l m.line).need, u] :: blk b5 42 m.cells :: L) (fun w hs => hs) ?_
     refine rn1 ?_
     refine sc ?_
     refine nr ?_
     refine rn4 ?_
     generalize hhasS : (Ad l m.line).sharers.toNat.testBit m.src.toNat = bhS
     refine A1 (val := fun _ => .bool bhS) Try.call70 rfl (fun w hs => by have h := Kx (z := (Ad l m.line).sharers.toNat) (k := m.src.toNat) hs (by omega) (by omega); rw [Int.toNat_of_nonneg (by omega), Int.toNat_of_nonneg (by omega), hhasS] at h; exact h) ?_; intro _
     refine nx ?_
     refine Ci (b := ?b4) ?e4 ?_ ?_; case e4 => exact rfl
     ·
      intro ht217
      refine JC.conseq (L' := blk b8 58 [vi (Ad l m.line).value, vi (Ad l m.line).owner, vi (Ad l m.line).sharers, vi (Ad l m.line).phase, vi (Ad l m.line).who, vi (Ad l m.line).serial, .bool (Ad l m.line).alone, vi (Ad l m.line).turn, vi ((Ad l m.line).need - ((2 ^ m.src.toNat : Nat) : Int)), u] :: blk b5 42 m.cells :: L) (fun w hs => Ag hs) ?_
      refine Al Ay (by kernel_rfl) (by kernel_rfl) (fun ρ S => blk b8 58 [vi (Ad l m.line).value, vi (Ad l m.line).owner, vi (Ad l m.line).sharers, vi (Ad l m.line).phase, vi (Ad l m.line).who, vi (Ad l m.line).serial, .bool (Ad l m.line).alone, vi (Ad l m.line).turn, vi ((Ad l m.line).need - ((2 ^ m.src.toNat : Nat) : Int)), u] :: blk b5 42 m.cells :: L) (fun _ => rfl) ?_
      refine dn4 ?_
      refine Cb (γ := Unit) (val := fun _ => vi ((2 ^ m.src.toNat : Nat) : Int)) (F := fun _ => []) Try.call71 (fun _ => rfl) (fun ρ L R w hd hs => by have h := Jl (k := m.src.toNat) hs (by omega); rw [Int.toNat_of_nonneg (by omega)] at h; exact h) (fun _ _ _ _ _ => rfl) ?_
      first | refine Dl (fun _ _ => M0) (fun _ _ _ _ _ => rfl) ?_ | refine e_p (fun _ _ => M0) (by first | exact Ind.const _ | exact fun _ _ _ _ _ => rfl | exact Ind.self | exact Ind.gh _ 3 rfl) (fun _ _ _ _ _ => rfl) ?_
      refine Ei (by kernel_rfl) ?_; intro ρ; simp only [Ao, facts, Bb, List.append_nil, List.nil_append, List.cons_append]
      refine J.conseq (L' := blk b8 58 [vi (Ad l m.line).value, vi (Ad l m.line).owner, vi (Ad l m.line).sharers, vi (Ad l m.line).phase, vi (Ad l m.line).who, vi (Ad l m.line).serial, .bool (Ad l m.line).alone, vi (Ad l m.line).turn, vi ((Ad l m.line).need - ((2 ^ m.src.toNat : Nat) : Int)), u] :: blk b5 42 m.cells :: L) (fun w hs => hs) ?_
      refine rn1 ?_
      refine sc ?_
      refine nr ?_
      refine rn3 ?_
      refine nx ?_
      refine cdx (p := ?p5) (hd := ?d5) ?e5 ?_ ?_; case e5 => exact rfl
      ·
       intro ht227
       refine sq ?_
       have hh : (Ad l m.line).need.toNat.testBit m.src.toNat = true := by rw [hhas]; simpa using ht204
       have hhS : (Ad l m.line).sharers.toNat.testBit m.src.toNat = true := by rw [hhasS]; exact ht217
       have eg : Bo (Ad l m.line) m = { (Ad l m.line) with need := ((Ad l m.line).need - ((2 ^ m.src.toNat : Nat) : Int)), sharers := ((Ad l m.line).sharers - ((2 ^ m.src.toNat : Nat) : Int)) } := by
        obtain ⟨b1, b2, _⟩ := Bz hE0.2.1.1 hE0.2.1.2 (show 0 ≤ m.src by omega) (show m.src < 4 by omega)
        obtain ⟨c1, _⟩ := Bz hE0.2.2.1.1 hE0.2.2.1.2 (show 0 ≤ m.src by omega) (show m.src < 4 by omega)
        unfold Bo
        rw [(c1 hh).2, (b1 hhS).2]
       refine JC.slNil Msg ?_
       have er : Ai l id m = (l.set m.line.toNat ({ (Ad l m.line) with need := ((Ad l m.line).need - ((2 ^ m.src.toNat : Nat) : Int)), sharers := ((Ad l m.line).sharers - ((2 ^ m.src.toNat : Nat) : Int)) }), []) := Dz (by omega) (by unfold Af; rw [if_neg (by omega), if_neg (by omega), if_neg (by omega), if_pos ⟨by omega, by omega, by omega, hh⟩, eg, if_neg (by simp only; omega)])
       refine Aa ?_
       refine rn4 ?_
       refine A1 Try.call69 rfl (fun w hs => Bx (e := { (Ad l m.line) with need := ((Ad l m.line).need - ((2 ^ m.src.toNat : Nat) : Int)), sharers := ((Ad l m.line).sharers - ((2 ^ m.src.toNat : Nat) : Int)) }) (u := u) hs mm mm (by unfold Entry.wf Ax; simp only; omega) (by omega)) ?_; intro v232
       refine rn2 ?_
       refine nx ?_
       refine rt ?_
       rw [er]
       refine Aj (.inr rfl) (fun B w hs => Ed rfl rfl rfl B w) (fun w hs => ⟨(v232, .slice none 0 0), ?_, Ag hs⟩)
       rfl
      ·
       intro ht227
       refine Ak ?_
       refine Ae ?_
       refine Aa ?_
       refine rn1 ?_
       have hp3 := Mc hE0.2.2.1.1 hE0.2.2.1.2 (show 0 ≤ m.src by omega) (show m.src < 4 by omega) (by rw [hhas]; simpa using ht204)
       have hp4 := Mc hE0.2.1.1 hE0.2.1.2 (show 0 ≤ m.src by omega) (show m.src < 4 by omega) (by rw [hhasS]; exact ht217)
       have hX : EB ({ (Ad l m.line) with need := ((Ad l m.line).need - ((2 ^ m.src.toNat : Nat) : Int)), sharers := ((Ad l m.line).sharers - ((2 ^ m.src.toNat : Nat) : Int)) }) := by unfold EB Entry.wf Ax; simp only; omega
       refine A1 Try.call68 rfl (fun w hs => Hc (e := { (Ad l m.line) with need := ((Ad l m.line).need - ((2 ^ m.src.toNat : Nat) : Int)), sharers := ((Ad l m.line).sharers - ((2 ^ m.src.toNat : Nat) : Int)) }) (u := u) hs hX (by assumption)) ?_; intro _
       refine s_B (cs := (A3 ({ (Ad l m.line) with need := ((Ad l m.line).need - ((2 ^ m.src.toNat : Nat) : Int)), sharers := ((Ad l m.line).sharers - ((2 ^ m.src.toNat : Nat) : Int)) })).cells u) Try.sizeOf58 ?_
       refine J.nil ?_
       refine As ?_
       refine Ae ?_
       refine sq ?_
       have hh : (Ad l m.line).need.toNat.testBit m.src.toNat = true := by rw [hhas]; simpa using ht204
       have hhS : (Ad l m.line).sharers.toNat.testBit m.src.toNat = true := by rw [hhasS]; exact ht217
       have eg : Bo (Ad l m.line) m = { (Ad l m.line) with need := ((Ad l m.line).need - ((2 ^ m.src.toNat : Nat) : Int)), sharers := ((Ad l m.line).sharers - ((2 ^ m.src.toNat : Nat) : Int)) } := by
        obtain ⟨b1, b2, _⟩ := Bz hE0.2.1.1 hE0.2.1.2 (show 0 ≤ m.src by omega) (show m.src < 4 by omega)
        obtain ⟨c1, _⟩ := Bz hE0.2.2.1.1 hE0.2.2.1.2 (show 0 ≤ m.src by omega) (show m.src < 4 by omega)
        unfold Bo
        rw [(c1 hh).2, (b1 hhS).2]
       have er : Ai l id m = (l.set m.line.toNat (A3 ({ (Ad l m.line) with need := ((Ad l m.line).need - ((2 ^ m.src.toNat : Nat) : Int)), sharers := ((Ad l m.line).sharers - ((2 ^ m.src.toNat : Nat) : Int)) })), says (A3 ({ (Ad l m.line) with need := ((Ad l m.line).need - ((2 ^ m.src.toNat : Nat) : Int)), sharers := ((Ad l m.line).sharers - ((2 ^ m.src.toNat : Nat) : Int)) })) m.line id) := Dz (by omega) (by unfold Af; rw [if_neg (by omega), if_neg (by omega), if_neg (by omega), if_pos ⟨by omega, by omega, by omega, hh⟩, eg, if_pos (by simp only; omega)])
       refine JC.conseq (L' := blk b8 58 ((A3 ({ (Ad l m.line) with need := ((Ad l m.line).need - ((2 ^ m.src.toNat : Nat) : Int)), sharers := ((Ad l m.line).sharers - ((2 ^ m.src.toNat : Nat) : Int)) })).cells u) :: blk b5 42 m.cells :: L) (fun w hs => Ag hs) ?_
       refine Al Ay (by kernel_rfl) (by kernel_rfl) (fun ρ S => blk b8 58 ((A3 ({ (Ad l m.line) with need := ((Ad l m.line).need - ((2 ^ m.src.toNat : Nat) : Int)), sharers := ((Ad l m.line).sharers - ((2 ^ m.src.toNat : Nat) : Int)) })).cells u) :: blk b5 42 m.cells :: L) (fun _ => rfl) ?_
       refine dn4 ?_
       refine Cb (γ := Value) (val := fun v => v) (F := fun v => [sl v (l.set m.line.toNat (A3 ({ (Ad l m.line) with need := ((Ad l m.line).need - ((2 ^ m.src.toNat : Nat) : Int)), sharers := ((Ad l m.line).sharers - ((2 ^ m.src.toNat : Nat) : Int)) })))]) Try.call69 (fun _ => rfl) (fun ρ L R w hd hs => Bx (e := A3 ({ (Ad l m.line) with need := ((Ad l m.line).need - ((2 ^ m.src.toNat : Nat) : Int)), sharers := ((Ad l m.line).sharers - ((2 ^ m.src.toNat : Nat) : Int)) })) (u := u) hs (hd.base mm) (by rw [Cw]; exact hd.base mm) (C1 hX).1 (by omega)) (fun _ _ _ _ _ => rfl) ?_
       refine dn4 ?_
       refine Cb (γ := Value) (val := fun v => v) (F := fun v => [sl v (says (A3 ({ (Ad l m.line) with need := ((Ad l m.line).need - ((2 ^ m.src.toNat : Nat) : Int)), sharers := ((Ad l m.line).sharers - ((2 ^ m.src.toNat : Nat) : Int)) })) m.line id)]) Try.call34 (fun _ => rfl) (fun ρ L R w hd hs => F3 (e := A3 ({ (Ad l m.line) with need := ((Ad l m.line).need - ((2 ^ m.src.toNat : Nat) : Int)), sharers := ((Ad l m.line).sharers - ((2 ^ m.src.toNat : Nat) : Int)) })) (u := u) hs (C1 hX) (by assumption) hm.2.2.2.1 hid) (fun _ _ _ _ _ => rfl) ?_
       refine e_p (v := fun ρ => (Gh.dec (γ := Value) (ρ 4))) (fun _ _ => Cz) (Ind.gh (h := fun g => ((Gh.dec (γ := Value) g) : Value)) 4 0 rfl) (fun _ _ _ _ _ => rfl) ?_
       refine e_p (v := fun ρ => (Gh.dec (γ := Value) (ρ 9))) (fun _ _ => Cz) (Ind.gh (h := fun g => ((Gh.dec (γ := Value) g) : Value)) 9 0 rfl) (fun _ _ _ _ _ => rfl) ?_
       refine Aw ?_; intro ρ; simp only [Ao, facts, Bb, List.append_nil, List.nil_append, List.cons_append]
       refine JX.conseq (L' := blk b8 58 ((A3 ({ (Ad l m.line) with need := ((Ad l m.line).need - ((2 ^ m.src.toNat : Nat) : Int)), sharers := ((Ad l m.line).sharers - ((2 ^ m.src.toNat : Nat) : Int)) })).cells u) :: blk b5 42 m.cells :: L) (fun w hs => hs) ?_
       generalize (Gh.dec (γ := Value) (ρ 4)) = v287
       generalize (Gh.dec (γ := Value) (ρ 9)) = v292
       refine Ae ?_
       refine rt ?_
       rw [er]
       refine Aj (.inr rfl) (fun B w hs => Ed rfl rfl rfl B w) (fun w hs => ⟨(v287, v292), ?_, Ag hs⟩)
       rfl
     ·
      intro ht217
      refine Ak ?_
      refine Ae ?_
      refine sr ?_
      refine rn3 ?_
      refine nx ?_
      refine cdx (p := ?p6) (hd := ?d6) ?e6 ?_ ?_; case e6 => exact rfl
      ·
       intro ht227
       refine sq ?_
       have hh : (Ad l m.line).need.toNat.testBit m.src.toNat = true := by rw [hhas]; simpa using ht204
       have hhS : (Ad l m.line).sharers.toNat.testBit m.src.toNat = false := by rw [hhasS]; simpa using ht217
       have eg : Bo (Ad l m.line) m = { (Ad l m.line) with need := ((Ad l m.line).need - ((2 ^ m.src.toNat : Nat) : Int)), sharers := (Ad l m.line).sharers } := by
        obtain ⟨b1, b2, _⟩ := Bz hE0.2.1.1 hE0.2.1.2 (show 0 ≤ m.src by omega) (show m.src < 4 by omega)
        obtain ⟨c1, _⟩ := Bz hE0.2.2.1.1 hE0.2.2.1.2 (show 0 ≤ m.src by omega) (show m.src < 4 by omega)
        unfold Bo
        rw [(c1 hh).2, (b2 hhS).2]
       refine JC.slNil Msg ?_
       have er : Ai l id m = (l.set m.line.toNat ({ (Ad l m.line) with need := ((Ad l m.line).need - ((2 ^ m.src.toNat : Nat) : Int)), sharers := (Ad l m.line).sharers }), []) := Dz (by omega) (by unfold Af; rw [if_neg (by omega), if_neg (by omega), if_neg (by omega), if_pos ⟨by omega, by omega, by omega, hh⟩, eg, if_neg (by simp only; omega)])
       refine Aa ?_
       refine rn4 ?_
       refine A1 Try.call69 rfl (fun w hs => Bx (e := { (Ad l m.line) with need := ((Ad l m.line).need - ((2 ^ m.src.toNat : Nat) : Int)), sharers := (Ad l m.line).sharers }) (u := u) hs mm mm (by unfold Entry.wf Ax; simp only; omega) (by omega)) ?_; intro v232
       refine rn2 ?_
       refine nx ?_
       refine rt ?_
       rw [er]
       refine Aj (.inr rfl) (fun B w hs => Ed rfl rfl rfl B w) (fun w hs => ⟨(v232, .slice none 0 0), ?_, Ag hs⟩)
       rfl
      ·
       intro ht227
       refine Ak ?_
       refine Ae ?_
       refine Aa ?_
       refine rn1 ?_
       have hp3 := Mc hE0.2.2.1.1 hE0.2.2.1.2 (show 0 ≤ m.src by omega) (show m.src < 4 by omega) (by rw [hhas]; simpa using ht204)
       have hX : EB ({ (Ad l m.line) with need := ((Ad l m.line).need - ((2 ^ m.src.toNat : Nat) : Int)), sharers := (Ad l m.line).sharers }) := by unfold EB Entry.wf Ax; simp only; omega
       refine A1 Try.call68 rfl (fun w hs => Hc (e := { (Ad l m.line) with need := ((Ad l m.line).need - ((2 ^ m.src.toNat : Nat) : Int)), sharers := (Ad l m.line).sharers }) (u := u) hs hX (by assumption)) ?_; intro _
       refine s_B (cs := (A3 ({ (Ad l m.line) with need := ((Ad l m.line).need - ((2 ^ m.src.toNat : Nat) : Int)), sharers := (Ad l m.line).sharers })).cells u) Try.sizeOf58 ?_
       refine J.nil ?_
       refine As ?_
       refine Ae ?_
       refine sq ?_
       have hh : (Ad l m.line).need.toNat.testBit m.src.toNat = true := by rw [hhas]; simpa using ht204
       have hhS : (Ad l m.line).sharers.toNat.testBit m.src.toNat = false := by rw [hhasS]; simpa using ht217
       have eg : Bo (Ad l m.line) m = { (Ad l m.line) with need := ((Ad l m.line).need - ((2 ^ m.src.toNat : Nat) : Int)), sharers := (Ad l m.line).sharers } := by
        obtain ⟨b1, b2, _⟩ := Bz hE0.2.1.1 hE0.2.1.2 (show 0 ≤ m.src by omega) (show m.src < 4 by omega)
        obtain ⟨c1, _⟩ := Bz hE0.2.2.1.1 hE0.2.2.1.2 (show 0 ≤ m.src by omega) (show m.src < 4 by omega)
        unfold Bo
        rw [(c1 hh).2, (b2 hhS).2]
       have er : Ai l id m = (l.set m.line.toNat (A3 ({ (Ad l m.line) with need := ((Ad l m.line).need - ((2 ^ m.src.toNat : Nat) : Int)), sharers := (Ad l m.line).sharers })), says (A3 ({ (Ad l m.line) with need := ((Ad l m.line).need - ((2 ^ m.src.toNat : Nat) : Int)), sharers := (Ad l m.line).sharers })) m.line id) := Dz (by omega) (by unfold Af; rw [if_neg (by omega), if_neg (by omega), if_neg (by omega), if_pos ⟨by omega, by omega, by omega, hh⟩, eg, if_pos (by simp only; omega)])
       refine JC.conseq (L' := blk b8 58 ((A3 ({ (Ad l m.line) with need := ((Ad l m.line).need - ((2 ^ m.src.toNat : Nat) : Int)), sharers := (Ad l m.line).sharers })).cells u) :: blk b5 42 m.cells :: L) (fun w hs => Ag hs) ?_
       refine Al Ay (by kernel_rfl) (by kernel_rfl) (fun ρ S => blk b8 58 ((A3 ({ (Ad l m.line) with need := ((Ad l m.line).need - ((2 ^ m.src.toNat : Nat) : Int)), sharers := (Ad l m.line).sharers })).cells u) :: blk b5 42 m.cells :: L) (fun _ => rfl) ?_
       refine dn4 ?_
       refine Cb (γ := Value) (val := fun v => v) (F := fun v => [sl v (l.set m.line.toNat (A3 ({ (Ad l m.line) with need := ((Ad l m.line).need - ((2 ^ m.src.toNat : Nat) : Int)), sharers := (Ad l m.line).sharers })))]) Try.call69 (fun _ => rfl) (fun ρ L R w hd hs => Bx (e := A3 ({ (Ad l m.line) with need := ((Ad l m.line).need - ((2 ^ m.src.toNat : Nat) : Int)), sharers := (Ad l m.line).sharers })) (u := u) hs (hd.base mm) (by rw [Cw]; exact hd.base mm) (C1 hX).1 (by omega)) (fun _ _ _ _ _ => rfl) ?_
       refine dn4 ?_
       refine Cb (γ := Value) (val := fun v => v) (F := fun v => [sl v (says (A3 ({ (Ad l m.line) with need := ((Ad l m.line).need - ((2 ^ m.src.toNat : Nat) : Int)), sharers := (Ad l m.line).sharers })) m.line id)]) Try.call34 (fun _ => rfl) (fun ρ L R w hd hs => F3 (e := A3 ({ (Ad l m.line) with need := ((Ad l m.line).need - ((2 ^ m.src.toNat : Nat) : Int)), sharers := (Ad l m.line).sharers })) (u := u) hs (C1 hX) (by assumption) hm.2.2.2.1 hid) (fun _ _ _ _ _ => rfl) ?_
       refine e_p (v := fun ρ => (Gh.dec (γ := Value) (ρ 4))) (fun _ _ => Cz) (Ind.gh (h := fun g => ((Gh.dec (γ := Value) g) : Value)) 4 0 rfl) (fun _ _ _ _ _ => rfl) ?_
       refine e_p (v := fun ρ => (Gh.dec (γ := Value) (ρ 9))) (fun _ _ => Cz) (Ind.gh (h := fun g => ((Gh.dec (γ := Value) g) : Value)) 9 0 rfl) (fun _ _ _ _ _ => rfl) ?_
       refine Aw ?_; intro ρ; simp only [Ao, facts, Bb, List.append_nil, List.nil_append, List.cons_append]
       refine JX.conseq (L' := blk b8 58 ((A3 ({ (Ad l m.line) with need := ((Ad l m.line).need - ((2 ^ m.src.toNat : Nat) : Int)), sharers := (Ad l m.line).sharers })).cells u) :: blk b5 42 m.cells :: L) (fun w hs => hs) ?_
       generalize (Gh.dec (γ := Value) (ρ 4)) = v287
       generalize (Gh.dec (γ := Value) (ρ 9)) = v292
       refine Ae ?_
       refine rt ?_
       rw [er]
       refine Aj (.inr rfl) (fun B w hs => Ed rfl rfl rfl B w) (fun w hs => ⟨(v287, v292), ?_, Ag hs⟩)
       rfl
end Go.Proofs.Ytofgpimoekhfaaa

/- This file proves what the home hears, by the document's answer: some kinds of messages. No conditions. -/
set_option linter.unusedVariables false
set_option linter.unusedSimpArgs false
set_option maxHeartbeats 1000000
set_option maxRecDepth 8000
namespace Go.Proofs.Ytofgpimoekhfaaa
open Go
theorem Lh {L : List Chunk} {R : List Fact} {w : World} {v0 : Value} {l : List Entry} {id : Int} {m : Msg} (hs : St (L) R w) (h0 : sl v0 l ∈ R) (hb : ∀ i, i < l.length → EB (l.getD i Aq)) (hla : ∀ i, i < l.length → (l.getD i Aq).last.length ≤ 4) (hm : m.wf) (hid : Ax id) (hk : 0 ≤ m.line ∧ m.line < (l.length : Int) ∧ 0 ≤ m.src ∧ m.src < ((Ad l m.line).last.length : Int) ∧ m.kind = 10) : Calls Try.prog 30 [v0, vi id, .agg m.cells.toArray].toArray w (C2 (fun v : Value × Value => .tuple #[v.1, v.2]) (fun v => L) (fun v => sl v.1 (Ai l id m).1 :: sl v.2 (Ai l id m).2 :: R)) := by
  have hlen := Bv h0 hs
  have hm0 := hm
  unfold Msg.wf Ax at hm0
  have hid0 := hid
  unfold Ax at hid0
  refine Au Try.func30 rfl Try.ntmps30 rfl hs ?_
  clear hs
  refine sr ?_
  refine bx ?_; intro b5
  refine rn2 ?_
  refine nx ?_
  refine Dx (v := v0) m.line mm (by omega) (by omega) (fun hEw u => ?_)
  have hE : EB (Ad l m.line) := hb m.line.toNat (by omega)
  have hE0 := hE
  unfold EB Entry.wf Ax at hE0
  have hL : (Ad l m.line).last.length ≤ 4 := hla m.line.toNat (by omega)
  refine JC.know (p := u.oneCell' = true) (fun w hs => isSlice.one (hs.fact (.tail _ (.head _)))) (fun hone => ?_)
  refine JC.know (p := ∀ x ∈ (Ad l m.line).last, Ax x) (fun w hs => Dy (.tail _ (.head _)) hs) (fun hlin => ?_)
  refine Al Ay (by kernel_rfl) (by kernel_rfl) (fun _ _ => _) (fun _ => rfl) ?_
  refine dn2 ?_
  refine dj ?_
  first | refine dc (fun _ _ => Ah rfl rfl (Az (by omega))) ?_
  refine dj ?_
  first | refine dc (fun _ _ => Bh) ?_
  refine dn4 ?_
  refine dj (dgy ?_)
  first | refine dc (fun _ _ => Ah rfl rfl (Bd (by omega))) ?_
  refine dj ?_
  first | refine dc (fun _ _ => Bp) ?_
  refine dj ?_
  first | refine dc (fun _ _ => Bh) ?_
  refine dn2 ?_
  refine dj (dgy ?_)
  first | refine dc (fun _ _ => Ah rfl rfl (Az (by omega))) ?_
  refine dj ?_
  first | refine dc (fun _ _ => Bp) ?_
  refine dj ?_
  first | refine dc (fun _ _ => Bh) ?_
  refine dn9 ?_
  refine dj (dgy ?_)
  first | refine dc (fun _ _ => Ah rfl rfl (Bd (show ¬ ((Ad l m.line).last.length : Int) ≤ m.src by omega))) ?_
  refine dj ?_
  first | refine dc (fun _ _ => Bp) ?_
  refine Aw ?_; intro ρ; simp only [Ao, facts, Bb, List.append_nil, List.nil_append, List.cons_append]
  refine Ae ?_
  refine sq ?_
  refine cF_ ?_
  refine Ak ?_
  refine Ae ?_
  refine sr ?_
  refine rn5 ?_
  refine al_ (cs := zEC) Try.zeroValue58 ?_; intro b8
  refine s_B (cs := Entry.cells u (Ad l m.line)) Try.sizeOf58 ?_
  refine nx ?_
  refine kp [0, 1, 5, 6, 7, 8, 9, 43, 44, 45, 46] ?_
  refine Aa ?_
  refine liO ([] : List Int) D6 rfl (fun j h => Fu) ?_; intro v43
  refine rn2 ?_
  refine ap D6 (hb := fun w hs => by have : maxN = 16777216 := rfl; simp only [List.length_nil]; omega) (k := ?_); intro v46
  refine rn1 ?_
  refine nr ?_
  refine rn2 ?_
  refine nx ?_
  refine Av ?_
  refine sr ?_
  refine ob (Ah rfl rfl (An (by omega))) ?_
  refine rn1 ?_
  refine nx ?_
  refine cF_ ?_
  refine Aa ?_
  refine ob (Ah rfl rfl (An (by omega))) ?_
  refine rn1 ?_
  refine nx ?_
  refine cF_ ?_
  refine sr ?_
  refine ob (Ah rfl rfl (An (by omega))) ?_
  refine rn1 ?_
  refine nx ?_
  refine cF_ ?_
  refine sr ?_
  refine ob (Ah rfl rfl (An (by omega))) ?_
  refine rn1 ?_
  refine nx ?_
  refine cF_ ?_
  refine sr ?_
  refine ob (Ah rfl rfl (An (by omega))) ?_
  refine rn1 ?_
  refine nx ?_
  refine cF_ ?_
  refine sr ?_
  refine ob (Ah rfl rfl (A2 (by omega))) ?_
  refine rn1 ?_
  refine nx ?_
  refine cT ?_
  refine sr ?_
  refine rn4 ?_
  refine jgx (t := 240) (p := ?p1) (hd := ?d1) ?e1 ?_ ?_; case e1 => exact rfl
  ·
   intro ht240
   refine rn13 ?_
   refine nx ?_
   refine cT ?_
   refine sq ?_
   refine kp [0, 1, 5, 6, 7, 8, 254] ?_
   refine Aa ?_
   refine rn3 ?_
   refine nx ?_
   refine rt ?_
   have er : Ai l id m = (l, []) := Cu (by omega) (by unfold Af; rw [if_neg (by omega), if_neg (by omega), if_neg (by omega), if_neg (by omega), if_neg (by omega)])
   rw [er]
   refine Aj (.inr rfl) (fun B w hs => Ed rfl rfl rfl B w) (fun w hs => ⟨(v0, .slice none 0 0), ?_, Ag (St.shut (hs.rowNil 42 Msg))⟩)
   rfl
  ·
   intro ht240
   refine rn7 ?_
   refine jgx (t := 247) (p := ?p2) (hd := ?d2) ?e2 ?_ ?_; case e2 => exact rfl
   ·
    intro ht247
    refine rn6 ?_
    refine nx ?_
    refine cT ?_
    refine sq ?_
    refine kp [0, 1, 5, 6, 7, 8, 254] ?_
    refine Aa ?_
    refine rn3 ?_
    refine nx ?_
    refine rt ?_
    have er : Ai l id m = (l, []) := Cu (by omega) (by unfold Af; rw [if_neg (by omega), if_neg (by omega), if_neg (by omega), if_neg (by omega), if_neg (by omega)])
    rw [er]
    refine Aj (.inr rfl) (fun B w hs => Ed rfl rfl rfl B w) (fun w hs => ⟨(v0, .slice none 0 0), ?_, Ag (St.shut (hs.rowNil 42 Msg))⟩)
    rfl
   ·
    intro ht247
    refine rn6 ?_
    refine nx ?_
    refine cdx (p := ?p3) (hd := ?d3) ?e3 ?_ ?_; case e3 => exact rfl
    ·
     intro ht253
     refine sq ?_
     refine kp [0, 1, 5, 6, 7, 8, 254] ?_
     refine Aa ?_
     refine rn3 ?_
     refine nx ?_
     refine rt ?_
     have er : Ai l id m = (l, []) := Cu (by omega) (by unfold Af; rw [if_neg (by omega), if_neg (by omega), if_neg (by omega), if_neg (by omega), if_neg (by omega)])
     rw [er]
     refine Aj (.inr rfl) (fun B w hs => Ed rfl rfl rfl B w) (fun w hs => ⟨(v0, .slice none 0 0), ?_, Ag (St.shut (hs.rowNil 42 Msg))⟩)
     rfl
    ·
     intro ht253
     refine Ak ?_
     refine Ae ?_
     refine sq ?_
     refine kp [0, 1, 5, 6, 7, 8, 255, 256] ?_
     refine Aa ?_
     refine rn2 ?_
     refine nx ?_
     refine Ci (b := ?b4) ?e4 ?_ ?_; case e4 => exact rfl
     ·
      intro ht256
      refine Aa ?_
      refine rn3 ?_
      refine sc ?_
      refine rn1 ?_
      refine sc ?_
      refine nr ?_
      refine rn1 ?_
      refine sc ?_
      refine rn1 ?_
      refine sc ?_
      refine rn1 ?_
      refine sc ?_
      refine rn1 ?_
      refine sc ?_
      refine nx ?_
      have et : Bs (Ad l m.line) = { (Ad l m.line) with owner := (Ad l m.line).who, sharers := 0, phase := 0, who := 0, serial := 0, alone := false } := by unfold Bs; rw [if_pos ht256]
      refine JC.slNil Msg ?_
      have er : Ai l id m = (l.set m.line.toNat ({ (Ad l m.line) with owner := (Ad l m.line).who, sharers := 0, phase := 0, who := 0, serial := 0, alone := false }), []) := Dz (by omega) (by unfold Af; rw [if_neg (by omega), if_neg (by omega), if_neg (by omega), if_neg (by omega), if_pos (by omega), et])
      refine Aa ?_
      refine rn4 ?_
      refine A1 Try.call69 rfl (fun w hs => Bx (e := { (Ad l m.line) with owner := (Ad l m.line).who, sharers := 0, phase := 0, who := 0, serial := 0, alone := false }) (u := u) hs mm mm (by unfold Entry.wf Ax; simp only; omega) (by omega)) ?_; intro v282
      refine rn2 ?_
      refine nx ?_
      refine rt ?_
      rw [er]
      refine Aj (.inr rfl) (fun B w hs => Ed rfl rfl rfl B w) (fun w hs => ⟨(v282, .slice none 0 0), ?_, Ag hs⟩)
      rfl
     ·
      intro ht256
      refine sr ?_
      refine rn4 ?_
      generalize hhasT : (Ad l m.line).sharers.toNat.testBit (Ad l m.line).who.toNat = bhT
      refine A1 (val := fun _ => .bool bhT) Try.call70 rfl (fun w hs => by have h := Kx (z := (Ad l m.line).sharers.toNat) (k := (Ad l m.line).who.toNat) hs (by omega) (by omega); rw [Int.toNat_of_nonneg (by omega), Int.toNat_of_nonneg (by omega), hhasT] at h; exact h) ?_; intro _
      refine rn1 ?_
      refine nx ?_
      refine Ci (b := ?b5) ?e5 ?_ ?_; case e5 => exact rfl
      ·
       intro ht266
       have hp2 : ((2 ^ (Ad l m.line).who.toNat : Nat) : Int) ≤ 8 := Int.ofNat_le.2 (Nat.pow_le_pow_right (n := 2) (by decide) (show (Ad l m.line).who.toNat ≤ 3 by omega))
       have hp0 : (0 : Int) ≤ ((2 ^ (Ad l m.line).who.toNat : Nat) : Int) := Int.natCast_nonneg _
       refine JC.conseq (L' := blk b8 58 [vi (Ad l m.line).value, vi (Ad l m.line).owner, vi (Ad l m.line).sharers, vi (Ad l m.line).phase, vi (Ad l m.line).who, vi (Ad l m.line).serial, .bool (Ad l m.line).alone, vi (Ad l m.line).turn, vi (Ad l m.line).need, u] :: blk b5 42 m.cells :: L) (fun w hs => Ag hs) ?_
       refine Al Ay (by kernel_rfl) (by kernel_rfl) (fun ρ S => blk b8 58 [vi (Ad l m.line).value, vi (Ad l m.line).owner, vi (Ad l m.line).sharers, vi (Ad l m.line).phase, vi (Ad l m.line).who, vi (Ad l m.line).serial, .bool (Ad l m.line).alone, vi (Ad l m.line).turn, vi (Ad l m.line).need, u] :: blk b5 42 m.cells :: L) (fun _ => rfl) ?_
       refine dn4 ?_
       refine Cb (γ := Unit) (val := fun _ => vi ((2 ^ (Ad l m.line).who.toNat : Nat) : Int)) (F := fun _ => []) Try.call71 (fun _ => rfl) (fun ρ L R w hd hs => by have h := Jl (k := (Ad l m.line).who.toNat) hs (by omega); rw [Int.toNat_of_nonneg (by omega)] at h; exact h) (fun _ _ _ _ _ => rfl) ?_
       first | refine Dl (fun _ _ => D9) (fun _ _ _ _ _ => rfl) ?_ | refine Dl (fun _ _ => E7) (fun _ _ _ _ _ => rfl) ?_ | refine e_p (fun _ _ => D9) (by first | exact Ind.const _ | exact fun _ _ _ _ _ => rfl | exact Ind.self | exact Ind.gh _ 3 rfl) (fun _ _ _ _ _ => rfl) ?_ | refine e_p (fun _ _ => E7) (by first | exact Ind.const _ | exact fun _ _ _ _ _ => rfl | exact Ind.self | exact Ind.gh _ 3 rfl) (fun _ _ _ _ _ => rfl) ?_
       refine Ei (by kernel_rfl) ?_; intro ρ; simp only [Ao, facts, Bb, List.append_nil, List.nil_append, List.cons_append]
       refine J.conseq (L' := blk b8 58 [vi (Ad l m.line).value, vi (Ad l m.line).owner, vi (Ad l m.line).sharers, vi (Ad l m.line).phase, vi (Ad l m.line).who, vi (Ad l m.line).serial, .bool (Ad l m.line).alone, vi (Ad l m.line).turn, vi (Ad l m.line).need, u] :: blk b5 42 m.cells :: L) (fun w hs => hs) ?_
       refine rn1 ?_
       refine sc ?_
       refine nr ?_
       refine rn1 ?_
       refine sc ?_
       refine rn1 ?_
       refine sc ?_
       refine rn1 ?_
       refine sc ?_
       refine rn1 ?_
       refine sc ?_
       refine nx ?_
       have et : Bs (Ad l m.line) = { (Ad l m.line) with sharers := ((Ad l m.line).sharers + ((2 ^ (Ad l m.line).who.toNat : Nat) : Int)), phase := 0, who := 0, serial := 0, alone := false } := by
        obtain ⟨b1, b2, _⟩ := Bz hE0.2.1.1 hE0.2.1.2 hE0.2.2.2.1.1 hE0.2.2.2.1.2
        unfold Bs
        rw [if_neg (by rw [ht256]; decide), (b2 (by simpa [hhasT] using ht266)).1]
       refine JC.slNil Msg ?_
       have er : Ai l id m = (l.set m.line.toNat ({ (Ad l m.line) with sharers := ((Ad l m.line).sharers + ((2 ^ (Ad l m.line).who.toNat : Nat) : Int)), phase := 0, who := 0, serial := 0, alone := false }), []) := Dz (by omega) (by unfold Af; rw [if_neg (by omega), if_neg (by omega), if_neg (by omega), if_neg (by omega), if_pos (by omega), et])
       refine Aa ?_
       refine rn4 ?_
       refine A1 Try.call69 rfl (fun w hs => Bx (e := { (Ad l m.line) with sharers := ((Ad l m.line).sharers + ((2 ^ (Ad l m.line).who.toNat : Nat) : Int)), phase := 0, who := 0, serial := 0, alone := false }) (u := u) hs mm mm (by unfold Entry.wf Ax; simp only; omega) (by omega)) ?_; intro v282
       refine rn2 ?_
       refine nx ?_
       refine rt ?_
       rw [er]
       refine Aj (.inr rfl) (fun B w hs => Ed rfl rfl rfl B w) (fun w hs => ⟨(v282, .slice none 0 0), ?_, Ag hs⟩)
       rfl
      ·
       intro ht266
       refine Ak ?_
       refine Ae ?_
       refine sr ?_
       refine rn1 ?_
       refine sc ?_
       refine rn1 ?_
       refine sc ?_
       refine rn1 ?_
       refine sc ?_
       refine rn1 ?_
       refine sc ?_
       refine nx ?_
       have et : Bs (Ad l m.line) = { (Ad l m.line) with sharers := (Ad l m.line).sharers, phase := 0, who := 0, serial := 0, alone := false } := by
        obtain ⟨b1, b2, _⟩ := Bz hE0.2.1.1 hE0.2.1.2 hE0.2.2.2.1.1 hE0.2.2.2.1.2
        unfold Bs
        rw [if_neg (by rw [ht256]; decide), (b1 (by simpa [hhasT] using ht266)).1]
       refine JC.slNil Msg ?_
       have er : Ai l id m = (l.set m.line.toNat ({ (Ad l m.line) with sharers := (Ad l m.line).sharers, phase := 0, who := 0, serial := 0, alone := false }), []) := Dz (by omega) (by unfold Af; rw [if_neg (by omega), if_neg (by omega), if_neg (by omega), if_neg (by omega), if_pos (by omega), et])
       refine Aa ?_
       refine rn4 ?_
       refine A1 Try.call69 rfl (fun w hs => Bx (e := { (Ad l m.line) with sharers := (Ad l m.line).sharers, phase := 0, who := 0, serial := 0, alone := false }) (u := u) hs mm mm (by unfold Entry.wf Ax; simp only; omega) (by omega)) ?_; intro v282
       refine rn2 ?_
       refine nx ?_
       refine rt ?_
       rw [er]
       refine Aj (.inr rfl) (fun B w hs => Ed rfl rfl rfl B w) (fun w hs => ⟨(v282, .slice none 0 0), ?_, Ag hs⟩)
       rfl
end Go.Proofs.Ytofgpimoekhfaaa

/- This file proves what the home hears, by the document's answer. No conditions. -/
set_option linter.unusedVariables false
set_option linter.unusedSimpArgs false
set_option maxHeartbeats 1000000
set_option maxRecDepth 8000
namespace Go.Proofs.Ytofgpimoekhfaaa
open Go
theorem Jk {L : List Chunk} {R : List Fact} {w : World} {v0 : Value} {l : List Entry} {id : Int} {m : Msg} (hs : St (L) R w) (h0 : sl v0 l ∈ R) (hb : ∀ i, i < l.length → EB (l.getD i Aq)) (hla : ∀ i, i < l.length → (l.getD i Aq).last.length ≤ 4) (hm : m.wf) (hid : Ax id) : Calls Try.prog 30 [v0, vi id, .agg m.cells.toArray].toArray w (C2 (fun v : Value × Value => .tuple #[v.1, v.2]) (fun v => L) (fun v => sl v.1 (Ai l id m).1 :: sl v.2 (Ai l id m).2 :: R)) := by
  by_cases h : 0 ≤ m.line ∧ m.line < (l.length : Int) ∧ 0 ≤ m.src ∧ m.src < ((Ad l m.line).last.length : Int)
  · by_cases h1 : m.kind = 1
    · exact Mw hs h0 hb hla hm hid (by omega)
    by_cases h2 : m.kind = 2
    · exact Mv hs h0 hb hla hm hid (by omega)
    by_cases h3 : m.kind = 3
    · exact Mu hs h0 hb hla hm hid (by omega)
    by_cases h9 : m.kind = 9
    · exact Ms hs h0 hb hla hm hid (by omega)
    by_cases h8 : m.kind = 8
    · exact Mt hs h0 hb hla hm hid (by omega)
    by_cases h10 : m.kind = 10
    · exact Lh hs h0 hb hla hm hid (by omega)
    exact Mr hs h0 hb hla hm hid (by omega)
  · exact Mx hs h0 hb hla hm hid h
end Go.Proofs.Ytofgpimoekhfaaa

/- This file proves what a core hears, by the document's answer: some kinds of messages. No conditions. -/
set_option linter.unusedVariables false
set_option linter.unusedSimpArgs false
set_option maxHeartbeats 1000000
set_option maxRecDepth 8000
namespace Go.Proofs.Ytofgpimoekhfaaa
open Go
theorem S4 {L : List Chunk} {R : List Fact} {w : World} {u : Value} {c : Core} {id home : Int} {m : Msg} (hs : St (L) R w) (hu : sl u c.lines ∈ R) (hk : KB c) (hid : Ax id) (hhome : Ax home) (hm : m.wf) (hg : ¬ (0 ≤ m.line ∧ m.line < (c.lines.length : Int))) : Calls Try.prog 47 [.agg (c.cells u).toArray, vi id, vi home, .agg m.cells.toArray].toArray w (C2 (fun v : Value × Value × Value => .tuple #[.agg (Core.cells v.1 (Ap c id home m).1).toArray, v.2.1, v.2.2]) (fun v => L) (fun v => sl v.1 (Ap c id home m).1.lines :: sl v.2.1 (Ap c id home m).2.1 :: sl v.2.2 (Ap c id home m).2.2 :: R)) := by
  have hlen := Bv hu hs
  have hone0 : u.oneCell' = true := isSlice.one (hs.fact hu)
  have hn4 := hk.n
  have hm0 := hm
  unfold Msg.wf Ax at hm0
  refine Au Try.func47 rfl Try.ntmps47 rfl hs ?_
  clear hs
  refine sr ?_
  refine bx ?_; intro b4
  refine bx ?_; intro b5
  refine bx ?_; intro b6
  refine bx ?_; intro b7
  refine al_ (cs := [.slice none 0 0, vi 0, vi 0, vi 0]) Try.zeroValue69 ?_; intro b8
  refine rn2 ?_
  refine nx ?_
  rcases (show (m.line < 0) ∨ (¬ m.line < 0 ∧ (c.lines.length : Int) ≤ m.line) from by omega) with hc | hc
  ·
   refine Aa ?_
   refine rn2 ?_
   refine ob (Ah rfl rfl (C8 (by omega))) ?_
   refine rn8 ?_
   refine nx ?_
   refine cT ?_
   refine sq ?_
   refine JC.slNil Msg ?_
   refine JC.slNil Done ?_
   refine Aa ?_
   refine rn1 ?_
   refine s_B Try.sizeOf69 ?_
   refine rn2 ?_
   refine nx ?_
   refine rt ?_
   have er : Ap c id home m = (c, [], []) := O9 (by omega)
   rw [er]
   refine Aj (.inr rfl) (fun B w hs => Db rfl rfl rfl rfl Try.isAgg69 Try.sizeOf69 pkk rfl B w hs) (fun w hs => ⟨(u, .slice none 0 0, .slice none 0 0), ?_, Ag hs⟩)
   rfl
  ·
   refine Aa ?_
   refine rn2 ?_
   refine ob (Ah rfl rfl (Az (by omega))) ?_
   refine rn6 ?_
   refine gy ?_
   refine ob (Ah rfl rfl (D7 (by omega))) ?_
   refine rn1 ?_
   refine nx ?_
   refine cT ?_
   refine sq ?_
   refine JC.slNil Msg ?_
   refine JC.slNil Done ?_
   refine Aa ?_
   refine rn1 ?_
   refine s_B Try.sizeOf69 ?_
   refine rn2 ?_
   refine nx ?_
   refine rt ?_
   have er : Ap c id home m = (c, [], []) := O9 (by omega)
   rw [er]
   refine Aj (.inr rfl) (fun B w hs => Db rfl rfl rfl rfl Try.isAgg69 Try.sizeOf69 pkk rfl B w hs) (fun w hs => ⟨(u, .slice none 0 0, .slice none 0 0), ?_, Ag hs⟩)
   rfl
theorem S3 {L : List Chunk} {R : List Fact} {w : World} {u : Value} {c : Core} {id home : Int} {m : Msg} (hs : St (L) R w) (hu : sl u c.lines ∈ R) (hk : KB c) (hid : Ax id) (hhome : Ax home) (hm : m.wf) (hg : 0 ≤ m.line ∧ m.line < (c.lines.length : Int) ∧ m.kind = 4) : Calls Try.prog 47 [.agg (c.cells u).toArray, vi id, vi home, .agg m.cells.toArray].toArray w (C2 (fun v : Value × Value × Value => .tuple #[.agg (Core.cells v.1 (Ap c id home m).1).toArray, v.2.1, v.2.2]) (fun v => L) (fun v => sl v.1 (Ap c id home m).1.lines :: sl v.2.1 (Ap c id home m).2.1 :: sl v.2.2 (Ap c id home m).2.2 :: R)) := by
  have hlen := Bv hu hs
  have hone0 : u.oneCell' = true := isSlice.one (hs.fact hu)
  have hn4 := hk.n
  have hm0 := hm
  unfold Msg.wf Ax at hm0
  refine Au Try.func47 rfl Try.ntmps47 rfl hs ?_
  clear hs
  refine sr ?_
  refine bx ?_; intro b4
  refine bx ?_; intro b5
  refine bx ?_; intro b6
  refine bx ?_; intro b7
  refine al_ (cs := [.slice none 0 0, vi 0, vi 0, vi 0]) Try.zeroValue69 ?_; intro b8
  refine rn2 ?_
  refine nr ?_
  refine rn2 ?_
  refine ob (Ah rfl rfl (Az (by omega))) ?_
  refine rn6 ?_
  refine gy ?_
  refine ob (Ah rfl rfl (Bd (by omega))) ?_
  refine rn1 ?_
  refine nx ?_
  refine cF_ ?_
  refine Ak ?_
  refine Ae ?_
  refine sq ?_
  refine F5 (c := c) (v := u) m.line mm (by omega) (by omega) (fun hlw => ?_)
  refine Aa ?_
  refine rn6 ?_
  refine al_ (cs := zLine.cells) Try.zeroValue82 ?_; intro b11
  refine s_B (cs := (Ac c m.line).cells) Try.sizeOf82 ?_
  refine nr ?_
  refine C9 (vs := [bp b5 0, bp b6 0, bp b7 0]) rfl ?_
  refine rn1 ?_
  refine nr ?_
  refine C9 (vs := [bp b5 0, bp b4 0]) rfl ?_
  refine rn1 ?_
  refine nr ?_
  refine rn2 ?_
  refine nx ?_
  refine Av ?_
  refine sq ?_
  refine kp [4, 5, 7, 8, 9, 10, 11, 12, 13, 43, 44, 45] ?_
  refine Aa ?_
  refine ob (Ah rfl rfl (A2 (by omega))) ?_
  refine rn1 ?_
  refine nx ?_
  refine cT ?_
  refine sr ?_
  refine rn5 ?_
  refine nx ?_
  refine cdx (p := ?p1) (hd := ?d1) ?e1 ?_ ?_; case e1 => exact rfl
  ·
   intro ht50
   refine sr ?_
   refine rn3 ?_
   refine sc ?_
   refine nr ?_
   refine rn3 ?_
   refine nx ?_
   refine cdx (p := ?p2) (hd := ?d2) ?e2 ?_ ?_; case e2 => exact rfl
   ·
    intro ht56
    refine Aa ?_
    refine rn1 ?_
    refine sc ?_
    refine rn1 ?_
    refine sc ?_
    refine nx ?_
    refine JC.slNil Done ?_
    have hXw : ({ (Ac c m.line) with seen := m.turn, state := 0, value := 0 } : Line).wf := by first | exact hlw | (unfold Line.wf Ax at hlw ⊢; simp only; omega)
    refine JC.conseq (L' := blk b8 69 [.slice none 0 0, vi 0, vi 0, vi 0] :: blk b4 69 (c.cells u) :: blk b11 82 [vi 0, vi 0, vi (Ac c m.line).want, vi (Ac c m.line).serial, vi m.turn, vi (Ac c m.line).gave, vi (Ac c m.line).given] :: blk b5 3 [vi id] :: blk b6 3 [vi home] :: blk b7 42 m.cells :: L) (fun w hs => Ag hs) ?_
    refine Al Ay (by kernel_rfl) (by kernel_rfl) (fun ρ S => blk b8 69 (bif S 9 then [Gh.dec (γ := Value) (ρ 4), vi c.wait.kind, vi c.wait.line, vi c.wait.value] else [.slice none 0 0, vi 0, vi 0, vi 0]) :: blk b4 69 (c.cells u) :: blk b11 82 [vi 0, vi 0, vi (Ac c m.line).want, vi (Ac c m.line).serial, vi m.turn, vi (Ac c m.line).gave, vi (Ac c m.line).given] :: blk b5 3 [vi id] :: blk b6 3 [vi home] :: blk b7 42 m.cells :: L) (fun _ => rfl) ?_
    refine dn4 ?_
    refine Cb (γ := Value) (val := fun v => .agg (Core.cells v (A6 c m.line ({ (Ac c m.line) with seen := m.turn, state := 0, value := 0 }) c.wait)).toArray) (F := fun v => [sl v (c.lines.set m.line.toNat ({ (Ac c m.line) with seen := m.turn, state := 0, value := 0 }))]) Try.call77 (fun _ => rfl) (fun ρ L R w hd hs => Bn (l := { (Ac c m.line) with seen := m.turn, state := 0, value := 0 }) hs (hd.base mm) hXw (by omega)) (fun ρ g S hS hA => by have u9 : upS S 4 9 = S 9 := rfl; have h9 : S 9 = false := hA 9 ⟨0, rfl⟩; simp only [u9, h9, cond_false]) ?_
    refine dn3 ?_
    refine Gq (γ := Value) (val := fun v => v) (F := fun v => [sl v [Cn 8 id home m.line m.turn 0]]) (caps := [bp b5 0, bp b6 0, bp b7 0]) (vs := [vi 8, vi m.turn, vi 0]) (fun _ => rfl) Try.call85 (fun _ => rfl) (fun ρ S L R w hs hd => Nf hs (Bc pkk rfl) (Bc pkk rfl) (Bc pkk rfl) (by unfold Ax; omega) hm.2.2.2.2.2.1 (by unfold Ax; omega) hid hhome hm.2.2.2.1) (fun _ _ _ _ _ => rfl) ?_
    refine Be (T0 := 69) (f := 0) (vs := fun ρ => [.slice none 0 0, vi 0, vi 0, vi 0]) (us := fun ρ => [Gh.dec (γ := Value) (ρ 4), vi c.wait.kind, vi c.wait.line, vi c.wait.value]) (sz := 4) (fun ρ => b8) Try.sizeOf69 (fun _ => rfl) (fun _ => rfl) (fun _ => rfl) (fun _ => rfl) (fun ρ R w L' hd hs => Bi (isSlice.one (hs.fact (hd.dep (it := ⟨4, _, _, _, _⟩) (by repeat (first | exact List.Mem.head _ | refine List.Mem.tail _ ?_)) ⟨9, rfl⟩ (List.Mem.head _)))) (by repeat (first | exact Co | refine Bi rfl ?_))) (fun _ => rfl) (fun ρ g S hS hB hA => ?_) ?_
    ·
     have ui : upS S 9 9 = true := rfl; have r4 : Rho.set ρ 9 g 4 = ρ 4 := rfl
     simp only [ui, hS, r4, cond_true, cond_false]
     exact Pos.ex (by repeat (first | exact .hd | exact .hc | apply Pos.tl | apply Pos.ap))
    refine e_p (v := fun ρ => (Gh.dec (γ := Value) (ρ 8))) (fun _ _ => Cz) (Ind.gh (h := fun g => ((Gh.dec (γ := Value) g) : Value)) 8 0 rfl) (fun _ _ _ _ _ => rfl) ?_
    refine dn1 ?_
    refine Aw ?_; intro ρ; simp only [Ao, facts, Bb, List.append_nil, List.nil_append, List.cons_append]
    refine JX.conseq (L' := blk b8 69 [Gh.dec (γ := Value) (ρ 4), vi c.wait.kind, vi c.wait.line, vi c.wait.value] :: blk b4 69 (c.cells u) :: blk b11 82 [vi 0, vi 0, vi (Ac c m.line).want, vi (Ac c m.line).serial, vi m.turn, vi (Ac c m.line).gave, vi (Ac c m.line).given] :: blk b5 3 [vi id] :: blk b6 3 [vi home] :: blk b7 42 m.cells :: L) (fun w hs => hs) ?_
    generalize (Gh.dec (γ := Value) (ρ 4)) = v63
    generalize (Gh.dec (γ := Value) (ρ 8)) = v67
    refine Ae ?_
    refine rt ?_
    have eh : Eh (Ac c m.line) m.turn = { (Ac c m.line) with seen := m.turn, state := 0, value := 0 } := by unfold Eh; rw [if_pos (by omega), if_pos (by omega)]
    have er : Ap c id home m = (A6 c m.line ({ (Ac c m.line) with seen := m.turn, state := 0, value := 0 }) c.wait, [Cn 8 id home m.line m.turn 0], []) := by unfold Ap; rw [if_neg (by omega)]; rw [if_pos (by omega), eh]
    rw [er]
    refine Aj (.inr rfl) (fun B w hs => Db rfl rfl rfl rfl Try.isAgg69 Try.sizeOf69 pkk rfl B w hs) (fun w hs => ⟨(v63, v67, .slice none 0 0), ?_, Ag hs⟩)
    rfl
   ·
    intro ht56
    refine Ak ?_
    refine Ae ?_
    refine sq ?_
    refine JC.slNil Done ?_
    have hXw : ({ (Ac c m.line) with seen := m.turn } : Line).wf := by first | exact hlw | (unfold Line.wf Ax at hlw ⊢; simp only; omega)
    refine JC.conseq (L' := blk b8 69 [.slice none 0 0, vi 0, vi 0, vi 0] :: blk b4 69 (c.cells u) :: blk b11 82 [vi (Ac c m.line).state, vi (Ac c m.line).value, vi (Ac c m.line).want, vi (Ac c m.line).serial, vi m.turn, vi (Ac c m.line).gave, vi (Ac c m.line).given] :: blk b5 3 [vi id] :: blk b6 3 [vi home] :: blk b7 42 m.cells :: L) (fun w hs => Ag hs) ?_
    refine Al Ay (by kernel_rfl) (by kernel_rfl) (fun ρ S => blk b8 69 (bif S 9 then [Gh.dec (γ := Value) (ρ 4), vi c.wait.kind, vi c.wait.line, vi c.wait.value] else [.slice none 0 0, vi 0, vi 0, vi 0]) :: blk b4 69 (c.cells u) :: blk b11 82 [vi (Ac c m.line).state, vi (Ac c m.line).value, vi (Ac c m.line).want, vi (Ac c m.line).serial, vi m.turn, vi (Ac c m.line).gave, vi (Ac c m.line).given] :: blk b5 3 [vi id] :: blk b6 3 [vi home] :: blk b7 42 m.cells :: L) (fun _ => rfl) ?_
    refine dn4 ?_
    refine Cb (γ := Value) (val := fun v => .agg (Core.cells v (A6 c m.line ({ (Ac c m.line) with seen := m.turn }) c.wait)).toArray) (F := fun v => [sl v (c.lines.set m.line.toNat ({ (Ac c m.line) with seen := m.turn }))]) Try.call77 (fun _ => rfl) (fun ρ L R w hd hs => Bn (l := { (Ac c m.line) with seen := m.turn }) hs (hd.base mm) hXw (by omega)) (fun ρ g S hS hA => by have u9 : upS S 4 9 = S 9 := rfl; have h9 : S 9 = false := hA 9 ⟨0, rfl⟩; simp only [u9, h9, cond_false]) ?_
    refine dn3 ?_
    refine Gq (γ := Value) (val := fun v => v) (F := fun v => [sl v [Cn 8 id home m.line m.turn 0]]) (caps := [bp b5 0, bp b6 0, bp b7 0]) (vs := [vi 8, vi m.turn, vi 0]) (fun _ => rfl) Try.call85 (fun _ => rfl) (fun ρ S L R w hs hd => Nf hs (Bc pkk rfl) (Bc pkk rfl) (Bc pkk rfl) (by unfold Ax; omega) hm.2.2.2.2.2.1 (by unfold Ax; omega) hid hhome hm.2.2.2.1) (fun _ _ _ _ _ => rfl) ?_
    refine Be (T0 := 69) (f := 0) (vs := fun ρ => [.slice none 0 0, vi 0, vi 0, vi 0]) (us := fun ρ => [Gh.dec (γ := Value) (ρ 4), vi c.wait.kind, vi c.wait.line, vi c.wait.value]) (sz := 4) (fun ρ => b8) Try.sizeOf69 (fun _ => rfl) (fun _ => rfl) (fun _ => rfl) (fun _ => rfl) (fun ρ R w L' hd hs => Bi (isSlice.one (hs.fact (hd.dep (it := ⟨4, _, _, _, _⟩) (by repeat (first | exact List.Mem.head _ | refine List.Mem.tail _ ?_)) ⟨9, rfl⟩ (List.Mem.head _)))) (by repeat (first | exact Co | refine Bi rfl ?_))) (fun _ => rfl) (fun ρ g S hS hB hA => ?_) ?_
    ·
     have ui : upS S 9 9 = true := rfl; have r4 : Rho.set ρ 9 g 4 = ρ 4 := rfl
     simp only [ui, hS, r4, cond_true, cond_false]
     exact Pos.ex (by repeat (first | exact .hd | exact .hc | apply Pos.tl | apply Pos.ap))
    refine e_p (v := fun ρ => (Gh.dec (γ := Value) (ρ 8))) (fun _ _ => Cz) (Ind.gh (h := fun g => ((Gh.dec (γ := Value) g) : Value)) 8 0 rfl) (fun _ _ _ _ _ => rfl) ?_
    refine dn1 ?_
    refine Aw ?_; intro ρ; simp only [Ao, facts, Bb, List.append_nil, List.nil_append, List.cons_append]
    refine JX.conseq (L' := blk b8 69 [Gh.dec (γ := Value) (ρ 4), vi c.wait.kind, vi c.wait.line, vi c.wait.value] :: blk b4 69 (c.cells u) :: blk b11 82 [vi (Ac c m.line).state, vi (Ac c m.line).value, vi (Ac c m.line).want, vi (Ac c m.line).serial, vi m.turn, vi (Ac c m.line).gave, vi (Ac c m.line).given] :: blk b5 3 [vi id] :: blk b6 3 [vi home] :: blk b7 42 m.cells :: L) (fun w hs => hs) ?_
    generalize (Gh.dec (γ := Value) (ρ 4)) = v63
    generalize (Gh.dec (γ := Value) (ρ 8)) = v67
    refine Ae ?_
    refine rt ?_
    have eh : Eh (Ac c m.line) m.turn = { (Ac c m.line) with seen := m.turn } := by unfold Eh; rw [if_pos (by omega), if_neg (by omega)]
    have er : Ap c id home m = (A6 c m.line ({ (Ac c m.line) with seen := m.turn }) c.wait, [Cn 8 id home m.line m.turn 0], []) := by unfold Ap; rw [if_neg (by omega)]; rw [if_pos (by omega), eh]
    rw [er]
    refine Aj (.inr rfl) (fun B w hs => Db rfl rfl rfl rfl Try.isAgg69 Try.sizeOf69 pkk rfl B w hs) (fun w hs => ⟨(v63, v67, .slice none 0 0), ?_, Ag hs⟩)
    rfl
  ·
   intro ht50
   refine Ak ?_
   refine Ae ?_
   refine sq ?_
   refine JC.slNil Done ?_
   have hXw : ((Ac c m.line) : Line).wf := by first | exact hlw | (unfold Line.wf Ax at hlw ⊢; simp only; omega)
   refine JC.conseq (L' := blk b8 69 [.slice none 0 0, vi 0, vi 0, vi 0] :: blk b4 69 (c.cells u) :: blk b11 82 (Ac c m.line).cells :: blk b5 3 [vi id] :: blk b6 3 [vi home] :: blk b7 42 m.cells :: L) (fun w hs => Ag hs) ?_
   refine Al Ay (by kernel_rfl) (by kernel_rfl) (fun ρ S => blk b8 69 (bif S 9 then [Gh.dec (γ := Value) (ρ 4), vi c.wait.kind, vi c.wait.line, vi c.wait.value] else [.slice none 0 0, vi 0, vi 0, vi 0]) :: blk b4 69 (c.cells u) :: blk b11 82 (Ac c m.line).cells :: blk b5 3 [vi id] :: blk b6 3 [vi home] :: blk b7 42 m.cells :: L) (fun _ => rfl) ?_
   refine dn4 ?_
   refine Cb (γ := Value) (val := fun v => .agg (Core.cells v (A6 c m.line ((Ac c m.line)) c.wait)).toArray) (F := fun v => [sl v (c.lines.set m.line.toNat ((Ac c m.line)))]) Try.call77 (fun _ => rfl) (fun ρ L R w hd hs => Bn (l := (Ac c m.line)) hs (hd.base mm) hXw (by omega)) (fun ρ g S hS hA => by have u9 : upS S 4 9 = S 9 := rfl; have h9 : S 9 = false := hA 9 ⟨0, rfl⟩; simp only [u9, h9, cond_false]) ?_
   refine dn3 ?_
   refine Gq (γ := Value) (val := fun v => v) (F := fun v => [sl v [Cn 8 id home m.line m.turn 0]]) (caps := [bp b5 0, bp b6 0, bp b7 0]) (vs := [vi 8, vi m.turn, vi 0]) (fun _ => rfl) Try.call85 (fun _ => rfl) (fun ρ S L R w hs hd => Nf hs (Bc pkk rfl) (Bc pkk rfl) (Bc pkk rfl) (by unfold Ax; omega) hm.2.2.2.2.2.1 (by unfold Ax; omega) hid hhome hm.2.2.2.1) (fun _ _ _ _ _ => rfl) ?_
   refine Be (T0 := 69) (f := 0) (vs := fun ρ => [.slice none 0 0, vi 0, vi 0, vi 0]) (us := fun ρ => [Gh.dec (γ := Value) (ρ 4), vi c.wait.kind, vi c.wait.line, vi c.wait.value]) (sz := 4) (fun ρ => b8) Try.sizeOf69 (fun _ => rfl) (fun _ => rfl) (fun _ => rfl) (fun _ => rfl) (fun ρ R w L' hd hs => Bi (isSlice.one (hs.fact (hd.dep (it := ⟨4, _, _, _, _⟩) (by repeat (first | exact List.Mem.head _ | refine List.Mem.tail _ ?_)) ⟨9, rfl⟩ (List.Mem.head _)))) (by repeat (first | exact Co | refine Bi rfl ?_))) (fun _ => rfl) (fun ρ g S hS hB hA => ?_) ?_
   ·
    have ui : upS S 9 9 = true := rfl; have r4 : Rho.set ρ 9 g 4 = ρ 4 := rfl
    simp only [ui, hS, r4, cond_true, cond_false]
    exact Pos.ex (by repeat (first | exact .hd | exact .hc | apply Pos.tl | apply Pos.ap))
   refine e_p (v := fun ρ => (Gh.dec (γ := Value) (ρ 8))) (fun _ _ => Cz) (Ind.gh (h := fun g => ((Gh.dec (γ := Value) g) : Value)) 8 0 rfl) (fun _ _ _ _ _ => rfl) ?_
   refine dn1 ?_
   refine Aw ?_; intro ρ; simp only [Ao, facts, Bb, List.append_nil, List.nil_append, List.cons_append]
   refine JX.conseq (L' := blk b8 69 [Gh.dec (γ := Value) (ρ 4), vi c.wait.kind, vi c.wait.line, vi c.wait.value] :: blk b4 69 (c.cells u) :: blk b11 82 (Ac c m.line).cells :: blk b5 3 [vi id] :: blk b6 3 [vi home] :: blk b7 42 m.cells :: L) (fun w hs => hs) ?_
   generalize (Gh.dec (γ := Value) (ρ 4)) = v63
   generalize (Gh.dec (γ := Value) (ρ 8)) = v67
   refine Ae ?_
   refine rt ?_
   have eh : Eh (Ac c m.line) m.turn = (Ac c m.line) := by unfold Eh; rw [if_neg (by omega)]
   have er : Ap c id home m = (A6 c m.line ((Ac c m.line)) c.wait, [Cn 8 id home m.line m.turn 0], []) := by unfold Ap; rw [if_neg (by omega)]; rw [if_pos (by omega), eh]
   rw [er]
   refine Aj (.inr rfl) (fun B w hs => Db rfl rfl rfl rfl Try.isAgg69 Try.sizeOf69 pkk rfl B w hs) (fun w hs => ⟨(v63, v67, .slice none 0 0), ?_, Ag hs⟩)
   rfl
theorem Q9 {L : List Chunk} {R : List Fact} {w : World} {u : Value} {c : Core} {id home : Int} {m : Msg} (hs : St (L) R w) (hu : sl u c.lines ∈ R) (hk : KB c) (hid : Ax id) (hhome : Ax home) (hm : m.wf) (hg : 0 ≤ m.line ∧ m.line < (c.lines.length : Int) ∧ m.kind = 11) : Calls Try.prog 47 [.agg (c.cells u).toArray, vi id, vi home, .agg m.cells.toArray].toArray w (C2 (fun v : Value × Value × Value => .tuple #[.agg (Core.cells v.1 (Ap c id home m).1).toArray, v.2.1, v.2.2]) (fun v => L) (fun v => sl v.1 (Ap c id home m).1.lines :: sl v.2.1 (Ap c id home m).2.1 :: sl v.2.2 (Ap c id home m).2.2 :: R)) := by
  have hlen := Bv hu hs
  have hone0 : u.oneCell' = true := isSlice.one (hs.fact hu)
  have hn4 := hk.n
  have hm0 := hm
  unfold Msg.wf Ax at hm0
  refine Au Try.func47 rfl Try.ntmps47 rfl hs ?_
  clear hs
  refine sr ?_
  refine bx ?_; intro b4
  refine bx ?_; intro b5
  refine bx ?_; intro b6
  refine bx ?_; intro b7
  refine al_ (cs := [.slice none 0 0, vi 0, vi 0, vi 0]) Try.zeroValue69 ?_; intro b8
  refine rn2 ?_
  refine nr ?_
  refine rn2 ?_
  refine ob (Ah rfl rfl (Az (by omega))) ?_
  refine rn6 ?_
  refine gy ?_
  refine ob (Ah rfl rfl (Bd (by omega))) ?_
  refine rn1 ?_
  refine nx ?_
  refine cF_ ?_
  refine Ak ?_
  refine Ae ?_
  refine sq ?_
  refine F5 (c := c) (v := u) m.line mm (by omega) (by omega) (fun hlw => ?_)
  refine Aa ?_
  refine rn6 ?_
  refine al_ (cs := zLine.cells) Try.zeroValue82 ?_; intro b11
  refine s_B (cs := (Ac c m.line).cells) Try.sizeOf82 ?_
  refine nr ?_
  refine C9 (vs := [bp b5 0, bp b6 0, bp b7 0]) rfl ?_
  refine rn1 ?_
  refine nr ?_
  refine C9 (vs := [bp b5 0, bp b4 0]) rfl ?_
  refine rn1 ?_
  refine nr ?_
  refine rn2 ?_
  refine nx ?_
  refine Av ?_
  refine sq ?_
  refine kp [4, 5, 7, 8, 9, 10, 11, 12, 13, 43, 44, 45] ?_
  refine Aa ?_
  refine ob (Ah rfl rfl (An (by omega))) ?_
  refine rn1 ?_
  refine nx ?_
  refine cF_ ?_
  refine sr ?_
  refine ob (Ah rfl rfl (An (by omega))) ?_
  refine rn1 ?_
  refine nx ?_
  refine cF_ ?_
  refine Aa ?_
  refine ob (Ah rfl rfl (An (by omega))) ?_
  refine rn1 ?_
  refine nx ?_
  refine cF_ ?_
  refine sr ?_
  refine ob (Ah rfl rfl (An (by omega))) ?_
  refine rn1 ?_
  refine nx ?_
  refine cF_ ?_
  refine sr ?_
  refine ob (Ah rfl rfl (A2 (by omega))) ?_
  refine rn1 ?_
  refine nx ?_
  refine cT ?_
  refine sr ?_
  refine rn4 ?_
  refine jgx (t := 227) (p := ?p1) (hd := ?d1) ?e1 ?_ ?_; case e1 => exact rfl
  ·
   intro ht227
   refine rn6 ?_
   refine nx ?_
   refine cdx (p := ?p2) (hd := ?d2) ?e2 ?_ ?_; case e2 => exact rfl
   ·
    intro ht233
    refine sr ?_
    refine rn1 ?_
    refine sc ?_
    refine rn1 ?_
    refine sc ?_
    refine rn1 ?_
    refine sc ?_
    refine nr ?_
    refine rn4 ?_
    have hXw : ({ (Ac c m.line) with state := 0, value := 0, want := 0 } : Line).wf := by first | exact hlw | (unfold Line.wf Ax at hlw ⊢; simp only; omega)
    refine A1 Try.call77 rfl (fun w hs => Bn (l := { (Ac c m.line) with state := 0, value := 0, want := 0 }) hs mm hXw (by omega)) ?_; intro v241
    refine J.know (p := v241.oneCell' = true) (fun w hs => isSlice.one (hs.fact (List.Mem.head _))) (fun hone241 => ?_)
    refine al_ (cs := [.slice none 0 0, vi 0, vi 0, vi 0]) Try.zeroValue69 ?_; intro b21
    refine s_B (cs := [v241, vi c.wait.kind, vi c.wait.line, vi c.wait.value]) Try.sizeOf69 ?_
    refine nx ?_
    refine kp [4, 8, 9, 10, 13, 21, 242, 243] ?_
    refine Aa ?_
    refine ob (Ge (cs := zOp.cells) Q2) ?_
    refine rn1 ?_
    refine s_N [v241, vi 0, vi 0, vi 0] Try.sizeOf66 ?_
    refine nx ?_
    refine JC.slNil Msg ?_
    refine JC.conseq (L' := blk b8 69 [.slice none 0 0, vi 0, vi 0, vi 0] :: blk b21 69 [v241, vi 0, vi 0, vi 0] :: blk b4 69 (c.cells u) :: blk b5 3 [vi id] :: L) (fun w hs => Ag hs) ?_
    refine Al Ay (by kernel_rfl) (by kernel_rfl) (fun ρ S => blk b8 69 (bif S 3 then [v241, vi 0, vi 0, vi 0] else [.slice none 0 0, vi 0, vi 0, vi 0]) :: blk b21 69 [v241, vi 0, vi 0, vi 0] :: blk b4 69 (c.cells u) :: blk b5 3 [vi id] :: L) (fun _ => rfl) ?_
    refine dn2 ?_
    refine Gq (γ := Value) (val := fun v => v) (F := fun v => [sl v [(⟨id, c.wait, 0⟩ : Done)]]) (caps := [bp b5 0, bp b4 0]) (vs := []) (fun _ => rfl) Try.call86 (fun _ => rfl) (fun ρ S L R w hs hd => Vv hs (Bc pkk rfl) (Me (f := 1) (sz := 3) (vs := c.cells u) pkk) hid hk.wwf) (fun _ _ _ _ _ => rfl) ?_
    refine Be (T0 := 69) (f := 0) (vs := fun ρ => [.slice none 0 0, vi 0, vi 0, vi 0]) (us := fun ρ => [v241, vi 0, vi 0, vi 0]) (sz := 4) (fun ρ => b8) Try.sizeOf69 (fun _ => rfl) (fun _ => rfl) (fun _ => rfl) (fun _ => rfl) (fun _ _ _ _ _ _ => by repeat (first | exact Co | refine Bi (by first | exact rfl | assumption) ?_)) (fun _ => rfl) (fun ρ g S hS hB hA => ?_) ?_
    ·
     have ui : upS S 3 3 = true := rfl
     simp only [ui, hS, cond_true, cond_false]
     exact Pos.ex (by repeat (first | exact .hd | exact .hc | apply Pos.tl | apply Pos.ap))
    refine dn1 ?_
    refine e_p (v := fun ρ => (Gh.dec (γ := Value) (ρ 2))) (fun _ _ => Cz) (Ind.gh (h := fun g => ((Gh.dec (γ := Value) g) : Value)) 2 0 rfl) (fun _ _ _ _ _ => rfl) ?_
    refine Aw ?_; intro ρ; simp only [Ao, facts, Bb, List.append_nil, List.nil_append, List.cons_append]
    refine JX.conseq (L' := blk b8 69 [v241, vi 0, vi 0, vi 0] :: blk b21 69 [v241, vi 0, vi 0, vi 0] :: blk b4 69 (c.cells u) :: blk b5 3 [vi id] :: L) (fun w hs => hs) ?_
    generalize (Gh.dec (γ := Value) (ρ 2)) = v246
    refine Ae ?_
    refine rt ?_
    have er : Ap c id home m = (A6 c m.line ({ (Ac c m.line) with state := 0, value := 0, want := 0 }) zOp, [], [⟨id, c.wait, 0⟩]) := by unfold Ap; rw [if_neg (by omega)]; rw [if_neg (by omega), if_neg (by omega), if_neg (by omega)]; rw [if_pos (by omega)]
    rw [er]
    refine Aj (.inr rfl) (fun B w hs => Db rfl rfl rfl rfl Try.isAgg69 Try.sizeOf69 pkk rfl B w hs) (fun w hs => ⟨(v241, .slice none 0 0, v246), ?_, Ag hs⟩)
    rfl
   ·
    intro ht233
    refine Ak ?_
    refine As ?_
    refine Ae ?_
    refine sq ?_
    refine JC.slNil Msg ?_
    refine JC.slNil Done ?_
    refine Aa ?_
    refine rn1 ?_
    refine s_B Try.sizeOf69 ?_
    refine rn2 ?_
    refine nx ?_
    refine rt ?_
    have er : Ap c id home m = (c, [], []) := by unfold Ap; rw [if_neg (by omega)]; rw [if_neg (by omega), if_neg (by omega), if_neg (by omega)]; rw [if_neg (by omega)]
    rw [er]
    refine Aj (.inr rfl) (fun B w hs => Db rfl rfl rfl rfl Try.isAgg69 Try.sizeOf69 pkk rfl B w hs) (fun w hs => ⟨(u, .slice none 0 0, .slice none 0 0), ?_, Ag hs⟩)
    rfl
  ·
   intro ht227
   refine rn6 ?_
   refine nx ?_
   refine cF_ ?_
   refine Ak ?_
   refine As ?_
   refine Ae ?_
   refine sq ?_
   refine JC.slNil Msg ?_
   refine JC.slNil Done ?_
   refine Aa ?_
   refine rn1 ?_
   refine s_B Try.sizeOf69 ?_
   refine rn2 ?_
   refine nx ?_
   refine rt ?_
   have er : Ap c id home m = (c, [], []) := by unfold Ap; rw [if_neg (by omega)]; rw [if_neg (by omega), if_neg (by omega), if_neg (by omega)]; rw [if_neg (by omega)]
   rw [er]
   refine Aj (.inr rfl) (fun B w hs => Db rfl rfl rfl rfl Try.isAgg69 Try.sizeOf69 pkk rfl B w hs) (fun w hs => ⟨(u, .slice none 0 0, .slice none 0 0), ?_, Ag hs⟩)
   rfl
theorem Sz {L : List Chunk} {R : List Fact} {w : World} {u : Value} {c : Core} {id home : Int} {m : Msg} (hs : St (L) R w) (hu : sl u c.lines ∈ R) (hk : KB c) (hid : Ax id) (hhome : Ax home) (hm : m.wf) (hg : 0 ≤ m.line ∧ m.line < (c.lines.length : Int) ∧ m.kind ≠ 4 ∧ m.kind ≠ 5 ∧ m.kind ≠ 6 ∧ m.kind ≠ 7 ∧ m.kind ≠ 11) : Calls Try.prog 47 [.agg (c.cells u).toArray, vi id, vi home, .agg m.cells.toArray].toArray w (C2 (fun v : Value × Value × Value => .tuple #[.agg (Core.cells v.1 (Ap c id home m).1).toArray, v.2.1, v.2.2]) (fun v => L) (fun v => sl v.1 (Ap c id home m).1.lines :: sl v.2.1 (Ap c id home m).2.1 :: sl v.2.2 (Ap c id home m).2.2 :: R)) := by
 have hlen := Bv hu hs
 have hone0 : u.oneCell' = true := isSlice.one (hs.fact hu)
 have hn4 := hk.n
 have hm0 := hm
 unfold Msg.wf Ax at hm0
 refine Au Try.func47 rfl Try.ntmps47 rfl hs ?_
 clear hs
 refine sr ?_
 refine bx ?_; intro b4
 refine bx ?_; intro b5
 refine bx ?_; intro b6
 refine bx ?_; intro b7
 refine al_ (cs := [.slice none 0 0, vi 0, vi 0, vi 0]) Try.zeroValue69 ?_; intro b8
 refine rn2 ?_
 refine nr ?_
 refine rn2 ?_
 refine ob (Ah rfl rfl (Az (by omega))) ?_
 refine rn6 ?_
 refine gy ?_
 refine ob (Ah rfl rfl (Bd (by omega))) ?_
 refine rn1 ?_
 refine nx ?_
 refine cF_ ?_
 refine Ak ?_
 refine Ae ?_
 refine sq ?_
 refine F5 (c := c) (v := u) m.line mm (by omega) (by omega) (fun hlw => ?_)
 refine Aa ?_
 refine rn6 ?_
 refine al_ (cs := zLine.cells) Try.zeroValue82 ?_; intro b11
 refine s_B (cs := (Ac c m.line).cells) Try.sizeOf82 ?_
 refine nr ?_
 refine C9 (vs := [bp b5 0, bp b6 0, bp b7 0]) rfl ?_
 refine rn1 ?_
 refine nr ?_
 refine C9 (vs := [bp b5 0, bp b4 0]) rfl ?_
 refine rn1 ?_
 refine nr ?_
 refine rn2 ?_
 refine nx ?_
 refine Av ?_
 refine sq ?_
 refine kp [4, 5, 7, 8, 9, 10, 11, 12, 13, 43, 44, 45] ?_
 refine Aa ?_
 refine ob (Ah rfl rfl (An (by omega))) ?_
 refine rn1 ?_
 refine nx ?_
 refine cF_ ?_
 refine sr ?_
 refine ob (Ah rfl rfl (An (by omega))) ?_
 refine rn1 ?_
 refine nx ?_
 refine cF_ ?_
 refine Aa ?_
 refine ob (Ah rfl rfl (An (by omega))) ?_
 refine rn1 ?_
 refine nx ?_
 refine cF_ ?_
 refine sr ?_
 refine ob (Ah rfl rfl (An (by omega))) ?_
 refine rn1 ?_
 refine nx ?_
 refine cF_ ?_
 refine sr ?_
 refine ob (Ah rfl rfl (An (by omega))) ?_
 refine rn1 ?_
 refine nx ?_
 refine cF_ ?_
 refine Ak ?_
 refine As ?_
 refine Ae ?_
 refine sq ?_
 refine JC.slNil Msg ?_
 refine JC.slNil Done ?_
 refine Aa ?_
 refine rn1 ?_
 refine s_B Try.sizeOf69 ?_
 refine rn2 ?_
 refine nx ?_
 refine rt ?_
 have er : Ap c id home m = (c, [], []) := by unfold Ap; rw [if_neg (by omega)]; rw [if_neg (by omega), if_neg (by omega), if_neg (by omega)]; rw [if_neg (by omega)]
 rw [er]
 refine Aj (.inr rfl) (fun B w hs => Db rfl rfl rfl rfl Try.isAgg69 Try.sizeOf69 pkk rfl B w hs) (fun w hs => ⟨(u, .slice none 0 0, .slice none 0 0), ?_, Ag hs⟩)
 rfl
end Go.Proofs.Ytofgpimoekhfaaa

/- This file proves what a core hears, by the document's answer: some kinds of messages. No conditions. -/
set_option linter.unusedVariables false
set_option linter.unusedSimpArgs false
set_option maxHeartbeats 1000000
set_option maxRecDepth 8000
namespace Go.Proofs.Ytofgpimoekhfaaa
open Go
theorem S2 {L : List Chunk} {R : List Fact} {w : World} {u : Value} {c : Core} {id home : Int} {m : Msg} (hs : St (L) R w) (hu : sl u c.lines ∈ R) (hk : KB c) (hid : Ax id) (hhome : Ax home) (hm : m.wf) (hg : 0 ≤ m.line ∧ m.line < (c.lines.length : Int) ∧ m.kind = 5) : Calls Try.prog 47 [.agg (c.cells u).toArray, vi id, vi home, .agg m.cells.toArray].toArray w (C2 (fun v : Value × Value × Value => .tuple #[.agg (Core.cells v.1 (Ap c id home m).1).toArray, v.2.1, v.2.2]) (fun v => L) (fun v => sl v.1 (Ap c id home m).1.lines :: sl v.2.1 (Ap c id home m).2.1 :: sl v.2.2 (Ap c id home m).2.2 :: R)) := by
  have hlen := Bv hu hs
  have hone0 : u.oneCell' = true := isSlice.one (hs.fact hu)
  have hn4 := hk.n
  have hm0 := hm
  unfold Msg.wf Ax at hm0
  refine Au Try.func47 rfl Try.ntmps47 rfl hs ?_
  clear hs
  refine sr ?_
  refine bx ?_; intro b4
  refine bx ?_; intro b5
  refine bx ?_; intro b6
  refine bx ?_; intro b7
  refine al_ (cs := [.slice none 0 0, vi 0, vi 0, vi 0]) Try.zeroValue69 ?_; intro b8
  refine rn2 ?_
  refine nr ?_
  refine rn2 ?_
  refine ob (Ah rfl rfl (Az (by omega))) ?_
  refine rn6 ?_
  refine gy ?_
  refine ob (Ah rfl rfl (Bd (by omega))) ?_
  refine rn1 ?_
  refine nx ?_
  refine cF_ ?_
  refine Ak ?_
  refine Ae ?_
  refine sq ?_
  refine F5 (c := c) (v := u) m.line mm (by omega) (by omega) (fun hlw => ?_)
  refine Aa ?_
  refine rn6 ?_
  refine al_ (cs := zLine.cells) Try.zeroValue82 ?_; intro b11
  refine s_B (cs := (Ac c m.line).cells) Try.sizeOf82 ?_
  refine nr ?_
  refine C9 (vs := [bp b5 0, bp b6 0, bp b7 0]) rfl ?_
  refine rn1 ?_
  refine nr ?_
  refine C9 (vs := [bp b5 0, bp b4 0]) rfl ?_
  refine rn1 ?_
  refine nr ?_
  refine rn2 ?_
  refine nx ?_
  refine Av ?_
  refine sq ?_
  refine kp [4, 5, 7, 8, 9, 10, 11, 12, 13, 43, 44, 45] ?_
  refine Aa ?_
  refine ob (Ah rfl rfl (An (by omega))) ?_
  refine rn1 ?_
  refine nx ?_
  refine cF_ ?_
  refine sr ?_
  refine ob (Ah rfl rfl (A2 (by omega))) ?_
  refine rn1 ?_
  refine nx ?_
  refine cT ?_
  refine Ak ?_
  refine Ae ?_
  refine cT ?_
  refine sq ?_
  refine kp [4, 5, 7, 8, 9, 10, 11, 12, 13, 43, 71, 72, 73, 74, 75, 76, 77, 78, 79, 80] ?_
  refine F6 80 (.bool (decide (0 < m.turn ∧ m.turn = (Ac c m.line).gave))) ?_ ?_
  ·
   rcases (show (¬ 0 < m.turn) ∨ (0 < m.turn ∧ ¬ m.turn = (Ac c m.line).gave) ∨ (0 < m.turn ∧ m.turn = (Ac c m.line).gave) from by omega) with hm | hm | hm
   ·
    refine Aa ?_
    refine rn2 ?_
    refine ob (Ah rfl rfl (D2 (by omega))) ?_
    refine rn7 ?_
    refine J.nil ?_
    refine Bw ?_ (fun w hs => hs)
    refine ⟨by first | exact congrArg (fun b => some (Value.bool b)) (decide_eq_false (by omega)).symm | exact congrArg (fun b => some (Value.bool b)) (by simp; omega), alT⟩
   ·
    refine Aa ?_
    refine rn2 ?_
    refine ob (Ah rfl rfl (En (by omega))) ?_
    refine rn5 ?_
    refine gy ?_
    refine ob (Ah rfl rfl (An (by omega))) ?_
    refine rn1 ?_
    refine J.nil ?_
    refine Bw ?_ (fun w hs => hs)
    refine ⟨by first | exact congrArg (fun b => some (Value.bool b)) (decide_eq_false (by omega)).symm | exact congrArg (fun b => some (Value.bool b)) (by simp; omega), alT⟩
   ·
    refine Aa ?_
    refine rn2 ?_
    refine ob (Ah rfl rfl (En (by omega))) ?_
    refine rn5 ?_
    refine gy ?_
    refine ob (Ah rfl rfl (A2 (by omega))) ?_
    refine rn1 ?_
    refine J.nil ?_
    refine Bw ?_ (fun w hs => hs)
    refine ⟨by first | exact congrArg (fun b => some (Value.bool b)) (decide_eq_true (by omega)).symm | exact congrArg (fun b => some (Value.bool b)) (by simp; omega), alT⟩
  ·
   refine Ae ?_
   refine sq ?_
   first | (refine cdx (p := ?p1) (hd := ?d1) ?e1 ?_ ?_; case e1 => exact rfl) | (refine Ci (b := ?b1) ?e1 ?_ ?_; case e1 => exact rfl)
   ·
    intro ht80
    refine sq ?_
    refine JC.slNil Done ?_
    refine JC.conseq (L' := blk b8 69 [.slice none 0 0, vi 0, vi 0, vi 0] :: blk b4 69 (c.cells u) :: blk b11 82 (Ac c m.line).cells :: blk b5 3 [vi id] :: blk b6 3 [vi home] :: blk b7 42 m.cells :: L) (fun w hs => Ag hs) ?_
    refine Al Ay (by kernel_rfl) (by kernel_rfl) (fun ρ S => blk b8 69 (bif S 7 then (c.cells u) else [.slice none 0 0, vi 0, vi 0, vi 0]) :: blk b4 69 (c.cells u) :: blk b11 82 (Ac c m.line).cells :: blk b5 3 [vi id] :: blk b6 3 [vi home] :: blk b7 42 m.cells :: L) (fun _ => rfl) ?_
    refine dn6 ?_
    refine Gq (γ := Value) (val := fun v => v) (F := fun v => [sl v [Cn 9 id home m.line (Ac c m.line).gave (Ac c m.line).given]]) (caps := [bp b5 0, bp b6 0, bp b7 0]) (vs := [vi 9, vi (Ac c m.line).gave, vi (Ac c m.line).given]) (fun _ => rfl) Try.call85 (fun _ => rfl) (fun ρ S L R w hs hd => Nf hs (Bc pkk rfl) (Bc pkk rfl) (Bc pkk rfl) (by unfold Ax; omega) hlw.2.2.2.2.2.1 hlw.2.2.2.2.2.2 hid hhome hm.2.2.2.1) (fun _ _ _ _ _ => rfl) ?_
    refine Be (T0 := 69) (f := 0) (vs := fun ρ => [.slice none 0 0, vi 0, vi 0, vi 0]) (us := fun ρ => (c.cells u)) (sz := 4) (fun ρ => b8) Try.sizeOf69 (fun _ => rfl) (fun _ => rfl) (fun _ => rfl) (fun _ => rfl) (fun _ _ _ _ _ _ => by repeat (first | exact Co | refine Bi (by first | exact rfl | assumption) ?_)) (fun _ => rfl) (fun ρ g S hS hB hA => ?_) ?_
    ·
     have ui : upS S 7 7 = true := rfl
     simp only [ui, hS, cond_true, cond_false]
     exact Pos.ex (by repeat (first | exact .hd | exact .hc | apply Pos.tl | apply Pos.ap))
    refine e_p (v := fun ρ => (Gh.dec (γ := Value) (ρ 6))) (fun _ _ => Cz) (Ind.gh (h := fun g => ((Gh.dec (γ := Value) g) : Value)) 6 0 rfl) (fun _ _ _ _ _ => rfl) ?_
    refine dn1 ?_
    refine Aw ?_; intro ρ; simp only [Ao, facts, Bb, List.append_nil, List.nil_append, List.cons_append]
    refine JX.conseq (L' := blk b8 69 (c.cells u) :: blk b4 69 (c.cells u) :: blk b11 82 (Ac c m.line).cells :: blk b5 3 [vi id] :: blk b6 3 [vi home] :: blk b7 42 m.cells :: L) (fun w hs => hs) ?_
    generalize (Gh.dec (γ := Value) (ρ 6)) = v87
    refine Ae ?_
    refine rt ?_
    have er : Ap c id home m = (c, [Cn 9 id home m.line (Ac c m.line).gave (Ac c m.line).given], []) := by unfold Ap; rw [if_neg (by omega)]; rw [if_neg (by omega), if_pos (by omega)]; rw [if_neg (by unfold El; omega), if_pos (by omega)]
    rw [er]
    refine Aj (.inr rfl) (fun B w hs => Db rfl rfl rfl rfl Try.isAgg69 Try.sizeOf69 pkk rfl B w hs) (fun w hs => ⟨(u, v87, .slice none 0 0), ?_, Ag hs⟩)
    rfl
   ·
    intro ht80
    refine Ak ?_
    refine Ae ?_
    refine sq ?_
    refine kp [4, 5, 7, 8, 9, 10, 11, 12, 13, 43, 88, 89, 90, 91, 92, 93, 94, 95, 96, 97, 98, 99, 100, 101, 102] ?_
    refine F6 102 (.bool (decide (m.turn ≤ (Ac c m.line).seen ∨ ((Ac c m.line).state ≠ 2 ∧ (Ac c m.line).state ≠ 3)))) ?_ ?_
    ·
     rcases (show (m.turn ≤ (Ac c m.line).seen) ∨ ((Ac c m.line).seen < m.turn ∧ (Ac c m.line).state = 2) ∨ ((Ac c m.line).seen < m.turn ∧ (Ac c m.line).state = 3) ∨ ((Ac c m.line).seen < m.turn ∧ (Ac c m.line).state ≠ 2 ∧ (Ac c m.line).state ≠ 3) from by omega) with hm | hm | hm | hm
     ·
      refine Aa ?_
      refine rn4 ?_
      refine ob (Ah rfl rfl (Ka (by omega))) ?_
      refine rn10 ?_
      refine J.nil ?_
      refine Bw ?_ (fun w hs => hs)
      refine ⟨by first | exact congrArg (fun b => some (Value.bool b)) (decide_eq_true (by omega)).symm | exact congrArg (fun b => some (Value.bool b)) (by simp; omega), alT⟩
     ·
      refine Aa ?_
      refine rn4 ?_
      refine ob (Ah rfl rfl (E4 (by omega))) ?_
      refine rn3 ?_
      refine gy ?_
      refine ob (Ah rfl rfl (Bu (by omega))) ?_
      refine rn6 ?_
      refine J.nil ?_
      refine Bw ?_ (fun w hs => hs)
      refine ⟨by first | exact congrArg (fun b => some (Value.bool b)) (decide_eq_false (by omega)).symm | exact congrArg (fun b => some (Value.bool b)) (by simp; omega), alT⟩
     ·
      refine Aa ?_
      refine rn4 ?_
      refine ob (Ah rfl rfl (E4 (by omega))) ?_
      refine rn3 ?_
      refine gy ?_
      refine ob (Ah rfl rfl (C0 (by omega))) ?_
      refine rn3 ?_
      refine gy ?_
      refine ob (Ah rfl rfl (Bu (by omega))) ?_
      refine rn2 ?_
      refine J.nil ?_
      refine Bw ?_ (fun w hs => hs)
      refine ⟨by first | exact congrArg (fun b => some (Value.bool b)) (decide_eq_false (by omega)).symm | exact congrArg (fun b => some (Value.bool b)) (by simp; omega), alT⟩
     ·
      refine kp [4, 5, 7, 8, 9, 10, 11, 12, 13, 43, 88, 89, 90, 91, 92, 93, 94, 95, 96, 97, 98, 99, 100, 101, 102] ?_
      refine Aa ?_
      refine rn4 ?_
      refine ob (Ah rfl rfl (E4 (by omega))) ?_
      refine rn3 ?_
      refine gy ?_
      refine ob (Ah rfl rfl (C0 (by omega))) ?_
      refine rn3 ?_
      refine gy ?_
      refine ob (Ah rfl rfl (C0 (by omega))) ?_
      refine rn2 ?_
      refine J.nil ?_
      refine Bw ?_ (fun w hs => hs)
      refine ⟨by first | exact congrArg (fun b => some (Value.bool b)) (decide_eq_true (by omega)).symm | exact congrArg (fun b => some (Value.bool b)) (by simp; omega), alT⟩
    ·
     refine Ae ?_
     refine sq ?_
     first | (refine cdx (p := ?p2) (hd := ?d2) ?e2 ?_ ?_; case e2 => exact rfl) | (refine Ci (b := ?b2) ?e2 ?_ ?_; case e2 => exact rfl)
     ·
      intro ht102
      refine sq ?_
      refine JC.slNil Msg ?_
      refine JC.slNil Done ?_
      refine Aa ?_
      refine rn1 ?_
      refine s_B Try.sizeOf69 ?_
      refine rn2 ?_
      refine nx ?_
      refine rt ?_
      have er : Ap c id home m = (c, [], []) := by unfold Ap; rw [if_neg (by omega)]; rw [if_neg (by omega), if_pos (by omega)]; rw [if_neg (by unfold El; omega), if_neg (by omega)]
      rw [er]
      refine Aj (.inr rfl) (fun B w hs => Db rfl rfl rfl rfl Try.isAgg69 Try.sizeOf69 pkk rfl B w hs) (fun w hs => ⟨(u, .slice none 0 0, .slice none 0 0), ?_, Ag hs⟩)
      rfl
     ·
      intro ht102
      refine Ak ?_
      refine Ae ?_
      refine sq ?_
      refine JC.conseq (L' := blk b11 82 [vi (Ac c m.line).state, vi (Ac c m.line).value, vi (Ac c m.line).want, vi (Ac c m.line).serial, vi (Ac c m.line).seen, vi (Ac c m.line).gave, vi (Ac c m.line).given] :: blk b8 69 [.slice none 0 0, vi 0, vi 0, vi 0] :: blk b4 69 (c.cells u) :: blk b5 3 [vi id] :: blk b6 3 [vi home] :: blk b7 42 m.cells :: L) (fun w hs => Ag hs) ?_
      refine Al Ay (by kernel_rfl) (by kernel_rfl) (fun ρ S => blk b11 82 (bif S 11 then [vi (Ac c m.line).state, vi (Ac c m.line).value, vi (Ac c m.line).want, vi (Ac c m.line).serial, vi m.turn, vi m.turn, vi (Ac c m.line).value] else (bif S 9 then [vi (Ac c m.line).state, vi (Ac c m.line).value, vi (Ac c m.line).want, vi (Ac c m.line).serial, vi m.turn, vi m.turn, vi (Ac c m.line).given] else (bif S 7 then [vi (Ac c m.line).state, vi (Ac c m.line).value, vi (Ac c m.line).want, vi (Ac c m.line).serial, vi (Ac c m.line).seen, vi m.turn, vi (Ac c m.line).given] else [vi (Ac c m.line).state, vi (Ac c m.line).value, vi (Ac c m.line).want, vi (Ac c m.line).serial, vi (Ac c m.line).seen, vi (Ac c m.line).gave, vi (Ac c m.line).given]))) :: blk b8 69 [.slice none 0 0, vi 0, vi 0, vi 0] :: blk b4 69 (c.cells u) :: blk b5 3 [vi id] :: blk b6 3 [vi home] :: blk b7 42 m.cells :: L) (fun _ => rfl) ?_
      refine dn5 ?_
      refine K4 (v := vi (Ac c m.line).value) (fun ρ S hS hB hA => by have h11 : S 11 = false := hA 11 ⟨0, rfl⟩; simp only [h11, cond_false]; exact Dn (hc := Bc pkk (by repeat (first | exact rfl | refine Ec rfl ?_))) Try.isAgg3) (fun _ _ _ _ _ => rfl) ?_
      refine dn1 ?_
      refine Be (T0 := 82) (f := 5) (vs := fun ρ => [vi (Ac c m.line).state, vi (Ac c m.line).value, vi (Ac c m.line).want, vi (Ac c m.line).serial, vi (Ac c m.line).seen, vi (Ac c m.line).gave, vi (Ac c m.line).given]) (us := fun ρ => [vi m.turn]) (sz := 1) (fun ρ => b11) Try.sizeOf3 (fun _ => rfl) (fun _ => rfl) (fun _ => rfl) (fun _ => rfl) (fun ρ R w L' hd hs u hu => by revert u hu; simp [Value.oneCell', Config.cells, Msg.cells, Line.cells, Op.cells, Done.cells, Step.cells]) (fun _ => rfl) (fun ρ g S hS hB hA => ?_) ?_
      ·
       have ui : upS S 7 7 = true := rfl; have u9 : upS S 7 9 = S 9 := rfl; have u11 : upS S 7 11 = S 11 := rfl; have h9 : S 9 = false := hA 9 ⟨0, rfl⟩; have h11 : S 11 = false := hA 11 ⟨0, rfl⟩
       simp only [ui, hS, u9, u11, h9, h11, cond_true, cond_false]
       exact Pos.ex (by repeat (first | exact .hd | exact .hc | apply Pos.tl | apply Pos.ap))
      refine dn1 ?_
      refine Be (T0 := 82) (f := 4) (vs := fun ρ => [vi (Ac c m.line).state, vi (Ac c m.line).value, vi (Ac c m.line).want, vi (Ac c m.line).serial, vi (Ac c m.line).seen, vi m.turn, vi (Ac c m.line).given]) (us := fun ρ => [vi m.turn]) (sz := 1) (fun ρ => b11) Try.sizeOf3 (fun _ => rfl) (fun _ => rfl) (fun _ => rfl) (fun _ => rfl) (fun ρ R w L' hd hs u hu => by revert u hu; simp [Value.oneCell', Config.cells, Msg.cells, Line.cells, Op.cells, Done.cells, Step.cells]) (fun _ => rfl) (fun ρ g S hS hB hA => ?_) ?_
      ·
       have ui : upS S 9 9 = true := rfl; have u7 : upS S 9 7 = S 7 := rfl; have u11 : upS S 9 11 = S 11 := rfl; have h7 : S 7 = true := hB 7 ⟨0, rfl⟩; have h11 : S 11 = false := hA 11 ⟨0, rfl⟩
       simp only [ui, hS, u7, u11, h7, h11, cond_true, cond_false]
       exact Pos.ex (by repeat (first | exact .hd | exact .hc | apply Pos.tl | apply Pos.ap))
      refine dn1 ?_
      refine Be (T0 := 82) (f := 6) (vs := fun ρ => [vi (Ac c m.line).state, vi (Ac c m.line).value, vi (Ac c m.line).want, vi (Ac c m.line).serial, vi m.turn, vi m.turn, vi (Ac c m.line).given]) (us := fun ρ => [vi (Ac c m.line).value]) (sz := 1) (fun ρ => b11) Try.sizeOf3 (fun _ => rfl) (fun _ => rfl) (fun _ => rfl) (fun _ => rfl) (fun ρ R w L' hd hs u hu => by revert u hu; simp [Value.oneCell', Config.cells, Msg.cells, Line.cells, Op.cells, Done.cells, Step.cells]) (fun _ => rfl) (fun ρ g S hS hB hA => ?_) ?_
      ·
       have ui : upS S 11 11 = true := rfl; have u7 : upS S 11 7 = S 7 := rfl; have u9 : upS S 11 9 = S 9 := rfl; have h7 : S 7 = true := hB 7 ⟨0, rfl⟩; have h9 : S 9 = true := hB 9 ⟨0, rfl⟩
       simp only [ui, hS, u7, u9, h7, h9, cond_true, cond_false]
       exact Pos.ex (by repeat (first | exact .hd | exact .hc | apply Pos.tl | apply Pos.ap))
      refine Aw ?_; intro ρ; simp only [Ao, facts, Bb, List.append_nil, List.nil_append, List.cons_append]
      refine JX.conseq (L' := blk b11 82 [vi (Ac c m.line).state, vi (Ac c m.line).value, vi (Ac c m.line).want, vi (Ac c m.line).serial, vi m.turn, vi m.turn, vi (Ac c m.line).value] :: blk b8 69 [.slice none 0 0, vi 0, vi 0, vi 0] :: blk b4 69 (c.cells u) :: blk b5 3 [vi id] :: blk b6 3 [vi home] :: blk b7 42 m.cells :: L) (fun w hs => hs) ?_
      refine Ae ?_
      refine sr ?_
      refine rn5 ?_
      refine Dw (caps := [bp b5 0, bp b6 0, bp b7 0]) (vs := [vi 9, vi m.turn, vi (Ac c m.line).value]) rfl Try.call85 rfl (fun w hs => Nf hs (Bc pkk rfl) (Bc pkk rfl) (Bc pkk rfl) (by unfold Ax; omega) hm.2.2.2.2.2.1 hlw.2.1 hid hhome hm.2.2.2.1) ?_; intro v118
      refine rn1 ?_
      refine nx ?_
      rcases (show ((Ac c m.line).want = 3) ∨ ((Ac c m.line).want ≠ 3) from by omega) with hc | hc
      ·
       refine kp [4, 5, 7, 8, 9, 10, 11, 12, 13, 14, 43, 119, 120, 121, 122, 123, 124, 125, 126] ?_
       refine Aa ?_
       refine rn2 ?_
       refine ob (Ah rfl rfl (A2 (by omega))) ?_
       refine rn5 ?_
       refine nx ?_
       refine cT ?_
       refine Aa ?_
       refine rn1 ?_
       refine sc ?_
       refine rn1 ?_
       refine sc ?_
       refine nr ?_
       refine rn2 ?_
       refine ob (Ah rfl rfl (A2 (by omega))) ?_
       refine nx ?_
       refine cT ?_
       refine sr ?_
       refine rn1 ?_
       refine sc ?_
       refine nr ?_
       refine rn4 ?_
       have hXw : ({ (Ac c m.line) with seen := m.turn, gave := m.turn, given := (Ac c m.line).value, state := 0, value := 0, want := 0 } : Line).wf := by first | exact hlw | (unfold Line.wf Ax at hlw ⊢; simp only; omega)
       refine A1 Try.call77 rfl (fun w hs => Bn (l := { (Ac c m.line) with seen := m.turn, gave := m.turn, given := (Ac c m.line).value, state := 0, value := 0, want := 0 }) hs mm hXw (by omega)) ?_; intro v138
       refine J.know (p := v138.oneCell' = true) (fun w hs => isSlice.one (hs.fact (List.Mem.head _))) (fun hone138 => ?_)
       refine al_ (cs := [.slice none 0 0, vi 0, vi 0, vi 0]) Try.zeroValue69 ?_; intro b15
       refine s_B (cs := [v138, vi c.wait.kind, vi c.wait.line, vi c.wait.value]) Try.sizeOf69 ?_
       refine nr ?_
       refine ob (Ge (cs := zOp.cells) Q2) ?_
       refine rn1 ?_
       refine s_N [v138, vi 0, vi 0, vi 0] Try.sizeOf66 ?_
       refine nx ?_
       refine JC.conseq (L' := blk b8 69 [.slice none 0 0, vi 0, vi 0, vi 0] :: blk b15 69 [v138, vi 0, vi 0, vi 0] :: blk b4 69 (c.cells u) :: blk b5 3 [vi id] :: L) (fun w hs => Ag hs) ?_
       refine Al Ay (by kernel_rfl) (by kernel_rfl) (fun ρ S => blk b8 69 (bif S 4 then [v138, vi 0, vi 0, vi 0] else [.slice none 0 0, vi 0, vi 0, vi 0]) :: blk b15 69 [v138, vi 0, vi 0, vi 0] :: blk b4 69 (c.cells u) :: blk b5 3 [vi id] :: L) (fun _ => rfl) ?_
       refine dn3 ?_
       refine Gq (γ := Value) (val := fun v => v) (F := fun v => [sl v [(⟨id, c.wait, 0⟩ : Done)]]) (caps := [bp b5 0, bp b4 0]) (vs := []) (fun _ => rfl) Try.call86 (fun _ => rfl) (fun ρ S L R w hs hd => Vv hs (Bc pkk rfl) (Me (f := 1) (sz := 3) (vs := c.cells u) pkk) hid hk.wwf) (fun _ _ _ _ _ => rfl) ?_
       refine Be (T0 := 69) (f := 0) (vs := fun ρ => [.slice none 0 0, vi 0, vi 0, vi 0]) (us := fun ρ => [v138, vi 0, vi 0, vi 0]) (sz := 4) (fun ρ => b8) Try.sizeOf69 (fun _ => rfl) (fun _ => rfl) (fun _ => rfl) (fun _ => rfl) (fun _ _ _ _ _ _ => by repeat (first | exact Co | refine Bi (by first | exact rfl | assumption) ?_)) (fun _ => rfl) (fun ρ g S hS hB hA => ?_) ?_
       ·
        have ui : upS S 4 4 = true := rfl
        simp only [ui, hS, cond_true, cond_false]
        exact Pos.ex (by repeat (first | exact .hd | exact .hc | apply Pos.tl | apply Pos.ap))
       refine dn1 ?_
       refine e_p (v := fun ρ => (Gh.dec (γ := Value) (ρ 3))) (fun _ _ => Cz) (Ind.gh (h := fun g => ((Gh.dec (γ := Value) g) : Value)) 3 0 rfl) (fun _ _ _ _ _ => rfl) ?_
       refine Aw ?_; intro ρ; simp only [Ao, facts, Bb, List.append_nil, List.nil_append, List.cons_append]
       refine JX.conseq (L' := blk b8 69 [v138, vi 0, vi 0, vi 0] :: blk b15 69 [v138, vi 0, vi 0, vi 0] :: blk b4 69 (c.cells u) :: blk b5 3 [vi id] :: L) (fun w hs => hs) ?_
       generalize (Gh.dec (γ := Value) (ρ 3)) = v144
       refine Ae ?_
       refine rt ?_
       have ef : Dq (Ac c m.line) m.kind m.turn = { (Ac c m.line) with seen := m.turn, gave := m.turn, given := (Ac c m.line).value, state := 0, value := 0, want := 0 } := by unfold Dq; rw [if_pos (by omega)]
       have er : Ap c id home m = (A6 c m.line ({ (Ac c m.line) with seen := m.turn, gave := m.turn, given := (Ac c m.line).value, state := 0, value := 0, want := 0 }) zOp, [Cn 9 id home m.line m.turn (Ac c m.line).value], [⟨id, c.wait, 0⟩]) := by unfold Ap; rw [if_neg (by omega)]; rw [if_neg (by omega), if_pos (by omega)]; rw [if_pos (by unfold El; omega), ef, if_pos (by omega), if_pos (by omega)]
       rw [er]
       refine Aj (.inr rfl) (fun B w hs => Db rfl rfl rfl rfl Try.isAgg69 Try.sizeOf69 pkk rfl B w hs) (fun w hs => ⟨(v138, v118, v144), ?_, Ag hs⟩)
       rfl
      ·
       refine kp [4, 5, 7, 8, 9, 10, 11, 12, 13, 14, 43, 119, 120, 121, 122, 123, 124, 125, 126] ?_
       refine Aa ?_
       refine rn2 ?_
       refine ob (Ah rfl rfl (An (by omega))) ?_
       refine rn3 ?_
       refine gy ?_
       refine ob (Ah rfl rfl (An (by omega))) ?_
       refine rn1 ?_
       refine nx ?_
       refine cF_ ?_
       refine Aa ?_
       refine rn1 ?_
       refine sc ?_
       refine nr ?_
       refine rn2 ?_
       refine ob (Ah rfl rfl (An (by omega))) ?_
       refine nx ?_
       refine cF_ ?_
       refine Ak ?_
       refine Ae ?_
       refine sq ?_
       refine JC.slNil Done ?_
       refine Aa ?_
       refine rn4 ?_
       have hXw : ({ (Ac c m.line) with seen := m.turn, gave := m.turn, given := (Ac c m.line).value, state := 1 } : Line).wf := by first | exact hlw | (unfold Line.wf Ax at hlw ⊢; simp only; omega)
       refine A1 Try.call77 rfl (fun w hs => Bn (l := { (Ac c m.line) with seen := m.turn, gave := m.turn, given := (Ac c m.line).value, state := 1 }) hs mm hXw (by omega)) ?_; intro v149
       refine J.know (p := v149.oneCell' = true) (fun w hs => isSlice.one (hs.fact (List.Mem.head _))) (fun hone149 => ?_)
       refine rn1 ?_
       refine s_B (cs := [v149, vi c.wait.kind, vi c.wait.line, vi c.wait.value]) Try.sizeOf69 ?_
       refine rn2 ?_
       refine nx ?_
       refine rt ?_
       have ef : Dq (Ac c m.line) m.kind m.turn = { (Ac c m.line) with seen := m.turn, gave := m.turn, given := (Ac c m.line).value, state := 1 } := by unfold Dq; rw [if_neg (by omega), if_neg (by omega)]
       have er : Ap c id home m = (A6 c m.line ({ (Ac c m.line) with seen := m.turn, gave := m.turn, given := (Ac c m.line).value, state := 1 }) c.wait, [Cn 9 id home m.line m.turn (Ac c m.line).value], []) := by unfold Ap; rw [if_neg (by omega)]; rw [if_neg (by omega), if_pos (by omega)]; rw [if_pos (by unfold El; omega), ef, if_neg (by omega), if_neg (by omega)]
       rw [er]
       refine Aj (.inr rfl) (fun B w hs => Db rfl rfl rfl rfl Try.isAgg69 Try.sizeOf69 pkk rfl B w hs) (fun w hs => ⟨(v149, v118, .slice none 0 0), ?_, Ag hs⟩)
       rfl
end Go.Proofs.Ytofgpimoekhfaaa

/- This file proves what a core hears, by the document's answer: some kinds of messages. No conditions. -/
set_option linter.unusedVariables false
set_option linter.unusedSimpArgs false
set_option maxHeartbeats 1000000
set_option maxRecDepth 8000
namespace Go.Proofs.Ytofgpimoekhfaaa
open Go
theorem S1 {L : List Chunk} {R : List Fact} {w : World} {u : Value} {c : Core} {id home : Int} {m : Msg} (hs : St (L) R w) (hu : sl u c.lines ∈ R) (hk : KB c) (hid : Ax id) (hhome : Ax home) (hm : m.wf) (hg : 0 ≤ m.line ∧ m.line < (c.lines.length : Int) ∧ m.kind = 6) : Calls Try.prog 47 [.agg (c.cells u).toArray, vi id, vi home, .agg m.cells.toArray].toArray w (C2 (fun v : Value × Value × Value => .tuple #[.agg (Core.cells v.1 (Ap c id home m).1).toArray, v.2.1, v.2.2]) (fun v => L) (fun v => sl v.1 (Ap c id home m).1.lines :: sl v.2.1 (Ap c id home m).2.1 :: sl v.2.2 (Ap c id home m).2.2 :: R)) := by
  have hlen := Bv hu hs
  have hone0 : u.oneCell' = true := isSlice.one (hs.fact hu)
  have hn4 := hk.n
  have hm0 := hm
  unfold Msg.wf Ax at hm0
  refine Au Try.func47 rfl Try.ntmps47 rfl hs ?_
  clear hs
  refine sr ?_
  refine bx ?_; intro b4
  refine bx ?_; intro b5
  refine bx ?_; intro b6
  refine bx ?_; intro b7
  refine al_ (cs := [.slice none 0 0, vi 0, vi 0, vi 0]) Try.zeroValue69 ?_; intro b8
  refine rn2 ?_
  refine nr ?_
  refine rn2 ?_
  refine ob (Ah rfl rfl (Az (by omega))) ?_
  refine rn6 ?_
  refine gy ?_
  refine ob (Ah rfl rfl (Bd (by omega))) ?_
  refine rn1 ?_
  refine nx ?_
  refine cF_ ?_
  refine Ak ?_
  refine Ae ?_
  refine sq ?_
  refine F5 (c := c) (v := u) m.line mm (by omega) (by omega) (fun hlw => ?_)
  refine Aa ?_
  refine rn6 ?_
  refine al_ (cs := zLine.cells) Try.zeroValue82 ?_; intro b11
  refine s_B (cs := (Ac c m.line).cells) Try.sizeOf82 ?_
  refine nr ?_
  refine C9 (vs := [bp b5 0, bp b6 0, bp b7 0]) rfl ?_
  refine rn1 ?_
  refine nr ?_
  refine C9 (vs := [bp b5 0, bp b4 0]) rfl ?_
  refine rn1 ?_
  refine nr ?_
  refine rn2 ?_
  refine nx ?_
  refine Av ?_
  refine sq ?_
  refine kp [4, 5, 7, 8, 9, 10, 11, 12, 13, 43, 44, 45] ?_
  refine Aa ?_
  refine ob (Ah rfl rfl (An (by omega))) ?_
  refine rn1 ?_
  refine nx ?_
  refine cF_ ?_
  refine sr ?_
  refine ob (Ah rfl rfl (An (by omega))) ?_
  refine rn1 ?_
  refine nx ?_
  refine cF_ ?_
  refine Aa ?_
  refine ob (Ah rfl rfl (A2 (by omega))) ?_
  refine rn1 ?_
  refine nx ?_
  refine cT ?_
  refine sq ?_
  refine kp [4, 5, 7, 8, 9, 10, 11, 12, 13, 43, 71, 72, 73, 74, 75, 76, 77, 78, 79, 80] ?_
  refine F6 80 (.bool (decide (0 < m.turn ∧ m.turn = (Ac c m.line).gave))) ?_ ?_
  ·
   rcases (show (¬ 0 < m.turn) ∨ (0 < m.turn ∧ ¬ m.turn = (Ac c m.line).gave) ∨ (0 < m.turn ∧ m.turn = (Ac c m.line).gave) from by omega) with hm | hm | hm
   ·
    refine Aa ?_
    refine rn2 ?_
    refine ob (Ah rfl rfl (D2 (by omega))) ?_
    refine rn7 ?_
    refine J.nil ?_
    refine Bw ?_ (fun w hs => hs)
    refine ⟨by first | exact congrArg (fun b => some (Value.bool b)) (decide_eq_false (by omega)).symm | exact congrArg (fun b => some (Value.bool b)) (by simp; omega), alT⟩
   ·
    refine Aa ?_
    refine rn2 ?_
    refine ob (Ah rfl rfl (En (by omega))) ?_
    refine rn5 ?_
    refine gy ?_
    refine ob (Ah rfl rfl (An (by omega))) ?_
    refine rn1 ?_
    refine J.nil ?_
    refine Bw ?_ (fun w hs => hs)
    refine ⟨by first | exact congrArg (fun b => some (Value.bool b)) (decide_eq_false (by omega)).symm | exact congrArg (fun b => some (Value.bool b)) (by simp; omega), alT⟩
   ·
    refine Aa ?_
    refine rn2 ?_
    refine ob (Ah rfl rfl (En (by omega))) ?_
    refine rn5 ?_
    refine gy ?_
    refine ob (Ah rfl rfl (A2 (by omega))) ?_
    refine rn1 ?_
    refine J.nil ?_
    refine Bw ?_ (fun w hs => hs)
    refine ⟨by first | exact congrArg (fun b => some (Value.bool b)) (decide_eq_true (by omega)).symm | exact congrArg (fun b => some (Value.bool b)) (by simp; omega), alT⟩
  ·
   refine Ae ?_
   refine sq ?_
   first | (refine cdx (p := ?p1) (hd := ?d1) ?e1 ?_ ?_; case e1 => exact rfl) | (refine Ci (b := ?b1) ?e1 ?_ ?_; case e1 => exact rfl)
   ·
    intro ht80
    refine sq ?_
    refine JC.slNil Done ?_
    refine JC.conseq (L' := blk b8 69 [.slice none 0 0, vi 0, vi 0, vi 0] :: blk b4 69 (c.cells u) :: blk b11 82 (Ac c m.line).cells :: blk b5 3 [vi id] :: blk b6 3 [vi home] :: blk b7 42 m.cells :: L) (fun w hs => Ag hs) ?_
    refine Al Ay (by kernel_rfl) (by kernel_rfl) (fun ρ S => blk b8 69 (bif S 7 then (c.cells u) else [.slice none 0 0, vi 0, vi 0, vi 0]) :: blk b4 69 (c.cells u) :: blk b11 82 (Ac c m.line).cells :: blk b5 3 [vi id] :: blk b6 3 [vi home] :: blk b7 42 m.cells :: L) (fun _ => rfl) ?_
    refine dn6 ?_
    refine Gq (γ := Value) (val := fun v => v) (F := fun v => [sl v [Cn 9 id home m.line (Ac c m.line).gave (Ac c m.line).given]]) (caps := [bp b5 0, bp b6 0, bp b7 0]) (vs := [vi 9, vi (Ac c m.line).gave, vi (Ac c m.line).given]) (fun _ => rfl) Try.call85 (fun _ => rfl) (fun ρ S L R w hs hd => Nf hs (Bc pkk rfl) (Bc pkk rfl) (Bc pkk rfl) (by unfold Ax; omega) hlw.2.2.2.2.2.1 hlw.2.2.2.2.2.2 hid hhome hm.2.2.2.1) (fun _ _ _ _ _ => rfl) ?_
    refine Be (T0 := 69) (f := 0) (vs := fun ρ => [.slice none 0 0, vi 0, vi 0, vi 0]) (us := fun ρ => (c.cells u)) (sz := 4) (fun ρ => b8) Try.sizeOf69 (fun _ => rfl) (fun _ => rfl) (fun _ => rfl) (fun _ => rfl) (fun _ _ _ _ _ _ => by repeat (first | exact Co | refine Bi (by first | exact rfl | assumption) ?_)) (fun _ => rfl) (fun ρ g S hS hB hA => ?_) ?_
    ·
     have ui : upS S 7 7 = true := rfl
     simp only [ui, hS, cond_true, cond_false]
     exact Pos.ex (by repeat (first | exact .hd | exact .hc | apply Pos.tl | apply Pos.ap))
    refine e_p (v := fun ρ => (Gh.dec (γ := Value) (ρ 6))) (fun _ _ => Cz) (Ind.gh (h := fun g => ((Gh.dec (γ := Value) g) : Value)) 6 0 rfl) (fun _ _ _ _ _ => rfl) ?_
    refine dn1 ?_
    refine Aw ?_; intro ρ; simp only [Ao, facts, Bb, List.append_nil, List.nil_append, List.cons_append]
    refine JX.conseq (L' := blk b8 69 (c.cells u) :: blk b4 69 (c.cells u) :: blk b11 82 (Ac c m.line).cells :: blk b5 3 [vi id] :: blk b6 3 [vi home] :: blk b7 42 m.cells :: L) (fun w hs => hs) ?_
    generalize (Gh.dec (γ := Value) (ρ 6)) = v87
    refine Ae ?_
    refine rt ?_
    have er : Ap c id home m = (c, [Cn 9 id home m.line (Ac c m.line).gave (Ac c m.line).given], []) := by unfold Ap; rw [if_neg (by omega)]; rw [if_neg (by omega), if_pos (by omega)]; rw [if_neg (by unfold El; omega), if_pos (by omega)]
    rw [er]
    refine Aj (.inr rfl) (fun B w hs => Db rfl rfl rfl rfl Try.isAgg69 Try.sizeOf69 pkk rfl B w hs) (fun w hs => ⟨(u, v87, .slice none 0 0), ?_, Ag hs⟩)
    rfl
   ·
    intro ht80
    refine Ak ?_
    refine Ae ?_
    refine sq ?_
    refine kp [4, 5, 7, 8, 9, 10, 11, 12, 13, 43, 88, 89, 90, 91, 92, 93, 94, 95, 96, 97, 98, 99, 100, 101, 102] ?_
    refine F6 102 (.bool (decide (m.turn ≤ (Ac c m.line).seen ∨ ((Ac c m.line).state ≠ 2 ∧ (Ac c m.line).state ≠ 3)))) ?_ ?_
    ·
     rcases (show (m.turn ≤ (Ac c m.line).seen) ∨ ((Ac c m.line).seen < m.turn ∧ (Ac c m.line).state = 2) ∨ ((Ac c m.line).seen < m.turn ∧ (Ac c m.line).state = 3) ∨ ((Ac c m.line).seen < m.turn ∧ (Ac c m.line).state ≠ 2 ∧ (Ac c m.line).state ≠ 3) from by omega) with hm | hm | hm | hm
     ·
      refine Aa ?_
      refine rn4 ?_
      refine ob (Ah rfl rfl (Ka (by omega))) ?_
      refine rn10 ?_
      refine J.nil ?_
      refine Bw ?_ (fun w hs => hs)
      refine ⟨by first | exact congrArg (fun b => some (Value.bool b)) (decide_eq_true (by omega)).symm | exact congrArg (fun b => some (Value.bool b)) (by simp; omega), alT⟩
     ·
      refine Aa ?_
      refine rn4 ?_
      refine ob (Ah rfl rfl (E4 (by omega))) ?_
      refine rn3 ?_
      refine gy ?_
      refine ob (Ah rfl rfl (Bu (by omega))) ?_
      refine rn6 ?_
      refine J.nil ?_
      refine Bw ?_ (fun w hs => hs)
      refine ⟨by first | exact congrArg (fun b => some (Value.bool b)) (decide_eq_false (by omega)).symm | exact congrArg (fun b => some (Value.bool b)) (by simp; omega), alT⟩
     ·
      refine Aa ?_
      refine rn4 ?_
      refine ob (Ah rfl rfl (E4 (by omega))) ?_
      refine rn3 ?_
      refine gy ?_
      refine ob (Ah rfl rfl (C0 (by omega))) ?_
      refine rn3 ?_
      refine gy ?_
      refine ob (Ah rfl rfl (Bu (by omega))) ?_
      refine rn2 ?_
      refine J.nil ?_
      refine Bw ?_ (fun w hs => hs)
      refine ⟨by first | exact congrArg (fun b => some (Value.bool b)) (decide_eq_false (by omega)).symm | exact congrArg (fun b => some (Value.bool b)) (by simp; omega), alT⟩
     ·
      refine kp [4, 5, 7, 8, 9, 10, 11, 12, 13, 43, 88, 89, 90, 91, 92, 93, 94, 95, 96, 97, 98, 99, 100, 101, 102] ?_
      refine Aa ?_
      refine rn4 ?_
      refine ob (Ah rfl rfl (E4 (by omega))) ?_
      refine rn3 ?_
      refine gy ?_
      refine ob (Ah rfl rfl (C0 (by omega))) ?_
      refine rn3 ?_
      refine gy ?_
      refine ob (Ah rfl rfl (C0 (by omega))) ?_
      refine rn2 ?_
      refine J.nil ?_
      refine Bw ?_ (fun w hs => hs)
      refine ⟨by first | exact congrArg (fun b => some (Value.bool b)) (decide_eq_true (by omega)).symm | exact congrArg (fun b => some (Value.bool b)) (by simp; omega), alT⟩
    ·
     refine Ae ?_
     refine sq ?_
     first | (refine cdx (p := ?p2) (hd := ?d2) ?e2 ?_ ?_; case e2 => exact rfl) | (refine Ci (b := ?b2) ?e2 ?_ ?_; case e2 => exact rfl)
     ·
      intro ht102
      refine sq ?_
      refine JC.slNil Msg ?_
      refine JC.slNil Done ?_
      refine Aa ?_
      refine rn1 ?_
      refine s_B Try.sizeOf69 ?_
      refine rn2 ?_
      refine nx ?_
      refine rt ?_
      have er : Ap c id home m = (c, [], []) := by unfold Ap; rw [if_neg (by omega)]; rw [if_neg (by omega), if_pos (by omega)]; rw [if_neg (by unfold El; omega), if_neg (by omega)]
      rw [er]
      refine Aj (.inr rfl) (fun B w hs => Db rfl rfl rfl rfl Try.isAgg69 Try.sizeOf69 pkk rfl B w hs) (fun w hs => ⟨(u, .slice none 0 0, .slice none 0 0), ?_, Ag hs⟩)
      rfl
     ·
      intro ht102
      refine Ak ?_
      refine Ae ?_
      refine sq ?_
      refine JC.conseq (L' := blk b11 82 [vi (Ac c m.line).state, vi (Ac c m.line).value, vi (Ac c m.line).want, vi (Ac c m.line).serial, vi (Ac c m.line).seen, vi (Ac c m.line).gave, vi (Ac c m.line).given] :: blk b8 69 [.slice none 0 0, vi 0, vi 0, vi 0] :: blk b4 69 (c.cells u) :: blk b5 3 [vi id] :: blk b6 3 [vi home] :: blk b7 42 m.cells :: L) (fun w hs => Ag hs) ?_
      refine Al Ay (by kernel_rfl) (by kernel_rfl) (fun ρ S => blk b11 82 (bif S 11 then [vi (Ac c m.line).state, vi (Ac c m.line).value, vi (Ac c m.line).want, vi (Ac c m.line).serial, vi m.turn, vi m.turn, vi (Ac c m.line).value] else (bif S 9 then [vi (Ac c m.line).state, vi (Ac c m.line).value, vi (Ac c m.line).want, vi (Ac c m.line).serial, vi m.turn, vi m.turn, vi (Ac c m.line).given] else (bif S 7 then [vi (Ac c m.line).state, vi (Ac c m.line).value, vi (Ac c m.line).want, vi (Ac c m.line).serial, vi (Ac c m.line).seen, vi m.turn, vi (Ac c m.line).given] else [vi (Ac c m.line).state, vi (Ac c m.line).value, vi (Ac c m.line).want, vi (Ac c m.line).serial, vi (Ac c m.line).seen, vi (Ac c m.line).gave, vi (Ac c m.line).given]))) :: blk b8 69 [.slice none 0 0, vi 0, vi 0, vi 0] :: blk b4 69 (c.cells u) :: blk b5 3 [vi id] :: blk b6 3 [vi home] :: blk b7 42 m.cells :: L) (fun _ => rfl) ?_
      refine dn5 ?_
      refine K4 (v := vi (Ac c m.line).value) (fun ρ S hS hB hA => by have h11 : S 11 = false := hA 11 ⟨0, rfl⟩; simp only [h11, cond_false]; exact Dn (hc := Bc pkk (by repeat (first | exact rfl | refine Ec rfl ?_))) Try.isAgg3) (fun _ _ _ _ _ => rfl) ?_
      refine dn1 ?_
      refine Be (T0 := 82) (f := 5) (vs := fun ρ => [vi (Ac c m.line).state, vi (Ac c m.line).value, vi (Ac c m.line).want, vi (Ac c m.line).serial, vi (Ac c m.line).seen, vi (Ac c m.line).gave, vi (Ac c m.line).given]) (us := fun ρ => [vi m.turn]) (sz := 1) (fun ρ => b11) Try.sizeOf3 (fun _ => rfl) (fun _ => rfl) (fun _ => rfl) (fun _ => rfl) (fun ρ R w L' hd hs u hu => by revert u hu; simp [Value.oneCell', Config.cells, Msg.cells, Line.cells, Op.cells, Done.cells, Step.cells]) (fun _ => rfl) (fun ρ g S hS hB hA => ?_) ?_
      ·
       have ui : upS S 7 7 = true := rfl; have u9 : upS S 7 9 = S 9 := rfl; have u11 : upS S 7 11 = S 11 := rfl; have h9 : S 9 = false := hA 9 ⟨0, rfl⟩; have h11 : S 11 = false := hA 11 ⟨0, rfl⟩
       simp only [ui, hS, u9, u11, h9, h11, cond_true, cond_false]
       exact Pos.ex (by repeat (first | exact .hd | exact .hc | apply Pos.tl | apply Pos.ap))
      refine dn1 ?_
      refine Be (T0 := 82) (f := 4) (vs := fun ρ => [vi (Ac c m.line).state, vi (Ac c m.line).value, vi (Ac c m.line).want, vi (Ac c m.line).serial, vi (Ac c m.line).seen, vi m.turn, vi (Ac c m.line).given]) (us := fun ρ => [vi m.turn]) (sz := 1) (fun ρ => b11) Try.sizeOf3 (fun _ => rfl) (fun _ => rfl) (fun _ => rfl) (fun _ => rfl) (fun ρ R w L' hd hs u hu => by revert u hu; simp [Value.oneCell', Config.cells, Msg.cells, Line.cells, Op.cells, Done.cells, Step.cells]) (fun _ => rfl) (fun ρ g S hS hB hA => ?_) ?_
      ·
       have ui : upS S 9 9 = true := rfl; have u7 : upS S 9 7 = S 7 := rfl; have u11 : upS S 9 11 = S 11 := rfl; have h7 : S 7 = true := hB 7 ⟨0, rfl⟩; have h11 : S 11 = false := hA 11 ⟨0, rfl⟩
       simp only [ui, hS, u7, u11, h7, h11, cond_true, cond_false]
       exact Pos.ex (by repeat (first | exact .hd | exact .hc | apply Pos.tl | apply Pos.ap))
      refine dn1 ?_
      refine Be (T0 := 82) (f := 6) (vs := fun ρ => [vi (Ac c m.line).state, vi (Ac c m.line).value, vi (Ac c m.line).want, vi (Ac c m.line).serial, vi m.turn, vi m.turn, vi (Ac c m.line).given]) (us := fun ρ => [vi (Ac c m.line).value]) (sz := 1) (fun ρ => b11) Try.sizeOf3 (fun _ => rfl) (fun _ => rfl) (fun _ => rfl) (fun _ => rfl) (fun ρ R w L' hd hs u hu => by revert u hu; simp [Value.oneCell', Config.cells, Msg.cells, Line.cells, Op.cells, Done.cells, Step.cells]) (fun _ => rfl) (fun ρ g S hS hB hA => ?_) ?_
      ·
       have ui : upS S 11 11 = true := rfl; have u7 : upS S 11 7 = S 7 := rfl; have u9 : upS S 11 9 = S 9 := rfl; have h7 : S 7 = true := hB 7 ⟨0, rfl⟩; have h9 : S 9 = true := hB 9 ⟨0, rfl⟩
       simp only [ui, hS, u7, u9, h7, h9, cond_true, cond_false]
       exact Pos.ex (by repeat (first | exact .hd | exact .hc | apply Pos.tl | apply Pos.ap))
      refine Aw ?_; intro ρ; simp only [Ao, facts, Bb, List.append_nil, List.nil_append, List.cons_append]
      refine JX.conseq (L' := blk b11 82 [vi (Ac c m.line).state, vi (Ac c m.line).value, vi (Ac c m.line).want, vi (Ac c m.line).serial, vi m.turn, vi m.turn, vi (Ac c m.line).value] :: blk b8 69 [.slice none 0 0, vi 0, vi 0, vi 0] :: blk b4 69 (c.cells u) :: blk b5 3 [vi id] :: blk b6 3 [vi home] :: blk b7 42 m.cells :: L) (fun w hs => hs) ?_
      refine Ae ?_
      refine sr ?_
      refine rn5 ?_
      refine Dw (caps := [bp b5 0, bp b6 0, bp b7 0]) (vs := [vi 9, vi m.turn, vi (Ac c m.line).value]) rfl Try.call85 rfl (fun w hs => Nf hs (Bc pkk rfl) (Bc pkk rfl) (Bc pkk rfl) (by unfold Ax; omega) hm.2.2.2.2.2.1 hlw.2.1 hid hhome hm.2.2.2.1) ?_; intro v118
      refine rn1 ?_
      refine nx ?_
      rcases (show ((Ac c m.line).want = 3) ∨ ((Ac c m.line).want ≠ 3) from by omega) with hc | hc
      ·
       refine kp [4, 5, 7, 8, 9, 10, 11, 12, 13, 14, 43, 119, 120, 121, 122, 123, 124, 125, 126] ?_
       refine Aa ?_
       refine rn2 ?_
       refine ob (Ah rfl rfl (A2 (by omega))) ?_
       refine rn5 ?_
       refine nx ?_
       refine cT ?_
       refine Aa ?_
       refine rn1 ?_
       refine sc ?_
       refine rn1 ?_
       refine sc ?_
       refine nr ?_
       refine rn2 ?_
       refine ob (Ah rfl rfl (A2 (by omega))) ?_
       refine nx ?_
       refine cT ?_
       refine sr ?_
       refine rn1 ?_
       refine sc ?_
       refine nr ?_
       refine rn4 ?_
       have hXw : ({ (Ac c m.line) with seen := m.turn, gave := m.turn, given := (Ac c m.line).value, state := 0, value := 0, want := 0 } : Line).wf := by first | exact hlw | (unfold Line.wf Ax at hlw ⊢; simp only; omega)
       refine A1 Try.call77 rfl (fun w hs => Bn (l := { (Ac c m.line) with seen := m.turn, gave := m.turn, given := (Ac c m.line).value, state := 0, value := 0, want := 0 }) hs mm hXw (by omega)) ?_; intro v138
       refine J.know (p := v138.oneCell' = true) (fun w hs => isSlice.one (hs.fact (List.Mem.head _))) (fun hone138 => ?_)
       refine al_ (cs := [.slice none 0 0, vi 0, vi 0, vi 0]) Try.zeroValue69 ?_; intro b15
       refine s_B (cs := [v138, vi c.wait.kind, vi c.wait.line, vi c.wait.value]) Try.sizeOf69 ?_
       refine nr ?_
       refine ob (Ge (cs := zOp.cells) Q2) ?_
       refine rn1 ?_
       refine s_N [v138, vi 0, vi 0, vi 0] Try.sizeOf66 ?_
       refine nx ?_
       refine JC.conseq (L' := blk b8 69 [.slice none 0 0, vi 0, vi 0, vi 0] :: blk b15 69 [v138, vi 0, vi 0, vi 0] :: blk b4 69 (c.cells u) :: blk b5 3 [vi id] :: L) (fun w hs => Ag hs) ?_
       refine Al Ay (by kernel_rfl) (by kernel_rfl) (fun ρ S => blk b8 69 (bif S 4 then [v138, vi 0, vi 0, vi 0] else [.slice none 0 0, vi 0, vi 0, vi 0]) :: blk b15 69 [v138, vi 0, vi 0, vi 0] :: blk b4 69 (c.cells u) :: blk b5 3 [vi id] :: L) (fun _ => rfl) ?_
       refine dn3 ?_
       refine Gq (γ := Value) (val := fun v => v) (F := fun v => [sl v [(⟨id, c.wait, 0⟩ : Done)]]) (caps := [bp b5 0, bp b4 0]) (vs := []) (fun _ => rfl) Try.call86 (fun _ => rfl) (fun ρ S L R w hs hd => Vv hs (Bc pkk rfl) (Me (f := 1) (sz := 3) (vs := c.cells u) pkk) hid hk.wwf) (fun _ _ _ _ _ => rfl) ?_
       refine Be (T0 := 69) (f := 0) (vs := fun ρ => [.slice none 0 0, vi 0, vi 0, vi 0]) (us := fun ρ => [v138, vi 0, vi 0, vi 0]) (sz := 4) (fun ρ => b8) Try.sizeOf69 (fun _ => rfl) (fun _ => rfl) (fun _ => rfl) (fun _ => rfl) (fun _ _ _ _ _ _ => by repeat (first | exact Co | refine Bi (by first | exact rfl | assumption) ?_)) (fun _ => rfl) (fun ρ g S hS hB hA => ?_) ?_
       ·
        have ui : upS S 4 4 = true := rfl
        simp only [ui, hS, cond_true, cond_false]
        exact Pos.ex (by repeat (first | exact .hd | exact .hc | apply Pos.tl | apply Pos.ap))
       refine dn1 ?_
       refine e_p (v := fun ρ => (Gh.dec (γ := Value) (ρ 3))) (fun _ _ => Cz) (Ind.gh (h := fun g => ((Gh.dec (γ := Value) g) : Value)) 3 0 rfl) (fun _ _ _ _ _ => rfl) ?_
       refine Aw ?_; intro ρ; simp only [Ao, facts, Bb, List.append_nil, List.nil_append, List.cons_append]
       refine JX.conseq (L' := blk b8 69 [v138, vi 0, vi 0, vi 0] :: blk b15 69 [v138, vi 0, vi 0, vi 0] :: blk b4 69 (c.cells u) :: blk b5 3 [vi id] :: L) (fun w hs => hs) ?_
       generalize (Gh.dec (γ := Value) (ρ 3)) = v144
       refine Ae ?_
       refine rt ?_
       have ef : Dq (Ac c m.line) m.kind m.turn = { (Ac c m.line) with seen := m.turn, gave := m.turn, given := (Ac c m.line).value, state := 0, value := 0, want := 0 } := by unfold Dq; rw [if_pos (by omega)]
       have er : Ap c id home m = (A6 c m.line ({ (Ac c m.line) with seen := m.turn, gave := m.turn, given := (Ac c m.line).value, state := 0, value := 0, want := 0 }) zOp, [Cn 9 id home m.line m.turn (Ac c m.line).value], [⟨id, c.wait, 0⟩]) := by unfold Ap; rw [if_neg (by omega)]; rw [if_neg (by omega), if_pos (by omega)]; rw [if_pos (by unfold El; omega), ef, if_pos (by omega), if_pos (by omega)]
       rw [er]
       refine Aj (.inr rfl) (fun B w hs => Db rfl rfl rfl rfl Try.isAgg69 Try.sizeOf69 pkk rfl B w hs) (fun w hs => ⟨(v138, v118, v144), ?_, Ag hs⟩)
       rfl
      ·
       refine kp [4, 5, 7, 8, 9, 10, 11, 12, 13, 14, 43, 119, 120, 121, 122, 123, 124, 125, 126] ?_
       refine Aa ?_
       refine rn2 ?_
       refine ob (Ah rfl rfl (An (by omega))) ?_
       refine rn3 ?_
       refine gy ?_
       refine ob (Ah rfl rfl (A2 (by omega))) ?_
       refine rn1 ?_
       refine nx ?_
       refine cT ?_
       refine Aa ?_
       refine rn1 ?_
       refine sc ?_
       refine rn1 ?_
       refine sc ?_
       refine nr ?_
       refine rn2 ?_
       refine ob (Ah rfl rfl (An (by omega))) ?_
       refine nx ?_
       refine cF_ ?_
       refine Ak ?_
       refine Ae ?_
       refine sq ?_
       refine JC.slNil Done ?_
       refine Aa ?_
       refine rn4 ?_
       have hXw : ({ (Ac c m.line) with seen := m.turn, gave := m.turn, given := (Ac c m.line).value, state := 0, value := 0 } : Line).wf := by first | exact hlw | (unfold Line.wf Ax at hlw ⊢; simp only; omega)
       refine A1 Try.call77 rfl (fun w hs => Bn (l := { (Ac c m.line) with seen := m.turn, gave := m.turn, given := (Ac c m.line).value, state := 0, value := 0 }) hs mm hXw (by omega)) ?_; intro v149
       refine J.know (p := v149.oneCell' = true) (fun w hs => isSlice.one (hs.fact (List.Mem.head _))) (fun hone149 => ?_)
       refine rn1 ?_
       refine s_B (cs := [v149, vi c.wait.kind, vi c.wait.line, vi c.wait.value]) Try.sizeOf69 ?_
       refine rn2 ?_
       refine nx ?_
       refine rt ?_
       have ef : Dq (Ac c m.line) m.kind m.turn = { (Ac c m.line) with seen := m.turn, gave := m.turn, given := (Ac c m.line).value, state := 0, value := 0 } := by unfold Dq; rw [if_neg (by omega), if_pos (by omega)]
       have er : Ap c id home m = (A6 c m.line ({ (Ac c m.line) with seen := m.turn, gave := m.turn, given := (Ac c m.line).value, state := 0, value := 0 }) c.wait, [Cn 9 id home m.line m.turn (Ac c m.line).value], []) := by unfold Ap; rw [if_neg (by omega)]; rw [if_neg (by omega), if_pos (by omega)]; rw [if_pos (by unfold El; omega), ef, if_neg (by omega), if_neg (by omega)]
       rw [er]
       refine Aj (.inr rfl) (fun B w hs => Db rfl rfl rfl rfl Try.isAgg69 Try.sizeOf69 pkk rfl B w hs) (fun w hs => ⟨(v149, v118, .slice none 0 0), ?_, Ag hs⟩)
       rfl
end Go.Proofs.Ytofgpimoekhfaaa

/- This file proves what a core hears, by the document's answer: some kinds of messages. No conditions. -/
set_option linter.unusedVariables false
set_option linter.unusedSimpArgs false
set_option maxHeartbeats 1000000
set_option maxRecDepth 8000
namespace Go.Proofs.Ytofgpimoekhfaaa
open Go
theorem S0 {L : List Chunk} {R : List Fact} {w : World} {u : Value} {c : Core} {id home : Int} {m : Msg} (hs : St (L) R w) (hu : sl u c.lines ∈ R) (hk : KB c) (hid : Ax id) (hhome : Ax home) (hm : m.wf) (hg : 0 ≤ m.line ∧ m.line < (c.lines.length : Int) ∧ m.kind = 7) : Calls Try.prog 47 [.agg (c.cells u).toArray, vi id, vi home, .agg m.cells.toArray].toArray w (C2 (fun v : Value × Value × Value => .tuple #[.agg (Core.cells v.1 (Ap c id home m).1).toArray, v.2.1, v.2.2]) (fun v => L) (fun v => sl v.1 (Ap c id home m).1.lines :: sl v.2.1 (Ap c id home m).2.1 :: sl v.2.2 (Ap c id home m).2.2 :: R)) := by
  have hlen := Bv hu hs
  have hone0 : u.oneCell' = true := isSlice.one (hs.fact hu)
  have hn4 := hk.n
  have hm0 := hm
  unfold Msg.wf Ax at hm0
  refine Au Try.func47 rfl Try.ntmps47 rfl hs ?_
  clear hs
  refine sr ?_
  refine bx ?_; intro b4
  refine bx ?_; intro b5
  refine bx ?_; intro b6
  refine bx ?_; intro b7
  refine al_ (cs := [.slice none 0 0, vi 0, vi 0, vi 0]) Try.zeroValue69 ?_; intro b8
  refine rn2 ?_
  refine nr ?_
  refine rn2 ?_
  refine ob (Ah rfl rfl (Az (by omega))) ?_
  refine rn6 ?_
  refine gy ?_
  refine ob (Ah rfl rfl (Bd (by omega))) ?_
  refine rn1 ?_
  refine nx ?_
  refine cF_ ?_
  refine Ak ?_
  refine Ae ?_
  refine sq ?_
  refine F5 (c := c) (v := u) m.line mm (by omega) (by omega) (fun hlw => ?_)
  refine Aa ?_
  refine rn6 ?_
  refine al_ (cs := zLine.cells) Try.zeroValue82 ?_; intro b11
  refine s_B (cs := (Ac c m.line).cells) Try.sizeOf82 ?_
  refine nr ?_
  refine C9 (vs := [bp b5 0, bp b6 0, bp b7 0]) rfl ?_
  refine rn1 ?_
  refine nr ?_
  refine C9 (vs := [bp b5 0, bp b4 0]) rfl ?_
  refine rn1 ?_
  refine nr ?_
  refine rn2 ?_
  refine nx ?_
  refine Av ?_
  refine sq ?_
  refine kp [4, 5, 7, 8, 9, 10, 11, 12, 13, 43, 44, 45] ?_
  refine Aa ?_
  refine ob (Ah rfl rfl (An (by omega))) ?_
  refine rn1 ?_
  refine nx ?_
  refine cF_ ?_
  refine sr ?_
  refine ob (Ah rfl rfl (An (by omega))) ?_
  refine rn1 ?_
  refine nx ?_
  refine cF_ ?_
  refine Aa ?_
  refine ob (Ah rfl rfl (An (by omega))) ?_
  refine rn1 ?_
  refine nx ?_
  refine cF_ ?_
  refine sr ?_
  refine ob (Ah rfl rfl (A2 (by omega))) ?_
  refine rn1 ?_
  refine nx ?_
  refine cT ?_
  refine sr ?_
  refine rn5 ?_
  refine nx ?_
  refine cdx (p := ?p1) (hd := ?d1) ?e1 ?_ ?_; case e1 => exact rfl
  ·
   intro ht157
   refine sq ?_
   refine JC.slNil Msg ?_
   refine JC.slNil Done ?_
   refine Aa ?_
   refine rn1 ?_
   refine s_B Try.sizeOf69 ?_
   refine rn2 ?_
   refine nx ?_
   refine rt ?_
   have er : Ap c id home m = (c, [], []) := by unfold Ap; rw [if_neg (by omega)]; rw [if_neg (by omega), if_neg (by omega), if_pos (by omega)]; rw [if_pos (by omega)]
   rw [er]
   refine Aj (.inr rfl) (fun B w hs => Db rfl rfl rfl rfl Try.isAgg69 Try.sizeOf69 pkk rfl B w hs) (fun w hs => ⟨(u, .slice none 0 0, .slice none 0 0), ?_, Ag hs⟩)
   rfl
  ·
   intro ht157
   refine Ak ?_
   refine Ae ?_
   refine sr ?_
   refine rn3 ?_
   refine Dw (caps := [bp b5 0, bp b6 0, bp b7 0]) (vs := [vi 10, vi m.turn, vi 0]) rfl Try.call85 rfl (fun w hs => Nf hs (Bc pkk rfl) (Bc pkk rfl) (Bc pkk rfl) (by unfold Ax; omega) hm.2.2.2.2.2.1 (by unfold Ax; omega) hid hhome hm.2.2.2.1) ?_; intro v162
   refine rn1 ?_
   refine nx ?_
   refine kp [4, 5, 7, 8, 9, 10, 11, 13, 16, 43, 163, 164, 165, 166, 167, 168, 169, 170, 171, 172, 173, 174, 175, 176, 177, 178, 179, 180, 181, 182, 183, 184, 185, 186] ?_
   refine F6 186 (.bool (decide (¬ Gr (Ac c m.line) m))) ?_ ?_
   ·
    rcases (show (m.serial < (Ac c m.line).serial) ∨ (m.serial = (Ac c m.line).serial ∧ m.alone = true ∧ (Ac c m.line).want ≠ 2) ∨ (m.serial = (Ac c m.line).serial ∧ m.alone = true ∧ (Ac c m.line).want = 2) ∨ (m.serial = (Ac c m.line).serial ∧ m.alone = false ∧ (Ac c m.line).want ≠ 1) ∨ (m.serial = (Ac c m.line).serial ∧ m.alone = false ∧ (Ac c m.line).want = 1) from by rcases Bool.eq_false_or_eq_true m.alone with h1 | h1 <;> simp only [h1, true_and, false_and, and_false, or_false, false_or, reduceCtorEq] <;> omega) with hm | hm | hm | hm | hm
    ·
     have hna : ¬ Gr (Ac c m.line) m := by unfold Gr; omega
     refine Aa ?_
     refine rn4 ?_
     refine ob (Ah rfl rfl (C8 (by omega))) ?_
     refine rn19 ?_
     refine J.nil ?_
     refine Bw ?_ (fun w hs => hs)
     refine ⟨by first | exact congrArg (fun b => some (Value.bool b)) (decide_eq_true (by first | exact hna | exact fun h => h hna)).symm | exact congrArg (fun b => some (Value.bool b)) (by simp; omega), alT⟩
    ·
     obtain ⟨hc1, hal, hc2⟩ := hm
     have hna : ¬ Gr (Ac c m.line) m := by unfold Gr; rw [hal]; simp; omega
     refine Aa ?_
     refine rn4 ?_
     refine ob (Ah rfl rfl (Az (by omega))) ?_
     refine rn2 ?_
     refine gy ?_
     refine ob (Dn (c := .bool true) Try.isAgg4 (hc := Bc pkk (by show some (Value.bool m.alone) = _; rw [hal]))) ?_
     refine rn3 ?_
     refine gy ?_
     refine ob (Ah rfl rfl (C0 (by omega))) ?_
     refine rn12 ?_
     refine J.nil ?_
     refine Bw ?_ (fun w hs => hs)
     refine ⟨by first | exact congrArg (fun b => some (Value.bool b)) (decide_eq_true (by first | exact hna | exact fun h => h hna)).symm | exact congrArg (fun b => some (Value.bool b)) (by simp; omega), alT⟩
    ·
     obtain ⟨hc1, hal, hc2⟩ := hm
     have hna : Gr (Ac c m.line) m := by unfold Gr; rw [hal]; simp; omega
     refine kp [4, 5, 7, 8, 9, 10, 11, 13, 16, 43, 163, 164, 165, 166, 167, 168, 169, 170, 171, 172, 173, 174, 175, 176, 177, 178, 179, 180, 181, 182, 183, 184, 185, 186] ?_
     refine Aa ?_
     refine rn4 ?_
     refine ob (Ah rfl rfl (Az (by omega))) ?_
     refine rn2 ?_
     refine gy ?_
     refine ob (Dn (c := .bool true) Try.isAgg4 (hc := Bc pkk (by show some (Value.bool m.alone) = _; rw [hal]))) ?_
     refine rn3 ?_
     refine gy ?_
     refine ob (Ah rfl rfl (Bu (by omega))) ?_
     refine rn4 ?_
     refine gy ?_
     refine ob (Dn (c := .bool true) Try.isAgg4 (hc := Bc pkk (by show some (Value.bool m.alone) = _; rw [hal]))) ?_
     refine rn7 ?_
     refine J.nil ?_
     refine Bw ?_ (fun w hs => hs)
     refine ⟨by first | exact congrArg (fun b => some (Value.bool b)) (decide_eq_false (by first | exact hna | exact fun h => h hna)).symm | exact congrArg (fun b => some (Value.bool b)) (by simp; omega), alT⟩
    ·
     obtain ⟨hc1, hal, hc2⟩ := hm
     have hna : ¬ Gr (Ac c m.line) m := by unfold Gr; rw [hal]; simp; omega
     refine Aa ?_
     refine rn4 ?_
     refine ob (Ah rfl rfl (Az (by omega))) ?_
     refine rn2 ?_
     refine gy ?_
     refine ob (Dn (c := .bool false) Try.isAgg4 (hc := Bc pkk (by show some (Value.bool m.alone) = _; rw [hal]))) ?_
     refine rn8 ?_
     refine gy ?_
     refine ob (Dn (c := .bool false) Try.isAgg4 (hc := Bc pkk (by show some (Value.bool m.alone) = _; rw [hal]))) ?_
     refine rn4 ?_
     refine gy ?_
     refine ob (Ah rfl rfl (C0 (by omega))) ?_
     refine rn2 ?_
     refine J.nil ?_
     refine Bw ?_ (fun w hs => hs)
     refine ⟨by first | exact congrArg (fun b => some (Value.bool b)) (decide_eq_true (by first | exact hna | exact fun h => h hna)).symm | exact congrArg (fun b => some (Value.bool b)) (by simp; omega), alT⟩
    ·
     obtain ⟨hc1, hal, hc2⟩ := hm
     have hna : Gr (Ac c m.line) m := by unfold Gr; rw [hal]; simp; omega
     refine kp [4, 5, 7, 8, 9, 10, 11, 13, 16, 43, 163, 164, 165, 166, 167, 168, 169, 170, 171, 172, 173, 174, 175, 176, 177, 178, 179, 180, 181, 182, 183, 184, 185, 186] ?_
     refine Aa ?_
     refine rn4 ?_
     refine ob (Ah rfl rfl (Az (by omega))) ?_
     refine rn2 ?_
     refine gy ?_
     refine ob (Dn (c := .bool false) Try.isAgg4 (hc := Bc pkk (by show some (Value.bool m.alone) = _; rw [hal]))) ?_
     refine rn8 ?_
     refine gy ?_
     refine ob (Dn (c := .bool false) Try.isAgg4 (hc := Bc pkk (by show some (Value.bool m.alone) = _; rw [hal]))) ?_
     refine rn4 ?_
     refine gy ?_
     refine ob (Ah rfl rfl (Bu (by omega))) ?_
     refine rn2 ?_
     refine J.nil ?_
     refine Bw ?_ (fun w hs => hs)
     refine ⟨by first | exact congrArg (fun b => some (Value.bool b)) (decide_eq_false (by first | exact hna | exact fun h => h hna)).symm | exact congrArg (fun b => some (Value.bool b)) (by simp; omega), alT⟩
   ·
    refine Ae ?_
    refine sq ?_
    first | (refine cdx (p := ?p2) (hd := ?d2) ?e2 ?_ ?_; case e2 => exact rfl) | (refine Ci (b := ?b2) ?e2 ?_ ?_; case e2 => exact rfl)
    ·
     intro ht186
     refine sq ?_
     refine JC.slNil Done ?_
     refine Aa ?_
     refine rn2 ?_
     refine s_B Try.sizeOf69 ?_
     refine rn2 ?_
     refine nx ?_
     refine rt ?_
     have er : Ap c id home m = (c, [Cn 10 id home m.line m.turn 0], []) := by unfold Ap; rw [if_neg (by omega)]; rw [if_neg (by omega), if_neg (by omega), if_pos (by omega)]; rw [if_neg (by omega), if_neg ht186]
     rw [er]
     refine Aj (.inr rfl) (fun B w hs => Db rfl rfl rfl rfl Try.isAgg69 Try.sizeOf69 pkk rfl B w hs) (fun w hs => ⟨(u, v162, .slice none 0 0), ?_, Ag hs⟩)
     rfl
    ·
     intro ht186
     refine Ak ?_
     refine Ae ?_
     refine sr ?_
     refine rn2 ?_
     refine al_ (cs := zOp.cells) Try.zeroValue66 ?_; intro b17
     refine s_B Try.sizeOf66 ?_
     refine nr ?_
     refine rn3 ?_
     obtain ⟨hwk, hwl, hwv⟩ := hk.wait m.line (by omega) (by have h9 := Decidable.not_not.1 ht186; unfold Gr at h9; omega)
     refine A1 Try.call79 rfl (fun w hs => Jj (v := m.value) (o := c.wait) hs hm.2.2.2.2.2.2 hwk (by omega) hwv) ?_; intro _
     refine rn5 ?_
     refine nx ?_
     refine kp [4, 5, 7, 8, 9, 10, 11, 13, 16, 17, 18, 19, 43, 198, 199, 200, 201, 202, 203, 204] ?_
     refine JC.conseq (L' := blk b11 82 [vi (Ac c m.line).state, vi (Ac c m.line).value, vi (Ac c m.line).want, vi (Ac c m.line).serial, vi (Ac c m.line).seen, vi (Ac c m.line).gave, vi (Ac c m.line).given] :: blk b17 66 c.wait.cells :: blk b8 69 [.slice none 0 0, vi 0, vi 0, vi 0] :: blk b4 69 (c.cells u) :: blk b5 3 [vi id] :: blk b6 3 [vi home] :: blk b7 42 m.cells :: L) (fun w hs => Ag hs) ?_
     refine Al Ay (by kernel_rfl) (by kernel_rfl) (fun ρ S => blk b11 82 (bif S 10 then [vi 1, vi (A8 m.value c.wait).1, vi 0, vi (Ac c m.line).serial, vi m.turn, vi (Ac c m.line).gave, vi (Ac c m.line).given] else (bif S 8 then [vi (Ac c m.line).state, vi (A8 m.value c.wait).1, vi 0, vi (Ac c m.line).serial, vi m.turn, vi (Ac c m.line).gave, vi (Ac c m.line).given] else (bif S 6 then [vi (Ac c m.line).state, vi (A8 m.value c.wait).1, vi 0, vi (Ac c m.line).serial, vi (Ac c m.line).seen, vi (Ac c m.line).gave, vi (Ac c m.line).given] else (bif S 4 then [vi (Ac c m.line).state, vi (A8 m.value c.wait).1, vi (Ac c m.line).want, vi (Ac c m.line).serial, vi (Ac c m.line).seen, vi (Ac c m.line).gave, vi (Ac c m.line).given] else [vi (Ac c m.line).state, vi (Ac c m.line).value, vi (Ac c m.line).want, vi (Ac c m.line).serial, vi (Ac c m.line).seen, vi (Ac c m.line).gave, vi (Ac c m.line).given])))) :: blk b17 66 c.wait.cells :: blk b8 69 [.slice none 0 0, vi 0, vi 0, vi 0] :: blk b4 69 (c.cells u) :: blk b5 3 [vi id] :: blk b6 3 [vi home] :: blk b7 42 m.cells :: L) (fun _ => rfl) ?_
     refine dn4 ?_
     refine Be (T0 := 82) (f := 1) (vs := fun ρ => [vi (Ac c m.line).state, vi (Ac c m.line).value, vi (Ac c m.line).want, vi (Ac c m.line).serial, vi (Ac c m.line).seen, vi (Ac c m.line).gave, vi (Ac c m.line).given]) (us := fun ρ => [vi (A8 m.value c.wait).1]) (sz := 1) (fun ρ => b11) Try.sizeOf3 (fun _ => rfl) (fun _ => rfl) (fun _ => rfl) (fun _ => rfl) (fun ρ R w L' hd hs u hu => by revert u hu; simp [Value.oneCell', Config.cells, Msg.cells, Line.cells, Op.cells, Done.cells, Step.cells]) (fun _ => rfl) (fun ρ g S hS hB hA => ?_) ?_
     ·
      have ui : upS S 4 4 = true := rfl; have u6 : upS S 4 6 = S 6 := rfl; have u8 : upS S 4 8 = S 8 := rfl; have u10 : upS S 4 10 = S 10 := rfl; have h6 : S 6 = false := hA 6 ⟨0, rfl⟩; have h8 : S 8 = false := hA 8 ⟨0, rfl⟩; have h10 : S 10 = false := hA 10 ⟨0, rfl⟩
      simp only [ui, hS, u6, u8, u10, h6, h8, h10, cond_true, cond_false]
      exact Pos.ex (by repeat (first | exact .hd | exact .hc | apply Pos.tl | apply Pos.ap))
     refine dn1 ?_
     refine Be (T0 := 82) (f := 2) (vs := fun ρ => [vi (Ac c m.line).state, vi (A8 m.value c.wait).1, vi (Ac c m.line).want, vi (Ac c m.line).serial, vi (Ac c m.line).seen, vi (Ac c m.line).gave, vi (Ac c m.line).given]) (us := fun ρ => [vi 0]) (sz := 1) (fun ρ => b11) Try.sizeOf3 (fun _ => rfl) (fun _ => rfl) (fun _ => rfl) (fun _ => rfl) (fun ρ R w L' hd hs u hu => by revert u hu; simp [Value.oneCell', Config.cells, Msg.cells, Line.cells, Op.cells, Done.cells, Step.cells]) (fun _ => rfl) (fun ρ g S hS hB hA => ?_) ?_
     ·
      have ui : upS S 6 6 = true := rfl; have u4 : upS S 6 4 = S 4 := rfl; have u8 : upS S 6 8 = S 8 := rfl; have u10 : upS S 6 10 = S 10 := rfl; have h4 : S 4 = true := hB 4 ⟨0, rfl⟩; have h8 : S 8 = false := hA 8 ⟨0, rfl⟩; have h10 : S 10 = false := hA 10 ⟨0, rfl⟩
      simp only [ui, hS, u4, u8, u10, h4, h8, h10, cond_true, cond_false]
      exact Pos.ex (by repeat (first | exact .hd | exact .hc | apply Pos.tl | apply Pos.ap))
     refine dn1 ?_
     refine Be (T0 := 82) (f := 4) (vs := fun ρ => [vi (Ac c m.line).state, vi (A8 m.value c.wait).1, vi 0, vi (Ac c m.line).serial, vi (Ac c m.line).seen, vi (Ac c m.line).gave, vi (Ac c m.line).given]) (us := fun ρ => [vi m.turn]) (sz := 1) (fun ρ => b11) Try.sizeOf3 (fun _ => rfl) (fun _ => rfl) (fun _ => rfl) (fun _ => rfl) (fun ρ R w L' hd hs u hu => by revert u hu; simp [Value.oneCell', Config.cells, Msg.cells, Line.cells, Op.cells, Done.cells, Step.cells]) (fun _ => rfl) (fun ρ g S hS hB hA => ?_) ?_
     ·
      have ui : upS S 8 8 = true := rfl; have u4 : upS S 8 4 = S 4 := rfl; have u6 : upS S 8 6 = S 6 := rfl; have u10 : upS S 8 10 = S 10 := rfl; have h4 : S 4 = true := hB 4 ⟨0, rfl⟩; have h6 : S 6 = true := hB 6 ⟨0, rfl⟩; have h10 : S 10 = false := hA 10 ⟨0, rfl⟩
      simp only [ui, hS, u4, u6, u10, h4, h6, h10, cond_true, cond_false]
      exact Pos.ex (by repeat (first | exact .hd | exact .hc | apply Pos.tl | apply Pos.ap))
     refine dn1 ?_
     refine Be (T0 := 82) (f := 0) (vs := fun ρ => [vi (Ac c m.line).state, vi (A8 m.value c.wait).1, vi 0, vi (Ac c m.line).serial, vi m.turn, vi (Ac c m.line).gave, vi (Ac c m.line).given]) (us := fun ρ => [vi 1]) (sz := 1) (fun ρ => b11) Try.sizeOf3 (fun _ => rfl) (fun _ => rfl) (fun _ => rfl) (fun _ => rfl) (fun ρ R w L' hd hs u hu => by revert u hu; simp [Value.oneCell', Config.cells, Msg.cells, Line.cells, Op.cells, Done.cells, Step.cells]) (fun _ => rfl) (fun ρ g S hS hB hA => ?_) ?_
     ·
      have ui : upS S 10 10 = true := rfl; have u4 : upS S 10 4 = S 4 := rfl; have u6 : upS S 10 6 = S 6 := rfl; have u8 : upS S 10 8 = S 8 := rfl; have h4 : S 4 = true := hB 4 ⟨0, rfl⟩; have h6 : S 6 = true := hB 6 ⟨0, rfl⟩; have h8 : S 8 = true := hB 8 ⟨0, rfl⟩
      simp only [ui, hS, u4, u6, u8, h4, h6, h8, cond_true, cond_false]
      exact Pos.ex (by repeat (first | exact .hd | exact .hc | apply Pos.tl | apply Pos.ap))
     refine Aw ?_; intro ρ; simp only [Ao, facts, Bb, List.append_nil, List.nil_append, List.cons_append]
     refine JX.conseq (L' := blk b11 82 [vi 1, vi (A8 m.value c.wait).1, vi 0, vi (Ac c m.line).serial, vi m.turn, vi (Ac c m.line).gave, vi (Ac c m.line).given] :: blk b17 66 c.wait.cells :: blk b8 69 [.slice none 0 0, vi 0, vi 0, vi 0] :: blk b4 69 (c.cells u) :: blk b5 3 [vi id] :: blk b6 3 [vi home] :: blk b7 42 m.cells :: L) (fun w hs => hs) ?_
     refine Ae ?_
     refine sr ?_
     refine rn2 ?_
     refine nx ?_
     refine Ci (b := ?b3) ?e3 ?_ ?_; case e3 => exact rfl
     ·
      intro ht206
      refine Aa ?_
      refine rn1 ?_
      refine sc ?_
      refine nx ?_
      have hvo : Ax (A8 m.value c.wait).1 := O1 hm.2.2.2.2.2.2 hwv.1 hwv.2
      refine Aa ?_
      refine rn4 ?_
      have hXw : ({ (Ac c m.line) with value := (A8 m.value c.wait).1, want := 0, seen := m.turn, state := 2 } : Line).wf := by unfold Line.wf at hlw ⊢; exact ⟨by unfold Ax; simp only; omega, hvo, by unfold Ax; simp only; omega, hlw.2.2.2.1, hm.2.2.2.2.2.1, hlw.2.2.2.2.2.1, hlw.2.2.2.2.2.2⟩
      refine A1 Try.call77 rfl (fun w hs => Bn (l := { (Ac c m.line) with value := (A8 m.value c.wait).1, want := 0, seen := m.turn, state := 2 }) hs mm hXw (by omega)) ?_; intro v212
      refine J.know (p := v212.oneCell' = true) (fun w hs => isSlice.one (hs.fact (List.Mem.head _))) (fun hone212 => ?_)
      refine al_ (cs := [.slice none 0 0, vi 0, vi 0, vi 0]) Try.zeroValue69 ?_; intro b20
      refine s_B (cs := [v212, vi c.wait.kind, vi c.wait.line, vi c.wait.value]) Try.sizeOf69 ?_
      refine nr ?_
      refine ob (Ge (cs := zOp.cells) Q2) ?_
      refine rn1 ?_
      refine s_N [v212, vi 0, vi 0, vi 0] Try.sizeOf66 ?_
      refine nx ?_
      have hto : Ax (A8 m.value c.wait).2 := M5 hm.2.2.2.2.2.2
      refine JC.conseq (L' := blk b8 69 [.slice none 0 0, vi 0, vi 0, vi 0] :: blk b20 69 [v212, vi 0, vi 0, vi 0] :: blk b17 66 c.wait.cells :: blk b5 3 [vi id] :: L) (fun w hs => Ag hs) ?_
      refine Al Ay (by kernel_rfl) (by kernel_rfl) (fun ρ S => blk b8 69 (bif S 7 then [v212, vi 0, vi 0, vi 0] else [.slice none 0 0, vi 0, vi 0, vi 0]) :: blk b20 69 [v212, vi 0, vi 0, vi 0] :: blk b17 66 c.wait.cells :: blk b5 3 [vi id] :: L) (fun _ => rfl) ?_
      refine dn6 ?_
      refine Fl ([⟨id, c.wait, (A8 m.value c.wait).2⟩] : List Done) I2 rfl (fun _ => rfl) rfl (fun _ => rfl) rfl rfl (fun ρ R hd => Gl ⟨hid, hk.wwf.1, hk.wwf.2.1, hk.wwf.2.2, hto⟩) (fun _ _ _ _ _ => rfl) ?_
      refine Be (T0 := 69) (f := 0) (vs := fun ρ => [.slice none 0 0, vi 0, vi 0, vi 0]) (us := fun ρ => [v212, vi 0, vi 0, vi 0]) (sz := 4) (fun ρ => b8) Try.sizeOf69 (fun _ => rfl) (fun _ => rfl) (fun _ => rfl) (fun _ => rfl) (fun _ _ _ _ _ _ => by repeat (first | exact Co | refine Bi (by first | exact rfl | assumption) ?_)) (fun _ => rfl) (fun ρ g S hS hB hA => ?_) ?_
      ·
       have ui : upS S 7 7 = true := rfl
       simp only [ui, hS, cond_true, cond_false]
       exact Pos.ex (by repeat (first | exact .hd | exact .hc | apply Pos.tl | apply Pos.ap))
      refine dn1 ?_
      refine e_p (v := fun ρ => (Gh.dec (γ := Value) (ρ 6))) (fun _ _ => Cz) (Ind.gh (h := fun g => ((Gh.dec (γ := Value) g) : Value)) 6 0 rfl) (fun _ _ _ _ _ => rfl) ?_
      refine Aw ?_; intro ρ; simp only [Ao, facts, Bb, List.append_nil, List.nil_append, List.cons_append]
      refine JX.conseq (L' := blk b8 69 [v212, vi 0, vi 0, vi 0] :: blk b20 69 [v212, vi 0, vi 0, vi 0] :: blk b17 66 c.wait.cells :: blk b5 3 [vi id] :: L) (fun w hs => hs) ?_
      generalize (Gh.dec (γ := Value) (ρ 6)) = v221
      refine Ae ?_
      refine rt ?_
      have eg : Jv (Ac c m.line) m c.wait = { (Ac c m.line) with value := (A8 m.value c.wait).1, want := 0, seen := m.turn, state := 2 } := by unfold Jv; rw [ht206, if_pos rfl]
      have er : Ap c id home m = (A6 c m.line ({ (Ac c m.line) with value := (A8 m.value c.wait).1, want := 0, seen := m.turn, state := 2 }) zOp, [Cn 10 id home m.line m.turn 0], [⟨id, c.wait, (A8 m.value c.wait).2⟩]) := by unfold Ap; rw [if_neg (by omega)]; rw [if_neg (by omega), if_neg (by omega), if_pos (by omega)]; rw [if_neg (by omega), if_pos (Decidable.not_not.1 ht186), eg]
      rw [er]
      refine Aj (.inr rfl) (fun B w hs => Db rfl rfl rfl rfl Try.isAgg69 Try.sizeOf69 pkk rfl B w hs) (fun w hs => ⟨(v212, v162, v221), ?_, Ag hs⟩)
      rfl
     ·
      intro ht206
      refine Ak ?_
      refine Ae ?_
      refine sq ?_
      have hvo : Ax (A8 m.value c.wait).1 := O1 hm.2.2.2.2.2.2 hwv.1 hwv.2
      refine Aa ?_
      refine rn4 ?_
      have hXw : ({ (Ac c m.line) with value := (A8 m.value c.wait).1, want := 0, seen := m.turn, state := 1 } : Line).wf := by unfold Line.wf at hlw ⊢; exact ⟨by unfold Ax; simp only; omega, hvo, by unfold Ax; simp only; omega, hlw.2.2.2.1, hm.2.2.2.2.2.1, hlw.2.2.2.2.2.1, hlw.2.2.2.2.2.2⟩
      refine A1 Try.call77 rfl (fun w hs => Bn (l := { (Ac c m.line) with value := (A8 m.value c.wait).1, want := 0, seen := m.turn, state := 1 }) hs mm hXw (by omega)) ?_; intro v212
      refine J.know (p := v212.oneCell' = true) (fun w hs => isSlice.one (hs.fact (List.Mem.head _))) (fun hone212 => ?_)
      refine al_ (cs := [.slice none 0 0, vi 0, vi 0, vi 0]) Try.zeroValue69 ?_; intro b20
      refine s_B (cs := [v212, vi c.wait.kind, vi c.wait.line, vi c.wait.value]) Try.sizeOf69 ?_
      refine nr ?_
      refine ob (Ge (cs := zOp.cells) Q2) ?_
      refine rn1 ?_
      refine s_N [v212, vi 0, vi 0, vi 0] Try.sizeOf66 ?_
      refine nx ?_
      have hto : Ax (A8 m.value c.wait).2 := M5 hm.2.2.2.2.2.2
      refine JC.conseq (L' := blk b8 69 [.slice none 0 0, vi 0, vi 0, vi 0] :: blk b20 69 [v212, vi 0, vi 0, vi 0] :: blk b17 66 c.wait.cells :: blk b5 3 [vi id] :: L) (fun w hs => Ag hs) ?_
      refine Al Ay (by kernel_rfl) (by kernel_rfl) (fun ρ S => blk b8 69 (bif S 7 then [v212, vi 0, vi 0, vi 0] else [.slice none 0 0, vi 0, vi 0, vi 0]) :: blk b20 69 [v212, vi 0, vi 0, vi 0] :: blk b17 66 c.wait.cells :: blk b5 3 [vi id] :: L) (fun _ => rfl) ?_
      refine dn6 ?_
      refine Fl ([⟨id, c.wait, (A8 m.value c.wait).2⟩] : List Done) I2 rfl (fun _ => rfl) rfl (fun _ => rfl) rfl rfl (fun ρ R hd => Gl ⟨hid, hk.wwf.1, hk.wwf.2.1, hk.wwf.2.2, hto⟩) (fun _ _ _ _ _ => rfl) ?_
      refine Be (T0 := 69) (f := 0) (vs := fun ρ => [.slice none 0 0, vi 0, vi 0, vi 0]) (us := fun ρ => [v212, vi 0, vi 0, vi 0]) (sz := 4) (fun ρ => b8) Try.sizeOf69 (fun _ => rfl) (fun _ => rfl) (fun _ => rfl) (fun _ => rfl) (fun _ _ _ _ _ _ => by repeat (first | exact Co | refine Bi (by first | exact rfl | assumption) ?_)) (fun _ => rfl) (fun ρ g S hS hB hA => ?_) ?_
      ·
       have ui : upS S 7 7 = true := rfl
       simp only [ui, hS, cond_true, cond_false]
       exact Pos.ex (by repeat (first | exact .hd | exact .hc | apply Pos.tl | apply Pos.ap))
      refine dn1 ?_
      refine e_p (v := fun ρ => (Gh.dec (γ := Value) (ρ 6))) (fun _ _ => Cz) (Ind.gh (h := fun g => ((Gh.dec (γ := Value) g) : Value)) 6 0 rfl) (fun _ _ _ _ _ => rfl) ?_
      refine Aw ?_; intro ρ; simp only [Ao, facts, Bb, List.append_nil, List.nil_append, List.cons_append]
      refine JX.conseq (L' := blk b8 69 [v212, vi 0, vi 0, vi 0] :: blk b20 69 [v212, vi 0, vi 0, vi 0] :: blk b17 66 c.wait.cells :: blk b5 3 [vi id] :: L) (fun w hs => hs) ?_
      generalize (Gh.dec (γ := Value) (ρ 6)) = v221
      refine Ae ?_
      refine rt ?_
      have eg : Jv (Ac c m.line) m c.wait = { (Ac c m.line) with value := (A8 m.value c.wait).1, want := 0, seen := m.turn, state := 1 } := by unfold Jv; rw [ht206, if_neg (by decide)]
      have er : Ap c id home m = (A6 c m.line ({ (Ac c m.line) with value := (A8 m.value c.wait).1, want := 0, seen := m.turn, state := 1 }) zOp, [Cn 10 id home m.line m.turn 0], [⟨id, c.wait, (A8 m.value c.wait).2⟩]) := by unfold Ap; rw [if_neg (by omega)]; rw [if_neg (by omega), if_neg (by omega), if_pos (by omega)]; rw [if_neg (by omega), if_pos (Decidable.not_not.1 ht186), eg]
      rw [er]
      refine Aj (.inr rfl) (fun B w hs => Db rfl rfl rfl rfl Try.isAgg69 Try.sizeOf69 pkk rfl B w hs) (fun w hs => ⟨(v212, v162, v221), ?_, Ag hs⟩)
      rfl
end Go.Proofs.Ytofgpimoekhfaaa

/- This file proves what a core hears, by the document's answer. No conditions. -/
set_option linter.unusedVariables false
set_option linter.unusedSimpArgs false
set_option maxHeartbeats 1000000
set_option maxRecDepth 8000
namespace Go.Proofs.Ytofgpimoekhfaaa
open Go
theorem Vc {L : List Chunk} {R : List Fact} {w : World} {u : Value} {c : Core} {id home : Int} {m : Msg} (hs : St (L) R w) (hu : sl u c.lines ∈ R) (hk : KB c) (hid : Ax id) (hhome : Ax home) (hm : m.wf) : Calls Try.prog 47 [.agg (c.cells u).toArray, vi id, vi home, .agg m.cells.toArray].toArray w (C2 (fun v : Value × Value × Value => .tuple #[.agg (Core.cells v.1 (Ap c id home m).1).toArray, v.2.1, v.2.2]) (fun v => L) (fun v => sl v.1 (Ap c id home m).1.lines :: sl v.2.1 (Ap c id home m).2.1 :: sl v.2.2 (Ap c id home m).2.2 :: R)) := by
  by_cases h : 0 ≤ m.line ∧ m.line < (c.lines.length : Int)
  · by_cases h4 : m.kind = 4
    · exact S3 hs hu hk hid hhome hm (by omega)
    by_cases h5 : m.kind = 5
    · exact S2 hs hu hk hid hhome hm (by omega)
    by_cases h6 : m.kind = 6
    · exact S1 hs hu hk hid hhome hm (by omega)
    by_cases h7 : m.kind = 7
    · exact S0 hs hu hk hid hhome hm (by omega)
    by_cases h11 : m.kind = 11
    · exact Q9 hs hu hk hid hhome hm (by omega)
    exact Sz hs hu hk hid hhome hm (by omega)
  · exact S4 hs hu hk hid hhome hm h
end Go.Proofs.Ytofgpimoekhfaaa

/- This file proves what net.Take, Twice, Spoil and their twins compute. No conditions. -/
set_option linter.unusedVariables false
set_option linter.unusedSimpArgs false
set_option maxHeartbeats 1000000
set_option maxRecDepth 8000
namespace Go.Proofs.Ytofgpimoekhfaaa
open Go
def Ri (l : Frames) (n : Nat) (k : Nat) : Frames := (l.take k).eraseIdx n
theorem Tl {l : Frames} {n k : Nat} (h : k = l.length) : Ri l n k = l.eraseIdx n := by unfold Ri; rw [h, List.take_length]
theorem Vi {l : Frames} {n k : Nat} (h : k < l.length) (hn : k ≠ n) : Ri l n (k + 1) = Ri l n k ++ [l.getD k []] := by
  unfold Ri
  rw [Fp [] h]
  by_cases h' : n < k
  · rw [List.eraseIdx_append_of_lt_length (by rw [List.length_take]; omega)]
  · rw [List.eraseIdx_of_length_le (by simp; omega), List.eraseIdx_of_length_le (by simp; omega)]
theorem Tk (l : Frames) (n k : Nat) : (Ri l n k).length ≤ k := by
 unfold Ri; rw [List.length_eraseIdx]
 split <;> rw [List.length_take] <;> omega
theorem Vj {l : Frames} {n k : Nat} (h : k < l.length) (hn : k = n) : Ri l n (k + 1) = Ri l n k := by
 unfold Ri
 subst hn
 rw [Fp [] h, List.eraseIdx_append_of_length_le (by rw [List.length_take]; omega), List.length_take, Nat.min_eq_left (by omega), Nat.sub_self, List.eraseIdx_of_length_le (l := l.take k) (by rw [List.length_take]; omega)]
 simp
theorem Gi {L : List Chunk} {R : List Fact} {w : World} {v0 : Value} {l : Frames} {n : Int} (hs : St (L) R w) (h0 : sl v0 l ∈ R) (hn : Ax n) : Calls Try.prog 23 [v0, vi n].toArray w (C2 (fun v : Value × Value => .tuple #[v.1, v.2, vi (Cy l n).2.2]) (fun v => L) (fun v => sl v.1 (Cy l n).1 :: sl v.2 (Cy l n).2.1 :: R)) := by
  have hlen := Bv h0 hs
  unfold Ax at hn
  refine Au Try.func23 rfl Try.ntmps23 rfl hs ?_
  clear hs
  refine sr ?_
  refine rn3 ?_
  refine nx ?_
  rcases (show (n < 0) ∨ (¬ n < 0 ∧ (l.length : Int) ≤ n) ∨ (0 ≤ n ∧ n < (l.length : Int)) from by omega) with hc | hc | hc
  ·
   refine Aa ?_
   refine rn1 ?_
   refine ob (Ah rfl rfl (C8 (by omega))) ?_
   refine rn6 ?_
   refine nx ?_
   refine cT ?_
   refine sr ?_
   refine rn3 ?_
   refine nx ?_
   refine rt ?_
   have er : Cy l n = ([], [], 5) := by unfold Cy; rw [if_pos (by omega)]
   rw [er]
   refine Aj (.inr rfl) (fun B w hs => Sg rfl rfl rfl rfl B w) (fun w hs => ⟨(.slice none 0 0, .slice none 0 0), ?_, Ag (St.shut (St.rowNil 23 (List UInt8) (St.shut (hs.rowNil 5 UInt8))))⟩)
   rfl
  ·
   refine Aa ?_
   refine rn1 ?_
   refine ob (Ah rfl rfl (Az (by omega))) ?_
   refine rn4 ?_
   refine gy ?_
   refine ob (Ah rfl rfl (D7 (by omega))) ?_
   refine rn1 ?_
   refine nx ?_
   refine cT ?_
   refine sr ?_
   refine rn3 ?_
   refine nx ?_
   refine rt ?_
   have er : Cy l n = ([], [], 5) := by unfold Cy; rw [if_pos (by omega)]
   rw [er]
   refine Aj (.inr rfl) (fun B w hs => Sg rfl rfl rfl rfl B w) (fun w hs => ⟨(.slice none 0 0, .slice none 0 0), ?_, Ag (St.shut (St.rowNil 23 (List UInt8) (St.shut (hs.rowNil 5 UInt8))))⟩)
   rfl
  ·
   refine Aa ?_
   refine rn1 ?_
   refine ob (Ah rfl rfl (Az (by omega))) ?_
   refine rn4 ?_
   refine gy ?_
   refine ob (Ah rfl rfl (Bd (by omega))) ?_
   refine rn1 ?_
   refine nx ?_
   refine cF_ ?_
   refine Ak ?_
   refine Ae ?_
   refine sr ?_
   refine rn1 ?_
   refine nr ?_
   refine rn3 ?_
   refine nx ?_
   refine Av ?_
   refine JC.rowNil 23 (List UInt8) ?_
   refine Ck (γ := Nat × Value) (fun g => g.1 ≤ l.length) (fun g => row 23 g.2 (Ri l n.toNat g.1) :: L) (fun _ => R) (fun g => [(0, v0), (1, vi n), (7, g.2), (18, v0), (19, vi (l.length : Int)), (20, vi (g.1 : Int))]) (fun g => l.length - g.1) (0, .slice none 0 0) (Nat.zero_le _) alT (fun w hs => hs) ?_
   rintro ⟨k, vs⟩ hk
   try simp only at hk ⊢
   refine sr ?_
   refine rn1 ?_
   refine nx ?_
   refine cdx (p := ?p1) (hd := ?d1) ?e1 ?_ ?_; case e1 => exact rfl
   ·
    intro ht21
    refine Ak ?_
    refine Ae ?_
    refine sq ?_
    refine Av ?_
    refine sq ?_
    refine JC.open1 (xs := l) k mm (by omega) (fun _ u => ?_)
    refine Aa ?_
    refine rn5 ?_
    refine nr ?_
    refine rn3 ?_
    refine nx ?_
    refine cdx (p := ?p2) (hd := ?d2) ?e2 ?_ ?_; case e2 => exact rfl
    ·
     intro ht27
     refine Aa ?_
     refine rn2 ?_
     refine li [_] Nj rfl rd_sl ?_; intro v30
     refine ap Nj (hb := fun w hs => by have : maxN = 16777216 := rfl; have h9 := Tk l n.toNat k; simp only [List.length_cons, List.length_nil]; omega) (k := ?_); intro v31
     refine rn1 ?_
     refine J.nil ?_
     refine As ?_
     refine Ae ?_
     refine Aa ?_
     refine rn2 ?_
     refine J.nil ?_
     refine Bk (k + 1, v31) (by show k + 1 ≤ l.length; omega) (by show l.length - (k + 1) < l.length - k; omega) alT (fun w hs => ?_)
     try simp only
     rw [Vi (by omega) (by omega)]; exact Ag hs
    ·
     intro ht27
     refine Ak ?_
     refine As ?_
     refine Ae ?_
     refine Aa ?_
     refine rn2 ?_
     refine J.nil ?_
     refine Bk (k + 1, vs) (by show k + 1 ≤ l.length; omega) (by show l.length - (k + 1) < l.length - k; omega) alT (fun w hs => ?_)
     try simp only
     rw [Vj (by omega) (by omega)]; exact Ag hs
   ·
    intro ht21
    refine xt ?_
    refine Ae ?_
    refine sq ?_
    refine JC.open1 (xs := l) n.toNat mm (by omega) (fun _ u => ?_)
    refine Al Ay (by kernel_rfl) (by kernel_rfl) (fun _ _ => _) (fun _ => rfl) ?_
    refine dn8 ?_
    refine Aw ?_; intro ρ; simp only [Ao, facts, Bb, List.append_nil, List.nil_append, List.cons_append]
    refine Ae ?_
    refine rt ?_
    have er : Cy l n = (l.eraseIdx n.toNat, A4 l n, 0) := by unfold Cy; rw [if_neg (by omega)]
    rw [er]
    refine Aj (.inr rfl) (fun B w hs => Sg rfl rfl rfl rfl B w) (fun w hs => ⟨(vs, u), ?_, by rw [Tl (show k = l.length by omega)] at hs; exact Ag (St.shut hs)⟩)
    rfl
end Go.Proofs.Ytofgpimoekhfaaa

/- This file proves plain facts of a chip's step. No conditions. -/
set_option linter.unusedVariables false
set_option linter.unusedSimpArgs false
set_option maxHeartbeats 1000000
set_option maxRecDepth 8000
namespace Go.Proofs.Ytofgpimoekhfaaa
open Go
theorem Lq {P : Program} {n : Nat} {Q : Exit → Act → World → Prop} {L : List Chunk} {R : List Fact} {al : List (Nat × Value)} {c : Code} {v : Value} {x : Chip} (i : Int) (hm : sl v x.cores ∈ R) (h0 : 0 ≤ i) (hi : i < x.cores.length) (k : (Ba x i).wait.wf → ∀ u, JC P n c Q L (cF v 4 i.toNat (Core.cells u (Ba x i)) :: sl u (Ba x i).lines :: R) al) : JC P n c Q L R al := JC.open1 i.toNat hm (by omega) k
theorem Qq {c : Core} {id home : Int} {o : Op} (ho : o.wf) : (Ar c id home o).1.wait.wf := by
  have hz : zOp.wf := by unfold zOp Op.wf Ax; simp only; omega
  unfold Ar
  split
  · exact hz
  split
  · exact hz
  split
  · exact hz
  split
  · exact hz
  · exact ho
theorem Rs {c : Core} {id home : Int} {m : Msg} (ho : c.wait.wf) : (Ap c id home m).1.wait.wf := by
  have hz : zOp.wf := by unfold zOp Op.wf Ax; simp only; omega
  unfold Ap
  split
  · exact ho
  split
  · exact ho
  split
  · split
    · show (if _ then zOp else c.wait).wf
      split
      · exact hz
      · exact ho
    split
    · exact ho
    · exact ho
  split
  · split
    · exact ho
    split
    · exact hz
    · exact ho
  split
  · exact hz
  · exact ho
theorem Uc {x : Chip} {s : Step} (hk : s.kind = 2 ∨ s.kind = 3 ∨ s.kind = 4 ∨ s.kind = 5) (h : C3 x s.n) : A0 x s = (D4, [], 5) := by
  unfold A0
  rw [if_neg (by omega)]
  by_cases h2 : s.kind = 2
  · rw [if_pos h2, if_pos h]
  rw [if_neg h2]
  by_cases h3 : s.kind = 3
  · rw [if_pos h3, if_pos h]
  rw [if_neg h3]
  by_cases h4 : s.kind = 4
  · rw [if_pos h4, if_pos h]
  · rw [if_neg h4, if_pos (by omega), if_pos h]
section
variable {n nl : Nat} {x : Chip} {M : List Int}
theorem Inv.lbs (h : Inv n nl x M) {p : Int} (hp : 0 ≤ p ∧ p < x.cores.length) : ∀ i, i < (Ba x p).lines.length → LB ((Ba x p).lines.getD i zLine) := fun i hi => by
 have hnc := h.nc
 have h1 : (Ba x p).lines.length = nl := h.ncl p.toNat (by omega)
 exact h.lb (i := i) (p := p.toNat) (by omega) (by omega)
theorem Inv.ebs (h : Inv n nl x M) : ∀ i, i < x.home.length → EB (x.home.getD i Aq) ∧ (x.home.getD i Aq).turn ≤ 65535 ∧ (0 ≤ (x.home.getD i Aq).serial ∧ (x.home.getD i Aq).serial ≤ 65535) ∧ (0 ≤ (x.home.getD i Aq).value ∧ (x.home.getD i Aq).value ≤ 255) ∧ (x.home.getD i Aq).last.length ≤ 4 := fun i hi => by
 have hnh := h.nh
 have hn := h.n1
 have := h.nla i (by omega)
 exact ⟨h.eb (i := i) (by omega), (h.ebd (i := i) (by omega)).1, (h.ebd (i := i) (by omega)).2.1, (h.ebd (i := i) (by omega)).2.2, by show (ent x i).last.length ≤ 4; omega⟩
theorem Inv.says_in (h : Inv n nl x M) (i : Nat) (hi : i < x.home.length) : ∀ a ∈ says (x.home.getD i Aq) i n, MsgIn a := fun a ha => by
 have hnh := h.nh; have hn := h.n1; have hl := h.l1
 exact Tq (N2 h (i := i) (by omega) a ha).1 (by simp only [Fz]; omega) (by simp only [Fz]; omega)
end
end Go.Proofs.Ytofgpimoekhfaaa

/- This file proves what a step does to a chip, by the document's answer: some kinds of steps. No conditions. -/
set_option linter.unusedVariables false
set_option linter.unusedSimpArgs false
set_option maxHeartbeats 1000000
set_option maxRecDepth 8000
namespace Go.Proofs.Ytofgpimoekhfaaa
open Go
theorem Ta {L : List Chunk} {R : List Fact} {w : World} {n nl : Nat} {M : List Int} {cv hv fv : Value} {x : Chip} {s : Step} (hs : St (L) R w) (hc : sl cv x.cores ∈ R) (hh : sl hv x.home ∈ R) (hf : sl fv x.frames ∈ R) (h : Inv n nl x M) (hsw : s.wf) (hk : s.kind = 1) : Calls Try.prog 64 [.agg #[cv, hv, fv], .agg s.cells.toArray].toArray w (C2 (fun v : Value × Value × Value × Value => .tuple #[.agg #[v.1, v.2.1, v.2.2.1], v.2.2.2, vi (A0 x s).2.2]) (fun v => L) (fun v => sl v.1 (A0 x s).1.cores :: sl v.2.1 (A0 x s).1.home :: sl v.2.2.1 (A0 x s).1.frames :: sl v.2.2.2 (A0 x s).2.1 :: R)) := by
  have hn := h.n1
  have hnl := h.l1
  have hnc := h.nc
  have hnh := h.nh
  have hfr := h.fr
  have honec : cv.oneCell' = true := isSlice.one (hs.fact hc)
  have honeh : hv.oneCell' = true := isSlice.one (hs.fact hh)
  have honef : fv.oneCell' = true := isSlice.one (hs.fact hf)
  have hsw0 := hsw
  unfold Step.wf Ax at hsw0
  have hop : s.op.wf := by unfold Op.wf Ax; omega
  have hsn : Ax s.node := by unfold Ax; omega
  have hsN : Ax s.n := by unfold Ax; omega
  have hsb : Ax s.bit := by unfold Ax; omega
  have hn64 : Ax (x.cores.length : Int) := by unfold Ax; omega
  have hcw : (A5 x).wf := by unfold A5 Cj Config.wf Ax; simp only; omega
  refine Au Try.func64 rfl Try.ntmps64 rfl hs ?_
  clear hs
  refine sr ?_
  refine bx ?_; intro b2
  refine bx ?_; intro b3
  refine al_ (cs := [.slice none 0 0, .slice none 0 0, .slice none 0 0]) Try.zeroValue46 ?_; intro b4
  refine rn2 ?_
  refine nr ?_
  refine rn1 ?_
  refine nr ?_
  refine rn4 ?_
  refine nr ?_
  refine rn2 ?_
  refine nx ?_
  refine Av ?_
  refine sr ?_
  refine ob (Ah rfl rfl (A2 (by omega))) ?_
  refine rn1 ?_
  refine nx ?_
  refine cT ?_
  refine sq ?_
  rcases (show (s.node < 0) ∨ (0 ≤ s.node ∧ (x.cores.length : Int) ≤ s.node) ∨ (0 ≤ s.node ∧ s.node < (x.cores.length : Int)) from by omega) with hc | hc | hc
  ·
   refine Aa ?_
   refine rn2 ?_
   refine ob (Ah rfl rfl (C8 (by omega))) ?_
   refine rn6 ?_
   refine nx ?_
   refine cT ?_
   refine sq ?_
   refine JC.slNil Core ?_
   refine JC.slNil Entry ?_
   refine JC.slNil (List UInt8) ?_
   refine JC.slNil Done ?_
   refine Aa ?_
   refine rn1 ?_
   refine Dw (caps := []) (vs := [vi 5]) rfl Try.call95 rfl (fun w hs => H8 hs) ?_; intro _
   refine rn3 ?_
   refine s_B (cs := [.slice none 0 0, .slice none 0 0, .slice none 0 0]) Try.sizeOf46 ?_
   refine rn2 ?_
   refine nx ?_
   refine rt ?_
   have er : A0 x s = (D4, [], 5) := by unfold A0 Cj; rw [if_pos (by omega), if_pos (by omega)]
   rw [er]
   refine Aj (.inr rfl) (fun B w hs => Db rfl rfl rfl rfl Try.isAgg46 Try.sizeOf46 pkk rfl B w hs) (fun w hs => ⟨(.slice none 0 0, .slice none 0 0, .slice none 0 0, .slice none 0 0), ?_, Ag hs⟩)
   rfl
  ·
   refine Aa ?_
   refine rn2 ?_
   refine ob (Ah rfl rfl (Az (by omega))) ?_
   refine rn4 ?_
   refine gy ?_
   refine ob (Ah rfl rfl (D7 (by omega))) ?_
   refine rn1 ?_
   refine nx ?_
   refine cT ?_
   refine sq ?_
   refine JC.slNil Core ?_
   refine JC.slNil Entry ?_
   refine JC.slNil (List UInt8) ?_
   refine JC.slNil Done ?_
   refine Aa ?_
   refine rn1 ?_
   refine Dw (caps := []) (vs := [vi 5]) rfl Try.call95 rfl (fun w hs => H8 hs) ?_; intro _
   refine rn3 ?_
   refine s_B (cs := [.slice none 0 0, .slice none 0 0, .slice none 0 0]) Try.sizeOf46 ?_
   refine rn2 ?_
   refine nx ?_
   refine rt ?_
   have er : A0 x s = (D4, [], 5) := by unfold A0 Cj; rw [if_pos (by omega), if_pos (by omega)]
   rw [er]
   refine Aj (.inr rfl) (fun B w hs => Db rfl rfl rfl rfl Try.isAgg46 Try.sizeOf46 pkk rfl B w hs) (fun w hs => ⟨(.slice none 0 0, .slice none 0 0, .slice none 0 0, .slice none 0 0), ?_, Ag hs⟩)
   rfl
  ·
   refine Aa ?_
   refine rn2 ?_
   refine ob (Ah rfl rfl (Az (by omega))) ?_
   refine rn4 ?_
   refine gy ?_
   refine ob (Ah rfl rfl (Bd (by omega))) ?_
   refine rn1 ?_
   refine nx ?_
   refine cF_ ?_
   refine Ak ?_
   refine Ae ?_
   refine sq ?_
   refine Lq (x := x) (v := cv) s.node mm (by omega) (by omega) (fun hwt u => ?_)
   have hkb : KB (Ba x s.node) := h.kb (p := s.node.toNat) (by omega)
   have hlb := h.lbs (p := s.node) (by omega)
   have hk4 := hkb.n
   refine JC.conseq (L' := blk b2 46 [cv, hv, fv] :: blk b3 98 s.cells :: blk b4 46 [.slice none 0 0, .slice none 0 0, .slice none 0 0] :: L) (fun w hs => Ag hs) ?_
   refine Al Ay (by kernel_rfl) (by kernel_rfl) (fun ρ S => blk b2 46 [cv, hv, fv] :: blk b3 98 s.cells :: blk b4 46 [.slice none 0 0, .slice none 0 0, .slice none 0 0] :: ((bif S 17 then [blk (Gh.dec (γ := Nat) (ρ 17)) 69 (bif S 18 then [(Gh.dec (γ := Value × Value × Value) (ρ 11)).1, vi (Ar (Ba x s.node) s.node (x.cores.length : Int) s.op).1.wait.kind, vi (Ar (Ba x s.node) s.node (x.cores.length : Int) s.op).1.wait.line, vi (Ar (Ba x s.node) s.node (x.cores.length : Int) s.op).1.wait.value] else [.slice none 0 0, vi 0, vi 0, vi 0])] else []) ++ (L))) (fun _ => rfl) ?_
   refine dn11 ?_
   refine Cb (γ := Value × Value × Value) (val := fun v => .tuple #[.agg (Core.cells v.1 (Ar (Ba x s.node) s.node (x.cores.length : Int) s.op).1).toArray, v.2.1, v.2.2, vi (Ar (Ba x s.node) s.node (x.cores.length : Int) s.op).2.2.2]) (F := fun v => [sl v.1 (Ar (Ba x s.node) s.node (x.cores.length : Int) s.op).1.lines, sl v.2.1 (Ar (Ba x s.node) s.node (x.cores.length : Int) s.op).2.1, sl v.2.2 (Ar (Ba x s.node) s.node (x.cores.length : Int) s.op).2.2.1]) Try.call40 (fun _ => rfl) (fun ρ L R w hd hs => Td (c := (Ba x s.node)) (id := s.node) (home := (x.cores.length : Int)) (q := s.op) (u := u) hs (hd.base mm) hkb hsn hn64 hop) (fun ρ g S hS hA => by have u17 : upS S 11 17 = S 17 := rfl; have u18 : upS S 11 18 = S 18 := rfl; have r17 : Rho.set ρ 11 g 17 = ρ 17 := rfl; have h18 : S 18 = false := hA 18 ⟨0, rfl⟩; simp only [u17, u18, r17, h18, cond_false]) ?_
   refine e_p (v := fun ρ => .tuple #[.agg (Core.cells (Gh.dec (γ := Value × Value × Value) (ρ 11)).1 (Ar (Ba x s.node) s.node (x.cores.length : Int) s.op).1).toArray, (Gh.dec (γ := Value × Value × Value) (ρ 11)).2.1, (Gh.dec (γ := Value × Value × Value) (ρ 11)).2.2, vi (Ar (Ba x s.node) s.node (x.cores.length : Int) s.op).2.2.2]) (fun _ _ => Bh) (Ind.gh (h := fun g => (.tuple #[.agg (Core.cells (Gh.dec (γ := Value × Value × Value) g).1 (Ar (Ba x s.node) s.node (x.cores.length : Int) s.op).1).toArray, (Gh.dec (γ := Value × Value × Value) g).2.1, (Gh.dec (γ := Value × Value × Value) g).2.2, vi (Ar (Ba x s.node) s.node (x.cores.length : Int) s.op).2.2.2] : Value)) 11 0 rfl) (fun _ _ _ _ _ => rfl) ?_
   refine e_p (v := fun ρ => .agg (Core.cells (Gh.dec (γ := Value × Value × Value) (ρ 11)).1 (Ar (Ba x s.node) s.node (x.cores.length : Int) s.op).1).toArray) (fun _ _ => q_x) (Ind.gh (h := fun g => (.agg (Core.cells (Gh.dec (γ := Value × Value × Value) g).1 (Ar (Ba x s.node) s.node (x.cores.length : Int) s.op).1).toArray : Value)) 11 1 rfl) (fun _ _ _ _ _ => rfl) ?_
   refine e_p (v := fun ρ => (Gh.dec (γ := Value × Value × Value) (ρ 11)).2.1) (fun _ _ => q_x) (Ind.gh (h := fun g => ((Gh.dec (γ := Value × Value × Value) g).2.1 : Value)) 11 1 rfl) (fun _ _ _ _ _ => rfl) ?_
   refine e_p (v := fun ρ => (Gh.dec (γ := Value × Value × Value) (ρ 11)).2.2) (fun _ _ => q_x) (Ind.gh (h := fun g => ((Gh.dec (γ := Value × Value × Value) g).2.2 : Value)) 11 1 rfl) (fun _ _ _ _ _ => rfl) ?_
   refine Dl (v := vi (Ar (Ba x s.node) s.node (x.cores.length : Int) s.op).2.2.2) (fun _ _ => q_x) (fun _ _ _ _ _ => rfl) ?_
   refine J5 (cs := [.slice none 0 0, vi 0, vi 0, vi 0]) Try.zeroValue69 rfl (fun ρ b S hS hA => ?_) ?_
   ·
    have ui : upS S 17 17 = true := rfl; have u18 : upS S 17 18 = S 18 := rfl; have r11 : Rho.set ρ 17 (Gh.enc b) 11 = ρ 11 := rfl; have h18 : S 18 = false := hA 18 ⟨0, rfl⟩; have rs : (Gh.dec (γ := Nat) (Rho.set ρ 17 (Gh.enc b) 17)) = b := rfl
    simp only [ui, hS, u18, r11, h18, rs, cond_true, cond_false, List.nil_append]
    exact Ins.perm (by repeat (first | exact .hd | exact .hc | refine .tl ?_ | refine .ap ?_))
   refine Be (T0 := 69) (f := 0) (vs := fun ρ => [.slice none 0 0, vi 0, vi 0, vi 0]) (us := fun ρ => [(Gh.dec (γ := Value × Value × Value) (ρ 11)).1, vi (Ar (Ba x s.node) s.node (x.cores.length : Int) s.op).1.wait.kind, vi (Ar (Ba x s.node) s.node (x.cores.length : Int) s.op).1.wait.line, vi (Ar (Ba x s.node) s.node (x.cores.length : Int) s.op).1.wait.value]) (sz := 4) (fun ρ => (Gh.dec (γ := Nat) (ρ 17))) Try.sizeOf69 (fun _ => rfl) (fun _ => rfl) (fun _ => rfl) (fun _ => rfl) (fun ρ R w L' hd hs => Bi (isSlice.one (hs.fact (hd.dep (it := ⟨11, _, _, _, _⟩) (by repeat (first | exact List.Mem.head _ | refine List.Mem.tail _ ?_)) ⟨9, rfl⟩ (List.Mem.head _)))) (by repeat (first | exact Co | refine Bi rfl ?_))) (fun _ => rfl) (fun ρ g S hS hB hA => ?_) ?_
   ·
    have ui : upS S 18 18 = true := rfl; have u17 : upS S 18 17 = S 17 := rfl; have r11 : Rho.set ρ 18 g 11 = ρ 11 := rfl; have r17 : Rho.set ρ 18 g 17 = ρ 17 := rfl; have h17 : S 17 = true := hB 17 ⟨0, rfl⟩
    simp only [ui, hS, u17, r11, r17, h17, cond_true, cond_false]
    exact Pos.ex (by repeat (first | exact .hd | exact .hc | apply Pos.tl | apply Pos.ap))
   refine e_p (v := fun ρ => (Gh.dec (γ := Value × Value × Value) (ρ 11)).2.1) (fun _ _ => Cz) (Ind.gh (h := fun g => ((Gh.dec (γ := Value × Value × Value) g).2.1 : Value)) 11 0 rfl) (fun _ _ _ _ _ => rfl) ?_
   refine e_p (v := fun ρ => (Gh.dec (γ := Value × Value × Value) (ρ 11)).2.2) (fun _ _ => Cz) (Ind.gh (h := fun g => ((Gh.dec (γ := Value × Value × Value) g).2.2 : Value)) 11 0 rfl) (fun _ _ _ _ _ => rfl) ?_
   refine Dl (v := vi (Ar (Ba x s.node) s.node (x.cores.length : Int) s.op).2.2.2) (fun _ _ => Cz) (fun _ _ _ _ _ => rfl) ?_
   refine Aw ?_; intro ρ; simp only [Ao, facts, Bb, List.append_nil, List.nil_append, List.cons_append]
   refine JX.conseq (L' := blk b2 46 [cv, hv, fv] :: blk b3 98 s.cells :: blk b4 46 [.slice none 0 0, .slice none 0 0, .slice none 0 0] :: (blk (Gh.dec (γ := Nat) (ρ 17)) 69 [(Gh.dec (γ := Value × Value × Value) (ρ 11)).1, vi (Ar (Ba x s.node) s.node (x.cores.length : Int) s.op).1.wait.kind, vi (Ar (Ba x s.node) s.node (x.cores.length : Int) s.op).1.wait.line, vi (Ar (Ba x s.node) s.node (x.cores.length : Int) s.op).1.wait.value] :: L)) (fun w hs => hs) ?_
   generalize (Gh.dec (γ := Value × Value × Value) (ρ 11)) = v65
   generalize (Gh.dec (γ := Nat) (ρ 17)) = b9
   refine Ae ?_
   refine sq ?_
   refine kp [2, 3, 4, 5, 6, 7, 8, 9, 10, 11, 12, 31, 70, 71] ?_
   refine Aa ?_
   refine rn2 ?_
   refine nx ?_
   refine cdx (p := ?p1) (hd := ?d1) ?e1 ?_ ?_; case e1 => exact rfl
   ·
    intro ht71
    refine sq ?_
    refine JC.slNil Core ?_
    refine JC.slNil Entry ?_
    refine JC.slNil (List UInt8) ?_
    refine JC.slNil Done ?_
    refine Aa ?_
    refine rn2 ?_
    refine Dw (caps := []) (vs := [vi (Ar (Ba x s.node) s.node (x.cores.length : Int) s.op).2.2.2]) rfl Try.call95 rfl (fun w hs => H8 hs) ?_; intro _
    refine rn3 ?_
    refine s_B (cs := [.slice none 0 0, .slice none 0 0, .slice none 0 0]) Try.sizeOf46 ?_
    refine rn2 ?_
    refine nx ?_
    refine rt ?_
    have er : A0 x s = (D4, [], (Ar (Ba x s.node) s.node (x.cores.length : Int) s.op).2.2.2) := by unfold A0 Cj; rw [if_pos (by omega), if_neg (by omega), if_pos ht71]
    rw [er]
    refine Aj (.inr rfl) (fun B w hs => Db rfl rfl rfl rfl Try.isAgg46 Try.sizeOf46 pkk rfl B w hs) (fun w hs => ⟨(.slice none 0 0, .slice none 0 0, .slice none 0 0, .slice none 0 0), ?_, Ag hs⟩)
    rfl
   ·
    intro ht71
    refine Ak ?_
    refine Ae ?_
    refine sr ?_
    refine rn4 ?_
    refine A1 Try.call96 rfl (fun w hs => Jh (x := x) (i := s.node) (k := (Ar (Ba x s.node) s.node (x.cores.length : Int) s.op).1) (u := v65.1) hs mm honeh honef mm (Qq hop) (by omega)) ?_; intro v82
    refine J.know (p := v82.oneCell' = true) (fun w hs => isSlice.one (hs.fact (List.Mem.head _))) (fun honev82 => ?_)
    refine s_B (cs := [v82, hv, fv]) Try.sizeOf46 ?_
    refine nr ?_
    refine rn3 ?_
    refine A1 Try.call97 rfl (fun w hs => Mq (fs := x.frames) (ms := (Ar (Ba x s.node) s.node (x.cores.length : Int) s.op).2.1) hs mm mm (Um (by omega) (by omega) hk4 hlb)) ?_; intro v86
    refine J.know (p := v86.oneCell' = true) (fun w hs => isSlice.one (hs.fact (List.Mem.head _))) (fun honev86 => ?_)
    refine rn1 ?_
    refine sc ?_
    refine nr ?_
    refine rn2 ?_
    refine s_B (cs := [v82, hv, v86]) Try.sizeOf46 ?_
    refine rn2 ?_
    refine nx ?_
    refine rt ?_
    have er : A0 x s = (Df x s.node (Ar (Ba x s.node) s.node (x.cores.length : Int) s.op).1 (Ar (Ba x s.node) s.node (x.cores.length : Int) s.op).2.1, (Ar (Ba x s.node) s.node (x.cores.length : Int) s.op).2.2.1, 0) := by unfold A0 Cj; rw [if_pos (by omega), if_neg (by omega), if_neg ht71]
    rw [er]
    refine Aj (.inr rfl) (fun B w hs => Db rfl rfl rfl rfl Try.isAgg46 Try.sizeOf46 pkk rfl B w hs) (fun w hs => ⟨(v82, hv, v86, v65.2.2), ?_, Ag hs⟩)
    rfl
theorem Tb {L : List Chunk} {R : List Fact} {w : World} {n nl : Nat} {M : List Int} {cv hv fv : Value} {x : Chip} {s : Step} (hs : St (L) R w) (hc : sl cv x.cores ∈ R) (hh : sl hv x.home ∈ R) (hf : sl fv x.frames ∈ R) (h : Inv n nl x M) (hsw : s.wf) (hk : s.kind ≠ 1 ∧ s.kind ≠ 2 ∧ s.kind ≠ 3 ∧ s.kind ≠ 4 ∧ s.kind ≠ 5 ∧ s.kind ≠ 6) : Calls Try.prog 64 [.agg #[cv, hv, fv], .agg s.cells.toArray].toArray w (C2 (fun v : Value × Value × Value × Value => .tuple #[.agg #[v.1, v.2.1, v.2.2.1], v.2.2.2, vi (A0 x s).2.2]) (fun v => L) (fun v => sl v.1 (A0 x s).1.cores :: sl v.2.1 (A0 x s).1.home :: sl v.2.2.1 (A0 x s).1.frames :: sl v.2.2.2 (A0 x s).2.1 :: R)) := by
 have hn := h.n1
 have hnl := h.l1
 have hnc := h.nc
 have hnh := h.nh
 have hfr := h.fr
 have honec : cv.oneCell' = true := isSlice.one (hs.fact hc)
 have honeh : hv.oneCell' = true := isSlice.one (hs.fact hh)
 have honef : fv.oneCell' = true := isSlice.one (hs.fact hf)
 have hsw0 := hsw
 unfold Step.wf Ax at hsw0
 have hop : s.op.wf := by unfold Op.wf Ax; omega
 have hsn : Ax s.node := by unfold Ax; omega
 have hsN : Ax s.n := by unfold Ax; omega
 have hsb : Ax s.bit := by unfold Ax; omega
 have hn64 : Ax (x.cores.length : Int) := by unfold Ax; omega
 have hcw : (A5 x).wf := by unfold A5 Cj Config.wf Ax; simp only; omega
 refine Au Try.func64 rfl Try.ntmps64 rfl hs ?_
 clear hs
 refine sr ?_
 refine bx ?_; intro b2
 refine bx ?_; intro b3
 refine al_ (cs := [.slice none 0 0, .slice none 0 0, .slice none 0 0]) Try.zeroValue46 ?_; intro b4
 refine rn2 ?_
 refine nr ?_
 refine rn1 ?_
 refine nr ?_
 refine rn4 ?_
 refine nr ?_
 refine rn2 ?_
 refine nx ?_
 refine Av ?_
 refine sr ?_
 refine ob (Ah rfl rfl (An (by omega))) ?_
 refine rn1 ?_
 refine nx ?_
 refine cF_ ?_
 refine sr ?_
 refine ob (Ah rfl rfl (An (by omega))) ?_
 refine rn1 ?_
 refine nx ?_
 refine cF_ ?_
 refine sr ?_
 refine ob (Ah rfl rfl (An (by omega))) ?_
 refine rn1 ?_
 refine nx ?_
 refine cF_ ?_
 refine sr ?_
 refine ob (Ah rfl rfl (An (by omega))) ?_
 refine rn1 ?_
 refine nx ?_
 refine cF_ ?_
 refine sr ?_
 refine ob (Ah rfl rfl (An (by omega))) ?_
 refine rn1 ?_
 refine nx ?_
 refine cF_ ?_
 refine Aa ?_
 refine ob (Ah rfl rfl (An (by omega))) ?_
 refine rn1 ?_
 refine nx ?_
 refine cF_ ?_
 refine sq ?_
 refine JC.slNil Core ?_
 refine JC.slNil Entry ?_
 refine JC.slNil (List UInt8) ?_
 refine JC.slNil Done ?_
 refine Aa ?_
 refine rn1 ?_
 refine Dw (caps := []) (vs := [vi 1]) rfl Try.call95 rfl (fun w hs => H8 hs) ?_; intro _
 refine rn3 ?_
 refine s_B (cs := [.slice none 0 0, .slice none 0 0, .slice none 0 0]) Try.sizeOf46 ?_
 refine rn2 ?_
 refine nx ?_
 refine rt ?_
 have er : A0 x s = (D4, [], 1) := by unfold A0; rw [if_neg (by omega), if_neg (by omega), if_neg (by omega), if_neg (by omega), if_neg (by omega), if_neg (by omega)]
 rw [er]
 refine Aj (.inr rfl) (fun B w hs => Db rfl rfl rfl rfl Try.isAgg46 Try.sizeOf46 pkk rfl B w hs) (fun w hs => ⟨(.slice none 0 0, .slice none 0 0, .slice none 0 0, .slice none 0 0), ?_, Ag hs⟩)
 rfl
end Go.Proofs.Ytofgpimoekhfaaa

/- This file proves what a step does to a chip, by the document's answer: some kinds of steps. No conditions. -/
set_option linter.unusedVariables false
set_option linter.unusedSimpArgs false
set_option maxHeartbeats 1000000
set_option maxRecDepth 8000
namespace Go.Proofs.Ytofgpimoekhfaaa
open Go
theorem S5 {L : List Chunk} {R : List Fact} {w : World} {n nl : Nat} {M : List Int} {cv hv fv : Value} {x : Chip} {s : Step} (hs : St (L) R w) (hc : sl cv x.cores ∈ R) (hh : sl hv x.home ∈ R) (hf : sl fv x.frames ∈ R) (h : Inv n nl x M) (hsw : s.wf) (hk : s.kind = 6) : Calls Try.prog 64 [.agg #[cv, hv, fv], .agg s.cells.toArray].toArray w (C2 (fun v : Value × Value × Value × Value => .tuple #[.agg #[v.1, v.2.1, v.2.2.1], v.2.2.2, vi (A0 x s).2.2]) (fun v => L) (fun v => sl v.1 (A0 x s).1.cores :: sl v.2.1 (A0 x s).1.home :: sl v.2.2.1 (A0 x s).1.frames :: sl v.2.2.2 (A0 x s).2.1 :: R)) := by
  have hn := h.n1
  have hnl := h.l1
  have hnc := h.nc
  have hnh := h.nh
  have hfr := h.fr
  have honec : cv.oneCell' = true := isSlice.one (hs.fact hc)
  have honeh : hv.oneCell' = true := isSlice.one (hs.fact hh)
  have honef : fv.oneCell' = true := isSlice.one (hs.fact hf)
  have hsw0 := hsw
  unfold Step.wf Ax at hsw0
  have hop : s.op.wf := by unfold Op.wf Ax; omega
  have hsn : Ax s.node := by unfold Ax; omega
  have hsN : Ax s.n := by unfold Ax; omega
  have hsb : Ax s.bit := by unfold Ax; omega
  have hn64 : Ax (x.cores.length : Int) := by unfold Ax; omega
  have hcw : (A5 x).wf := by unfold A5 Cj Config.wf Ax; simp only; omega
  refine Au Try.func64 rfl Try.ntmps64 rfl hs ?_
  clear hs
  refine sr ?_
  refine bx ?_; intro b2
  refine bx ?_; intro b3
  refine al_ (cs := [.slice none 0 0, .slice none 0 0, .slice none 0 0]) Try.zeroValue46 ?_; intro b4
  refine rn2 ?_
  refine nr ?_
  refine rn1 ?_
  refine nr ?_
  refine rn4 ?_
  refine nr ?_
  refine rn2 ?_
  refine nx ?_
  refine Av ?_
  refine sr ?_
  refine ob (Ah rfl rfl (An (by omega))) ?_
  refine rn1 ?_
  refine nx ?_
  refine cF_ ?_
  refine sr ?_
  refine ob (Ah rfl rfl (A2 (by omega))) ?_
  refine rn1 ?_
  refine nx ?_
  refine cT ?_
  refine sq ?_
  rcases (show (s.node < 0) ∨ (0 ≤ s.node ∧ (x.cores.length : Int) < s.node) ∨ (0 ≤ s.node ∧ s.node < (x.cores.length : Int)) ∨ (s.node = (x.cores.length : Int)) from by omega) with hc | hc | hc | hc
  ·
   refine Aa ?_
   refine rn2 ?_
   refine ob (Ah rfl rfl (C8 (by omega))) ?_
   refine rn6 ?_
   refine nx ?_
   refine cT ?_
   refine sq ?_
   refine JC.slNil Core ?_
   refine JC.slNil Entry ?_
   refine JC.slNil (List UInt8) ?_
   refine JC.slNil Done ?_
   refine Aa ?_
   refine rn1 ?_
   refine Dw (caps := []) (vs := [vi 5]) rfl Try.call95 rfl (fun w hs => H8 hs) ?_; intro _
   refine rn3 ?_
   refine s_B (cs := [.slice none 0 0, .slice none 0 0, .slice none 0 0]) Try.sizeOf46 ?_
   refine rn2 ?_
   refine nx ?_
   refine rt ?_
   have er : A0 x s = (D4, [], 5) := by unfold A0 Cj; rw [if_neg (by omega), if_neg (by omega), if_neg (by omega), if_neg (by omega), if_neg (by omega), if_pos (by omega)]; rw [if_pos (by omega)]
   rw [er]
   refine Aj (.inr rfl) (fun B w hs => Db rfl rfl rfl rfl Try.isAgg46 Try.sizeOf46 pkk rfl B w hs) (fun w hs => ⟨(.slice none 0 0, .slice none 0 0, .slice none 0 0, .slice none 0 0), ?_, Ag hs⟩)
   rfl
  ·
   refine Aa ?_
   refine rn2 ?_
   refine ob (Ah rfl rfl (Az (by omega))) ?_
   refine rn4 ?_
   refine gy ?_
   refine ob (Ah rfl rfl (En (by omega))) ?_
   refine rn1 ?_
   refine nx ?_
   refine cT ?_
   refine sq ?_
   refine JC.slNil Core ?_
   refine JC.slNil Entry ?_
   refine JC.slNil (List UInt8) ?_
   refine JC.slNil Done ?_
   refine Aa ?_
   refine rn1 ?_
   refine Dw (caps := []) (vs := [vi 5]) rfl Try.call95 rfl (fun w hs => H8 hs) ?_; intro _
   refine rn3 ?_
   refine s_B (cs := [.slice none 0 0, .slice none 0 0, .slice none 0 0]) Try.sizeOf46 ?_
   refine rn2 ?_
   refine nx ?_
   refine rt ?_
   have er : A0 x s = (D4, [], 5) := by unfold A0 Cj; rw [if_neg (by omega), if_neg (by omega), if_neg (by omega), if_neg (by omega), if_neg (by omega), if_pos (by omega)]; rw [if_pos (by omega)]
   rw [er]
   refine Aj (.inr rfl) (fun B w hs => Db rfl rfl rfl rfl Try.isAgg46 Try.sizeOf46 pkk rfl B w hs) (fun w hs => ⟨(.slice none 0 0, .slice none 0 0, .slice none 0 0, .slice none 0 0), ?_, Ag hs⟩)
   rfl
  ·
   refine Aa ?_
   refine rn2 ?_
   refine ob (Ah rfl rfl (Az (by omega))) ?_
   refine rn4 ?_
   refine gy ?_
   refine ob (Ah rfl rfl (D2 (by omega))) ?_
   refine rn1 ?_
   refine nx ?_
   refine cF_ ?_
   refine Ak ?_
   refine Ae ?_
   refine sr ?_
   refine rn3 ?_
   refine ob (Ah rfl rfl (C8 (by omega))) ?_
   refine nx ?_
   refine cT ?_
   refine sq ?_
   refine Lq (x := x) (v := cv) s.node mm (by omega) (by omega) (fun hwt u => ?_)
   have hkb : KB (Ba x s.node) := h.kb (p := s.node.toNat) (by omega)
   have hlb := h.lbs (p := s.node) (by omega)
   have hk4 := hkb.n
   refine JC.conseq (L' := blk b2 46 [cv, hv, fv] :: blk b3 98 s.cells :: blk b4 46 [.slice none 0 0, .slice none 0 0, .slice none 0 0] :: L) (fun w hs => Ag hs) ?_
   refine Al Ay (by kernel_rfl) (by kernel_rfl) (fun ρ S => blk b2 46 (bif S 14 then [cv, hv, (Gh.dec (γ := Value) (ρ 12))] else [cv, hv, fv]) :: blk b3 98 s.cells :: blk b4 46 [.slice none 0 0, .slice none 0 0, .slice none 0 0] :: L) (fun _ => rfl) ?_
   refine dn1 ?_
   refine K4 (v := fv) (fun ρ S hS hB hA => by have h14 : S 14 = false := hA 14 ⟨0, rfl⟩; simp only [h14, cond_false]; exact Dn (hc := Bc pkk (by repeat (first | exact rfl | refine Ec rfl ?_))) Try.isAgg22) (fun _ _ _ _ _ => rfl) ?_
   refine dn1 ?_
   refine K4 (v := cv) (fun ρ S hS hB hA => by have h14 : S 14 = false := hA 14 ⟨0, rfl⟩; simp only [h14, cond_false]; exact Dn (hc := Bc pkk (by repeat (first | exact rfl | refine Ec rfl ?_))) Try.isAgg43) (fun _ _ _ _ _ => rfl) ?_
   refine dn2 ?_
   first | refine Dl (fun _ _ => Gd Ps) (fun _ _ _ _ _ => rfl) ?_ | refine Dl (fun _ _ => Lo Ps) (fun _ _ _ _ _ => rfl) ?_ | refine e_p (fun _ _ => Gd Ps) (by first | exact Ind.const _ | exact fun _ _ _ _ _ => rfl | exact Ind.self | exact Ind.gh _ 3 rfl) (fun _ _ _ _ _ => rfl) ?_ | refine e_p (fun _ _ => Lo Ps) (by first | exact Ind.const _ | exact fun _ _ _ _ _ => rfl | exact Ind.self | exact Ind.gh _ 3 rfl) (fun _ _ _ _ _ => rfl) ?_
   first | refine Dl (fun _ _ => Uw Try.isAgg69 Try.sizeOf69) (fun _ _ _ _ _ => rfl) ?_ | refine Dl (fun _ _ => P1 4 Try.isAgg69 Try.sizeOf69) (fun _ _ _ _ _ => rfl) ?_ | refine Dl (fun _ _ => q_lNc 4 Try.isAgg69 Try.sizeOf69) (fun _ _ _ _ _ => rfl) ?_ | refine Dl (fun _ _ => q_lNf 4 Try.isAgg69 Try.sizeOf69) (fun _ _ _ _ _ => rfl) ?_ | refine e_p (fun _ _ => Uw Try.isAgg69 Try.sizeOf69) (by first | exact Ind.const _ | exact fun _ _ _ _ _ => rfl | exact Ind.self | exact Ind.gh _ 3 rfl) (fun _ _ _ _ _ => rfl) ?_ | refine e_p (fun _ _ => P1 4 Try.isAgg69 Try.sizeOf69) (by first | exact Ind.const _ | exact fun _ _ _ _ _ => rfl | exact Ind.self | exact Ind.gh _ 3 rfl) (fun _ _ _ _ _ => rfl) ?_ | refine e_p (fun _ _ => q_lNc 4 Try.isAgg69 Try.sizeOf69) (by first | exact Ind.const _ | exact fun _ _ _ _ _ => rfl | exact Ind.self | exact Ind.gh _ 3 rfl) (fun _ _ _ _ _ => rfl) ?_ | refine e_p (fun _ _ => q_lNf 4 Try.isAgg69 Try.sizeOf69) (by first | exact Ind.const _ | exact fun _ _ _ _ _ => rfl | exact Ind.self | exact Ind.gh _ 3 rfl) (fun _ _ _ _ _ => rfl) ?_
   refine dn3 ?_
   refine Cb (γ := Value) (val := fun v => v) (F := fun v => [sl v (E1 (Ba x s.node) s.node (x.cores.length : Int))]) Try.call45 (fun _ => rfl) (fun ρ L R w hd hs => My (c := (Ba x s.node)) (id := s.node) (home := (x.cores.length : Int)) (u := u) hs (hd.base mm) hsn hn64) (fun _ _ _ _ _ => rfl) ?_
   refine Cb (γ := Value) (val := fun v => v) (F := fun v => [sl v (way x.frames (E1 (Ba x s.node) s.node (x.cores.length : Int)))]) Try.call97 (fun _ => rfl) (fun ρ L R w hd hs => Mq (fs := x.frames) (ms := (E1 (Ba x s.node) s.node (x.cores.length : Int))) hs (hd.base mm) (hd.dep (it := ⟨11, _, _, _, _⟩) (by repeat (first | exact List.Mem.head _ | refine List.Mem.tail _ ?_)) ⟨9, rfl⟩ (List.Mem.head _)) (Ow (by omega) (by omega) _ 0 (by omega) (by omega) (T3 (d := zLine) hlb))) (fun ρ g S hS hA => by have u14 : upS S 12 14 = S 14 := rfl; have h14 : S 14 = false := hA 14 ⟨0, rfl⟩; simp only [u14, h14, cond_false]) ?_
   refine dn1 ?_
   refine Gw (T0 := 46) (f := 2) (vs := fun ρ => [cv, hv, fv]) (v := fun ρ => (Gh.dec (γ := Value) (ρ 12))) (fun ρ => b2) Try.sizeOf22 (fun _ => rfl) (fun _ => rfl) (fun ρ S R w L9 hB hd hs => isSlice.one (hs.fact (hd.dep (it := ⟨12, _, _, _, _⟩) (by repeat (first | exact List.Mem.head _ | refine List.Mem.tail _ ?_)) ⟨9, rfl⟩ (List.Mem.head _)))) (fun _ => rfl) (fun ρ g S hS hB hA => ?_) ?_
   ·
    have ui : upS S 14 14 = true := rfl; have r12 : Rho.set ρ 14 g 12 = ρ 12 := rfl
    simp only [ui, hS, r12, cond_true, cond_false]
    exact Pos.ex (by repeat (first | exact .hd | exact .hc | apply Pos.tl | apply Pos.ap))
   refine Aw ?_; intro ρ; simp only [Ao, facts, Bb, List.append_nil, List.nil_append, List.cons_append]
   refine JX.conseq (L' := blk b2 46 [cv, hv, (Gh.dec (γ := Value) (ρ 12))] :: blk b3 98 s.cells :: blk b4 46 [.slice none 0 0, .slice none 0 0, .slice none 0 0] :: L) (fun w hs => hs) ?_
   generalize (Gh.dec (γ := Value) (ρ 11)) = v121
   generalize (Gh.dec (γ := Value) (ρ 12)) = v122
   refine Ae ?_
   refine sq ?_
   refine JC.slNil Done ?_
   refine JC.know (p := v122.oneCell' = true) (fun w hs => isSlice.one (hs.fact (mm (f := sl v122 (way x.frames (E1 (Ba x s.node) s.node (x.cores.length : Int))))))) (fun honev122 => ?_)
   refine kp [2, 3, 4, 5, 6, 7, 8, 31, 124] ?_
   refine Aa ?_
   refine rn1 ?_
   refine s_B (cs := [cv, hv, v122]) Try.sizeOf46 ?_
   refine rn2 ?_
   refine nx ?_
   refine rt ?_
   have er : A0 x s = (⟨x.cores, x.home, way x.frames (E1 (Ba x s.node) s.node (x.cores.length : Int))⟩, [], 0) := by unfold A0 Cj; rw [if_neg (by omega), if_neg (by omega), if_neg (by omega), if_neg (by omega), if_neg (by omega), if_pos (by omega)]; rw [if_neg (by omega), if_neg (by omega)]
   rw [er]
   refine Aj (.inr rfl) (fun B w hs => Db rfl rfl rfl rfl Try.isAgg46 Try.sizeOf46 pkk rfl B w hs) (fun w hs => ⟨(cv, hv, v122, .slice none 0 0), ?_, Ag hs⟩)
   rfl
  ·
   refine Aa ?_
   refine rn2 ?_
   refine ob (Ah rfl rfl (Az (by omega))) ?_
   refine rn4 ?_
   refine gy ?_
   refine ob (Ah rfl rfl (D2 (by omega))) ?_
   refine rn1 ?_
   refine nx ?_
   refine cF_ ?_
   refine Ak ?_
   refine Ae ?_
   refine sr ?_
   refine rn3 ?_
   refine ob (Ah rfl rfl (Az (by omega))) ?_
   refine nx ?_
   refine cF_ ?_
   refine Ak ?_
   refine Ae ?_
   refine sq ?_
   have hnode : s.node = (x.cores.length : Int) := by omega
   refine Aa ?_
   refine rn4 ?_
   refine nx ?_
   refine Av ?_
   refine Ck (γ := Nat × Value) (fun g => g.1 ≤ x.home.length) (fun g => blk b2 46 [cv, hv, g.2] :: blk b3 98 s.cells :: blk b4 46 [.slice none 0 0, .slice none 0 0, .slice none 0 0] :: L) (fun g => sl g.2 (way x.frames (Cr (x.cores.length : Int) 0 (x.home.take g.1))) :: R) (fun g => [(2, bp b2 0), (3, bp b3 0), (4, bp b4 0), (8, vi (x.cores.length : Int)), (126, hv), (127, vi (x.home.length : Int)), (128, vi (g.1 : Int))]) (fun g => x.home.length - g.1) (0, fv) (Nat.zero_le _) alT (fun w hs => Ag (Us hs hf)) ?_
   rintro ⟨k, vf⟩ hk
   try simp only at hk ⊢
   refine sq ?_
   refine kp [2, 3, 4, 5, 6, 7, 8, 31, 126, 127, 128, 129] ?_
   refine Aa ?_
   refine rn1 ?_
   refine nx ?_
   refine cdx (p := ?p1) (hd := ?d1) ?e1 ?_ ?_; case e1 => exact rfl
   ·
    intro ht129
    refine Ak ?_
    refine Ae ?_
    refine sq ?_
    refine Av ?_
    refine sq ?_
    refine E8 (l := x.home) (v := hv) k mm (by omega) (fun _ ue => ?_)
    refine JC.know (p := ue.oneCell' = true) (fun w hs => isSlice.one (hs.fact (.tail _ (.head _)))) (fun honeu => ?_)
    refine Aa ?_
    refine rn3 ?_
    refine al_ (cs := zEC) Try.zeroValue58 ?_; intro b14
    refine rn1 ?_
    refine s_B (cs := Entry.cells ue (x.home.getD k Aq)) Try.sizeOf58 ?_
    refine nx ?_
    refine JC.conseq (L' := blk b2 46 [cv, hv, vf] :: blk b14 58 (Entry.cells ue (x.home.getD k Aq)) :: blk b3 98 s.cells :: blk b4 46 [.slice none 0 0, .slice none 0 0, .slice none 0 0] :: L) (fun w hs => Ag hs) ?_
    refine Al Ay (by kernel_rfl) (by kernel_rfl) (fun ρ S => blk b2 46 (bif S 8 then [cv, hv, (Gh.dec (γ := Value) (ρ 6))] else [cv, hv, vf]) :: blk b14 58 (Entry.cells ue (x.home.getD k Aq)) :: blk b3 98 s.cells :: blk b4 46 [.slice none 0 0, .slice none 0 0, .slice none 0 0] :: L) (fun _ => rfl) ?_
    refine dn1 ?_
    refine K4 (v := vf) (fun ρ S hS hB hA => by have h8 : S 8 = false := hA 8 ⟨0, rfl⟩; simp only [h8, cond_false]; exact Dn (hc := Bc pkk (by repeat (first | exact rfl | refine Ec rfl ?_))) Try.isAgg22) (fun _ _ _ _ _ => rfl) ?_
    refine dn3 ?_
    refine Cb (γ := Value) (val := fun v => v) (F := fun v => [sl v (says (x.home.getD k Aq) (k : Int) (x.cores.length : Int))]) Try.call34 (fun _ => rfl) (fun ρ L R w hd hs => F3 (e := (x.home.getD k Aq)) (line := (k : Int)) (id := (x.cores.length : Int)) (u := ue) hs (h.ebs k (by omega)).1 honeu (by unfold Ax; omega) hn64) (fun _ _ _ _ _ => rfl) ?_
    refine Cb (γ := Value) (val := fun v => v) (F := fun v => [sl v (way (way x.frames (Cr (x.cores.length : Int) 0 (x.home.take k))) (says (x.home.getD k Aq) (k : Int) (x.cores.length : Int)))]) Try.call97 (fun _ => rfl) (fun ρ L R w hd hs => Mq (fs := way x.frames (Cr (x.cores.length : Int) 0 (x.home.take k))) (ms := says (x.home.getD k Aq) (k : Int) (x.cores.length : Int)) hs (hd.base mm) (hd.dep (it := ⟨5, _, _, _, _⟩) (by repeat (first | exact List.Mem.head _ | refine List.Mem.tail _ ?_)) ⟨9, rfl⟩ (List.Mem.head _)) (by rw [hnc]; exact h.says_in k (by omega))) (fun ρ g S hS hA => by have u8 : upS S 6 8 = S 8 := rfl; have h8 : S 8 = false := hA 8 ⟨0, rfl⟩; simp only [u8, h8, cond_false]) ?_
    refine dn1 ?_
    refine Gw (T0 := 46) (f := 2) (vs := fun ρ => [cv, hv, vf]) (v := fun ρ => (Gh.dec (γ := Value) (ρ 6))) (fun ρ => b2) Try.sizeOf22 (fun _ => rfl) (fun _ => rfl) (fun ρ S R w L9 hB hd hs => isSlice.one (hs.fact (hd.dep (it := ⟨6, _, _, _, _⟩) (by repeat (first | exact List.Mem.head _ | refine List.Mem.tail _ ?_)) ⟨9, rfl⟩ (List.Mem.head _)))) (fun _ => rfl) (fun ρ g S hS hB hA => ?_) ?_
    ·
     have ui : upS S 8 8 = true := rfl; have r6 : Rho.set ρ 8 g 6 = ρ 6 := rfl
     simp only [ui, hS, r6, cond_true, cond_false]
     exact Pos.ex (by repeat (first | exact .hd | exact .hc | apply Pos.tl | apply Pos.ap))
    refine Aw ?_; intro ρ; simp only [Ao, facts, Bb, List.append_nil, List.nil_append, List.cons_append]
    refine JX.conseq (L' := blk b2 46 [cv, hv, (Gh.dec (γ := Value) (ρ 6))] :: blk b14 58 (Entry.cells ue (x.home.getD k Aq)) :: blk b3 98 s.cells :: blk b4 46 [.slice none 0 0, .slice none 0 0, .slice none 0 0] :: L) (fun w hs => hs) ?_
    generalize (Gh.dec (γ := Value) (ρ 5)) = v138
    generalize (Gh.dec (γ := Value) (ρ 6)) = v139
    refine As ?_
    refine Ae ?_
    refine Aa ?_
    refine rn2 ?_
    refine J.nil ?_
    refine Bk (k + 1, v139) (by show k + 1 ≤ x.home.length; omega) (by show x.home.length - (k + 1) < x.home.length - k; omega) alT (fun w hs => ?_)
    try simp only
    rw [Fp Aq (by omega), E6, H3, List.length_take, Nat.min_eq_left (by omega), Int.zero_add]; exact Ag hs
   ·
    intro ht129
    refine xt ?_
    refine Ae ?_
    refine sq ?_
    refine JC.slNil Done ?_
    refine JC.know (p := vf.oneCell' = true) (fun w hs => isSlice.one (hs.fact (mm (f := sl vf (way x.frames (Cr (x.cores.length : Int) 0 (x.home.take k))))))) (fun honevf => ?_)
    refine Aa ?_
    refine rn1 ?_
    refine s_B (cs := [cv, hv, vf]) Try.sizeOf46 ?_
    refine rn2 ?_
    refine nx ?_
    refine rt ?_
    have er : A0 x s = (⟨x.cores, x.home, way x.frames (Cr (x.cores.length : Int) 0 (x.home.take k))⟩, [], 0) := by unfold A0 Cj; rw [if_neg (by omega), if_neg (by omega), if_neg (by omega), if_neg (by omega), if_neg (by omega), if_pos (by omega)]; rw [if_neg (by omega), if_pos (by omega), List.take_of_length_le (by omega), hnode]; rfl
    rw [er]
    refine Aj (.inr rfl) (fun B w hs => Db rfl rfl rfl rfl Try.isAgg46 Try.sizeOf46 pkk rfl B w hs) (fun w hs => ⟨(cv, hv, vf, .slice none 0 0), ?_, Ag hs⟩)
    rfl
end Go.Proofs.Ytofgpimoekhfaaa

/- This file proves what a step does to a chip, by the document's answer: some kinds of steps. No conditions. -/
set_option linter.unusedVariables false
set_option linter.unusedSimpArgs false
set_option maxHeartbeats 1000000
set_option maxRecDepth 8000
namespace Go.Proofs.Ytofgpimoekhfaaa
open Go
theorem S7 {L : List Chunk} {R : List Fact} {w : World} {n nl : Nat} {M : List Int} {cv hv fv : Value} {x : Chip} {s : Step} (hs : St (L) R w) (hc : sl cv x.cores ∈ R) (hh : sl hv x.home ∈ R) (hf : sl fv x.frames ∈ R) (h : Inv n nl x M) (hsw : s.wf) (hk : s.kind = 4) : Calls Try.prog 64 [.agg #[cv, hv, fv], .agg s.cells.toArray].toArray w (C2 (fun v : Value × Value × Value × Value => .tuple #[.agg #[v.1, v.2.1, v.2.2.1], v.2.2.2, vi (A0 x s).2.2]) (fun v => L) (fun v => sl v.1 (A0 x s).1.cores :: sl v.2.1 (A0 x s).1.home :: sl v.2.2.1 (A0 x s).1.frames :: sl v.2.2.2 (A0 x s).2.1 :: R)) := by
  have hn := h.n1
  have hnl := h.l1
  have hnc := h.nc
  have hnh := h.nh
  have hfr := h.fr
  have honec : cv.oneCell' = true := isSlice.one (hs.fact hc)
  have honeh : hv.oneCell' = true := isSlice.one (hs.fact hh)
  have honef : fv.oneCell' = true := isSlice.one (hs.fact hf)
  have hsw0 := hsw
  unfold Step.wf Ax at hsw0
  have hop : s.op.wf := by unfold Op.wf Ax; omega
  have hsn : Ax s.node := by unfold Ax; omega
  have hsN : Ax s.n := by unfold Ax; omega
  have hsb : Ax s.bit := by unfold Ax; omega
  have hn64 : Ax (x.cores.length : Int) := by unfold Ax; omega
  have hcw : (A5 x).wf := by unfold A5 Cj Config.wf Ax; simp only; omega
  refine Au Try.func64 rfl Try.ntmps64 rfl hs ?_
  clear hs
  refine sr ?_
  refine bx ?_; intro b2
  refine bx ?_; intro b3
  refine al_ (cs := [.slice none 0 0, .slice none 0 0, .slice none 0 0]) Try.zeroValue46 ?_; intro b4
  refine rn2 ?_
  refine nr ?_
  refine rn1 ?_
  refine nr ?_
  refine rn4 ?_
  refine nr ?_
  refine rn2 ?_
  refine nx ?_
  refine Av ?_
  refine sr ?_
  refine ob (Ah rfl rfl (An (by omega))) ?_
  refine rn1 ?_
  refine nx ?_
  refine cF_ ?_
  refine sr ?_
  refine ob (Ah rfl rfl (An (by omega))) ?_
  refine rn1 ?_
  refine nx ?_
  refine cF_ ?_
  refine sr ?_
  refine ob (Ah rfl rfl (An (by omega))) ?_
  refine rn1 ?_
  refine nx ?_
  refine cF_ ?_
  refine sr ?_
  refine ob (Ah rfl rfl (An (by omega))) ?_
  refine rn1 ?_
  refine nx ?_
  refine cF_ ?_
  refine sr ?_
  refine ob (Ah rfl rfl (A2 (by omega))) ?_
  refine rn1 ?_
  refine nx ?_
  refine cT ?_
  refine Ak ?_
  refine Ae ?_
  refine cT ?_
  refine Ak ?_
  refine As ?_
  refine Ae ?_
  refine sq ?_
  rcases (show (C3 x s.n) ∨ (¬ C3 x s.n) from by exact Classical.em _) with hc | hc
  ·
   have et : Cy x.frames s.n = ([], [], 5) := by unfold Cy; rw [if_pos (by unfold C3 at hc; exact hc)]
   refine Aa ?_
   refine rn4 ?_
   refine A1 (γ := Value × Value) (val := fun v => .tuple #[v.1, v.2, vi 5]) (Rf := fun v => sl v.1 ([] : Frames) :: sl v.2 ([] : List UInt8) :: R) Try.call23 rfl (fun w hs => by have h9 := Gi (l := x.frames) (n := s.n) hs mm hsN; rw [et] at h9; exact h9) ?_; intro ⟨va, vb⟩
   refine rn7 ?_
   refine nx ?_
   refine kp [2, 3, 4, 5, 6, 7, 8, 15, 16, 17, 157, 158] ?_
   refine Aa ?_
   refine rn1 ?_
   refine ob (Ah rfl rfl (C0 (by decide))) ?_
   refine nx ?_
   refine cT ?_
   refine sq ?_
   refine JC.slNil Core ?_
   refine JC.slNil Entry ?_
   refine JC.slNil (List UInt8) ?_
   refine JC.slNil Done ?_
   refine Aa ?_
   refine rn2 ?_
   refine Dw (caps := []) (vs := [vi 5]) rfl Try.call95 rfl (fun w hs => H8 hs) ?_; intro _
   refine rn3 ?_
   refine s_B (cs := [.slice none 0 0, .slice none 0 0, .slice none 0 0]) Try.sizeOf46 ?_
   refine rn2 ?_
   refine nx ?_
   refine rt ?_
   have er : A0 x s = (D4, [], 5) := Uc (by omega) hc
   rw [er]
   refine Aj (.inr rfl) (fun B w hs => Db rfl rfl rfl rfl Try.isAgg46 Try.sizeOf46 pkk rfl B w hs) (fun w hs => ⟨(.slice none 0 0, .slice none 0 0, .slice none 0 0, .slice none 0 0), ?_, Ag hs⟩)
   rfl
  ·
   have hnf := hc
   unfold C3 at hc
   have et : Cy x.frames s.n = ((x.frames.eraseIdx s.n.toNat), (A4 x.frames s.n), 0) := by unfold Cy; rw [if_neg hc]
   refine Aa ?_
   refine rn4 ?_
   refine A1 (γ := Value × Value) (val := fun v => .tuple #[v.1, v.2, vi 0]) (Rf := fun v => sl v.1 (x.frames.eraseIdx s.n.toNat) :: sl v.2 (A4 x.frames s.n) :: R) Try.call23 rfl (fun w hs => by have h9 := Gi (l := x.frames) (n := s.n) hs mm hsN; rw [et] at h9; exact h9) ?_; intro ⟨va, vb⟩
   refine rn7 ?_
   refine nx ?_
   refine kp [2, 3, 4, 5, 6, 7, 8, 15, 16, 17, 157, 158] ?_
   refine Aa ?_
   refine rn1 ?_
   refine ob (Ah rfl rfl (Bu (by decide))) ?_
   refine nx ?_
   refine cF_ ?_
   refine Ak ?_
   refine Ae ?_
   refine sr ?_
   refine rn2 ?_
   refine nx ?_
   refine Av ?_
   refine sr ?_
   refine ob (Ah rfl rfl (A2 (by omega))) ?_
   refine rn1 ?_
   refine nx ?_
   refine cT ?_
   refine sr ?_
   refine rn3 ?_
   refine A1 Try.call21 rfl (fun w hs => Q8 (l := x.frames) (b := (A4 x.frames s.n)) hs mm mm) ?_; intro v172
   refine J.know (p := v172.oneCell' = true) (fun w hs => isSlice.one (hs.fact (List.Mem.head _))) (fun honev172 => ?_)
   refine rn1 ?_
   refine sc ?_
   refine nx ?_
   refine JC.slNil Done ?_
   refine Aa ?_
   refine rn1 ?_
   refine s_B (cs := [cv, hv, v172]) Try.sizeOf46 ?_
   refine rn2 ?_
   refine nx ?_
   refine rt ?_
   have er : A0 x s = (⟨x.cores, x.home, Fq x.frames (A4 x.frames s.n)⟩, [], 0) := by unfold A0; rw [if_neg (by omega), if_neg (by omega), if_neg (by omega), if_pos (by omega), if_neg hnf]
   rw [er]
   refine Aj (.inr rfl) (fun B w hs => Db rfl rfl rfl rfl Try.isAgg46 Try.sizeOf46 pkk rfl B w hs) (fun w hs => ⟨(cv, hv, v172, .slice none 0 0), ?_, Ag hs⟩)
   rfl
theorem S6 {L : List Chunk} {R : List Fact} {w : World} {n nl : Nat} {M : List Int} {cv hv fv : Value} {x : Chip} {s : Step} (hs : St (L) R w) (hc : sl cv x.cores ∈ R) (hh : sl hv x.home ∈ R) (hf : sl fv x.frames ∈ R) (h : Inv n nl x M) (hsw : s.wf) (hk : s.kind = 5) : Calls Try.prog 64 [.agg #[cv, hv, fv], .agg s.cells.toArray].toArray w (C2 (fun v : Value × Value × Value × Value => .tuple #[.agg #[v.1, v.2.1, v.2.2.1], v.2.2.2, vi (A0 x s).2.2]) (fun v => L) (fun v => sl v.1 (A0 x s).1.cores :: sl v.2.1 (A0 x s).1.home :: sl v.2.2.1 (A0 x s).1.frames :: sl v.2.2.2 (A0 x s).2.1 :: R)) := by
  have hn := h.n1
  have hnl := h.l1
  have hnc := h.nc
  have hnh := h.nh
  have hfr := h.fr
  have honec : cv.oneCell' = true := isSlice.one (hs.fact hc)
  have honeh : hv.oneCell' = true := isSlice.one (hs.fact hh)
  have honef : fv.oneCell' = true := isSlice.one (hs.fact hf)
  have hsw0 := hsw
  unfold Step.wf Ax at hsw0
  have hop : s.op.wf := by unfold Op.wf Ax; omega
  have hsn : Ax s.node := by unfold Ax; omega
  have hsN : Ax s.n := by unfold Ax; omega
  have hsb : Ax s.bit := by unfold Ax; omega
  have hn64 : Ax (x.cores.length : Int) := by unfold Ax; omega
  have hcw : (A5 x).wf := by unfold A5 Cj Config.wf Ax; simp only; omega
  refine Au Try.func64 rfl Try.ntmps64 rfl hs ?_
  clear hs
  refine sr ?_
  refine bx ?_; intro b2
  refine bx ?_; intro b3
  refine al_ (cs := [.slice none 0 0, .slice none 0 0, .slice none 0 0]) Try.zeroValue46 ?_; intro b4
  refine rn2 ?_
  refine nr ?_
  refine rn1 ?_
  refine nr ?_
  refine rn4 ?_
  refine nr ?_
  refine rn2 ?_
  refine nx ?_
  refine Av ?_
  refine sr ?_
  refine ob (Ah rfl rfl (An (by omega))) ?_
  refine rn1 ?_
  refine nx ?_
  refine cF_ ?_
  refine sr ?_
  refine ob (Ah rfl rfl (An (by omega))) ?_
  refine rn1 ?_
  refine nx ?_
  refine cF_ ?_
  refine sr ?_
  refine ob (Ah rfl rfl (An (by omega))) ?_
  refine rn1 ?_
  refine nx ?_
  refine cF_ ?_
  refine sr ?_
  refine ob (Ah rfl rfl (An (by omega))) ?_
  refine rn1 ?_
  refine nx ?_
  refine cF_ ?_
  refine sr ?_
  refine ob (Ah rfl rfl (An (by omega))) ?_
  refine rn1 ?_
  refine nx ?_
  refine cF_ ?_
  refine Aa ?_
  refine ob (Ah rfl rfl (A2 (by omega))) ?_
  refine rn1 ?_
  refine nx ?_
  refine cT ?_
  refine Ak ?_
  refine As ?_
  refine Ae ?_
  refine sq ?_
  rcases (show (C3 x s.n) ∨ (¬ C3 x s.n) from by exact Classical.em _) with hc | hc
  ·
   have et : Cy x.frames s.n = ([], [], 5) := by unfold Cy; rw [if_pos (by unfold C3 at hc; exact hc)]
   refine Aa ?_
   refine rn4 ?_
   refine A1 (γ := Value × Value) (val := fun v => .tuple #[v.1, v.2, vi 5]) (Rf := fun v => sl v.1 ([] : Frames) :: sl v.2 ([] : List UInt8) :: R) Try.call23 rfl (fun w hs => by have h9 := Gi (l := x.frames) (n := s.n) hs mm hsN; rw [et] at h9; exact h9) ?_; intro ⟨va, vb⟩
   refine rn7 ?_
   refine nx ?_
   refine kp [2, 3, 4, 5, 6, 7, 8, 15, 16, 17, 157, 158] ?_
   refine Aa ?_
   refine rn1 ?_
   refine ob (Ah rfl rfl (C0 (by decide))) ?_
   refine nx ?_
   refine cT ?_
   refine sq ?_
   refine JC.slNil Core ?_
   refine JC.slNil Entry ?_
   refine JC.slNil (List UInt8) ?_
   refine JC.slNil Done ?_
   refine Aa ?_
   refine rn2 ?_
   refine Dw (caps := []) (vs := [vi 5]) rfl Try.call95 rfl (fun w hs => H8 hs) ?_; intro _
   refine rn3 ?_
   refine s_B (cs := [.slice none 0 0, .slice none 0 0, .slice none 0 0]) Try.sizeOf46 ?_
   refine rn2 ?_
   refine nx ?_
   refine rt ?_
   have er : A0 x s = (D4, [], 5) := Uc (by omega) hc
   rw [er]
   refine Aj (.inr rfl) (fun B w hs => Db rfl rfl rfl rfl Try.isAgg46 Try.sizeOf46 pkk rfl B w hs) (fun w hs => ⟨(.slice none 0 0, .slice none 0 0, .slice none 0 0, .slice none 0 0), ?_, Ag hs⟩)
   rfl
  ·
   have hnf := hc
   unfold C3 at hc
   have et : Cy x.frames s.n = ((x.frames.eraseIdx s.n.toNat), (A4 x.frames s.n), 0) := by unfold Cy; rw [if_neg hc]
   refine Aa ?_
   refine rn4 ?_
   refine A1 (γ := Value × Value) (val := fun v => .tuple #[v.1, v.2, vi 0]) (Rf := fun v => sl v.1 (x.frames.eraseIdx s.n.toNat) :: sl v.2 (A4 x.frames s.n) :: R) Try.call23 rfl (fun w hs => by have h9 := Gi (l := x.frames) (n := s.n) hs mm hsN; rw [et] at h9; exact h9) ?_; intro ⟨va, vb⟩
   refine rn7 ?_
   refine nx ?_
   refine kp [2, 3, 4, 5, 6, 7, 8, 15, 16, 17, 157, 158] ?_
   refine Aa ?_
   refine rn1 ?_
   refine ob (Ah rfl rfl (Bu (by decide))) ?_
   refine nx ?_
   refine cF_ ?_
   refine Ak ?_
   refine Ae ?_
   refine sr ?_
   refine rn2 ?_
   refine nx ?_
   refine Av ?_
   refine sr ?_
   refine ob (Ah rfl rfl (An (by omega))) ?_
   refine rn1 ?_
   refine nx ?_
   refine cF_ ?_
   refine sr ?_
   refine ob (Ah rfl rfl (A2 (by omega))) ?_
   refine rn1 ?_
   refine nx ?_
   refine cT ?_
   refine sr ?_
   refine rn6 ?_
   refine A1 Try.call57 rfl (fun w hs => Oz (c := (A5 x)) (b := (A4 x.frames s.n)) hs mm hcw) ?_; intro _
   refine rn3 ?_
   refine al_ (cs := zMsg.cells) Try.zeroValue42 ?_; intro b18
   refine s_B (cs := (Am (A5 x) (A4 x.frames s.n)).1.cells) Try.sizeOf42 ?_
   refine rn1 ?_
   refine nr ?_
   refine rn2 ?_
   refine nx ?_
   refine cdx (p := ?p1) (hd := ?d1) ?e1 ?_ ?_; case e1 => exact rfl
   ·
    intro ht188
    refine sq ?_
    refine JC.slNil Core ?_
    refine JC.slNil Entry ?_
    refine JC.slNil (List UInt8) ?_
    refine JC.slNil Done ?_
    refine Aa ?_
    refine rn1 ?_
    refine Dw (caps := []) (vs := [vi 6]) rfl Try.call95 rfl (fun w hs => H8 hs) ?_; intro _
    refine rn3 ?_
    refine s_B (cs := [.slice none 0 0, .slice none 0 0, .slice none 0 0]) Try.sizeOf46 ?_
    refine rn2 ?_
    refine nx ?_
    refine rt ?_
    have er : A0 x s = (D4, [], 6) := by unfold A0; rw [if_neg (by omega), if_neg (by omega), if_neg (by omega), if_neg (by omega), if_pos (by omega), if_neg hnf]; rw [if_pos ht188]
    rw [er]
    refine Aj (.inr rfl) (fun B w hs => Db rfl rfl rfl rfl Try.isAgg46 Try.sizeOf46 pkk rfl B w hs) (fun w hs => ⟨(.slice none 0 0, .slice none 0 0, .slice none 0 0, .slice none 0 0), ?_, Ag hs⟩)
    rfl
   ·
    intro ht188
    refine Ak ?_
    refine Ae ?_
    refine sq ?_
    have hb12 : (A4 x.frames s.n).length = 12 := (h.mi _ (Hp hc)).1
    rcases (show (s.bit < 0) ∨ (0 ≤ s.bit ∧ 8 * ((A4 x.frames s.n).length : Int) ≤ s.bit) ∨ (0 ≤ s.bit ∧ s.bit < 8 * ((A4 x.frames s.n).length : Int)) from by omega) with hc | hc | hc
    ·
     have esp : Er x.frames s.n s.bit = ([], 3) := by unfold Er; rw [if_neg (by omega), if_pos (by omega)]
     refine Aa ?_
     refine rn2 ?_
     refine ob (Ah rfl rfl (C8 (by omega))) ?_
     refine rn8 ?_
     refine nx ?_
     refine cT ?_
     refine sq ?_
     refine JC.slNil Core ?_
     refine JC.slNil Entry ?_
     refine JC.slNil (List UInt8) ?_
     refine JC.slNil Done ?_
     refine kp [2, 3, 4, 5, 6, 7, 8, 15, 16, 17, 205, 206, 207, 208, 209] ?_
     refine Aa ?_
     refine rn1 ?_
     refine Dw (caps := []) (vs := [vi 3]) rfl Try.call95 rfl (fun w hs => H8 hs) ?_; intro _
     refine rn3 ?_
     refine s_B (cs := [.slice none 0 0, .slice none 0 0, .slice none 0 0]) Try.sizeOf46 ?_
     refine rn2 ?_
     refine nx ?_
     refine rt ?_
     have er : A0 x s = (D4, [], 3) := by unfold A0; rw [if_neg (by omega), if_neg (by omega), if_neg (by omega), if_neg (by omega), if_pos (by omega), if_neg hnf]; rw [if_neg ht188, esp, if_pos (by decide)]
     rw [er]
     refine Aj (.inr rfl) (fun B w hs => Db rfl rfl rfl rfl Try.isAgg46 Try.sizeOf46 pkk rfl B w hs) (fun w hs => ⟨(.slice none 0 0, .slice none 0 0, .slice none 0 0, .slice none 0 0), ?_, Ag hs⟩)
     rfl
    ·
     have esp : Er x.frames s.n s.bit = ([], 3) := by unfold Er; rw [if_neg (by omega), if_pos (by omega)]
     refine Aa ?_
     refine rn2 ?_
     refine ob (Ah rfl rfl (Az (by omega))) ?_
     refine rn5 ?_
     refine gy ?_
     refine ob (Ah (a := 8) (b := ((A4 x.frames s.n).length : Int)) rfl rfl (Ns (by omega) (by omega))) ?_
     refine gy ?_
     refine ob (Ah rfl rfl (D7 (by omega))) ?_
     refine rn1 ?_
     refine nx ?_
     refine cT ?_
     refine sq ?_
     refine JC.slNil Core ?_
     refine JC.slNil Entry ?_
     refine JC.slNil (List UInt8) ?_
     refine JC.slNil Done ?_
     refine kp [2, 3, 4, 5, 6, 7, 8, 15, 16, 17, 205, 206, 207, 208, 209] ?_
     refine Aa ?_
     refine rn1 ?_
     refine Dw (caps := []) (vs := [vi 3]) rfl Try.call95 rfl (fun w hs => H8 hs) ?_; intro _
     refine rn3 ?_
     refine s_B (cs := [.slice none 0 0, .slice none 0 0, .slice none 0 0]) Try.sizeOf46 ?_
     refine rn2 ?_
     refine nx ?_
     refine rt ?_
     have er : A0 x s = (D4, [], 3) := by unfold A0; rw [if_neg (by omega), if_neg (by omega), if_neg (by omega), if_neg (by omega), if_pos (by omega), if_neg hnf]; rw [if_neg ht188, esp, if_pos (by decide)]
     rw [er]
     refine Aj (.inr rfl) (fun B w hs => Db rfl rfl rfl rfl Try.isAgg46 Try.sizeOf46 pkk rfl B w hs) (fun w hs => ⟨(.slice none 0 0, .slice none 0 0, .slice none 0 0, .slice none 0 0), ?_, Ag hs⟩)
     rfl
    ·
     have esp : Er x.frames s.n s.bit = (x.frames.set s.n.toNat (Bt (A4 x.frames s.n) s.bit), 0) := by unfold Er; rw [if_neg (by omega), if_neg (by omega)]
     refine Aa ?_
     refine rn2 ?_
     refine ob (Ah rfl rfl (Az (by omega))) ?_
     refine rn5 ?_
     refine gy ?_
     refine ob (Ah (a := 8) (b := ((A4 x.frames s.n).length : Int)) rfl rfl (Ns (by omega) (by omega))) ?_
     refine gy ?_
     refine ob (Ah rfl rfl (Bd (by omega))) ?_
     refine rn1 ?_
     refine nx ?_
     refine cF_ ?_
     refine Ak ?_
     refine Ae ?_
     refine sq ?_
     refine kp [2, 3, 4, 5, 6, 8, 15, 16, 17, 20, 210, 211, 212, 213] ?_
     refine Aa ?_
     refine liO ([] : Frames) Nj rfl (fun j h => Fu) ?_; intro v210
     refine rn2 ?_
     refine ap Nj (hb := fun w hs => by have : maxN = 16777216 := rfl; simp only [List.length_nil]; omega) (k := ?_); intro v213
     refine rn1 ?_
     refine nx ?_
     refine JC.conseq (L' := row 23 v213 x.frames :: blk b2 46 [cv, hv, fv] :: blk b3 98 s.cells :: blk b4 46 [.slice none 0 0, .slice none 0 0, .slice none 0 0] :: L) (fun w hs => Ag hs) ?_
     refine Al Ay (by kernel_rfl) (by kernel_rfl) (fun ρ S => row 23 v213 (bif S 8 then (x.frames.set s.n.toNat (Bt (A4 x.frames s.n) s.bit)) else x.frames) :: blk b2 46 [cv, hv, fv] :: blk b3 98 s.cells :: blk b4 46 [.slice none 0 0, .slice none 0 0, .slice none 0 0] :: L) (fun _ => rfl) ?_
     refine dn6 ?_
     refine Cb (γ := Value) (val := fun v => v) (F := fun v => [sl v (Bt (A4 x.frames s.n) s.bit)]) Try.call26 (fun _ => rfl) (fun ρ L R w hd hs => Ji (b := (A4 x.frames s.n)) (bit := s.bit) hs (hd.base mm) hsb) (fun _ _ _ _ _ => rfl) ?_
     refine Dl (v := ep v213 1 s.n.toNat 0) (fun ρ S => Lo (v := v213) (len := (bif S 8 then (x.frames.set s.n.toNat (Bt (A4 x.frames s.n) s.bit)) else x.frames).length) (i := s.n) so_22 (hl := Eg .hd) (h0 := by omega) (h1 := by cases S 8 <;> simp <;> omega)) (fun _ _ _ _ _ => rfl) ?_
     refine Ub (T0 := 23) (v := v213) (xs := x.frames) (k := s.n.toNat) (e' := (Bt (A4 x.frames s.n) s.bit)) (c := fun ρ => (Gh.dec (γ := Value) (ρ 6))) (cs := fun ρ => [(Gh.dec (γ := Value) (ρ 6))]) Try.sizeOf23 rfl (by omega) (fun _ => rfl) (fun _ => rfl) (fun _ h => F0 h) (fun ρ R w L' hd hs => isSlice.one (hs.fact (hd.dep (it := ⟨6, _, _, _, _⟩) (by repeat (first | exact List.Mem.head _ | refine List.Mem.tail _ ?_)) ⟨9, rfl⟩ (List.Mem.head _)))) (fun ρ R hd j hj => ⟨_, rfl, hj _ (hd.dep (it := ⟨6, _, _, _, _⟩) (by repeat (first | exact List.Mem.head _ | refine List.Mem.tail _ ?_)) ⟨9, rfl⟩ (List.Mem.head _))⟩) (fun ρ g S hS hB hA => ?_) ?_
     ·
      have ui : upS S 8 8 = true := rfl
      simp only [ui, hS, cond_true, cond_false]
      exact Pos.ex (by repeat (first | exact .hd | exact .hc | apply Pos.tl | apply Pos.ap))
     refine Aw ?_; intro ρ; simp only [Ao, facts, Bb, List.append_nil, List.nil_append, List.cons_append]
     refine JX.conseq (L' := row 23 v213 (x.frames.set s.n.toNat (Bt (A4 x.frames s.n) s.bit)) :: blk b2 46 [cv, hv, fv] :: blk b3 98 s.cells :: blk b4 46 [.slice none 0 0, .slice none 0 0, .slice none 0 0] :: L) (fun w hs => hs) ?_
     generalize (Gh.dec (γ := Value) (ρ 6)) = v220
     refine Ae ?_
     refine sq ?_
     refine JC.shut (v := v213) pkk ?_
     refine JC.know (p := v213.oneCell' = true) (fun w hs => isSlice.one (hs.fact (List.Mem.head _))) (fun honev213 => ?_)
     refine Aa ?_
     refine rn2 ?_
     refine sc ?_
     refine nx ?_
     refine JC.slNil Done ?_
     refine Aa ?_
     refine rn1 ?_
     refine s_B (cs := [cv, hv, v213]) Try.sizeOf46 ?_
     refine rn2 ?_
     refine nx ?_
     refine rt ?_
     have er : A0 x s = (⟨x.cores, x.home, x.frames.set s.n.toNat (Bt (A4 x.frames s.n) s.bit)⟩, [], 0) := by unfold A0; rw [if_neg (by omega), if_neg (by omega), if_neg (by omega), if_neg (by omega), if_pos (by omega), if_neg hnf]; rw [if_neg ht188, esp, if_neg (fun h => h rfl)]
     rw [er]
     refine Aj (.inr rfl) (fun B w hs => Db rfl rfl rfl rfl Try.isAgg46 Try.sizeOf46 pkk rfl B w hs) (fun w hs => ⟨(cv, hv, v213, .slice none 0 0), ?_, Ag hs⟩)
     rfl
end Go.Proofs.Ytofgpimoekhfaaa

/- This file proves what a step does to a chip, by the document's answer: some kinds of steps. No conditions. -/
set_option linter.unusedVariables false
set_option linter.unusedSimpArgs false
set_option maxHeartbeats 1000000
set_option maxRecDepth 8000
namespace Go.Proofs.Ytofgpimoekhfaaa
open Go
theorem S8 {L : List Chunk} {R : List Fact} {w : World} {n nl : Nat} {M : List Int} {cv hv fv : Value} {x : Chip} {s : Step} (hs : St (L) R w) (hc : sl cv x.cores ∈ R) (hh : sl hv x.home ∈ R) (hf : sl fv x.frames ∈ R) (h : Inv n nl x M) (hsw : s.wf) (hk : s.kind = 3) : Calls Try.prog 64 [.agg #[cv, hv, fv], .agg s.cells.toArray].toArray w (C2 (fun v : Value × Value × Value × Value => .tuple #[.agg #[v.1, v.2.1, v.2.2.1], v.2.2.2, vi (A0 x s).2.2]) (fun v => L) (fun v => sl v.1 (A0 x s).1.cores :: sl v.2.1 (A0 x s).1.home :: sl v.2.2.1 (A0 x s).1.frames :: sl v.2.2.2 (A0 x s).2.1 :: R)) := by
  have hn := h.n1
  have hnl := h.l1
  have hnc := h.nc
  have hnh := h.nh
  have hfr := h.fr
  have honec : cv.oneCell' = true := isSlice.one (hs.fact hc)
  have honeh : hv.oneCell' = true := isSlice.one (hs.fact hh)
  have honef : fv.oneCell' = true := isSlice.one (hs.fact hf)
  have hsw0 := hsw
  unfold Step.wf Ax at hsw0
  have hop : s.op.wf := by unfold Op.wf Ax; omega
  have hsn : Ax s.node := by unfold Ax; omega
  have hsN : Ax s.n := by unfold Ax; omega
  have hsb : Ax s.bit := by unfold Ax; omega
  have hn64 : Ax (x.cores.length : Int) := by unfold Ax; omega
  have hcw : (A5 x).wf := by unfold A5 Cj Config.wf Ax; simp only; omega
  refine Au Try.func64 rfl Try.ntmps64 rfl hs ?_
  clear hs
  refine sr ?_
  refine bx ?_; intro b2
  refine bx ?_; intro b3
  refine al_ (cs := [.slice none 0 0, .slice none 0 0, .slice none 0 0]) Try.zeroValue46 ?_; intro b4
  refine rn2 ?_
  refine nr ?_
  refine rn1 ?_
  refine nr ?_
  refine rn4 ?_
  refine nr ?_
  refine rn2 ?_
  refine nx ?_
  refine Av ?_
  refine sr ?_
  refine ob (Ah rfl rfl (An (by omega))) ?_
  refine rn1 ?_
  refine nx ?_
  refine cF_ ?_
  refine sr ?_
  refine ob (Ah rfl rfl (An (by omega))) ?_
  refine rn1 ?_
  refine nx ?_
  refine cF_ ?_
  refine sr ?_
  refine ob (Ah rfl rfl (An (by omega))) ?_
  refine rn1 ?_
  refine nx ?_
  refine cF_ ?_
  refine sr ?_
  refine ob (Ah rfl rfl (A2 (by omega))) ?_
  refine rn1 ?_
  refine nx ?_
  refine cT ?_
  refine Ak ?_
  refine Ae ?_
  refine cT ?_
  refine Ak ?_
  refine As ?_
  refine Ae ?_
  refine sq ?_
  rcases (show (C3 x s.n) ∨ (¬ C3 x s.n) from by exact Classical.em _) with hc | hc
  ·
   have et : Cy x.frames s.n = ([], [], 5) := by unfold Cy; rw [if_pos (by unfold C3 at hc; exact hc)]
   refine Aa ?_
   refine rn4 ?_
   refine A1 (γ := Value × Value) (val := fun v => .tuple #[v.1, v.2, vi 5]) (Rf := fun v => sl v.1 ([] : Frames) :: sl v.2 ([] : List UInt8) :: R) Try.call23 rfl (fun w hs => by have h9 := Gi (l := x.frames) (n := s.n) hs mm hsN; rw [et] at h9; exact h9) ?_; intro ⟨va, vb⟩
   refine rn7 ?_
   refine nx ?_
   refine kp [2, 3, 4, 5, 6, 7, 8, 15, 16, 17, 157, 158] ?_
   refine Aa ?_
   refine rn1 ?_
   refine ob (Ah rfl rfl (C0 (by decide))) ?_
   refine nx ?_
   refine cT ?_
   refine sq ?_
   refine JC.slNil Core ?_
   refine JC.slNil Entry ?_
   refine JC.slNil (List UInt8) ?_
   refine JC.slNil Done ?_
   refine Aa ?_
   refine rn2 ?_
   refine Dw (caps := []) (vs := [vi 5]) rfl Try.call95 rfl (fun w hs => H8 hs) ?_; intro _
   refine rn3 ?_
   refine s_B (cs := [.slice none 0 0, .slice none 0 0, .slice none 0 0]) Try.sizeOf46 ?_
   refine rn2 ?_
   refine nx ?_
   refine rt ?_
   have er : A0 x s = (D4, [], 5) := Uc (by omega) hc
   rw [er]
   refine Aj (.inr rfl) (fun B w hs => Db rfl rfl rfl rfl Try.isAgg46 Try.sizeOf46 pkk rfl B w hs) (fun w hs => ⟨(.slice none 0 0, .slice none 0 0, .slice none 0 0, .slice none 0 0), ?_, Ag hs⟩)
   rfl
  ·
   have hnf := hc
   unfold C3 at hc
   have et : Cy x.frames s.n = ((x.frames.eraseIdx s.n.toNat), (A4 x.frames s.n), 0) := by unfold Cy; rw [if_neg hc]
   refine Aa ?_
   refine rn4 ?_
   refine A1 (γ := Value × Value) (val := fun v => .tuple #[v.1, v.2, vi 0]) (Rf := fun v => sl v.1 (x.frames.eraseIdx s.n.toNat) :: sl v.2 (A4 x.frames s.n) :: R) Try.call23 rfl (fun w hs => by have h9 := Gi (l := x.frames) (n := s.n) hs mm hsN; rw [et] at h9; exact h9) ?_; intro ⟨va, vb⟩
   refine rn7 ?_
   refine nx ?_
   refine kp [2, 3, 4, 5, 6, 7, 8, 15, 16, 17, 157, 158] ?_
   refine Aa ?_
   refine rn1 ?_
   refine ob (Ah rfl rfl (Bu (by decide))) ?_
   refine nx ?_
   refine cF_ ?_
   refine Ak ?_
   refine Ae ?_
   refine sr ?_
   refine rn2 ?_
   refine nx ?_
   refine Av ?_
   refine sr ?_
   refine ob (Ah rfl rfl (An (by omega))) ?_
   refine rn1 ?_
   refine nx ?_
   refine cF_ ?_
   refine sr ?_
   refine ob (Ah rfl rfl (An (by omega))) ?_
   refine rn1 ?_
   refine nx ?_
   refine cF_ ?_
   refine Ak ?_
   refine As ?_
   refine Ae ?_
   refine sq ?_
   refine JC.know (p := va.oneCell' = true) (fun w hs => isSlice.one (hs.fact (mm (f := sl va (x.frames.eraseIdx s.n.toNat))))) (fun honea => ?_)
   refine Aa ?_
   refine rn2 ?_
   refine sc ?_
   refine nr ?_
   refine rn2 ?_
   refine ob (Ah rfl rfl (A2 (by omega))) ?_
   refine nx ?_
   refine cT ?_
   refine sq ?_
   refine JC.slNil Done ?_
   refine Aa ?_
   refine rn1 ?_
   refine s_B (cs := [cv, hv, va]) Try.sizeOf46 ?_
   refine rn2 ?_
   refine nx ?_
   refine rt ?_
   have er : A0 x s = (⟨x.cores, x.home, (x.frames.eraseIdx s.n.toNat)⟩, [], 0) := by unfold A0; rw [if_neg (by omega), if_neg (by omega), if_pos (by omega), if_neg hnf]
   rw [er]
   refine Aj (.inr rfl) (fun B w hs => Db rfl rfl rfl rfl Try.isAgg46 Try.sizeOf46 pkk rfl B w hs) (fun w hs => ⟨(cv, hv, va, .slice none 0 0), ?_, Ag hs⟩)
   rfl
theorem S9 {L : List Chunk} {R : List Fact} {w : World} {n nl : Nat} {M : List Int} {cv hv fv : Value} {x : Chip} {s : Step} (hs : St (L) R w) (hc : sl cv x.cores ∈ R) (hh : sl hv x.home ∈ R) (hf : sl fv x.frames ∈ R) (h : Inv n nl x M) (hsw : s.wf) (hk : s.kind = 2) : Calls Try.prog 64 [.agg #[cv, hv, fv], .agg s.cells.toArray].toArray w (C2 (fun v : Value × Value × Value × Value => .tuple #[.agg #[v.1, v.2.1, v.2.2.1], v.2.2.2, vi (A0 x s).2.2]) (fun v => L) (fun v => sl v.1 (A0 x s).1.cores :: sl v.2.1 (A0 x s).1.home :: sl v.2.2.1 (A0 x s).1.frames :: sl v.2.2.2 (A0 x s).2.1 :: R)) := by
  have hn := h.n1
  have hnl := h.l1
  have hnc := h.nc
  have hnh := h.nh
  have hfr := h.fr
  have honec : cv.oneCell' = true := isSlice.one (hs.fact hc)
  have honeh : hv.oneCell' = true := isSlice.one (hs.fact hh)
  have honef : fv.oneCell' = true := isSlice.one (hs.fact hf)
  have hsw0 := hsw
  unfold Step.wf Ax at hsw0
  have hop : s.op.wf := by unfold Op.wf Ax; omega
  have hsn : Ax s.node := by unfold Ax; omega
  have hsN : Ax s.n := by unfold Ax; omega
  have hsb : Ax s.bit := by unfold Ax; omega
  have hn64 : Ax (x.cores.length : Int) := by unfold Ax; omega
  have hcw : (A5 x).wf := by unfold A5 Cj Config.wf Ax; simp only; omega
  refine Au Try.func64 rfl Try.ntmps64 rfl hs ?_
  clear hs
  refine sr ?_
  refine bx ?_; intro b2
  refine bx ?_; intro b3
  refine al_ (cs := [.slice none 0 0, .slice none 0 0, .slice none 0 0]) Try.zeroValue46 ?_; intro b4
  refine rn2 ?_
  refine nr ?_
  refine rn1 ?_
  refine nr ?_
  refine rn4 ?_
  refine nr ?_
  refine rn2 ?_
  refine nx ?_
  refine Av ?_
  refine sr ?_
  refine ob (Ah rfl rfl (An (by omega))) ?_
  refine rn1 ?_
  refine nx ?_
  refine cF_ ?_
  refine sr ?_
  refine ob (Ah rfl rfl (An (by omega))) ?_
  refine rn1 ?_
  refine nx ?_
  refine cF_ ?_
  refine sr ?_
  refine ob (Ah rfl rfl (A2 (by omega))) ?_
  refine rn1 ?_
  refine nx ?_
  refine cT ?_
  refine Ak ?_
  refine Ae ?_
  refine cT ?_
  refine Ak ?_
  refine As ?_
  refine Ae ?_
  refine sq ?_
  rcases (show (C3 x s.n) ∨ (¬ C3 x s.n) from by exact Classical.em _) with hc | hc
  ·
   have et : Cy x.frames s.n = ([], [], 5) := by unfold Cy; rw [if_pos (by unfold C3 at hc; exact hc)]
   refine Aa ?_
   refine rn4 ?_
   refine A1 (γ := Value × Value) (val := fun v => .tuple #[v.1, v.2, vi 5]) (Rf := fun v => sl v.1 ([] : Frames) :: sl v.2 ([] : List UInt8) :: R) Try.call23 rfl (fun w hs => by have h9 := Gi (l := x.frames) (n := s.n) hs mm hsN; rw [et] at h9; exact h9) ?_; intro ⟨va, vb⟩
   refine rn7 ?_
   refine nr ?_
   refine rn1 ?_
   refine ob (Ah rfl rfl (C0 (by decide))) ?_
   refine nx ?_
   refine cT ?_
   refine sq ?_
   refine JC.slNil Core ?_
   refine JC.slNil Entry ?_
   refine JC.slNil (List UInt8) ?_
   refine JC.slNil Done ?_
   refine kp [2, 3, 4, 5, 6, 7, 8, 15, 16, 17, 159, 160, 161, 162, 163, 164] ?_
   refine Aa ?_
   refine rn2 ?_
   refine Dw (caps := []) (vs := [vi 5]) rfl Try.call95 rfl (fun w hs => H8 hs) ?_; intro _
   refine rn3 ?_
   refine s_B (cs := [.slice none 0 0, .slice none 0 0, .slice none 0 0]) Try.sizeOf46 ?_
   refine rn2 ?_
   refine nx ?_
   refine rt ?_
   have er : A0 x s = (D4, [], 5) := Uc (by omega) hc
   rw [er]
   refine Aj (.inr rfl) (fun B w hs => Db rfl rfl rfl rfl Try.isAgg46 Try.sizeOf46 pkk rfl B w hs) (fun w hs => ⟨(.slice none 0 0, .slice none 0 0, .slice none 0 0, .slice none 0 0), ?_, Ag hs⟩)
   rfl
  ·
   have hnf := hc
   unfold C3 at hc
   have et : Cy x.frames s.n = ((x.frames.eraseIdx s.n.toNat), (A4 x.frames s.n), 0) := by unfold Cy; rw [if_neg hc]
   refine Aa ?_
   refine rn4 ?_
   refine A1 (γ := Value × Value) (val := fun v => .tuple #[v.1, v.2, vi 0]) (Rf := fun v => sl v.1 (x.frames.eraseIdx s.n.toNat) :: sl v.2 (A4 x.frames s.n) :: R) Try.call23 rfl (fun w hs => by have h9 := Gi (l := x.frames) (n := s.n) hs mm hsN; rw [et] at h9; exact h9) ?_; intro ⟨va, vb⟩
   refine rn7 ?_
   refine nr ?_
   refine rn1 ?_
   refine ob (Ah rfl rfl (Bu (by decide))) ?_
   refine nx ?_
   refine cF_ ?_
   refine Ak ?_
   refine Ae ?_
   refine sq ?_
   refine kp [2, 3, 4, 5, 6, 7, 8, 15, 16, 17, 165, 166] ?_
   refine Aa ?_
   refine rn2 ?_
   refine nx ?_
   refine Av ?_
   refine sr ?_
   refine ob (Ah rfl rfl (An (by omega))) ?_
   refine rn1 ?_
   refine nx ?_
   refine cF_ ?_
   refine sr ?_
   refine ob (Ah rfl rfl (An (by omega))) ?_
   refine rn1 ?_
   refine nx ?_
   refine cF_ ?_
   refine Ak ?_
   refine As ?_
   refine Ae ?_
   refine sq ?_
   refine JC.know (p := va.oneCell' = true) (fun w hs => isSlice.one (hs.fact (mm (f := sl va (x.frames.eraseIdx s.n.toNat))))) (fun honea => ?_)
   refine Aa ?_
   refine rn2 ?_
   refine sc ?_
   refine nr ?_
   refine rn2 ?_
   refine ob (Ah rfl rfl (An (by omega))) ?_
   refine nx ?_
   refine cF_ ?_
   refine Ak ?_
   refine Ae ?_
   refine sr ?_
   refine rn6 ?_
   refine A1 Try.call57 rfl (fun w hs => Oz (c := (A5 x)) (b := (A4 x.frames s.n)) hs mm hcw) ?_; intro _
   refine rn3 ?_
   refine al_ (cs := zMsg.cells) Try.zeroValue42 ?_; intro b21
   refine s_B (cs := (Am (A5 x) (A4 x.frames s.n)).1.cells) Try.sizeOf42 ?_
   refine rn1 ?_
   refine nr ?_
   refine rn2 ?_
   refine nx ?_
   refine cdx (p := ?p1) (hd := ?d1) ?e1 ?_ ?_; case e1 => exact rfl
   ·
    intro ht242
    refine sq ?_
    refine JC.slNil Done ?_
    refine Aa ?_
    refine rn1 ?_
    refine s_B (cs := [cv, hv, va]) Try.sizeOf46 ?_
    refine rn2 ?_
    refine nx ?_
    refine rt ?_
    have er : A0 x s = (⟨x.cores, x.home, (x.frames.eraseIdx s.n.toNat)⟩, [], 0) := by unfold A0; rw [if_neg (by omega), if_pos (by omega), if_neg hnf]; unfold Fa; rw [show A5 ⟨x.cores, x.home, (x.frames.eraseIdx s.n.toNat)⟩ = A5 x from rfl]; rw [if_pos ht242]
    rw [er]
    refine Aj (.inr rfl) (fun B w hs => Db rfl rfl rfl rfl Try.isAgg46 Try.sizeOf46 pkk rfl B w hs) (fun w hs => ⟨(cv, hv, va, .slice none 0 0), ?_, Ag hs⟩)
    rfl
   ·
    intro ht242
    refine Ak ?_
    refine Ae ?_
    refine sq ?_
    have hp0 : (Am (A5 x) (A4 x.frames s.n)).2 = 0 := Decidable.not_not.1 ht242
    have hpk := I5 (c := (A5 x)) (b := (A4 x.frames s.n)) (m := (Am (A5 x) (A4 x.frames s.n)).1) (by rw [← hp0])
    have hwk := Hj hpk.2.2.2.2.1
    have hpw : (Am (A5 x) (A4 x.frames s.n)).1.wf := by rw [hpk.2.2.2.2.2]; exact O3 _
    have ecn : (A5 x).cores = (x.cores.length : Int) := rfl
    rw [ecn] at hwk
    refine JC.slNil Done ?_
    refine Aa ?_
    refine rn4 ?_
    refine nx ?_
    refine cdx (p := ?p2) (hd := ?d2) ?e2 ?_ ?_; case e2 => exact rfl
    ·
     intro ht247
     refine sq ?_
     refine kp [2, 4, 5, 6, 8, 21, 22, 23, 248, 249, 250, 251, 252, 253, 254, 255] ?_
     refine Aa ?_
     refine rn4 ?_
     refine A1 Try.call30 rfl (fun w hs => Jk (l := x.home) (id := (x.cores.length : Int)) (m := (Am (A5 x) (A4 x.frames s.n)).1) hs mm (fun i hi => (h.ebs i hi).1) (fun i hi => (h.ebs i hi).2.2.2.2) hpw hn64) ?_; intro ⟨v253a, v253b⟩
     refine rn5 ?_
     refine nx ?_
     refine JC.know (p := v253a.oneCell' = true) (fun w hs => isSlice.one (hs.fact (mm (f := sl v253a (Ai x.home (x.cores.length : Int) (Am (A5 x) (A4 x.frames s.n)).1).1)))) (fun honeva => ?_)
     refine Aa ?_
     refine rn2 ?_
     refine sc ?_
     refine nr ?_
     refine rn3 ?_
     refine A1 Try.call97 rfl (fun w hs => Mq (fs := (x.frames.eraseIdx s.n.toNat)) (ms := (Ai x.home (x.cores.length : Int) (Am (A5 x) (A4 x.frames s.n)).1).2) hs mm mm (Oi (by omega) (by omega) h.ebs hwk.2.2.2.1 hwk.2.2.2.2.2.1)) ?_; intro v261
     refine J.know (p := v261.oneCell' = true) (fun w hs => isSlice.one (hs.fact (List.Mem.head _))) (fun honev261 => ?_)
     refine rn1 ?_
     refine sc ?_
     refine nr ?_
     refine rn1 ?_
     refine s_B (cs := [cv, v253a, v261]) Try.sizeOf46 ?_
     refine rn2 ?_
     refine nx ?_
     refine rt ?_
     have er : A0 x s = (⟨x.cores, (Ai x.home (x.cores.length : Int) (Am (A5 x) (A4 x.frames s.n)).1).1, way (x.frames.eraseIdx s.n.toNat) (Ai x.home (x.cores.length : Int) (Am (A5 x) (A4 x.frames s.n)).1).2⟩, [], 0) := by unfold A0; rw [if_neg (by omega), if_pos (by omega), if_neg hnf]; unfold Fa; rw [show A5 ⟨x.cores, x.home, (x.frames.eraseIdx s.n.toNat)⟩ = A5 x from rfl]; rw [if_neg ht242, if_pos (show (Am (A5 x) (A4 x.frames s.n)).1.dst = Cj ⟨x.cores, x.home, (x.frames.eraseIdx s.n.toNat)⟩ from ht247)]; rfl
     rw [er]
     refine Aj (.inr rfl) (fun B w hs => Db rfl rfl rfl rfl Try.isAgg46 Try.sizeOf46 pkk rfl B w hs) (fun w hs => ⟨(cv, v253a, v261, .slice none 0 0), ?_, Ag hs⟩)
     rfl
    ·
     intro ht247
     refine Ak ?_
     refine Ae ?_
     refine sq ?_
     refine Lq (x := x) (v := cv) (Am (A5 x) (A4 x.frames s.n)).1.dst mm (by omega) (by omega) (fun hwt u => ?_)
     have hkb : KB (Ba x (Am (A5 x) (A4 x.frames s.n)).1.dst) := h.kb (p := (Am (A5 x) (A4 x.frames s.n)).1.dst.toNat) (by omega)
     have hlb := h.lbs (p := (Am (A5 x) (A4 x.frames s.n)).1.dst) (by omega)
     have hk4 := hkb.n
     have hpd64 : Ax (Am (A5 x) (A4 x.frames s.n)).1.dst := by unfold Ax; omega
     refine kp [2, 4, 5, 6, 8, 21, 24, 25, 26, 264, 265, 266, 267, 268, 269, 270, 271, 272, 273, 274, 275, 276, 277, 278] ?_
     refine JC.conseq (L' := blk b2 46 [cv, hv, va] :: blk b21 42 (Am (A5 x) (A4 x.frames s.n)).1.cells :: blk b3 98 s.cells :: blk b4 46 [.slice none 0 0, .slice none 0 0, .slice none 0 0] :: L) (fun w hs => Ag hs) ?_
     refine Al Ay (by kernel_rfl) (by kernel_rfl) (fun ρ S => blk b2 46 [cv, hv, va] :: blk b21 42 (Am (A5 x) (A4 x.frames s.n)).1.cells :: blk b3 98 s.cells :: blk b4 46 [.slice none 0 0, .slice none 0 0, .slice none 0 0] :: ((bif S 15 then [blk (Gh.dec (γ := Nat) (ρ 15)) 69 (bif S 16 then [(Gh.dec (γ := Value × Value × Value) (ρ 10)).1, vi (Ap (Ba x (Am (A5 x) (A4 x.frames s.n)).1.dst) (Am (A5 x) (A4 x.frames s.n)).1.dst (x.cores.length : Int) (Am (A5 x) (A4 x.frames s.n)).1).1.wait.kind, vi (Ap (Ba x (Am (A5 x) (A4 x.frames s.n)).1.dst) (Am (A5 x) (A4 x.frames s.n)).1.dst (x.cores.length : Int) (Am (A5 x) (A4 x.frames s.n)).1).1.wait.line, vi (Ap (Ba x (Am (A5 x) (A4 x.frames s.n)).1.dst) (Am (A5 x) (A4 x.frames s.n)).1.dst (x.cores.length : Int) (Am (A5 x) (A4 x.frames s.n)).1).1.wait.value] else [.slice none 0 0, vi 0, vi 0, vi 0])] else []) ++ (L))) (fun _ => rfl) ?_
     refine W6 ?_
     refine Cb (γ := Value × Value × Value) (val := fun v => .tuple #[.agg (Core.cells v.1 (Ap (Ba x (Am (A5 x) (A4 x.frames s.n)).1.dst) (Am (A5 x) (A4 x.frames s.n)).1.dst (x.cores.length : Int) (Am (A5 x) (A4 x.frames s.n)).1).1).toArray, v.2.1, v.2.2]) (F := fun v => [sl v.1 (Ap (Ba x (Am (A5 x) (A4 x.frames s.n)).1.dst) (Am (A5 x) (A4 x.frames s.n)).1.dst (x.cores.length : Int) (Am (A5 x) (A4 x.frames s.n)).1).1.lines, sl v.2.1 (Ap (Ba x (Am (A5 x) (A4 x.frames s.n)).1.dst) (Am (A5 x) (A4 x.frames s.n)).1.dst (x.cores.length : Int) (Am (A5 x) (A4 x.frames s.n)).1).2.1, sl v.2.2 (Ap (Ba x (Am (A5 x) (A4 x.frames s.n)).1.dst) (Am (A5 x) (A4 x.frames s.n)).1.dst (x.cores.length : Int) (Am (A5 x) (A4 x.frames s.n)).1).2.2]) Try.call47 (fun _ => rfl) (fun ρ L R w hd hs => Vc (c := (Ba x (Am (A5 x) (A4 x.frames s.n)).1.dst)) (id := (Am (A5 x) (A4 x.frames s.n)).1.dst) (home := (x.cores.length : Int)) (m := (Am (A5 x) (A4 x.frames s.n)).1) (u := u) hs (hd.base mm) hkb hpd64 hn64 hpw) (fun ρ g S hS hA => by have u15 : upS S 10 15 = S 15 := rfl; have u16 : upS S 10 16 = S 16 := rfl; have r15 : Rho.set ρ 10 g 15 = ρ 15 := rfl; have h16 : S 16 = false := hA 16 ⟨0, rfl⟩; simp only [u15, u16, r15, h16, cond_false]) ?_
     refine e_p (v := fun ρ => .tuple #[.agg (Core.cells (Gh.dec (γ := Value × Value × Value) (ρ 10)).1 (Ap (Ba x (Am (A5 x) (A4 x.frames s.n)).1.dst) (Am (A5 x) (A4 x.frames s.n)).1.dst (x.cores.length : Int) (Am (A5 x) (A4 x.frames s.n)).1).1).toArray, (Gh.dec (γ := Value × Value × Value) (ρ 10)).2.1, (Gh.dec (γ := Value × Value × Value) (ρ 10)).2.2]) (fun _ _ => Bh) (Ind.gh (h := fun g => (.tuple #[.agg (Core.cells (Gh.dec (γ := Value × Value × Value) g).1 (Ap (Ba x (Am (A5 x) (A4 x.frames s.n)).1.dst) (Am (A5 x) (A4 x.frames s.n)).1.dst (x.cores.length : Int) (Am (A5 x) (A4 x.frames s.n)).1).1).toArray, (Gh.dec (γ := Value × Value × Value) g).2.1, (Gh.dec (γ := Value × Value × Value) g).2.2] : Value)) 10 0 rfl) (fun _ _ _ _ _ => rfl) ?_
     refine e_p (v := fun ρ => .agg (Core.cells (Gh.dec (γ := Value × Value × Value) (ρ 10)).1 (Ap (Ba x (Am (A5 x) (A4 x.frames s.n)).1.dst) (Am (A5 x) (A4 x.frames s.n)).1.dst (x.cores.length : Int) (Am (A5 x) (A4 x.frames s.n)).1).1).toArray) (fun _ _ => q_x) (Ind.gh (h := fun g => (.agg (Core.cells (Gh.dec (γ := Value × Value × Value) g).1 (Ap (Ba x (Am (A5 x) (A4 x.frames s.n)).1.dst) (Am (A5 x) (A4 x.frames s.n)).1.dst (x.cores.length : Int) (Am (A5 x) (A4 x.frames s.n)).1).1).toArray : Value)) 10 1 rfl) (fun _ _ _ _ _ => rfl) ?_
     refine e_p (v := fun ρ => (Gh.dec (γ := Value × Value × Value) (ρ 10)).2.1) (fun _ _ => q_x) (Ind.gh (h := fun g => ((Gh.dec (γ := Value × Value × Value) g).2.1 : Value)) 10 1 rfl) (fun _ _ _ _ _ => rfl) ?_
     refine e_p (v := fun ρ => (Gh.dec (γ := Value × Value × Value) (ρ 10)).2.2) (fun _ _ => q_x) (Ind.gh (h := fun g => ((Gh.dec (γ := Value × Value × Value) g).2.2 : Value)) 10 1 rfl) (fun _ _ _ _ _ => rfl) ?_
     refine J5 (cs := [.slice none 0 0, vi 0, vi 0, vi 0]) Try.zeroValue69 rfl (fun ρ b S hS hA => ?_) ?_
     ·
      have ui : upS S 15 15 = true := rfl; have u16 : upS S 15 16 = S 16 := rfl; have r10 : Rho.set ρ 15 (Gh.enc b) 10 = ρ 10 := rfl; have h16 : S 16 = false := hA 16 ⟨0, rfl⟩; have rs : (Gh.dec (γ := Nat) (Rho.set ρ 15 (Gh.enc b) 15)) = b := rfl
      simp only [ui, hS, u16, r10, h16, rs, cond_true, cond_false, List.nil_append]
      exact Ins.perm (by repeat (first | exact .hd | exact .hc | refine .tl ?_ | refine .ap ?_))
     refine Be (T0 := 69) (f := 0) (vs := fun ρ => [.slice none 0 0, vi 0, vi 0, vi 0]) (us := fun ρ => [(Gh.dec (γ := Value × Value × Value) (ρ 10)).1, vi (Ap (Ba x (Am (A5 x) (A4 x.frames s.n)).1.dst) (Am (A5 x) (A4 x.frames s.n)).1.dst (x.cores.length : Int) (Am (A5 x) (A4 x.frames s.n)).1).1.wait.kind, vi (Ap (Ba x (Am (A5 x) (A4 x.frames s.n)).1.dst) (Am (A5 x) (A4 x.frames s.n)).1.dst (x.cores.length : Int) (Am (A5 x) (A4 x.frames s.n)).1).1.wait.line, vi (Ap (Ba x (Am (A5 x) (A4 x.frames s.n)).1.dst) (Am (A5 x) (A4 x.frames s.n)).1.dst (x.cores.length : Int) (Am (A5 x) (A4 x.frames s.n)).1).1.wait.value]) (sz := 4) (fun ρ => (Gh.dec (γ := Nat) (ρ 15))) Try.sizeOf69 (fun _ => rfl) (fun _ => rfl) (fun _ => rfl) (fun _ => rfl) (fun ρ R w L' hd hs => Bi (isSlice.one (hs.fact (hd.dep (it := ⟨10, _, _, _, _⟩) (by repeat (first | exact List.Mem.head _ | refine List.Mem.tail _ ?_)) ⟨9, rfl⟩ (List.Mem.head _)))) (by repeat (first | exact Co | refine Bi rfl ?_))) (fun _ => rfl) (fun ρ g S hS hB hA => ?_) ?_
     ·
      have ui : upS S 16 16 = true := rfl; have u15 : upS S 16 15 = S 15 := rfl; have r10 : Rho.set ρ 16 g 10 = ρ 10 := rfl; have r15 : Rho.set ρ 16 g 15 = ρ 15 := rfl; have h15 : S 15 = true := hB 15 ⟨0, rfl⟩
      simp only [ui, hS, u15, r10, r15, h15, cond_true, cond_false]
      exact Pos.ex (by repeat (first | exact .hd | exact .hc | apply Pos.tl | apply Pos.ap))
     refine e_p (v := fun ρ => (Gh.dec (γ := Value × Value × Value) (ρ 10)).2.1) (fun _ _ => Cz) (Ind.gh (h := fun g => ((Gh.dec (γ := Value × Value × Value) g).2.1 : Value)) 10 0 rfl) (fun _ _ _ _ _ => rfl) ?_
     refine e_p (v := fun ρ => (Gh.dec (γ := Value × Value × Value) (ρ 10)).2.2) (fun _ _ => Cz) (Ind.gh (h := fun g => ((Gh.dec (γ := Value × Value × Value) g).2.2 : Value)) 10 0 rfl) (fun _ _ _ _ _ => rfl) ?_
     refine Aw ?_; intro ρ; simp only [Ao, facts, Bb, List.append_nil, List.nil_append, List.cons_append]
     refine JX.conseq (L' := blk b2 46 [cv, hv, va] :: blk b21 42 (Am (A5 x) (A4 x.frames s.n)).1.cells :: blk b3 98 s.cells :: blk b4 46 [.slice none 0 0, .slice none 0 0, .slice none 0 0] :: (blk (Gh.dec (γ := Nat) (ρ 15)) 69 [(Gh.dec (γ := Value × Value × Value) (ρ 10)).1, vi (Ap (Ba x (Am (A5 x) (A4 x.frames s.n)).1.dst) (Am (A5 x) (A4 x.frames s.n)).1.dst (x.cores.length : Int) (Am (A5 x) (A4 x.frames s.n)).1).1.wait.kind, vi (Ap (Ba x (Am (A5 x) (A4 x.frames s.n)).1.dst) (Am (A5 x) (A4 x.frames s.n)).1.dst (x.cores.length : Int) (Am (A5 x) (A4 x.frames s.n)).1).1.wait.line, vi (Ap (Ba x (Am (A5 x) (A4 x.frames s.n)).1.dst) (Am (A5 x) (A4 x.frames s.n)).1.dst (x.cores.length : Int) (Am (A5 x) (A4 x.frames s.n)).1).1.wait.value] :: L)) (fun w hs => hs) ?_
     generalize (Gh.dec (γ := Value × Value × Value) (ρ 10)) = v275
     generalize (Gh.dec (γ := Nat) (ρ 15)) = b24
     refine Ae ?_
     refine sr ?_
     refine rn4 ?_
     refine A1 Try.call96 rfl (fun w hs => Jh (x := x) (i := (Am (A5 x) (A4 x.frames s.n)).1.dst) (k := (Ap (Ba x (Am (A5 x) (A4 x.frames s.n)).1.dst) (Am (A5 x) (A4 x.frames s.n)).1.dst (x.cores.length : Int) (Am (A5 x) (A4 x.frames s.n)).1).1) (u := v275.1) hs mm honeh honea mm (Rs hkb.wwf) (by omega)) ?_; intro v283
     refine J.know (p := v283.oneCell' = true) (fun w hs => isSlice.one (hs.fact (List.Mem.head _))) (fun honev283 => ?_)
     refine s_B (cs := [v283, hv, va]) Try.sizeOf46 ?_
     refine nr ?_
     refine rn3 ?_
     refine A1 Try.call97 rfl (fun w hs => Mq (fs := (x.frames.eraseIdx s.n.toNat)) (ms := (Ap (Ba x (Am (A5 x) (A4 x.frames s.n)).1.dst) (Am (A5 x) (A4 x.frames s.n)).1.dst (x.cores.length : Int) (Am (A5 x) (A4 x.frames s.n)).1).2.1) hs mm mm (Vu (by omega) (by omega) hk4 hlb hwk.2.2.2.2.1)) ?_; intro v287
     refine J.know (p := v287.oneCell' = true) (fun w hs => isSlice.one (hs.fact (List.Mem.head _))) (fun honev287 => ?_)
     refine rn1 ?_
     refine sc ?_
     refine nx ?_
     refine kp [2, 4, 5, 6, 26, 289, 290] ?_
     refine Aa ?_
     refine rn2 ?_
     refine s_B (cs := [v283, hv, v287]) Try.sizeOf46 ?_
     refine rn2 ?_
     refine nx ?_
     refine rt ?_
     have er : A0 x s = (⟨x.cores.set (Am (A5 x) (A4 x.frames s.n)).1.dst.toNat (Ap (Ba x (Am (A5 x) (A4 x.frames s.n)).1.dst) (Am (A5 x) (A4 x.frames s.n)).1.dst (x.cores.length : Int) (Am (A5 x) (A4 x.frames s.n)).1).1, x.home, way (x.frames.eraseIdx s.n.toNat) (Ap (Ba x (Am (A5 x) (A4 x.frames s.n)).1.dst) (Am (A5 x) (A4 x.frames s.n)).1.dst (x.cores.length : Int) (Am (A5 x) (A4 x.frames s.n)).1).2.1⟩, (Ap (Ba x (Am (A5 x) (A4 x.frames s.n)).1.dst) (Am (A5 x) (A4 x.frames s.n)).1.dst (x.cores.length : Int) (Am (A5 x) (A4 x.frames s.n)).1).2.2, 0) := by unfold A0; rw [if_neg (by omega), if_pos (by omega), if_neg hnf]; unfold Fa; rw [show A5 ⟨x.cores, x.home, (x.frames.eraseIdx s.n.toNat)⟩ = A5 x from rfl]; rw [if_neg ht242, if_neg (show ¬ (Am (A5 x) (A4 x.frames s.n)).1.dst = Cj ⟨x.cores, x.home, (x.frames.eraseIdx s.n.toNat)⟩ from ht247)]; rfl
     rw [er]
     refine Aj (.inr rfl) (fun B w hs => Db rfl rfl rfl rfl Try.isAgg46 Try.sizeOf46 pkk rfl B w hs) (fun w hs => ⟨(v283, hv, v287, v275.2.2), ?_, Ag hs⟩)
     rfl
end Go.Proofs.Ytofgpimoekhfaaa

/- This file proves what a step does to a chip, by the document's answer. No conditions. -/
set_option linter.unusedVariables false
set_option linter.unusedSimpArgs false
set_option maxHeartbeats 1000000
set_option maxRecDepth 8000
namespace Go.Proofs.Ytofgpimoekhfaaa
open Go
theorem refDo4 {L : List Chunk} {R : List Fact} {w : World} {n nl : Nat} {M : List Int} {cv hv fv : Value} {x : Chip} {s : Step} (hs : St (L) R w) (hc : sl cv x.cores ∈ R) (hh : sl hv x.home ∈ R) (hf : sl fv x.frames ∈ R) (h : Inv n nl x M) (hsw : s.wf) : Calls Try.prog 64 [.agg #[cv, hv, fv], .agg s.cells.toArray].toArray w (C2 (fun v : Value × Value × Value × Value => .tuple #[.agg #[v.1, v.2.1, v.2.2.1], v.2.2.2, vi (A0 x s).2.2]) (fun v => L) (fun v => sl v.1 (A0 x s).1.cores :: sl v.2.1 (A0 x s).1.home :: sl v.2.2.1 (A0 x s).1.frames :: sl v.2.2.2 (A0 x s).2.1 :: R)) := by
  by_cases h1 : s.kind = 1
  · exact Ta hs hc hh hf h hsw h1
  by_cases h2 : s.kind = 2
  · exact S9 hs hc hh hf h hsw h2
  by_cases h3 : s.kind = 3
  · exact S8 hs hc hh hf h hsw h3
  by_cases h4 : s.kind = 4
  · exact S7 hs hc hh hf h hsw h4
  by_cases h5 : s.kind = 5
  · exact S6 hs hc hh hf h hsw h5
  by_cases h6 : s.kind = 6
  · exact S5 hs hc hh hf h hsw h6
  exact Tb hs hc hh hf h hsw ⟨h1, h2, h3, h4, h5, h6⟩
end Go.Proofs.Ytofgpimoekhfaaa

/- This file proves what a chip is that steps build, by the document's answer. No conditions. -/
set_option linter.unusedVariables false
set_option linter.unusedSimpArgs false
set_option maxHeartbeats 1000000
set_option maxRecDepth 8000
namespace Go.Proofs.Ytofgpimoekhfaaa
open Go
def bAt (c : Config) (l : List Step) (k : Nat) : Chip × List Done := E0 (Cc c).1 (l.take k)
theorem Hv {x : Chip} {a : Step} {l : List Step} (h : (A0 x a).2.2 = 0) : E0 x (a :: l) = ((E0 (A0 x a).1 l).1, (A0 x a).2.1 ++ (E0 (A0 x a).1 l).2) := by simp only [E0]; rw [if_pos h]
theorem Hw {x : Chip} {a : Step} {l : List Step} (h : ¬ (A0 x a).2.2 = 0) : E0 x (a :: l) = E0 x l := by simp only [E0]; rw [if_neg h]
theorem J6 (s : Step) : ∀ (l : List Step) (x : Chip), (A0 (E0 x l).1 s).2.2 = 0 → E0 x (l ++ [s]) = ((A0 (E0 x l).1 s).1, (E0 x l).2 ++ (A0 (E0 x l).1 s).2.1)
  | [], x, h => by
    have h' : (A0 x s).2.2 = 0 := h
    rw [List.nil_append, Hv h']; simp [E0]
  | a :: l, x, h => by
    by_cases h1 : (A0 x a).2.2 = 0
    · rw [Hv h1] at h ⊢
      rw [List.cons_append, Hv h1, J6 s l _ h]; simp
    · rw [Hw h1] at h ⊢
      rw [List.cons_append, Hw h1]; exact J6 s l x h
theorem L6 (s : Step) : ∀ (l : List Step) (x : Chip), ¬ (A0 (E0 x l).1 s).2.2 = 0 → E0 x (l ++ [s]) = E0 x l
  | [], x, h => by
    have h' : ¬ (A0 x s).2.2 = 0 := h
    rw [List.nil_append, Hw h']
  | a :: l, x, h => by
    by_cases h1 : (A0 x a).2.2 = 0
    · rw [Hv h1] at h ⊢
      rw [List.cons_append, Hv h1, L6 s l _ h]
    · rw [Hw h1] at h ⊢
      rw [List.cons_append, Hw h1]; exact L6 s l x h
theorem Sc {c : Config} {l : List Step} {k : Nat} (h : k < l.length) (h0 : (A0 (bAt c l k).1 (l.getD k zStep)).2.2 = 0) : bAt c l (k + 1) = ((A0 (bAt c l k).1 (l.getD k zStep)).1, (bAt c l k).2 ++ (A0 (bAt c l k).1 (l.getD k zStep)).2.1) := by
 unfold bAt at h0 ⊢; rw [Fp zStep h]; exact J6 _ _ _ h0
theorem U6 {c : Config} {l : List Step} {k : Nat} (h : k < l.length) (h0 : ¬ (A0 (bAt c l k).1 (l.getD k zStep)).2.2 = 0) : bAt c l (k + 1) = bAt c l k := by
 unfold bAt at h0 ⊢; rw [Fp zStep h]; exact L6 _ _ _ h0
theorem Sa (c : Core) (id home : Int) (o : Op) : (Ar c id home o).2.2.1.length ≤ 1 := by
  unfold Ar
  split
  · simp
  split
  · simp
  split
  · simp
  split <;> simp
theorem T2 (c : Core) (id home : Int) (m : Msg) : (Ap c id home m).2.2.length ≤ 1 := by
  unfold Ap
  split
  · simp
  split
  · simp
  split
  · split
    · simp only; split <;> simp
    split <;> simp
  split
  · split
    · simp
    split <;> simp
  split <;> simp
theorem U2 (x : Chip) (s : Step) : (A0 x s).2.1.length ≤ 1 := by
  unfold A0
  split
  · split
    · simp
    split
    · simp
    · exact Sa ..
  split
  · split
    · simp
    · simp only
      unfold Fa
      split
      · simp
      split
      · simp
      · exact T2 ..
  split
  · split <;> simp
  split
  · split <;> simp
  split
  · split
    · simp
    split
    · simp
    split <;> simp
  split
  · split
    · simp
    split <;> simp
  · simp
theorem Sd (c : Config) (l : List Step) : ∀ k, (bAt c l k).2.length ≤ k
  | 0 => by unfold bAt; simp [E0]
  | k + 1 => by
    have ih := Sd c l k
    by_cases h : k < l.length
    · by_cases h0 : (A0 (bAt c l k).1 (l.getD k zStep)).2.2 = 0
      · have := U2 (bAt c l k).1 (l.getD k zStep)
        rw [Sc h h0]
        simp only [List.length_append]; omega
      · rw [U6 h h0]; omega
    · unfold bAt at ih ⊢
      rw [List.take_of_length_le (by omega)]
      rw [List.take_of_length_le (by omega)] at ih
      omega
theorem Xn {c : Config} (l : List Step) (h : (Cc c).2 = 0) (k : Nat) : ∃ n nl M, Inv n nl (bAt c l k).1 M := by
 obtain ⟨n, nl, h1, h2, _, h4⟩ := K6 h
 obtain ⟨M, h5, _⟩ := Hq (l.take k) (Ro h1 h2)
 exact ⟨n, nl, M, by unfold bAt; rw [h4]; exact h5⟩
theorem Nl {c : Config} (h : (Cc c).2 ≠ 0) : Cc c = (D4, 3) := by
  unfold Cc at h ⊢
  split
  · rfl
  · rename_i h1; rw [if_neg h1] at h; exact absurd rfl h
theorem Ph {c : Config} {l : List Step} {k : Nat} (h : (Cc c).2 = 0) (hk : l.take k = l.take 300) : build c l = bAt c l k := by
 unfold build bAt; rw [if_neg (by rw [h]; decide), hk]
theorem Uj {c : Config} {l : List Step} (h : (Cc c).2 ≠ 0) : build c l = ((Cc c).1, []) := by
 unfold build; rw [if_pos h, Nl h]
theorem Li {L : List Chunk} {R : List Fact} {w : World} {vl : Value} {c : Config} {l : List Step} (hs : St (L) R w) (hl : sl vl l ∈ R) (hcw : c.wf) : Calls Try.prog 28 [.agg c.cells.toArray, vl].toArray w (C2 (fun v : Value × Value × Value × Value => .tuple #[.agg #[v.1, v.2.1, v.2.2.1], v.2.2.2]) (fun v => L) (fun v => sl v.1 (build c l).1.cores :: sl v.2.1 (build c l).1.home :: sl v.2.2.1 (build c l).1.frames :: sl v.2.2.2 (build c l).2 :: R)) := by
  have hlen := Bv hl hs
  refine Au Try.func28 rfl Try.ntmps28 rfl hs ?_
  clear hs
  refine sr ?_
  refine bx ?_; intro b2
  refine al_ (cs := [.slice none 0 0, .slice none 0 0, .slice none 0 0]) Try.zeroValue46 ?_; intro b4
  refine rn1 ?_
  refine nr ?_
  refine rn1 ?_
  refine A1 Try.call35 rfl (fun w hs => Uu (c := c) hs hcw) ?_; intro v16
  refine J.know (p := v16.1.oneCell' = true ∧ v16.2.oneCell' = true) (fun w hs => ⟨isSlice.one (hs.fact (.head _)), isSlice.one (hs.fact (.tail _ (.head _)))⟩) (fun h12 => ?_)
  obtain ⟨hone1, hone2⟩ := h12
  refine rn3 ?_
  refine al_ (cs := [.slice none 0 0, .slice none 0 0, .slice none 0 0]) Try.zeroValue46 ?_; intro b6
  refine s_B (cs := [v16.1, v16.2, .slice none 0 0]) Try.sizeOf46 ?_
  refine rn1 ?_
  refine nr ?_
  refine rn2 ?_
  refine nx ?_
  refine cdx (p := ?p1) (hd := ?d1) ?e1 ?_ ?_; case e1 => exact rfl
  ·
   intro ht20
   refine sq ?_
   refine JC.slNil Done ?_
   refine Aa ?_
   refine rn1 ?_
   refine s_B (cs := [v16.1, v16.2, .slice none 0 0]) Try.sizeOf46 ?_
   refine rn1 ?_
   refine nx ?_
   refine rt ?_
   rw [Uj ht20]
   refine Aj (.inr rfl) (fun B w hs => Hl rfl rfl rfl Try.isAgg46 Try.sizeOf46 pkk rfl B w hs) (fun w hs => ⟨(v16.1, v16.2, .slice none 0 0, .slice none 0 0), ?_, Ag hs⟩)
   rfl
  ·
   intro ht20
   refine Ak ?_
   refine Ae ?_
   refine sr ?_
   refine rn1 ?_
   refine nr ?_
   refine rn3 ?_
   refine nx ?_
   refine Av ?_
   have hok : (Cc c).2 = 0 := Decidable.not_not.1 ht20
   have e0 : bAt c l 0 = ((Cc c).1, []) := by unfold bAt; simp [E0]
   refine JC.rowNil 84 Done ?_
   refine Ck (γ := Nat × Value × Value × Value × Value) (fun g => g.1 ≤ l.length ∧ g.1 ≤ 300) (fun g => row 84 g.2.2.2.2 (bAt c l g.1).2 :: blk b6 46 [g.2.1, g.2.2.1, g.2.2.2.1] :: blk b4 46 [.slice none 0 0, .slice none 0 0, .slice none 0 0] :: L) (fun g => sl g.2.1 (bAt c l g.1).1.cores :: sl g.2.2.1 (bAt c l g.1).1.home :: sl g.2.2.2.1 (bAt c l g.1).1.frames :: R) (fun g => [(4, bp b4 0), (6, bp b6 0), (8, g.2.2.2.2), (22, vl), (23, vi (l.length : Int)), (24, vi (g.1 : Int))]) (fun g => l.length - g.1) (0, v16.1, v16.2, .slice none 0 0, .slice none 0 0) ⟨Nat.zero_le _, by show 0 ≤ 300; omega⟩ alT (fun w hs => by rw [e0]; exact Ag hs) ?_
   rintro ⟨k, cv, hv, fv, dv⟩ ⟨hk, hk3⟩
   try simp only at hk hk3 ⊢
   refine sr ?_
   refine rn1 ?_
   refine nx ?_
   refine cdx (p := ?p2) (hd := ?d2) ?e2 ?_ ?_; case e2 => exact rfl
   ·
    intro ht25
    refine Ak ?_
    refine Ae ?_
    refine sq ?_
    refine Av ?_
    refine sq ?_
    refine JC.open0 (xs := l) (v := vl) k mm (by omega) (fun hsw => ?_)
    refine Aa ?_
    refine rn3 ?_
    refine al_ (cs := zStep.cells) Try.zeroValue98 ?_; intro b10
    refine rn1 ?_
    refine s_B (cs := (l.getD k zStep).cells) Try.sizeOf98 ?_
    refine nr ?_
    refine rn2 ?_
    refine nx ?_
    refine cdx (p := ?p3) (hd := ?d3) ?e3 ?_ ?_; case e3 => exact rfl
    ·
     intro ht30
     refine xt ?_
     refine Ae ?_
     refine sq ?_
     refine JC.shut (v := dv) pkk ?_
     refine JC.know (p := cv.oneCell' = true ∧ hv.oneCell' = true ∧ fv.oneCell' = true) (fun w hs => ⟨isSlice.one (hs.fact (mm (f := sl cv (bAt c l k).1.cores))), isSlice.one (hs.fact (mm (f := sl hv (bAt c l k).1.home))), isSlice.one (hs.fact (mm (f := sl fv (bAt c l k).1.frames)))⟩) (fun h12 => ?_)
     obtain ⟨hone1, hone2, hone3⟩ := h12
     refine Aa ?_
     refine rn2 ?_
     refine s_B (cs := [cv, hv, fv]) Try.sizeOf46 ?_
     refine rn1 ?_
     refine nx ?_
     refine rt ?_
     have ek : l.take k = l.take 300 := by
      first
       | rw [show k = 300 by omega]
       | rw [List.take_of_length_le (by omega), List.take_of_length_le (by omega)]
     rw [Ph hok ek]
     refine Aj (.inr rfl) (fun B w hs => Hl rfl rfl rfl Try.isAgg46 Try.sizeOf46 pkk rfl B w hs) (fun w hs => ⟨(cv, hv, fv, dv), ?_, Ag hs⟩)
     rfl
    ·
     intro ht30
     refine Ak ?_
     refine Ae ?_
     refine sr ?_
     refine rn2 ?_
     obtain ⟨n, nl, M, hI⟩ := Xn l hok k
     refine A1 Try.call64 rfl (fun w hs => refDo4 (x := (bAt c l k).1) (s := (l.getD k zStep)) hs mm mm mm hI hsw) ?_; intro v34
     refine J.know (p := v34.1.oneCell' = true ∧ v34.2.1.oneCell' = true ∧ v34.2.2.1.oneCell' = true) (fun w hs => ⟨isSlice.one (hs.fact (.head _)), isSlice.one (hs.fact (.tail _ (.head _))), isSlice.one (hs.fact (.tail _ (.tail _ (.head _))))⟩) (fun h12 => ?_)
     obtain ⟨hone1, hone2, hone3⟩ := h12
     refine rn4 ?_
     refine al_ (cs := [.slice none 0 0, .slice none 0 0, .slice none 0 0]) Try.zeroValue46 ?_; intro b11
     refine s_B (cs := [v34.1, v34.2.1, v34.2.2.1]) Try.sizeOf46 ?_
     refine rn2 ?_
     refine nx ?_
     refine kp [4, 5, 6, 8, 9, 10, 11, 12, 13, 22, 23, 24, 25, 26, 27, 28, 29, 30, 31, 32, 33, 34, 35, 36, 37, 38, 39] ?_
     refine Aa ?_
     refine rn2 ?_
     refine nx ?_
     refine cdx (p := ?p4) (hd := ?d4) ?e4 ?_ ?_; case e4 => exact rfl
     ·
      intro ht39
      refine sr ?_
      refine rn1 ?_
      refine s_B (cs := [v34.1, v34.2.1, v34.2.2.1]) Try.sizeOf46 ?_
      refine nr ?_
      refine rn2 ?_
      refine ap I2 (hb := fun w hs => by have : maxN = 16777216 := rfl; have h8 := Sd c l k; have h9 := U2 (bAt c l k).1 (l.getD k zStep); omega) (k := ?_); intro v43
      refine rn1 ?_
      refine J.nil ?_
      refine As ?_
      refine Ae ?_
      refine Aa ?_
      refine rn2 ?_
      refine J.nil ?_
      have e1 := Sc (c := c) (l := l) (k := k) (by omega) ht39
      refine Bk (k + 1, v34.1, v34.2.1, v34.2.2.1, v43) ⟨by show k + 1 ≤ l.length; omega, by show k + 1 ≤ 300; omega⟩ (by show l.length - (k + 1) < l.length - k; omega) alT (fun w hs => ?_)
      try simp only
      rw [e1]; exact Ag hs
     ·
      intro ht39
      refine Ak ?_
      refine As ?_
      refine Ae ?_
      refine Aa ?_
      refine rn2 ?_
      refine J.nil ?_
      have e1 := U6 (c := c) (l := l) (k := k) (by omega) ht39
      refine Bk (k + 1, cv, hv, fv, dv) ⟨by show k + 1 ≤ l.length; omega, by show k + 1 ≤ 300; omega⟩ (by show l.length - (k + 1) < l.length - k; omega) alT (fun w hs => ?_)
      try simp only
      rw [e1]; exact Ag hs
   ·
    intro ht25
    refine xt ?_
    refine Ae ?_
    refine sq ?_
    refine JC.shut (v := dv) pkk ?_
    refine JC.know (p := cv.oneCell' = true ∧ hv.oneCell' = true ∧ fv.oneCell' = true) (fun w hs => ⟨isSlice.one (hs.fact (mm (f := sl cv (bAt c l k).1.cores))), isSlice.one (hs.fact (mm (f := sl hv (bAt c l k).1.home))), isSlice.one (hs.fact (mm (f := sl fv (bAt c l k).1.frames)))⟩) (fun h12 => ?_)
    obtain ⟨hone1, hone2, hone3⟩ := h12
    refine Aa ?_
    refine rn2 ?_
    refine s_B (cs := [cv, hv, fv]) Try.sizeOf46 ?_
    refine rn1 ?_
    refine nx ?_
    refine rt ?_
    have ek : l.take k = l.take 300 := by
     first
      | rw [show k = 300 by omega]
      | rw [List.take_of_length_le (by omega), List.take_of_length_le (by omega)]
    rw [Ph hok ek]
    refine Aj (.inr rfl) (fun B w hs => Hl rfl rfl rfl Try.isAgg46 Try.sizeOf46 pkk rfl B w hs) (fun w hs => ⟨(cv, hv, fv, dv), ?_, Ag hs⟩)
    rfl
end Go.Proofs.Ytofgpimoekhfaaa

/- This file proves that the closed fact of the program's home holds, and what the laws of it compute. No conditions. -/
set_option linter.unusedVariables false
set_option linter.unusedSimpArgs false
set_option maxHeartbeats 1000000
set_option maxRecDepth 8000
namespace Go.Proofs.Ytofgpimoekhfaaa
open Go
theorem Fg {L : List Chunk} {R : List Fact} {w : World} {v0 v1 : Value} {a b : List Entry} (e : a = b) (hs : St L R w) (h0 : sl v0 a ∈ R) (h1 : sl v1 b ∈ R) : Calls Try.prog 31 [v0, v1].toArray w (C2 (fun _ : Unit => .bool true) (fun _ => L) (fun _ => R)) := by
 have h := Sw hs h0 h1; rw [decide_eq_true e] at h; exact h
theorem Mm {L : List Chunk} {R : List Fact} {w : World} {v0 v1 : Value} {a b : List Msg} (e : a = b) (hs : St L R w) (h0 : sl v0 a ∈ R) (h1 : sl v1 b ∈ R) : Calls Try.prog 32 [v0, v1].toArray w (C2 (fun _ : Unit => .bool true) (fun _ => L) (fun _ => R)) := by
 have h := Su hs h0 h1; rw [decide_eq_true e] at h; exact h
theorem hearE {L : List Chunk} {R : List Fact} {w : World} {v0 : Value} {l r : List Entry} {id : Int} {m : Msg} {ms : List Msg} (e : Ai l id m = (r, ms)) (hs : St L R w) (h0 : sl v0 l ∈ R) (hb : ∀ i, i < l.length → EB (l.getD i Aq)) (hla : ∀ i, i < l.length → (l.getD i Aq).last.length ≤ 4) (hm : m.wf) (hid : Ax id) : Calls Try.prog 29 [v0, vi id, .agg m.cells.toArray].toArray w (C2 (fun v : Value × Value => .tuple #[v.1, v.2]) (fun _ => L) (fun v => sl v.1 r :: sl v.2 ms :: R)) := by
 have h := Ey hs h0 hb hla hm hid; rw [e] at h; exact h
def hE0 : List Entry := [⟨0, -1, 0, 0, 0, 0, false, 0, 0, [0, 0]⟩]
def hE1 : List Entry := [⟨0, -1, 0, 3, 1, 1, true, 1, 0, [0, 1]⟩]
def hE2 : List Entry := [⟨0, 1, 0, 0, 0, 0, false, 1, 0, [0, 1]⟩]
def hM1 : List Msg := [⟨7, 2, 1, 0, 1, 1, 0, true⟩]
theorem hE_new : Ij 2 1 = hE0 := by decide
theorem hE_1 : Ai hE0 2 ⟨2, 1, 2, 0, 1, 0, 0, false⟩ = (hE1, hM1) := by decide
theorem hE_2 : Ai hE1 2 ⟨10, 1, 2, 0, 0, 1, 0, false⟩ = (hE2, []) := by decide
theorem hE0_b : ∀ i, i < hE0.length → EB (hE0.getD i Aq) ∧ (hE0.getD i Aq).last.length ≤ 4 := by
 intro i hi
 have : i = 0 := by simp [hE0] at hi; exact hi
 subst this
 unfold EB Entry.wf Ax; decide
theorem Vx : ∀ i, i < hE1.length → EB (hE1.getD i Aq) ∧ (hE1.getD i Aq).last.length ≤ 4 := by
 intro i hi
 have : i = 0 := by simp [hE1] at hi; exact hi
 subst this
 unfold EB Entry.wf Ax; decide
theorem Rj (e : Entry) : (A3 e).phase = 1 ∨ (A3 e).phase = 2 ∨ (A3 e).phase = 3 := by
  unfold A3; split
  · exact .inl rfl
  split
  · exact .inr (.inl rfl)
  · exact .inr (.inr rfl)
theorem Xb {s k : Int} (h0 : 0 ≤ s) (h1 : s < 16) (h2 : 0 ≤ k) (h3 : k < 4) : H2 (Fm s k) k = false := by
 rcases (show s = 0 ∨ s = 1 ∨ s = 2 ∨ s = 3 ∨ s = 4 ∨ s = 5 ∨ s = 6 ∨ s = 7 ∨ s = 8 ∨ s = 9 ∨ s = 10 ∨ s = 11 ∨ s = 12 ∨ s = 13 ∨ s = 14 ∨ s = 15 by omega) with h | h | h | h | h | h | h | h | h | h | h | h | h | h | h | h <;> rcases (show k = 0 ∨ k = 1 ∨ k = 2 ∨ k = 3 by omega) with g | g | g | g <;> subst h <;> subst g <;> rfl
theorem Uf : ∀ (s : _root_.Fin 16) (k j : _root_.Fin 4), H2 (Fm (Fm (s.val : Int) (k.val : Int)) (j.val : Int)) (k.val : Int) = false := by decide
theorem Ue {s k j : Int} (h0 : 0 ≤ s) (h1 : s < 16) (h2 : 0 ≤ k) (h3 : k < 4) (h4 : 0 ≤ j) (h5 : j < 4) : H2 (Fm (Fm s k) j) k = false := by
 obtain ⟨a, rfl⟩ := Int.eq_ofNat_of_zero_le h0
 obtain ⟨b, rfl⟩ := Int.eq_ofNat_of_zero_le h2
 obtain ⟨c, rfl⟩ := Int.eq_ofNat_of_zero_le h4
 exact Uf ⟨a, by omega⟩ ⟨b, by omega⟩ ⟨c, by omega⟩
theorem Qf {e : Entry} {id : Int} {m : Msg} (he : EB e) (hs : 0 ≤ m.src ∧ m.src < 4) (hsl : m.src < (e.last.length : Int)) : (Af (Af e id m).1 id m).1 = (Af e id m).1 := by
  have hE := he
  unfold EB at hE
  by_cases k12 : m.kind = 1 ∨ m.kind = 2
  · by_cases c : e.phase ≠ 0 ∨ m.serial ≤ C6 e m.src ∨ 65535 ≤ e.turn
    · have h1 : Af e id m = (e, []) := by unfold Af; rw [if_pos k12, if_pos c]
      rw [h1]; rw [h1]
    · have h1 : (Af e id m).1 = Gc e m := by unfold Af; rw [if_pos k12, if_neg c]
      rw [h1]
      have h2 : (Gc e m).phase ≠ 0 := by unfold Gc; rcases Rj { e with last := e.last.set m.src.toNat m.serial, who := m.src, serial := m.serial, alone := m.kind == 2, turn := e.turn + 1 } with h | h | h <;> rw [h] <;> decide
      unfold Af; rw [if_pos k12, if_pos (.inl h2)]
  by_cases k3 : m.kind = 3
  · by_cases c : e.phase ≠ 0
    · have h1 : Af e id m = (e, []) := by unfold Af; rw [if_neg k12, if_pos k3, if_pos c]
      rw [h1]; rw [h1]
    · have h1 : (Af e id m).1 = C7 e m := by unfold Af; rw [if_neg k12, if_pos k3, if_neg c]
      rw [h1]
      have h3 : (C7 e m).phase = e.phase := by unfold C7; split <;> (try split) <;> rfl
      have h4 : ¬ C6 (C7 e m) m.src < m.serial := by
        unfold C7
        by_cases d : C6 e m.src < m.serial
        · rw [if_pos d]
          have : ∀ z : Entry, z.last = e.last.set m.src.toNat m.serial → ¬ C6 z m.src < m.serial := by
            intro z hz
            unfold C6; rw [hz, List.getD_eq_getElem?_getD, List.getElem?_set_self (by omega)]
            exact Int.lt_irrefl _
          split <;> exact this _ rfl
        · rw [if_neg d]; exact d
      have h5 : (Af (C7 e m) id m).1 = C7 (C7 e m) m := by unfold Af; rw [if_neg k12, if_pos k3, if_neg (by rw [h3]; exact c)]
      rw [h5]
      generalize C7 e m = z at h4
      unfold C7; rw [if_neg h4]
  by_cases k9 : m.kind = 9 ∧ m.turn = e.turn ∧ e.phase = 1 ∧ m.src = e.owner
  · have h1 : (Af e id m).1 = De e m := by unfold Af; rw [if_neg k12, if_neg k3, if_pos k9]
    rw [h1]
    have h2 : (De e m).owner = -1 := by unfold De; rw [(Dr _).2.2.2.1]
    unfold Af
    rw [if_neg k12, if_neg k3, if_neg (by rw [h2]; omega), if_neg (by omega), if_neg (by omega)]
  by_cases k8 : m.kind = 8 ∧ m.turn = e.turn ∧ e.phase = 2 ∧ H2 e.need m.src = true
  · by_cases c : (Bo e m).need = 0
    · have h1 : (Af e id m).1 = A3 (Bo e m) := by unfold Af; rw [if_neg k12, if_neg k3, if_neg k9, if_pos k8, if_pos c]
      rw [h1]
      have h2 : (A3 (Bo e m)).phase = 2 → H2 (A3 (Bo e m)).need m.src = false := by
        unfold A3
        split
        · intro h; simp at h
        split
        · intro _
          exact Ue hE.2.1.1 hE.2.1.2 hs.1 hs.2 hE.2.2.2.1.1 hE.2.2.2.1.2
        · intro h; simp at h
      unfold Af
      rw [if_neg k12, if_neg k3, if_neg (by omega), if_neg (fun h => by rw [h2 h.2.2.1] at h; exact absurd h.2.2.2 (by decide)), if_neg (by omega)]
    · have h1 : (Af e id m).1 = Bo e m := by unfold Af; rw [if_neg k12, if_neg k3, if_neg k9, if_pos k8, if_neg c]
      rw [h1]
      have h2 : H2 (Bo e m).need m.src = false := Xb hE.2.2.1.1 hE.2.2.1.2 hs.1 hs.2
      unfold Af
      rw [if_neg k12, if_neg k3, if_neg (by omega), if_neg (fun h => by rw [h2] at h; exact absurd h.2.2.2 (by decide)), if_neg (by omega)]
  by_cases k10 : m.kind = 10 ∧ m.turn = e.turn ∧ e.phase = 3 ∧ m.src = e.who
  · have h1 : (Af e id m).1 = Bs e := by unfold Af; rw [if_neg k12, if_neg k3, if_neg k9, if_neg k8, if_pos k10]
    rw [h1]
    have h2 : (Bs e).phase = 0 := by unfold Bs; split <;> rfl
    unfold Af
    rw [if_neg k12, if_neg k3, if_neg (by omega), if_neg (by omega), if_neg (by omega)]
  · have h1 : Af e id m = (e, []) := by unfold Af; rw [if_neg k12, if_neg k3, if_neg k9, if_neg k8, if_neg k10]
    rw [h1]; rw [h1]
theorem O5 (e : Entry) (id : Int) (m : Msg) : (Af e id m).1.last.length = e.last.length := by
  unfold Af
  split
  · split
    · rfl
    · simp only [Gc, Cw, List.length_set]
  split
  · split
    · rfl
    · simp only [C7]; split
      · split <;> simp
      · rfl
  split
  · simp only [De, Cw]
  split
  · split
    · simp only [Cw]; rfl
    · rfl
  split
  · simp only [Bs]; split <;> rfl
  · rfl
theorem P7 {l : List Entry} {id : Int} {m : Msg} (hb : ∀ i, i < l.length → EB (l.getD i Aq) ∧ (l.getD i Aq).last.length ≤ 4) : (Ai (Ai l id m).1 id m).1 = (Ai l id m).1 := by
  by_cases c : m.line < 0 ∨ (l.length : Int) ≤ m.line ∨ m.src < 0 ∨ ((Ad l m.line).last.length : Int) ≤ m.src
  · have h1 : Ai l id m = (l, []) := by unfold Ai; rw [if_pos c]
    rw [h1]; rw [h1]
  · have h1 : (Ai l id m).1 = l.set m.line.toNat (Af (Ad l m.line) id m).1 := by unfold Ai; rw [if_neg c]
    obtain ⟨h2, h3⟩ := hb m.line.toNat (by omega)
    have h4 : Ad (l.set m.line.toNat (Af (Ad l m.line) id m).1) m.line = (Af (Ad l m.line) id m).1 := by
      unfold Ad; rw [List.getD_eq_getElem?_getD, List.getElem?_set_self (by omega)]; rfl
    have h3' : (Ad l m.line).last.length ≤ 4 := h3
    have h5 := Qf (id := id) (m := m) (e := Ad l m.line) h2 (by omega) (by omega)
    rw [h1]
    have h6 : (Ai (l.set m.line.toNat (Af (Ad l m.line) id m).1) id m).1 = (l.set m.line.toNat (Af (Ad l m.line) id m).1).set m.line.toNat (Af (Ad (l.set m.line.toNat (Af (Ad l m.line) id m).1) m.line) id m).1 := by
      have h7 := O5 (Ad l m.line) id m
      unfold Ai; rw [if_neg (by rw [List.length_set, h4, h7]; exact c)]
    rw [h6, h4, h5, List.set_set]
theorem Rt {e : Entry} {id : Int} {m : Msg} : e.turn ≤ (Af e id m).1.turn ∧ (e.phase ≠ 0 → (Af e id m).1.turn = e.turn) ∧ (e.phase ≠ 0 → (Af e id m).1.phase ≠ 0 → (Af e id m).1.who = e.who ∧ (Af e id m).1.serial = e.serial ∧ (Af e id m).1.alone = e.alone) := by
  have hn : ∀ z : Entry, (A3 z).who = z.who ∧ (A3 z).alone = z.alone := by
    intro z; unfold A3; split
    · exact ⟨rfl, rfl⟩
    split <;> exact ⟨rfl, rfl⟩
  unfold Af
  split
  · split
    · exact ⟨Int.le_refl _, fun _ => rfl, fun _ _ => ⟨rfl, rfl, rfl⟩⟩
    · rename_i c
      have ht : (Gc e m).turn = e.turn + 1 := by unfold Gc; rw [(Dr _).1]
      refine ⟨by show e.turn ≤ (Gc e m).turn; omega, fun h => absurd h (by omega), fun h => absurd h (by omega)⟩
  split
  · split
    · exact ⟨Int.le_refl _, fun _ => rfl, fun _ _ => ⟨rfl, rfl, rfl⟩⟩
    · show e.turn ≤ (C7 e m).turn ∧ (e.phase ≠ 0 → (C7 e m).turn = e.turn) ∧ (e.phase ≠ 0 → (C7 e m).phase ≠ 0 → (C7 e m).who = e.who ∧ (C7 e m).serial = e.serial ∧ (C7 e m).alone = e.alone)
      unfold C7
      split
      · split <;> exact ⟨Int.le_refl _, fun _ => rfl, fun _ _ => ⟨rfl, rfl, rfl⟩⟩
      · exact ⟨Int.le_refl _, fun _ => rfl, fun _ _ => ⟨rfl, rfl, rfl⟩⟩
  split
  · show e.turn ≤ (De e m).turn ∧ (e.phase ≠ 0 → (De e m).turn = e.turn) ∧ (e.phase ≠ 0 → (De e m).phase ≠ 0 → (De e m).who = e.who ∧ (De e m).serial = e.serial ∧ (De e m).alone = e.alone)
    unfold De
    rw [(Dr _).1, (Dr _).2.1, (hn _).1, (hn _).2]
    exact ⟨Int.le_refl _, fun _ => rfl, fun _ _ => ⟨rfl, rfl, rfl⟩⟩
  split
  · split
    · show e.turn ≤ (A3 (Bo e m)).turn ∧ (e.phase ≠ 0 → (A3 (Bo e m)).turn = e.turn) ∧ (e.phase ≠ 0 → (A3 (Bo e m)).phase ≠ 0 → (A3 (Bo e m)).who = e.who ∧ (A3 (Bo e m)).serial = e.serial ∧ (A3 (Bo e m)).alone = e.alone)
      rw [(Dr _).1, (Dr _).2.1, (hn _).1, (hn _).2]
      exact ⟨Int.le_refl _, fun _ => rfl, fun _ _ => ⟨rfl, rfl, rfl⟩⟩
    · exact ⟨Int.le_refl _, fun _ => rfl, fun _ _ => ⟨rfl, rfl, rfl⟩⟩
  split
  · show e.turn ≤ (Bs e).turn ∧ (e.phase ≠ 0 → (Bs e).turn = e.turn) ∧ (e.phase ≠ 0 → (Bs e).phase ≠ 0 → (Bs e).who = e.who ∧ (Bs e).serial = e.serial ∧ (Bs e).alone = e.alone)
    unfold Bs
    split <;> exact ⟨Int.le_refl _, fun _ => rfl, fun _ h => absurd rfl h⟩
  · exact ⟨Int.le_refl _, fun _ => rfl, fun _ _ => ⟨rfl, rfl, rfl⟩⟩
theorem Lw (l : List Entry) (id : Int) (m : Msg) : (Ai l id m).1.length = l.length := by unfold Ai; split <;> simp
theorem T1 {l : List Entry} {id : Int} {m : Msg} {k : Nat} (hk : k < l.length) : ((l.getD k Aq).turn ≤ ((Ai l id m).1.getD k Aq).turn ∧ ((l.getD k Aq).phase ≠ 0 → ((Ai l id m).1.getD k Aq).turn = (l.getD k Aq).turn) ∧ ((l.getD k Aq).phase ≠ 0 → ((Ai l id m).1.getD k Aq).phase ≠ 0 → ((Ai l id m).1.getD k Aq).who = (l.getD k Aq).who ∧ ((Ai l id m).1.getD k Aq).serial = (l.getD k Aq).serial ∧ ((Ai l id m).1.getD k Aq).alone = (l.getD k Aq).alone)) ∧ ((k : Int) ≠ m.line → l.getD k Aq = (Ai l id m).1.getD k Aq) := by
  have same : (Ai l id m).1.getD k Aq = l.getD k Aq → _ := fun h => (⟨⟨by rw [h]; exact Int.le_refl _, fun _ => by rw [h], fun _ _ => by rw [h]; exact ⟨rfl, rfl, rfl⟩⟩, fun _ => h.symm⟩ : ((l.getD k Aq).turn ≤ ((Ai l id m).1.getD k Aq).turn ∧ ((l.getD k Aq).phase ≠ 0 → ((Ai l id m).1.getD k Aq).turn = (l.getD k Aq).turn) ∧ ((l.getD k Aq).phase ≠ 0 → ((Ai l id m).1.getD k Aq).phase ≠ 0 → ((Ai l id m).1.getD k Aq).who = (l.getD k Aq).who ∧ ((Ai l id m).1.getD k Aq).serial = (l.getD k Aq).serial ∧ ((Ai l id m).1.getD k Aq).alone = (l.getD k Aq).alone)) ∧ ((k : Int) ≠ m.line → l.getD k Aq = (Ai l id m).1.getD k Aq))
  by_cases c : m.line < 0 ∨ (l.length : Int) ≤ m.line ∨ m.src < 0 ∨ ((Ad l m.line).last.length : Int) ≤ m.src
  · have h1 : Ai l id m = (l, []) := by unfold Ai; rw [if_pos c]
    exact same (by rw [h1])
  · have h1 : (Ai l id m).1 = l.set m.line.toNat (Af (Ad l m.line) id m).1 := by unfold Ai; rw [if_neg c]
    by_cases h : m.line.toNat = k
    · have h2 : (Ai l id m).1.getD k Aq = (Af (l.getD k Aq) id m).1 := by
        rw [h1, ← h, List.getD_eq_getElem?_getD, List.getElem?_set_self (by omega)]; rfl
      rw [h2]
      exact ⟨Rt, fun hk => absurd hk (by omega)⟩
    · exact same (by rw [h1, List.getD_eq_getElem?_getD, List.getElem?_set_ne h, ← List.getD_eq_getElem?_getD])
theorem J8 {c : Config} {l : List Step} (h : ¬ ((build c l).1.cores.length : Int) = 0) : (Cc c).2 = 0 ∧ ∃ n nl : Nat, c = Fz n nl ∧ ∃ M, Inv n nl (build c l).1 M := by
  by_cases h0 : (Cc c).2 = 0
  · obtain ⟨n, nl, h1, M, h2, _⟩ := Rp (l := l) h0
    exact ⟨h0, n, nl, h1, M, h2⟩
  · exfalso; apply h
    unfold build; rw [if_pos h0]; rfl
end Go.Proofs.Ytofgpimoekhfaaa
