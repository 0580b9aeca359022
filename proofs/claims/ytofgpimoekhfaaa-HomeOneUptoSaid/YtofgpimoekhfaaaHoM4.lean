/- This file proves parts of what its law needs: each part is told ahead of it. No conditions. -/
import Derived.Test.YtofgpimoekhfaaaHoM3
import Derived.Test.YtofgpimoekhfaaaHoM2
import Derived.Test.YtofgpimoekhfaaaHoM1
/- This file proves what the program's home hears: some kinds of messages. No conditions. -/
set_option linter.unusedVariables false
set_option linter.unusedSimpArgs false
set_option maxHeartbeats 1000000
set_option maxRecDepth 8000
namespace Go.Proofs.Ytofgpimoekhfaaa
open Go
theorem P9 {L : List Chunk} {R : List Fact} {w : World} {v0 : Value} {l : List Entry} {id : Int} {m : Msg} (hs : St (L) R w) (h0 : sl v0 l ∈ R) (hb : ∀ i, i < l.length → EB (l.getD i Aq)) (hla : ∀ i, i < l.length → (l.getD i Aq).last.length ≤ 4) (hm : m.wf) (hid : Ax id) (hk : 0 ≤ m.line ∧ m.line < (l.length : Int) ∧ 0 ≤ m.src ∧ m.src < ((Ad l m.line).last.length : Int) ∧ m.kind = 9) : Calls Try.prog 29 [v0, vi id, .agg m.cells.toArray].toArray w (C2 (fun v : Value × Value => .tuple #[v.1, v.2]) (fun v => L) (fun v => sl v.1 (Ai l id m).1 :: sl v.2 (Ai l id m).2 :: R)) := by
  have hlen := Bv h0 hs
  have hm0 := hm
  unfold Msg.wf Ax at hm0
  have hid0 := hid
  unfold Ax at hid0
  refine Au Try.func29 rfl Try.ntmps29 rfl hs ?_
  clear hs
  refine sr ?_
  refine bx ?_; intro b5
  refine rn2 ?_
  refine nr ?_
  refine rn1 ?_
  refine A1 Try.call33 rfl (fun w hs => F7 (l := l) hs mm) ?_; intro g13
  refine rn1 ?_
  refine nx ?_
  refine JC.conseqEx (γ := Value) (L' := fun u => foc 58 g13.1 l m.line.toNat (Entry.cells u (Ad l m.line)) :: row 3 u (Ad l m.line).last :: blk b5 42 m.cells :: L) (R' := fun u => pr (u.oneCell' = true) :: R) (fun w hs => by
   have h1 : g13.2.map EV.e = l := F4 (.head _) hs
   obtain ⟨u, h2, h3, h4⟩ := Hf m.line.toNat h1 (by omega) hs
   exact ⟨u, St.pr h3 (h4.sub .refl (fun f hf => .tail _ hf))⟩) (fun uo => ?_)
  refine JC.know (p := uo.oneCell' = true) (fun w hs => F4 (.head _) hs) (fun honeo => ?_)
  refine Dx (v := v0) m.line mm (by omega) (by omega) (fun hEw u => ?_)
  have hE : EB (Ad l m.line) := hb m.line.toNat (by omega)
  have hE0 := hE
  unfold EB Entry.wf Ax at hE0
  have hL : (Ad l m.line).last.length ≤ 4 := hla m.line.toNat (by omega)
  refine JC.know (p := u.oneCell' = true) (fun w hs => isSlice.one (hs.fact (.tail _ (.head _)))) (fun hone => ?_)
  refine JC.know (p := ∀ x ∈ (Ad l m.line).last, Ax x) (fun w hs => Dy (.tail _ (.head _)) hs) (fun hlin => ?_)
  refine Al Ay (by kernel_rfl) (by kernel_rfl) (fun _ _ => _) (fun _ => rfl) ?_
  refine dn2 ?_
  refine dj ?_
  first | refine dc (fun _ _ => Ah rfl rfl (Az (by omega))) ?_
  refine dj ?_
  first | refine dc (fun _ _ => Bh) ?_
  refine dn4 ?_
  refine dj (dgy ?_)
  first | refine dc (fun _ _ => Ah rfl rfl (Bd (by omega))) ?_
  refine dj ?_
  first | refine dc (fun _ _ => Bp) ?_
  refine dj ?_
  first | refine dc (fun _ _ => Bh) ?_
  refine dn2 ?_
  refine dj (dgy ?_)
  first | refine dc (fun _ _ => Ah rfl rfl (Az (by omega))) ?_
  refine dj ?_
  first | refine dc (fun _ _ => Bp) ?_
  refine dj ?_
  first | refine dc (fun _ _ => Bh) ?_
  refine dn9 ?_
  refine dj (dgy ?_)
  first | refine dc (fun _ _ => Ah rfl rfl (Bd (show ¬ ((Ad l m.line).last.length : Int) ≤ m.src by omega))) ?_
  refine dj ?_
  first | refine dc (fun _ _ => Bp) ?_
  refine Aw ?_; intro ρ; simp only [Ao, facts, Bb, List.append_nil, List.nil_append, List.cons_append]
  refine Ae ?_
  refine sq ?_
  refine cF_ ?_
  refine Ak ?_
  refine Ae ?_
  refine sq ?_
  refine JC.know (p := EpAll g13.1 10 m.line.toNat) (fun w hs => Tm (α := Entry) (xs := l) pkk w hs) (fun hA => ?_)
  have honeE : (ep g13.1 10 m.line.toNat 0).oneCell' = true := hA.one
  refine kp [1, 5, 6, 7, 8, 9, 42, 43, 44, 45] ?_
  refine Aa ?_
  refine rn3 ?_
  refine ob (Lo (v := g13.1) (i := m.line) Jd (hl := Fr (α := Entry) (xs := l) pkk)) ?_
  refine rn1 ?_
  refine nr ?_
  refine rn5 ?_
  refine bx ?_; intro b51
  refine rn1 ?_
  refine nx ?_
  refine JC.rowNil 42 Msg ?_
  rcases (show (m.turn ≠ (Ad l m.line).turn) ∨ (m.turn = (Ad l m.line).turn ∧ (Ad l m.line).phase ≠ 1) ∨ (m.turn = (Ad l m.line).turn ∧ (Ad l m.line).phase = 1 ∧ m.src ≠ (Ad l m.line).owner) ∨ (m.turn = (Ad l m.line).turn ∧ (Ad l m.line).phase = 1 ∧ m.src = (Ad l m.line).owner) from by omega) with hc | hc | hc | hc
  ·
   refine Al Ay (by kernel_rfl) (by kernel_rfl) (fun _ _ => _) (fun _ => rfl) ?_
   refine dn6 ?_
   refine dj ?_
   first | refine dc (fun _ _ => Ah rfl rfl (An (by omega))) ?_
   refine dj ?_
   first | refine dc (fun _ _ => Cz) ?_
   refine Aw ?_; intro ρ; simp only [Ao, facts, Bb, List.append_nil, List.nil_append, List.cons_append]
   refine Ae ?_
   refine sq ?_
   refine Av ?_
   refine sr ?_
   refine rn2 ?_
   refine ob (Ah rfl rfl (An (by omega))) ?_
   refine rn3 ?_
   refine gy ?_
   refine ob (Ah rfl rfl (An (by omega))) ?_
   refine rn2 ?_
   refine nx ?_
   refine cF_ ?_
   refine sr ?_
   refine rn2 ?_
   refine ob (Ah rfl rfl (An (by omega))) ?_
   refine rn1 ?_
   refine nx ?_
   refine cF_ ?_
   refine sq ?_
   refine kp [5, 6, 7, 8, 9, 10, 11, 76, 77, 78, 79, 80, 81, 82, 83, 84, 85, 86, 87, 88, 89, 90, 91, 92, 93, 94, 95, 96, 97, 98] ?_
   refine Al Ay (by kernel_rfl) (by kernel_rfl) (fun _ _ => _) (fun _ => rfl) ?_
   refine dn2 ?_
   refine dj ?_
   first | refine dc (fun _ _ => Ah rfl rfl (A2 (by omega))) ?_
   refine dj ?_
   first | refine dc (fun _ _ => Bh) ?_
   refine dn1 ?_
   refine dj ?_
   first | refine dc (fun _ _ => Ew) ?_
   refine dj ?_
   first | refine dc (fun _ _ => Bh) ?_
   refine dn5 ?_
   refine dj ?_
   first | refine dc (fun _ _ => Bp) ?_
   refine dj ?_
   first | refine dc (fun _ _ => Bh) ?_
   refine dn7 ?_
   refine dj ?_
   first | refine dc (fun _ _ => Bp) ?_
   refine dj ?_
   first | refine dc (fun _ _ => Cz) ?_
   refine Aw ?_; intro ρ; simp only [Ao, facts, Bb, List.append_nil, List.nil_append, List.cons_append]
   refine Ae ?_
   refine cF_ ?_
   refine sq ?_
   refine Al Ay (by kernel_rfl) (by kernel_rfl) (fun _ _ => _) (fun _ => rfl) ?_
   refine dn2 ?_
   refine dj ?_
   first | refine dc (fun _ _ => Ah rfl rfl (An (by omega))) ?_
   refine dj ?_
   first | refine dc (fun _ _ => Bh) ?_
   refine dn1 ?_
   refine dj ?_
   first | refine dc (fun _ _ => Bp) ?_
   refine dj ?_
   first | refine dc (fun _ _ => Bh) ?_
   refine dn5 ?_
   refine dj ?_
   first | refine dc (fun _ _ => Bp) ?_
   refine dj ?_
   first | refine dc (fun _ _ => Bh) ?_
   refine dn9 ?_
   refine dj ?_
   first | refine dc (fun _ _ => Bp) ?_
   refine dj ?_
   first | refine dc (fun _ _ => Cz) ?_
   refine Aw ?_; intro ρ; simp only [Ao, facts, Bb, List.append_nil, List.nil_append, List.cons_append]
   refine Ae ?_
   refine cF_ ?_
   refine sq ?_
   refine kp [5, 6, 7, 8, 9, 10, 11, 178, 179, 180, 181, 182, 183, 184, 185, 186, 187, 188, 189, 190, 191, 192, 193, 194, 195, 196, 197, 198, 199, 200] ?_
   refine Al Ay (by kernel_rfl) (by kernel_rfl) (fun _ _ => _) (fun _ => rfl) ?_
   refine dn2 ?_
   refine dj ?_
   first | refine dc (fun _ _ => Ah rfl rfl (An (by omega))) ?_
   refine dj ?_
   first | refine dc (fun _ _ => Bh) ?_
   refine dn1 ?_
   refine dj ?_
   first | refine dc (fun _ _ => Bp) ?_
   refine dj ?_
   first | refine dc (fun _ _ => Bh) ?_
   refine dn5 ?_
   refine dj ?_
   first | refine dc (fun _ _ => Bp) ?_
   refine dj ?_
   first | refine dc (fun _ _ => Bh) ?_
   refine dn7 ?_
   refine dj ?_
   first | refine dc (fun _ _ => Bp) ?_
   refine dj ?_
   first | refine dc (fun _ _ => Cz) ?_
   refine Aw ?_; intro ρ; simp only [Ao, facts, Bb, List.append_nil, List.nil_append, List.cons_append]
   refine Ae ?_
   refine cF_ ?_
   refine Ak ?_
   refine As ?_
   refine Ae ?_
   refine sq ?_
   have eh : (Af (Ad l m.line) id m) = ((Ad l m.line), []) := by unfold Af; rw [if_neg (by omega), if_neg (by omega), if_neg (by omega), if_neg (by omega), if_neg (by omega)]
   refine JC.conseq (L' := foc 58 g13.1 l m.line.toNat (Entry.cells uo (Af (Ad l m.line) id m).1) :: row 3 uo (Af (Ad l m.line) id m).1.last :: blk b51 104 [ep g13.1 10 m.line.toNat 0, vi m.line, vi id, .slice none 0 0] :: row 42 (.slice none 0 0) (Af (Ad l m.line) id m).2 :: L) (fun w hs => by rw [eh]; exact Ag hs) ?_
   have hEB : EB (Af (Ad l m.line) id m).1 := Dj hE hm (by omega)
   refine JC.shut (v := uo) (xs := (Af (Ad l m.line) id m).1.last) pkk ?_
   refine JC.unfocus (Af (Ad l m.line) id m).1 pkk (Dh mm hEB.1) ?_
   refine JC.shut (v := g13.1) pkk ?_
   refine Al Ay (by kernel_rfl) (by kernel_rfl) (fun _ _ => _) (fun _ => rfl) ?_
   refine dn7 ?_
   refine Aw ?_; intro ρ; simp only [Ao, facts, Bb, List.append_nil, List.nil_append, List.cons_append]
   refine Ae ?_
   refine rt ?_
   have er : Ai l id m = (l.set m.line.toNat (Af (Ad l m.line) id m).1, (Af (Ad l m.line) id m).2) := by unfold Ai; rw [if_neg (by omega)]
   rw [er]
   refine Aj (.inr rfl) (fun B w hs => Ed rfl rfl rfl B w) (fun w hs => ⟨(g13.1, .slice none 0 0), ?_, Ag (St.shut (hs.pick pkk))⟩)
   rfl
  ·
   refine Al Ay (by kernel_rfl) (by kernel_rfl) (fun _ _ => _) (fun _ => rfl) ?_
   refine dn6 ?_
   refine dj ?_
   first | refine dc (fun _ _ => Ah rfl rfl (A2 (by omega))) ?_
   refine dj ?_
   first | refine dc (fun _ _ => Cz) ?_
   refine Aw ?_; intro ρ; simp only [Ao, facts, Bb, List.append_nil, List.nil_append, List.cons_append]
   refine Ae ?_
   refine sq ?_
   refine Av ?_
   refine sr ?_
   refine rn2 ?_
   refine ob (Ah rfl rfl (An (by omega))) ?_
   refine rn3 ?_
   refine gy ?_
   refine ob (Ah rfl rfl (An (by omega))) ?_
   refine rn2 ?_
   refine nx ?_
   refine cF_ ?_
   refine sr ?_
   refine rn2 ?_
   refine ob (Ah rfl rfl (An (by omega))) ?_
   refine rn1 ?_
   refine nx ?_
   refine cF_ ?_
   refine sq ?_
   refine kp [5, 6, 7, 8, 9, 10, 11, 76, 77, 78, 79, 80, 81, 82, 83, 84, 85, 86, 87, 88, 89, 90, 91, 92, 93, 94, 95, 96, 97, 98] ?_
   refine Al Ay (by kernel_rfl) (by kernel_rfl) (fun _ _ => _) (fun _ => rfl) ?_
   refine dn2 ?_
   refine dj ?_
   first | refine dc (fun _ _ => Ah rfl rfl (A2 (by omega))) ?_
   refine dj ?_
   first | refine dc (fun _ _ => Bh) ?_
   refine dn1 ?_
   refine dj ?_
   first | refine dc (fun _ _ => Ew) ?_
   refine dj ?_
   first | refine dc (fun _ _ => Bh) ?_
   refine dn4 ?_
   refine dj (dgy ?_)
   first | refine dc (fun _ _ => Ah rfl rfl (An (by omega))) ?_
   refine dj ?_
   first | refine dc (fun _ _ => Ew) ?_
   refine dj ?_
   first | refine dc (fun _ _ => Bh) ?_
   refine dn7 ?_
   refine dj ?_
   first | refine dc (fun _ _ => Bp) ?_
   refine dj ?_
   first | refine dc (fun _ _ => Cz) ?_
   refine Aw ?_; intro ρ; simp only [Ao, facts, Bb, List.append_nil, List.nil_append, List.cons_append]
   refine Ae ?_
   refine cF_ ?_
   refine sq ?_
   refine Al Ay (by kernel_rfl) (by kernel_rfl) (fun _ _ => _) (fun _ => rfl) ?_
   refine dn2 ?_
   refine dj ?_
   first | refine dc (fun _ _ => Ah rfl rfl (An (by omega))) ?_
   refine dj ?_
   first | refine dc (fun _ _ => Bh) ?_
   refine dn1 ?_
   refine dj ?_
   first | refine dc (fun _ _ => Bp) ?_
   refine dj ?_
   first | refine dc (fun _ _ => Bh) ?_
   refine dn5 ?_
   refine dj ?_
   first | refine dc (fun _ _ => Bp) ?_
   refine dj ?_
   first | refine dc (fun _ _ => Bh) ?_
   refine dn9 ?_
   refine dj ?_
   first | refine dc (fun _ _ => Bp) ?_
   refine dj ?_
   first | refine dc (fun _ _ => Cz) ?_
   refine Aw ?_; intro ρ; simp only [Ao, facts, Bb, List.append_nil, List.nil_append, List.cons_append]
   refine Ae ?_
   refine cF_ ?_
   refine sq ?_
   refine kp [5, 6, 7, 8, 9, 10, 11, 178, 179, 180, 181, 182, 183, 184, 185, 186, 187, 188, 189, 190, 191, 192, 193, 194, 195, 196, 197, 198, 199, 200] ?_
   refine Al Ay (by kernel_rfl) (by kernel_rfl) (fun _ _ => _) (fun _ => rfl) ?_
   refine dn2 ?_
   refine dj ?_
   first | refine dc (fun _ _ => Ah rfl rfl (An (by omega))) ?_
   refine dj ?_
   first | refine dc (fun _ _ => Bh) ?_
   refine dn1 ?_
   refine dj ?_
   first | refine dc (fun _ _ => Bp) ?_
   refine dj ?_
   first | refine dc (fun _ _ => Bh) ?_
   refine dn5 ?_
   refine dj ?_
   first | refine dc (fun _ _ => Bp) ?_
   refine dj ?_
   first | refine dc (fun _ _ => Bh) ?_
   refine dn7 ?_
   refine dj ?_
   first | refine dc (fun _ _ => Bp) ?_
   refine dj ?_
   first | refine dc (fun _ _ => Cz) ?_
   refine Aw ?_; intro ρ; simp only [Ao, facts, Bb, List.append_nil, List.nil_append, List.cons_append]
   refine Ae ?_
   refine cF_ ?_
   refine Ak ?_
   refine As ?_
   refine Ae ?_
   refine sq ?_
   have eh : (Af (Ad l m.line) id m) = ((Ad l m.line), []) := by unfold Af; rw [if_neg (by omega), if_neg (by omega), if_neg (by omega), if_neg (by omega), if_neg (by omega)]
   refine JC.conseq (L' := foc 58 g13.1 l m.line.toNat (Entry.cells uo (Af (Ad l m.line) id m).1) :: row 3 uo (Af (Ad l m.line) id m).1.last :: blk b51 104 [ep g13.1 10 m.line.toNat 0, vi m.line, vi id, .slice none 0 0] :: row 42 (.slice none 0 0) (Af (Ad l m.line) id m).2 :: L) (fun w hs => by rw [eh]; exact Ag hs) ?_
   have hEB : EB (Af (Ad l m.line) id m).1 := Dj hE hm (by omega)
   refine JC.shut (v := uo) (xs := (Af (Ad l m.line) id m).1.last) pkk ?_
   refine JC.unfocus (Af (Ad l m.line) id m).1 pkk (Dh mm hEB.1) ?_
   refine JC.shut (v := g13.1) pkk ?_
   refine Al Ay (by kernel_rfl) (by kernel_rfl) (fun _ _ => _) (fun _ => rfl) ?_
   refine dn7 ?_
   refine Aw ?_; intro ρ; simp only [Ao, facts, Bb, List.append_nil, List.nil_append, List.cons_append]
   refine Ae ?_
   refine rt ?_
   have er : Ai l id m = (l.set m.line.toNat (Af (Ad l m.line) id m).1, (Af (Ad l m.line) id m).2) := by unfold Ai; rw [if_neg (by omega)]
   rw [er]
   refine Aj (.inr rfl) (fun B w hs => Ed rfl rfl rfl B w) (fun w hs => ⟨(g13.1, .slice none 0 0), ?_, Ag (St.shut (hs.pick pkk))⟩)
   rfl
  ·
   refine Al Ay (by kernel_rfl) (by kernel_rfl) (fun _ _ => _) (fun _ => rfl) ?_
   refine dn6 ?_
   refine dj ?_
   first | refine dc (fun _ _ => Ah rfl rfl (A2 (by omega))) ?_
   refine dj ?_
   first | refine dc (fun _ _ => Cz) ?_
   refine Aw ?_; intro ρ; simp only [Ao, facts, Bb, List.append_nil, List.nil_append, List.cons_append]
   refine Ae ?_
   refine sq ?_
   refine Av ?_
   refine sr ?_
   refine rn2 ?_
   refine ob (Ah rfl rfl (An (by omega))) ?_
   refine rn3 ?_
   refine gy ?_
   refine ob (Ah rfl rfl (An (by omega))) ?_
   refine rn2 ?_
   refine nx ?_
   refine cF_ ?_
   refine sr ?_
   refine rn2 ?_
   refine ob (Ah rfl rfl (An (by omega))) ?_
   refine rn1 ?_
   refine nx ?_
   refine cF_ ?_
   refine sq ?_
   refine kp [5, 6, 7, 8, 9, 10, 11, 76, 77, 78, 79, 80, 81, 82, 83, 84, 85, 86, 87, 88, 89, 90, 91, 92, 93, 94, 95, 96, 97, 98] ?_
   refine Al Ay (by kernel_rfl) (by kernel_rfl) (fun _ _ => _) (fun _ => rfl) ?_
   refine dn2 ?_
   refine dj ?_
   first | refine dc (fun _ _ => Ah rfl rfl (A2 (by omega))) ?_
   refine dj ?_
   first | refine dc (fun _ _ => Bh) ?_
   refine dn1 ?_
   refine dj ?_
   first | refine dc (fun _ _ => Ew) ?_
   refine dj ?_
   first | refine dc (fun _ _ => Bh) ?_
   refine dn4 ?_
   refine dj (dgy ?_)
   first | refine dc (fun _ _ => Ah rfl rfl (A2 (by omega))) ?_
   refine dj ?_
   first | refine dc (fun _ _ => Ew) ?_
   refine dj ?_
   first | refine dc (fun _ _ => Bh) ?_
   refine dn6 ?_
   refine dj (dgy ?_)
   first | refine dc (fun _ _ => Ah rfl rfl (An (by omega))) ?_
   refine dj ?_
   first | refine dc (fun _ _ => Ew) ?_
   refine dj ?_
   first | refine dc (fun _ _ => Cz) ?_
   refine Aw ?_; intro ρ; simp only [Ao, facts, Bb, List.append_nil, List.nil_append, List.cons_append]
   refine Ae ?_
   refine cF_ ?_
   refine sq ?_
   refine Al Ay (by kernel_rfl) (by kernel_rfl) (fun _ _ => _) (fun _ => rfl) ?_
   refine dn2 ?_
   refine dj ?_
   first | refine dc (fun _ _ => Ah rfl rfl (An (by omega))) ?_
   refine dj ?_
   first | refine dc (fun _ _ => Bh) ?_
   refine dn1 ?_
   refine dj ?_
   first | refine dc (fun _ _ => Bp) ?_
   refine dj ?_
   first | refine dc (fun _ _ => Bh) ?_
   refine dn5 ?_
   refine dj ?_
   first | refine dc (fun _ _ => Bp) ?_
   refine dj ?_
   first | refine dc (fun _ _ => Bh) ?_
   refine dn9 ?_
   refine dj ?_
   first | refine dc (fun _ _ => Bp) ?_
   refine dj ?_
   first | refine dc (fun _ _ => Cz) ?_
   refine Aw ?_; intro ρ; simp only [Ao, facts, Bb, List.append_nil, List.nil_append, List.cons_append]
   refine Ae ?_
   refine cF_ ?_
   refine sq ?_
   refine kp [5, 6, 7, 8, 9, 10, 11, 178, 179, 180, 181, 182, 183, 184, 185, 186, 187, 188, 189, 190, 191, 192, 193, 194, 195, 196, 197, 198, 199, 200] ?_
   refine Al Ay (by kernel_rfl) (by kernel_rfl) (fun _ _ => _) (fun _ => rfl) ?_
   refine dn2 ?_
   refine dj ?_
   first | refine dc (fun _ _ => Ah rfl rfl (An (by omega))) ?_
   refine dj ?_
   first | refine dc (fun _ _ => Bh) ?_
   refine dn1 ?_
   refine dj ?_
   first | refine dc (fun _ _ => Bp) ?_
   refine dj ?_
   first | refine dc (fun _ _ => Bh) ?_
   refine dn5 ?_
   refine dj ?_
   first | refine dc (fun _ _ => Bp) ?_
   refine dj ?_
   first | refine dc (fun _ _ => Bh) ?_
   refine dn7 ?_
   refine dj ?_
   first | refine dc (fun _ _ => Bp) ?_
   refine dj ?_
   first | refine dc (fun _ _ => Cz) ?_
   refine Aw ?_; intro ρ; simp only [Ao, facts, Bb, List.append_nil, List.nil_append, List.cons_append]
   refine Ae ?_
   refine cF_ ?_
   refine Ak ?_
   refine As ?_
   refine Ae ?_
   refine sq ?_
   have eh : (Af (Ad l m.line) id m) = ((Ad l m.line), []) := by unfold Af; rw [if_neg (by omega), if_neg (by omega), if_neg (by omega), if_neg (by omega), if_neg (by omega)]
   refine JC.conseq (L' := foc 58 g13.1 l m.line.toNat (Entry.cells uo (Af (Ad l m.line) id m).1) :: row 3 uo (Af (Ad l m.line) id m).1.last :: blk b51 104 [ep g13.1 10 m.line.toNat 0, vi m.line, vi id, .slice none 0 0] :: row 42 (.slice none 0 0) (Af (Ad l m.line) id m).2 :: L) (fun w hs => by rw [eh]; exact Ag hs) ?_
   have hEB : EB (Af (Ad l m.line) id m).1 := Dj hE hm (by omega)
   refine JC.shut (v := uo) (xs := (Af (Ad l m.line) id m).1.last) pkk ?_
   refine JC.unfocus (Af (Ad l m.line) id m).1 pkk (Dh mm hEB.1) ?_
   refine JC.shut (v := g13.1) pkk ?_
   refine Al Ay (by kernel_rfl) (by kernel_rfl) (fun _ _ => _) (fun _ => rfl) ?_
   refine dn7 ?_
   refine Aw ?_; intro ρ; simp only [Ao, facts, Bb, List.append_nil, List.nil_append, List.cons_append]
   refine Ae ?_
   refine rt ?_
   have er : Ai l id m = (l.set m.line.toNat (Af (Ad l m.line) id m).1, (Af (Ad l m.line) id m).2) := by unfold Ai; rw [if_neg (by omega)]
   rw [er]
   refine Aj (.inr rfl) (fun B w hs => Ed rfl rfl rfl B w) (fun w hs => ⟨(g13.1, .slice none 0 0), ?_, Ag (St.shut (hs.pick pkk))⟩)
   rfl
  ·
   refine Al Ay (by kernel_rfl) (by kernel_rfl) (fun _ _ => _) (fun _ => rfl) ?_
   refine dn6 ?_
   refine dj ?_
   first | refine dc (fun _ _ => Ah rfl rfl (A2 (by omega))) ?_
   refine dj ?_
   first | refine dc (fun _ _ => Cz) ?_
   refine Aw ?_; intro ρ; simp only [Ao, facts, Bb, List.append_nil, List.nil_append, List.cons_append]
   refine Ae ?_
   refine sq ?_
   refine Av ?_
   refine sr ?_
   refine rn2 ?_
   refine ob (Ah rfl rfl (An (by omega))) ?_
   refine rn3 ?_
   refine gy ?_
   refine ob (Ah rfl rfl (An (by omega))) ?_
   refine rn2 ?_
   refine nx ?_
   refine cF_ ?_
   refine sr ?_
   refine rn2 ?_
   refine ob (Ah rfl rfl (An (by omega))) ?_
   refine rn1 ?_
   refine nx ?_
   refine cF_ ?_
   refine sq ?_
   refine kp [5, 6, 7, 8, 9, 10, 11, 76, 77, 78, 79, 80, 81, 82, 83, 84, 85, 86, 87, 88, 89, 90, 91, 92, 93, 94, 95, 96, 97, 98] ?_
   refine Al Ay (by kernel_rfl) (by kernel_rfl) (fun _ _ => _) (fun _ => rfl) ?_
   refine dn2 ?_
   refine dj ?_
   first | refine dc (fun _ _ => Ah rfl rfl (A2 (by omega))) ?_
   refine dj ?_
   first | refine dc (fun _ _ => Bh) ?_
   refine dn1 ?_
   refine dj ?_
   first | refine dc (fun _ _ => Ew) ?_
   refine dj ?_
   first | refine dc (fun _ _ => Bh) ?_
   refine dn4 ?_
   refine dj (dgy ?_)
   first | refine dc (fun _ _ => Ah rfl rfl (A2 (by omega))) ?_
   refine dj ?_
   first | refine dc (fun _ _ => Ew) ?_
   refine dj ?_
   first | refine dc (fun _ _ => Bh) ?_
   refine dn6 ?_
   refine dj (dgy ?_)
   first | refine dc (fun _ _ => Ah rfl rfl (A2 (by omega))) ?_
   refine dj ?_
   first | refine dc (fun _ _ => Ew) ?_
   refine dj ?_
   first | refine dc (fun _ _ => Cz) ?_
   refine Aw ?_; intro ρ; simp only [Ao, facts, Bb, List.append_nil, List.nil_append, List.cons_append]
   refine Ae ?_
   refine cT ?_
   refine sr ?_
   refine rn5 ?_
   refine sc ?_
   refine nr ?_
   refine rn5 ?_
   refine nx ?_
   refine Ci (b := ?b1) ?e1 ?_ ?_; case e1 => exact rfl
   ·
    intro ht108
    refine kp [5, 6, 7, 8, 9, 10, 11, 109, 110, 111, 112, 113, 114, 115, 116, 117, 118, 119, 120] ?_
    refine Al Ay (by kernel_rfl) (by kernel_rfl) (fun _ _ => _) (fun _ => rfl) ?_
    refine dn8 ?_
    refine dj ?_
    refine dc (fun _ _ => E5 (a := 1) (b := (Ad l m.line).owner) (Nr (by omega) (by omega))) ?_
    refine dj ?_
    refine dc (fun _ _ => E5 (a := (Ad l m.line).sharers) (b := ((2 ^ (Ad l m.line).owner.toNat : Nat) : Int)) (b_orB (by omega) (by omega) (by omega) (by omega))) ?_
    refine dn2 ?_
    refine Ei (by kernel_rfl) ?_; intro ρ; simp only [Ao, facts, Bb, List.append_nil, List.nil_append, List.cons_append]
    refine sc ?_
    refine nr ?_
    refine rn3 ?_
    refine sc ?_
    refine nr ?_
    refine rn1 ?_
    have hX : EB ({ (Ad l m.line) with value := m.value, sharers := (Gb (Ad l m.line).sharers (Ad l m.line).owner), owner := -1 }) := by obtain ⟨_, _, r9, _⟩ := Bz hE0.2.1.1 hE0.2.1.2 (show 0 ≤ (Ad l m.line).owner by omega) hE0.2.2.2.2.1.2; unfold EB Entry.wf Ax; simp only; omega
    have eh : (Af (Ad l m.line) id m) = (A3 ({ (Ad l m.line) with value := m.value, sharers := (Gb (Ad l m.line).sharers (Ad l m.line).owner), owner := -1 }), says (A3 ({ (Ad l m.line) with value := m.value, sharers := (Gb (Ad l m.line).sharers (Ad l m.line).owner), owner := -1 })) m.line id) := by
     have hal : (Ad l m.line).alone = false := by simpa using ht108
     unfold Af
     rw [if_neg (by omega), if_neg (by omega), if_pos (by omega)]
     unfold De
     rw [if_neg (by rw [hal]; decide)]
    refine A1 Try.call67 rfl (fun w hs => I8 (vh := g13.1) (vo := .slice none 0 0) (u := uo) (i := m.line.toNat) (e := { (Ad l m.line) with value := m.value, sharers := (Gb (Ad l m.line).sharers (Ad l m.line).owner), owner := -1 }) (ms := []) (line := m.line) (id := id) (xs := l) (LX := row 3 uo (Ad l m.line).last :: blk b5 42 m.cells :: L) (Ag hs) hA honeo (by simp) hX hm.2.2.2.1 hid) ?_; intro v125
    refine J.conseq (L' := foc 58 g13.1 l m.line.toNat (Entry.cells uo (Af (Ad l m.line) id m).1) :: row 3 uo (Af (Ad l m.line) id m).1.last :: blk b51 104 [ep g13.1 10 m.line.toNat 0, vi m.line, vi id, v125] :: row 42 v125 (Af (Ad l m.line) id m).2 :: L) (fun w hs => by rw [List.nil_append] at hs; rw [eh, Cw]; exact Ag hs) ?_
    refine J.nil ?_
    refine As ?_
    refine Ae ?_
    refine sq ?_
    have hEB : EB (Af (Ad l m.line) id m).1 := Dj hE hm (by omega)
    refine JC.shut (v := uo) (xs := (Af (Ad l m.line) id m).1.last) pkk ?_
    refine JC.unfocus (Af (Ad l m.line) id m).1 pkk (Dh mm hEB.1) ?_
    refine JC.shut (v := g13.1) pkk ?_
    refine Al Ay (by kernel_rfl) (by kernel_rfl) (fun _ _ => _) (fun _ => rfl) ?_
    refine dn7 ?_
    refine Aw ?_; intro ρ; simp only [Ao, facts, Bb, List.append_nil, List.nil_append, List.cons_append]
    refine Ae ?_
    refine rt ?_
    have er : Ai l id m = (l.set m.line.toNat (Af (Ad l m.line) id m).1, (Af (Ad l m.line) id m).2) := by unfold Ai; rw [if_neg (by omega)]
    rw [er]
    refine Aj (.inr rfl) (fun B w hs => Ed rfl rfl rfl B w) (fun w hs => ⟨(g13.1, v125), ?_, Ag (St.shut (hs.pick pkk))⟩)
    rfl
   ·
    intro ht108
    refine Ak ?_
    refine Ae ?_
    refine sq ?_
    refine kp [5, 6, 7, 8, 9, 10, 11, 121, 122, 123] ?_
    refine Aa ?_
    refine rn3 ?_
    refine sc ?_
    refine nr ?_
    refine rn1 ?_
    have hX : EB ({ (Ad l m.line) with value := m.value, sharers := (Ad l m.line).sharers, owner := -1 }) := by unfold EB Entry.wf Ax; simp only; omega
    have eh : (Af (Ad l m.line) id m) = (A3 ({ (Ad l m.line) with value := m.value, sharers := (Ad l m.line).sharers, owner := -1 }), says (A3 ({ (Ad l m.line) with value := m.value, sharers := (Ad l m.line).sharers, owner := -1 })) m.line id) := by
     have hal : (Ad l m.line).alone = true := by simpa using ht108
     unfold Af
     rw [if_neg (by omega), if_neg (by omega), if_pos (by omega)]
     unfold De
     rw [if_pos hal]
    refine A1 Try.call67 rfl (fun w hs => I8 (vh := g13.1) (vo := .slice none 0 0) (u := uo) (i := m.line.toNat) (e := { (Ad l m.line) with value := m.value, sharers := (Ad l m.line).sharers, owner := -1 }) (ms := []) (line := m.line) (id := id) (xs := l) (LX := row 3 uo (Ad l m.line).last :: blk b5 42 m.cells :: L) (Ag hs) hA honeo (by simp) hX hm.2.2.2.1 hid) ?_; intro v125
    refine J.conseq (L' := foc 58 g13.1 l m.line.toNat (Entry.cells uo (Af (Ad l m.line) id m).1) :: row 3 uo (Af (Ad l m.line) id m).1.last :: blk b51 104 [ep g13.1 10 m.line.toNat 0, vi m.line, vi id, v125] :: row 42 v125 (Af (Ad l m.line) id m).2 :: L) (fun w hs => by rw [List.nil_append] at hs; rw [eh, Cw]; exact Ag hs) ?_
    refine J.nil ?_
    refine As ?_
    refine Ae ?_
    refine sq ?_
    have hEB : EB (Af (Ad l m.line) id m).1 := Dj hE hm (by omega)
    refine JC.shut (v := uo) (xs := (Af (Ad l m.line) id m).1.last) pkk ?_
    refine JC.unfocus (Af (Ad l m.line) id m).1 pkk (Dh mm hEB.1) ?_
    refine JC.shut (v := g13.1) pkk ?_
    refine Al Ay (by kernel_rfl) (by kernel_rfl) (fun _ _ => _) (fun _ => rfl) ?_
    refine dn7 ?_
    refine Aw ?_; intro ρ; simp only [Ao, facts, Bb, List.append_nil, List.nil_append, List.cons_append]
    refine Ae ?_
    refine rt ?_
    have er : Ai l id m = (l.set m.line.toNat (Af (Ad l m.line) id m).1, (Af (Ad l m.line) id m).2) := by unfold Ai; rw [if_neg (by omega)]
    rw [er]
    refine Aj (.inr rfl) (fun B w hs => Ed rfl rfl rfl B w) (fun w hs => ⟨(g13.1, v125), ?_, Ag (St.shut (hs.pick pkk))⟩)
    rfl
theorem Qa {L : List Chunk} {R : List Fact} {w : World} {v0 : Value} {l : List Entry} {id : Int} {m : Msg} (hs : St (L) R w) (h0 : sl v0 l ∈ R) (hb : ∀ i, i < l.length → EB (l.getD i Aq)) (hla : ∀ i, i < l.length → (l.getD i Aq).last.length ≤ 4) (hm : m.wf) (hid : Ax id) (hk : 0 ≤ m.line ∧ m.line < (l.length : Int) ∧ 0 ≤ m.src ∧ m.src < ((Ad l m.line).last.length : Int) ∧ m.kind = 8) : Calls Try.prog 29 [v0, vi id, .agg m.cells.toArray].toArray w (C2 (fun v : Value × Value => .tuple #[v.1, v.2]) (fun v => L) (fun v => sl v.1 (Ai l id m).1 :: sl v.2 (Ai l id m).2 :: R)) := by
  have hlen := Bv h0 hs
  have hm0 := hm
  unfold Msg.wf Ax at hm0
  have hid0 := hid
  unfold Ax at hid0
  refine Au Try.func29 rfl Try.ntmps29 rfl hs ?_
  clear hs
  refine sr ?_
  refine bx ?_; intro b5
  refine rn2 ?_
  refine nr ?_
  refine rn1 ?_
  refine A1 Try.call33 rfl (fun w hs => F7 (l := l) hs mm) ?_; intro g13
  refine rn1 ?_
  refine nx ?_
  refine JC.conseqEx (γ := Value) (L' := fun u => foc 58 g13.1 l m.line.toNat (Entry.cells u (Ad l m.line)) :: row 3 u (Ad l m.line).last :: blk b5 42 m.cells :: L) (R' := fun u => pr (u.oneCell' = true) :: R) (fun w hs => by
   have h1 : g13.2.map EV.e = l := F4 (.head _) hs
   obtain ⟨u, h2, h3, h4⟩ := Hf m.line.toNat h1 (by omega) hs
   exact ⟨u, St.pr h3 (h4.sub .refl (fun f hf => .tail _ hf))⟩) (fun uo => ?_)
  refine JC.know (p := uo.oneCell' = true) (fun w hs => F4 (.head _) hs) (fun honeo => ?_)
  refine Dx (v := v0) m.line mm (by omega) (by omega) (fun hEw u => ?_)
  have hE : EB (Ad l m.line) := hb m.line.toNat (by omega)
  have hE0 := hE
  unfold EB Entry.wf Ax at hE0
  have hL : (Ad l m.line).last.length ≤ 4 := hla m.line.toNat (by omega)
  refine JC.know (p := u.oneCell' = true) (fun w hs => isSlice.one (hs.fact (.tail _ (.head _)))) (fun hone => ?_)
  refine JC.know (p := ∀ x ∈ (Ad l m.line).last, Ax x) (fun w hs => Dy (.tail _ (.head _)) hs) (fun hlin => ?_)
  refine Al Ay (by kernel_rfl) (by kernel_rfl) (fun _ _ => _) (fun _ => rfl) ?_
  refine dn2 ?_
  refine dj ?_
  first | refine dc (fun _ _ => Ah rfl rfl (Az (by omega))) ?_
  refine dj ?_
  first | refine dc (fun _ _ => Bh) ?_
  refine dn4 ?_
  refine dj (dgy ?_)
  first | refine dc (fun _ _ => Ah rfl rfl (Bd (by omega))) ?_
  refine dj ?_
  first | refine dc (fun _ _ => Bp) ?_
  refine dj ?_
  first | refine dc (fun _ _ => Bh) ?_
  refine dn2 ?_
  refine dj (dgy ?_)
  first | refine dc (fun _ _ => Ah rfl rfl (Az (by omega))) ?_
  refine dj ?_
  first | refine dc (fun _ _ => Bp) ?_
  refine dj ?_
  first | refine dc (fun _ _ => Bh) ?_
  refine dn9 ?_
  refine dj (dgy ?_)
  first | refine dc (fun _ _ => Ah rfl rfl (Bd (show ¬ ((Ad l m.line).last.length : Int) ≤ m.src by omega))) ?_
  refine dj ?_
  first | refine dc (fun _ _ => Bp) ?_
  refine Aw ?_; intro ρ; simp only [Ao, facts, Bb, List.append_nil, List.nil_append, List.cons_append]
  refine Ae ?_
  refine sq ?_
  refine cF_ ?_
  refine Ak ?_
  refine Ae ?_
  refine sq ?_
  refine JC.know (p := EpAll g13.1 10 m.line.toNat) (fun w hs => Tm (α := Entry) (xs := l) pkk w hs) (fun hA => ?_)
  have honeE : (ep g13.1 10 m.line.toNat 0).oneCell' = true := hA.one
  refine kp [1, 5, 6, 7, 8, 9, 42, 43, 44, 45] ?_
  refine Aa ?_
  refine rn3 ?_
  refine ob (Lo (v := g13.1) (i := m.line) Jd (hl := Fr (α := Entry) (xs := l) pkk)) ?_
  refine rn1 ?_
  refine nr ?_
  refine rn5 ?_
  refine bx ?_; intro b51
  refine rn1 ?_
  refine nx ?_
  refine JC.rowNil 42 Msg ?_
  rcases (show (m.turn ≠ (Ad l m.line).turn) ∨ (m.turn = (Ad l m.line).turn ∧ (Ad l m.line).phase ≠ 2) ∨ (m.turn = (Ad l m.line).turn ∧ (Ad l m.line).phase = 2 ∧ H2 (Ad l m.line).need m.src = false) ∨ (m.turn = (Ad l m.line).turn ∧ (Ad l m.line).phase = 2 ∧ H2 (Ad l m.line).need m.src = true) from by rcases Bool.eq_false_or_eq_true (H2 (Ad l m.line).need m.src) with h1 | h1 <;> simp only [h1, and_true, and_false, or_false, false_or, reduceCtorEq] <;> omega) with hc | hc | hc | hc
  ·
   refine Al Ay (by kernel_rfl) (by kernel_rfl) (fun _ _ => _) (fun _ => rfl) ?_
   refine dn6 ?_
   refine dj ?_
   first | refine dc (fun _ _ => Ah rfl rfl (An (by omega))) ?_
   refine dj ?_
   first | refine dc (fun _ _ => Cz) ?_
   refine Aw ?_; intro ρ; simp only [Ao, facts, Bb, List.append_nil, List.nil_append, List.cons_append]
   refine Ae ?_
   refine sq ?_
   refine Av ?_
   refine sr ?_
   refine rn2 ?_
   refine ob (Ah rfl rfl (An (by omega))) ?_
   refine rn3 ?_
   refine gy ?_
   refine ob (Ah rfl rfl (An (by omega))) ?_
   refine rn2 ?_
   refine nx ?_
   refine cF_ ?_
   refine sr ?_
   refine rn2 ?_
   refine ob (Ah rfl rfl (An (by omega))) ?_
   refine rn1 ?_
   refine nx ?_
   refine cF_ ?_
   refine sq ?_
   refine kp [5, 6, 7, 8, 9, 10, 11, 76, 77, 78, 79, 80, 81, 82, 83, 84, 85, 86, 87, 88, 89, 90, 91, 92, 93, 94, 95, 96, 97, 98] ?_
   refine Al Ay (by kernel_rfl) (by kernel_rfl) (fun _ _ => _) (fun _ => rfl) ?_
   refine dn2 ?_
   refine dj ?_
   first | refine dc (fun _ _ => Ah rfl rfl (An (by omega))) ?_
   refine dj ?_
   first | refine dc (fun _ _ => Bh) ?_
   refine dn1 ?_
   refine dj ?_
   first | refine dc (fun _ _ => Bp) ?_
   refine dj ?_
   first | refine dc (fun _ _ => Bh) ?_
   refine dn5 ?_
   refine dj ?_
   first | refine dc (fun _ _ => Bp) ?_
   refine dj ?_
   first | refine dc (fun _ _ => Bh) ?_
   refine dn7 ?_
   refine dj ?_
   first | refine dc (fun _ _ => Bp) ?_
   refine dj ?_
   first | refine dc (fun _ _ => Cz) ?_
   refine Aw ?_; intro ρ; simp only [Ao, facts, Bb, List.append_nil, List.nil_append, List.cons_append]
   refine Ae ?_
   refine cF_ ?_
   refine sq ?_
   refine Al Ay (by kernel_rfl) (by kernel_rfl) (fun _ _ => _) (fun _ => rfl) ?_
   refine dn2 ?_
   refine dj ?_
   first | refine dc (fun _ _ => Ah rfl rfl (A2 (by omega))) ?_
   refine dj ?_
   first | refine dc (fun _ _ => Bh) ?_
   refine dn1 ?_
   refine dj ?_
   first | refine dc (fun _ _ => Ew) ?_
   refine dj ?_
   first | refine dc (fun _ _ => Bh) ?_
   refine dn5 ?_
   refine dj ?_
   first | refine dc (fun _ _ => Bp) ?_
   refine dj ?_
   first | refine dc (fun _ _ => Bh) ?_
   refine dn9 ?_
   refine dj ?_
   first | refine dc (fun _ _ => Bp) ?_
   refine dj ?_
   first | refine dc (fun _ _ => Cz) ?_
   refine Aw ?_; intro ρ; simp only [Ao, facts, Bb, List.append_nil, List.nil_append, List.cons_append]
   refine Ae ?_
   refine cF_ ?_
   refine sq ?_
   refine kp [5, 6, 7, 8, 9, 10, 11, 178, 179, 180, 181, 182, 183, 184, 185, 186, 187, 188, 189, 190, 191, 192, 193, 194, 195, 196, 197, 198, 199, 200] ?_
   refine Al Ay (by kernel_rfl) (by kernel_rfl) (fun _ _ => _) (fun _ => rfl) ?_
   refine dn2 ?_
   refine dj ?_
   first | refine dc (fun _ _ => Ah rfl rfl (An (by omega))) ?_
   refine dj ?_
   first | refine dc (fun _ _ => Bh) ?_
   refine dn1 ?_
   refine dj ?_
   first | refine dc (fun _ _ => Bp) ?_
   refine dj ?_
   first | refine dc (fun _ _ => Bh) ?_
   refine dn5 ?_
   refine dj ?_
   first | refine dc (fun _ _ => Bp) ?_
   refine dj ?_
   first | refine dc (fun _ _ => Bh) ?_
   refine dn7 ?_
   refine dj ?_
   first | refine dc (fun _ _ => Bp) ?_
   refine dj ?_
   first | refine dc (fun _ _ => Cz) ?_
   refine Aw ?_; intro ρ; simp only [Ao, facts, Bb, List.append_nil, List.nil_append, List.cons_append]
   refine Ae ?_
   refine cF_ ?_
   refine Ak ?_
   refine As ?_
   refine Ae ?_
   refine sq ?_
   have eh : (Af (Ad l m.line) id m) = ((Ad l m.line), []) := by unfold Af; rw [if_neg (by omega), if_neg (by omega), if_neg (by omega), if_neg (by omega), if_neg (by omega)]
   refine JC.conseq (L' := foc 58 g13.1 l m.line.toNat (Entry.cells uo (Af (Ad l m.line) id m).1) :: row 3 uo (Af (Ad l m.line) id m).1.last :: blk b51 104 [ep g13.1 10 m.line.toNat 0, vi m.line, vi id, .slice none 0 0] :: row 42 (.slice none 0 0) (Af (Ad l m.line) id m).2 :: L) (fun w hs => by rw [eh]; exact Ag hs) ?_
   have hEB : EB (Af (Ad l m.line) id m).1 := Dj hE hm (by omega)
   refine JC.shut (v := uo) (xs := (Af (Ad l m.line) id m).1.last) pkk ?_
   refine JC.unfocus (Af (Ad l m.line) id m).1 pkk (Dh mm hEB.1) ?_
   refine JC.shut (v := g13.1) pkk ?_
   refine Al Ay (by kernel_rfl) (by kernel_rfl) (fun _ _ => _) (fun _ => rfl) ?_
   refine dn7 ?_
   refine Aw ?_; intro ρ; simp only [Ao, facts, Bb, List.append_nil, List.nil_append, List.cons_append]
   refine Ae ?_
   refine rt ?_
   have er : Ai l id m = (l.set m.line.toNat (Af (Ad l m.line) id m).1, (Af (Ad l m.line) id m).2) := by unfold Ai; rw [if_neg (by omega)]
   rw [er]
   refine Aj (.inr rfl) (fun B w hs => Ed rfl rfl rfl B w) (fun w hs => ⟨(g13.1, .slice none 0 0), ?_, Ag (St.shut (hs.pick pkk))⟩)
   rfl
  ·
   refine Al Ay (by kernel_rfl) (by kernel_rfl) (fun _ _ => _) (fun _ => rfl) ?_
   refine dn6 ?_
   refine dj ?_
   first | refine dc (fun _ _ => Ah rfl rfl (A2 (by omega))) ?_
   refine dj ?_
   first | refine dc (fun _ _ => Cz) ?_
   refine Aw ?_; intro ρ; simp only [Ao, facts, Bb, List.append_nil, List.nil_append, List.cons_append]
   refine Ae ?_
   refine sq ?_
   refine Av ?_
   refine sr ?_
   refine rn2 ?_
   refine ob (Ah rfl rfl (An (by omega))) ?_
   refine rn3 ?_
   refine gy ?_
   refine ob (Ah rfl rfl (An (by omega))) ?_
   refine rn2 ?_
   refine nx ?_
   refine cF_ ?_
   refine sr ?_
   refine rn2 ?_
   refine ob (Ah rfl rfl (An (by omega))) ?_
   refine rn1 ?_
   refine nx ?_
   refine cF_ ?_
   refine sq ?_
   refine kp [5, 6, 7, 8, 9, 10, 11, 76, 77, 78, 79, 80, 81, 82, 83, 84, 85, 86, 87, 88, 89, 90, 91, 92, 93, 94, 95, 96, 97, 98] ?_
   refine Al Ay (by kernel_rfl) (by kernel_rfl) (fun _ _ => _) (fun _ => rfl) ?_
   refine dn2 ?_
   refine dj ?_
   first | refine dc (fun _ _ => Ah rfl rfl (An (by omega))) ?_
   refine dj ?_
   first | refine dc (fun _ _ => Bh) ?_
   refine dn1 ?_
   refine dj ?_
   first | refine dc (fun _ _ => Bp) ?_
   refine dj ?_
   first | refine dc (fun _ _ => Bh) ?_
   refine dn5 ?_
   refine dj ?_
   first | refine dc (fun _ _ => Bp) ?_
   refine dj ?_
   first | refine dc (fun _ _ => Bh) ?_
   refine dn7 ?_
   refine dj ?_
   first | refine dc (fun _ _ => Bp) ?_
   refine dj ?_
   first | refine dc (fun _ _ => Cz) ?_
   refine Aw ?_; intro ρ; simp only [Ao, facts, Bb, List.append_nil, List.nil_append, List.cons_append]
   refine Ae ?_
   refine cF_ ?_
   refine sq ?_
   refine Al Ay (by kernel_rfl) (by kernel_rfl) (fun _ _ => _) (fun _ => rfl) ?_
   refine dn2 ?_
   refine dj ?_
   first | refine dc (fun _ _ => Ah rfl rfl (A2 (by omega))) ?_
   refine dj ?_
   first | refine dc (fun _ _ => Bh) ?_
   refine dn1 ?_
   refine dj ?_
   first | refine dc (fun _ _ => Ew) ?_
   refine dj ?_
   first | refine dc (fun _ _ => Bh) ?_
   refine dn4 ?_
   refine dj (dgy ?_)
   first | refine dc (fun _ _ => Ah rfl rfl (An (by omega))) ?_
   refine dj ?_
   first | refine dc (fun _ _ => Ew) ?_
   refine dj ?_
   first | refine dc (fun _ _ => Bh) ?_
   refine dn9 ?_
   refine dj ?_
   first | refine dc (fun _ _ => Bp) ?_
   refine dj ?_
   first | refine dc (fun _ _ => Cz) ?_
   refine Aw ?_; intro ρ; simp only [Ao, facts, Bb, List.append_nil, List.nil_append, List.cons_append]
   refine Ae ?_
   refine cF_ ?_
   refine sq ?_
   refine kp [5, 6, 7, 8, 9, 10, 11, 178, 179, 180, 181, 182, 183, 184, 185, 186, 187, 188, 189, 190, 191, 192, 193, 194, 195, 196, 197, 198, 199, 200] ?_
   refine Al Ay (by kernel_rfl) (by kernel_rfl) (fun _ _ => _) (fun _ => rfl) ?_
   refine dn2 ?_
   refine dj ?_
   first | refine dc (fun _ _ => Ah rfl rfl (An (by omega))) ?_
   refine dj ?_
   first | refine dc (fun _ _ => Bh) ?_
   refine dn1 ?_
   refine dj ?_
   first | refine dc (fun _ _ => Bp) ?_
   refine dj ?_
   first | refine dc (fun _ _ => Bh) ?_
   refine dn5 ?_
   refine dj ?_
   first | refine dc (fun _ _ => Bp) ?_
   refine dj ?_
   first | refine dc (fun _ _ => Bh) ?_
   refine dn7 ?_
   refine dj ?_
   first | refine dc (fun _ _ => Bp) ?_
   refine dj ?_
   first | refine dc (fun _ _ => Cz) ?_
   refine Aw ?_; intro ρ; simp only [Ao, facts, Bb, List.append_nil, List.nil_append, List.cons_append]
   refine Ae ?_
   refine cF_ ?_
   refine Ak ?_
   refine As ?_
   refine Ae ?_
   refine sq ?_
   have eh : (Af (Ad l m.line) id m) = ((Ad l m.line), []) := by unfold Af; rw [if_neg (by omega), if_neg (by omega), if_neg (by omega), if_neg (by omega), if_neg (by omega)]
   refine JC.conseq (L' := foc 58 g13.1 l m.line.toNat (Entry.cells uo (Af (Ad l m.line) id m).1) :: row 3 uo (Af (Ad l m.line) id m).1.last :: blk b51 104 [ep g13.1 10 m.line.toNat 0, vi m.line, vi id, .slice none 0 0] :: row 42 (.slice none 0 0) (Af (Ad l m.line) id m).2 :: L) (fun w hs => by rw [eh]; exact Ag hs) ?_
   have hEB : EB (Af (Ad l m.line) id m).1 := Dj hE hm (by omega)
   refine JC.shut (v := uo) (xs := (Af (Ad l m.line) id m).1.last) pkk ?_
   refine JC.unfocus (Af (Ad l m.line) id m).1 pkk (Dh mm hEB.1) ?_
   refine JC.shut (v := g13.1) pkk ?_
   refine Al Ay (by kernel_rfl) (by kernel_rfl) (fun _ _ => _) (fun _ => rfl) ?_
   refine dn7 ?_
   refine Aw ?_; intro ρ; simp only [Ao, facts, Bb, List.append_nil, List.nil_append, List.cons_append]
   refine Ae ?_
   refine rt ?_
   have er : Ai l id m = (l.set m.line.toNat (Af (Ad l m.line) id m).1, (Af (Ad l m.line) id m).2) := by unfold Ai; rw [if_neg (by omega)]
   rw [er]
   refine Aj (.inr rfl) (fun B w hs => Ed rfl rfl rfl B w) (fun w hs => ⟨(g13.1, .slice none 0 0), ?_, Ag (St.shut (hs.pick pkk))⟩)
   rfl
  ·
   refine Al Ay (by kernel_rfl) (by kernel_rfl) (fun _ _ => _) (fun _ => rfl) ?_
   refine dn6 ?_
   refine dj ?_
   first | refine dc (fun _ _ => Ah rfl rfl (A2 (by omega))) ?_
   refine dj ?_
   first | refine dc (fun _ _ => Cz) ?_
   refine Aw ?_; intro ρ; simp only [Ao, facts, Bb, List.append_nil, List.nil_append, List.cons_append]
   refine Ae ?_
   refine sq ?_
   refine Av ?_
   refine sr ?_
   refine rn2 ?_
   refine ob (Ah rfl rfl (An (by omega))) ?_
   refine rn3 ?_
   refine gy ?_
   refine ob (Ah rfl rfl (An (by omega))) ?_
   refine rn2 ?_
   refine nx ?_
   refine cF_ ?_
   refine sr ?_
   refine rn2 ?_
   refine ob (Ah rfl rfl (An (by omega))) ?_
   refine rn1 ?_
   refine nx ?_
   refine cF_ ?_
   refine sq ?_
   refine kp [5, 6, 7, 8, 9, 10, 11, 76, 77, 78, 79, 80, 81, 82, 83, 84, 85, 86, 87, 88, 89, 90, 91, 92, 93, 94, 95, 96, 97, 98] ?_
   refine Al Ay (by kernel_rfl) (by kernel_rfl) (fun _ _ => _) (fun _ => rfl) ?_
   refine dn2 ?_
   refine dj ?_
   first | refine dc (fun _ _ => Ah rfl rfl (An (by omega))) ?_
   refine dj ?_
   first | refine dc (fun _ _ => Bh) ?_
   refine dn1 ?_
   refine dj ?_
   first | refine dc (fun _ _ => Bp) ?_
   refine dj ?_
   first | refine dc (fun _ _ => Bh) ?_
   refine dn5 ?_
   refine dj ?_
   first | refine dc (fun _ _ => Bp) ?_
   refine dj ?_
   first | refine dc (fun _ _ => Bh) ?_
   refine dn7 ?_
   refine dj ?_
   first | refine dc (fun _ _ => Bp) ?_
   refine dj ?_
   first | refine dc (fun _ _ => Cz) ?_
   refine Aw ?_; intro ρ; simp only [Ao, facts, Bb, List.append_nil, List.nil_append, List.cons_append]
   refine Ae ?_
   refine cF_ ?_
   refine sq ?_
   refine Al Ay (by kernel_rfl) (by kernel_rfl) (fun _ _ => _) (fun _ => rfl) ?_
   refine dn2 ?_
   refine dj ?_
   first | refine dc (fun _ _ => Ah rfl rfl (A2 (by omega))) ?_
   refine dj ?_
   first | refine dc (fun _ _ => Bh) ?_
   refine dn1 ?_
   refine dj ?_
   first | refine dc (fun _ _ => Ew) ?_
   refine dj ?_
   first | refine dc (fun _ _ => Bh) ?_
   refine dn4 ?_
   refine dj (dgy ?_)
   first | refine dc (fun _ _ => Ah rfl rfl (A2 (by omega))) ?_
   refine dj ?_
   first | refine dc (fun _ _ => Ew) ?_
   refine dj ?_
   first | refine dc (fun _ _ => Bh) ?_
   refine dn6 ?_
   refine dj (dgy ?_)
   refine dc (fun _ _ => E5 (a := (Ad l m.line).need) (b := m.src) (Sb (by omega) (by omega) (by omega) (by omega))) ?_
   refine dj (dgy ?_)
   refine dc (fun _ _ => E5 (a := (((Ad l m.line).need.toNat / 2 ^ m.src.toNat : Nat) : Int)) (b := 1) (Ot (by omega) (by omega) (by omega) (by omega))) ?_
   refine dj (dgy ?_)
   first | refine dc (fun _ _ => Ah rfl rfl (An (by rw [if_neg (by rw [hc.2.2]; decide)]; decide))) ?_
   refine dj ?_
   first | refine dc (fun _ _ => Ew) ?_
   refine dj ?_
   first | refine dc (fun _ _ => Cz) ?_
   refine Aw ?_; intro ρ; simp only [Ao, facts, Bb, List.append_nil, List.nil_append, List.cons_append]
   refine Ae ?_
   refine cF_ ?_
   refine sq ?_
   refine kp [5, 6, 7, 8, 9, 10, 11, 178, 179, 180, 181, 182, 183, 184, 185, 186, 187, 188, 189, 190, 191, 192, 193, 194, 195, 196, 197, 198, 199, 200] ?_
   refine Al Ay (by kernel_rfl) (by kernel_rfl) (fun _ _ => _) (fun _ => rfl) ?_
   refine dn2 ?_
   refine dj ?_
   first | refine dc (fun _ _ => Ah rfl rfl (An (by omega))) ?_
   refine dj ?_
   first | refine dc (fun _ _ => Bh) ?_
   refine dn1 ?_
   refine dj ?_
   first | refine dc (fun _ _ => Bp) ?_
   refine dj ?_
   first | refine dc (fun _ _ => Bh) ?_
   refine dn5 ?_
   refine dj ?_
   first | refine dc (fun _ _ => Bp) ?_
   refine dj ?_
   first | refine dc (fun _ _ => Bh) ?_
   refine dn7 ?_
   refine dj ?_
   first | refine dc (fun _ _ => Bp) ?_
   refine dj ?_
   first | refine dc (fun _ _ => Cz) ?_
   refine Aw ?_; intro ρ; simp only [Ao, facts, Bb, List.append_nil, List.nil_append, List.cons_append]
   refine Ae ?_
   refine cF_ ?_
   refine Ak ?_
   refine As ?_
   refine Ae ?_
   refine sq ?_
   have eh : (Af (Ad l m.line) id m) = ((Ad l m.line), []) := by unfold Af; rw [if_neg (by omega), if_neg (by omega), if_neg (by omega), if_neg (fun h => by have h4 := h.2.2.2; rw [hc.2.2] at h4; cases h4), if_neg (by omega)]
   refine JC.conseq (L' := foc 58 g13.1 l m.line.toNat (Entry.cells uo (Af (Ad l m.line) id m).1) :: row 3 uo (Af (Ad l m.line) id m).1.last :: blk b51 104 [ep g13.1 10 m.line.toNat 0, vi m.line, vi id, .slice none 0 0] :: row 42 (.slice none 0 0) (Af (Ad l m.line) id m).2 :: L) (fun w hs => by rw [eh]; exact Ag hs) ?_
   have hEB : EB (Af (Ad l m.line) id m).1 := Dj hE hm (by omega)
   refine JC.shut (v := uo) (xs := (Af (Ad l m.line) id m).1.last) pkk ?_
   refine JC.unfocus (Af (Ad l m.line) id m).1 pkk (Dh mm hEB.1) ?_
   refine JC.shut (v := g13.1) pkk ?_
   refine Al Ay (by kernel_rfl) (by kernel_rfl) (fun _ _ => _) (fun _ => rfl) ?_
   refine dn7 ?_
   refine Aw ?_; intro ρ; simp only [Ao, facts, Bb, List.append_nil, List.nil_append, List.cons_append]
   refine Ae ?_
   refine rt ?_
   have er : Ai l id m = (l.set m.line.toNat (Af (Ad l m.line) id m).1, (Af (Ad l m.line) id m).2) := by unfold Ai; rw [if_neg (by omega)]
   rw [er]
   refine Aj (.inr rfl) (fun B w hs => Ed rfl rfl rfl B w) (fun w hs => ⟨(g13.1, .slice none 0 0), ?_, Ag (St.shut (hs.pick pkk))⟩)
   rfl
  ·
   have hhas := hc.2.2
   refine Al Ay (by kernel_rfl) (by kernel_rfl) (fun _ _ => _) (fun _ => rfl) ?_
   refine dn6 ?_
   refine dj ?_
   first | refine dc (fun _ _ => Ah rfl rfl (A2 (by omega))) ?_
   refine dj ?_
   first | refine dc (fun _ _ => Cz) ?_
   refine Aw ?_; intro ρ; simp only [Ao, facts, Bb, List.append_nil, List.nil_append, List.cons_append]
   refine Ae ?_
   refine sq ?_
   refine Av ?_
   refine sr ?_
   refine rn2 ?_
   refine ob (Ah rfl rfl (An (by omega))) ?_
   refine rn3 ?_
   refine gy ?_
   refine ob (Ah rfl rfl (An (by omega))) ?_
   refine rn2 ?_
   refine nx ?_
   refine cF_ ?_
   refine sr ?_
   refine rn2 ?_
   refine ob (Ah rfl rfl (An (by omega))) ?_
   refine rn1 ?_
   refine nx ?_
   refine cF_ ?_
   refine sq ?_
   refine kp [5, 6, 7, 8, 9, 10, 11, 76, 77, 78, 79, 80, 81, 82, 83, 84, 85, 86, 87, 88, 89, 90, 91, 92, 93, 94, 95, 96, 97, 98] ?_
   refine Al Ay (by kernel_rfl) (by kernel_rfl) (fun _ _ => _) (fun _ => rfl) ?_
   refine dn2 ?_
   refine dj ?_
   first | refine dc (fun _ _ => Ah rfl rfl (An (by omega))) ?_
   refine dj ?_
   first | refine dc (fun _ _ => Bh) ?_
   refine dn1 ?_
   refine dj ?_
   first | refine dc (fun _ _ => Bp) ?_
   refine dj ?_
   first | refine dc (fun _ _ => Bh) ?_
   refine dn5 ?_
   refine dj ?_
   first | refine dc (fun _ _ => Bp) ?_
   refine dj ?_
   first | refine dc (fun _ _ => Bh) ?_
   refine dn7 ?_
   refine dj ?_
   first | refine dc (fun _ _ => Bp) ?_
   refine dj ?_
   first | refine dc (fun _ _ => Cz) ?_
   refine Aw ?_; intro ρ; simp only [Ao, facts, Bb, List.append_nil, List.nil_append, List.cons_append]
   refine Ae ?_
   refine cF_ ?_
   refine sq ?_
   refine Al Ay (by kernel_rfl) (by kernel_rfl) (fun _ _ => _) (fun _ => rfl) ?_
   refine dn2 ?_
   refine dj ?_
   first | refine dc (fun _ _ => Ah rfl rfl (A2 (by omega))) ?_
   refine dj ?_
   first | refine dc (fun _ _ => Bh) ?_
   refine dn1 ?_
   refine dj ?_
   first | refine dc (fun _ _ => Ew) ?_
   refine dj ?_
   first | refine dc (fun _ _ => Bh) ?_
   refine dn4 ?_
   refine dj (dgy ?_)
   first | refine dc (fun _ _ => Ah rfl rfl (A2 (by omega))) ?_
   refine dj ?_
   first | refine dc (fun _ _ => Ew) ?_
   refine dj ?_
   first | refine dc (fun _ _ => Bh) ?_
   refine dn6 ?_
   refine dj (dgy ?_)
   refine dc (fun _ _ => E5 (a := (Ad l m.line).need) (b := m.src) (Sb (by omega) (by omega) (by omega) (by omega))) ?_
   refine dj (dgy ?_)
   refine dc (fun _ _ => E5 (a := (((Ad l m.line).need.toNat / 2 ^ m.src.toNat : Nat) : Int)) (b := 1) (Ot (by omega) (by omega) (by omega) (by omega))) ?_
   refine dj (dgy ?_)
   first | refine dc (fun _ _ => Ah rfl rfl (A2 (by rw [if_pos hc.2.2]))) ?_
   refine dj ?_
   first | refine dc (fun _ _ => Ew) ?_
   refine dj ?_
   first | refine dc (fun _ _ => Cz) ?_
   refine Aw ?_; intro ρ; simp only [Ao, facts, Bb, List.append_nil, List.nil_append, List.cons_append]
   refine Ae ?_
   refine cT ?_
   refine sq ?_
   refine kp [5, 6, 7, 8, 9, 10, 11, 151, 152, 153, 154, 155, 156, 157, 158, 159, 160] ?_
   refine Al Ay (by kernel_rfl) (by kernel_rfl) (fun _ _ => _) (fun _ => rfl) ?_
   refine dn6 ?_
   refine dj ?_
   refine dc (fun _ _ => E5 (a := 1) (b := m.src) (Nr (by omega) (by omega))) ?_
   refine dj ?_
   refine dc (fun _ _ => E5 (a := (Ad l m.line).need) (b := ((2 ^ m.src.toNat : Nat) : Int)) (Kb (by omega) (by omega) (by omega) (by omega))) ?_
   refine dn2 ?_
   refine Ei (by kernel_rfl) ?_; intro ρ; simp only [Ao, facts, Bb, List.append_nil, List.nil_append, List.cons_append]
   refine sc ?_
   refine nx ?_
   refine Al Ay (by kernel_rfl) (by kernel_rfl) (fun _ _ => _) (fun _ => rfl) ?_
   refine dn6 ?_
   refine dj ?_
   refine dc (fun _ _ => E5 (a := 1) (b := m.src) (Nr (by omega) (by omega))) ?_
   refine dj ?_
   refine dc (fun _ _ => E5 (a := (Ad l m.line).sharers) (b := ((2 ^ m.src.toNat : Nat) : Int)) (Kb (by omega) (by omega) (by omega) (by omega))) ?_
   refine dn2 ?_
   refine Ei (by kernel_rfl) ?_; intro ρ; simp only [Ao, facts, Bb, List.append_nil, List.nil_append, List.cons_append]
   refine sc ?_
   refine nr ?_
   refine rn5 ?_
   refine nx ?_
   refine cdx (p := ?p1) (hd := ?d1) ?e1 ?_ ?_; case e1 => exact rfl
   ·
    intro ht175
    refine Aa ?_
    refine rn1 ?_
    have hX : EB ((Bo (Ad l m.line) m)) := by have c1 := (Bz hE0.2.1.1 hE0.2.1.2 (show 0 ≤ m.src by omega) (show m.src < 4 by omega)).2.2.2; have c2 := (Bz hE0.2.2.1.1 hE0.2.2.1.2 (show 0 ≤ m.src by omega) (show m.src < 4 by omega)).2.2.2; unfold Bo EB Entry.wf Ax; simp only; omega
    have eh : (Af (Ad l m.line) id m) = (A3 ((Bo (Ad l m.line) m)), says (A3 ((Bo (Ad l m.line) m))) m.line id) := by
     unfold Af
     rw [if_neg (by omega), if_neg (by omega), if_neg (by omega), if_pos ⟨by omega, by omega, by omega, hhas⟩, if_pos (by unfold Bo; simp only; omega)]
    refine A1 Try.call67 rfl (fun w hs => I8 (vh := g13.1) (vo := .slice none 0 0) (u := uo) (i := m.line.toNat) (e := (Bo (Ad l m.line) m)) (ms := []) (line := m.line) (id := id) (xs := l) (LX := row 3 uo (Ad l m.line).last :: blk b5 42 m.cells :: L) (Ag hs) hA honeo (by simp) hX hm.2.2.2.1 hid) ?_; intro v177
    refine J.conseq (L' := foc 58 g13.1 l m.line.toNat (Entry.cells uo (Af (Ad l m.line) id m).1) :: row 3 uo (Af (Ad l m.line) id m).1.last :: blk b51 104 [ep g13.1 10 m.line.toNat 0, vi m.line, vi id, v177] :: row 42 v177 (Af (Ad l m.line) id m).2 :: L) (fun w hs => by rw [List.nil_append] at hs; rw [eh, Cw]; exact Ag hs) ?_
    refine J.nil ?_
    refine As ?_
    refine Ae ?_
    refine sq ?_
    have hEB : EB (Af (Ad l m.line) id m).1 := Dj hE hm (by omega)
    refine JC.shut (v := uo) (xs := (Af (Ad l m.line) id m).1.last) pkk ?_
    refine JC.unfocus (Af (Ad l m.line) id m).1 pkk (Dh mm hEB.1) ?_
    refine JC.shut (v := g13.1) pkk ?_
    refine Al Ay (by kernel_rfl) (by kernel_rfl) (fun _ _ => _) (fun _ => rfl) ?_
    refine dn7 ?_
    refine Aw ?_; intro ρ; simp only [Ao, facts, Bb, List.append_nil, List.nil_append, List.cons_append]
    refine Ae ?_
    refine rt ?_
    have er : Ai l id m = (l.set m.line.toNat (Af (Ad l m.line) id m).1, (Af (Ad l m.line) id m).2) := by unfold Ai; rw [if_neg (by omega)]
    rw [er]
    refine Aj (.inr rfl) (fun B w hs => Ed rfl rfl rfl B w) (fun w hs => ⟨(g13.1, v177), ?_, Ag (St.shut (hs.pick pkk))⟩)
    rfl
   ·
    intro ht175
    refine Ak ?_
    refine As ?_
    refine Ae ?_
    refine sq ?_
    have eh : (Af (Ad l m.line) id m) = ((Bo (Ad l m.line) m), []) := by
     unfold Af
     rw [if_neg (by omega), if_neg (by omega), if_neg (by omega), if_pos ⟨by omega, by omega, by omega, hhas⟩, if_neg (by unfold Bo; simp only; omega)]
    refine JC.conseq (L' := foc 58 g13.1 l m.line.toNat (Entry.cells uo (Af (Ad l m.line) id m).1) :: row 3 uo (Af (Ad l m.line) id m).1.last :: blk b51 104 [ep g13.1 10 m.line.toNat 0, vi m.line, vi id, .slice none 0 0] :: row 42 (.slice none 0 0) (Af (Ad l m.line) id m).2 :: L) (fun w hs => by rw [eh]; exact Ag hs) ?_
    have hEB : EB (Af (Ad l m.line) id m).1 := Dj hE hm (by omega)
    refine JC.shut (v := uo) (xs := (Af (Ad l m.line) id m).1.last) pkk ?_
    refine JC.unfocus (Af (Ad l m.line) id m).1 pkk (Dh mm hEB.1) ?_
    refine JC.shut (v := g13.1) pkk ?_
    refine Al Ay (by kernel_rfl) (by kernel_rfl) (fun _ _ => _) (fun _ => rfl) ?_
    refine dn7 ?_
    refine Aw ?_; intro ρ; simp only [Ao, facts, Bb, List.append_nil, List.nil_append, List.cons_append]
    refine Ae ?_
    refine rt ?_
    have er : Ai l id m = (l.set m.line.toNat (Af (Ad l m.line) id m).1, (Af (Ad l m.line) id m).2) := by unfold Ai; rw [if_neg (by omega)]
    rw [er]
    refine Aj (.inr rfl) (fun B w hs => Ed rfl rfl rfl B w) (fun w hs => ⟨(g13.1, .slice none 0 0), ?_, Ag (St.shut (hs.pick pkk))⟩)
    rfl
theorem Oj {L : List Chunk} {R : List Fact} {w : World} {v0 : Value} {l : List Entry} {id : Int} {m : Msg} (hs : St (L) R w) (h0 : sl v0 l ∈ R) (hb : ∀ i, i < l.length → EB (l.getD i Aq)) (hla : ∀ i, i < l.length → (l.getD i Aq).last.length ≤ 4) (hm : m.wf) (hid : Ax id) (hk : 0 ≤ m.line ∧ m.line < (l.length : Int) ∧ 0 ≤ m.src ∧ m.src < ((Ad l m.line).last.length : Int) ∧ m.kind = 10) : Calls Try.prog 29 [v0, vi id, .agg m.cells.toArray].toArray w (C2 (fun v : Value × Value => .tuple #[v.1, v.2]) (fun v => L) (fun v => sl v.1 (Ai l id m).1 :: sl v.2 (Ai l id m).2 :: R)) := by
  have hlen := Bv h0 hs
  have hm0 := hm
  unfold Msg.wf Ax at hm0
  have hid0 := hid
  unfold Ax at hid0
  refine Au Try.func29 rfl Try.ntmps29 rfl hs ?_
  clear hs
  refine sr ?_
  refine bx ?_; intro b5
  refine rn2 ?_
  refine nr ?_
  refine rn1 ?_
  refine A1 Try.call33 rfl (fun w hs => F7 (l := l) hs mm) ?_; intro g13
  refine rn1 ?_
  refine nx ?_
  refine JC.conseqEx (γ := Value) (L' := fun u => foc 58 g13.1 l m.line.toNat (Entry.cells u (Ad l m.line)) :: row 3 u (Ad l m.line).last :: blk b5 42 m.cells :: L) (R' := fun u => pr (u.oneCell' = true) :: R) (fun w hs => by
   have h1 : g13.2.map EV.e = l := F4 (.head _) hs
   obtain ⟨u, h2, h3, h4⟩ := Hf m.line.toNat h1 (by omega) hs
   exact ⟨u, St.pr h3 (h4.sub .refl (fun f hf => .tail _ hf))⟩) (fun uo => ?_)
  refine JC.know (p := uo.oneCell' = true) (fun w hs => F4 (.head _) hs) (fun honeo => ?_)
  refine Dx (v := v0) m.line mm (by omega) (by omega) (fun hEw u => ?_)
  have hE : EB (Ad l m.line) := hb m.line.toNat (by omega)
  have hE0 := hE
  unfold EB Entry.wf Ax at hE0
  have hL : (Ad l m.line).last.length ≤ 4 := hla m.line.toNat (by omega)
  refine JC.know (p := u.oneCell' = true) (fun w hs => isSlice.one (hs.fact (.tail _ (.head _)))) (fun hone => ?_)
  refine JC.know (p := ∀ x ∈ (Ad l m.line).last, Ax x) (fun w hs => Dy (.tail _ (.head _)) hs) (fun hlin => ?_)
  refine Al Ay (by kernel_rfl) (by kernel_rfl) (fun _ _ => _) (fun _ => rfl) ?_
  refine dn2 ?_
  refine dj ?_
  first | refine dc (fun _ _ => Ah rfl rfl (Az (by omega))) ?_
  refine dj ?_
  first | refine dc (fun _ _ => Bh) ?_
  refine dn4 ?_
  refine dj (dgy ?_)
  first | refine dc (fun _ _ => Ah rfl rfl (Bd (by omega))) ?_
  refine dj ?_
  first | refine dc (fun _ _ => Bp) ?_
  refine dj ?_
  first | refine dc (fun _ _ => Bh) ?_
  refine dn2 ?_
  refine dj (dgy ?_)
  first | refine dc (fun _ _ => Ah rfl rfl (Az (by omega))) ?_
  refine dj ?_
  first | refine dc (fun _ _ => Bp) ?_
  refine dj ?_
  first | refine dc (fun _ _ => Bh) ?_
  refine dn9 ?_
  refine dj (dgy ?_)
  first | refine dc (fun _ _ => Ah rfl rfl (Bd (show ¬ ((Ad l m.line).last.length : Int) ≤ m.src by omega))) ?_
  refine dj ?_
  first | refine dc (fun _ _ => Bp) ?_
  refine Aw ?_; intro ρ; simp only [Ao, facts, Bb, List.append_nil, List.nil_append, List.cons_append]
  refine Ae ?_
  refine sq ?_
  refine cF_ ?_
  refine Ak ?_
  refine Ae ?_
  refine sq ?_
  refine JC.know (p := EpAll g13.1 10 m.line.toNat) (fun w hs => Tm (α := Entry) (xs := l) pkk w hs) (fun hA => ?_)
  have honeE : (ep g13.1 10 m.line.toNat 0).oneCell' = true := hA.one
  refine kp [1, 5, 6, 7, 8, 9, 42, 43, 44, 45] ?_
  refine Aa ?_
  refine rn3 ?_
  refine ob (Lo (v := g13.1) (i := m.line) Jd (hl := Fr (α := Entry) (xs := l) pkk)) ?_
  refine rn1 ?_
  refine nr ?_
  refine rn5 ?_
  refine bx ?_; intro b51
  refine rn1 ?_
  refine nx ?_
  refine JC.rowNil 42 Msg ?_
  rcases (show (m.turn ≠ (Ad l m.line).turn) ∨ (m.turn = (Ad l m.line).turn ∧ (Ad l m.line).phase ≠ 3) ∨ (m.turn = (Ad l m.line).turn ∧ (Ad l m.line).phase = 3 ∧ m.src ≠ (Ad l m.line).who) ∨ (m.turn = (Ad l m.line).turn ∧ (Ad l m.line).phase = 3 ∧ m.src = (Ad l m.line).who) from by omega) with hc | hc | hc | hc
  ·
   refine Al Ay (by kernel_rfl) (by kernel_rfl) (fun _ _ => _) (fun _ => rfl) ?_
   refine dn6 ?_
   refine dj ?_
   first | refine dc (fun _ _ => Ah rfl rfl (An (by omega))) ?_
   refine dj ?_
   first | refine dc (fun _ _ => Cz) ?_
   refine Aw ?_; intro ρ; simp only [Ao, facts, Bb, List.append_nil, List.nil_append, List.cons_append]
   refine Ae ?_
   refine sq ?_
   refine Av ?_
   refine sr ?_
   refine rn2 ?_
   refine ob (Ah rfl rfl (An (by omega))) ?_
   refine rn3 ?_
   refine gy ?_
   refine ob (Ah rfl rfl (An (by omega))) ?_
   refine rn2 ?_
   refine nx ?_
   refine cF_ ?_
   refine sr ?_
   refine rn2 ?_
   refine ob (Ah rfl rfl (An (by omega))) ?_
   refine rn1 ?_
   refine nx ?_
   refine cF_ ?_
   refine sq ?_
   refine kp [5, 6, 7, 8, 9, 10, 11, 76, 77, 78, 79, 80, 81, 82, 83, 84, 85, 86, 87, 88, 89, 90, 91, 92, 93, 94, 95, 96, 97, 98] ?_
   refine Al Ay (by kernel_rfl) (by kernel_rfl) (fun _ _ => _) (fun _ => rfl) ?_
   refine dn2 ?_
   refine dj ?_
   first | refine dc (fun _ _ => Ah rfl rfl (An (by omega))) ?_
   refine dj ?_
   first | refine dc (fun _ _ => Bh) ?_
   refine dn1 ?_
   refine dj ?_
   first | refine dc (fun _ _ => Bp) ?_
   refine dj ?_
   first | refine dc (fun _ _ => Bh) ?_
   refine dn5 ?_
   refine dj ?_
   first | refine dc (fun _ _ => Bp) ?_
   refine dj ?_
   first | refine dc (fun _ _ => Bh) ?_
   refine dn7 ?_
   refine dj ?_
   first | refine dc (fun _ _ => Bp) ?_
   refine dj ?_
   first | refine dc (fun _ _ => Cz) ?_
   refine Aw ?_; intro ρ; simp only [Ao, facts, Bb, List.append_nil, List.nil_append, List.cons_append]
   refine Ae ?_
   refine cF_ ?_
   refine sq ?_
   refine Al Ay (by kernel_rfl) (by kernel_rfl) (fun _ _ => _) (fun _ => rfl) ?_
   refine dn2 ?_
   refine dj ?_
   first | refine dc (fun _ _ => Ah rfl rfl (An (by omega))) ?_
   refine dj ?_
   first | refine dc (fun _ _ => Bh) ?_
   refine dn1 ?_
   refine dj ?_
   first | refine dc (fun _ _ => Bp) ?_
   refine dj ?_
   first | refine dc (fun _ _ => Bh) ?_
   refine dn5 ?_
   refine dj ?_
   first | refine dc (fun _ _ => Bp) ?_
   refine dj ?_
   first | refine dc (fun _ _ => Bh) ?_
   refine dn9 ?_
   refine dj ?_
   first | refine dc (fun _ _ => Bp) ?_
   refine dj ?_
   first | refine dc (fun _ _ => Cz) ?_
   refine Aw ?_; intro ρ; simp only [Ao, facts, Bb, List.append_nil, List.nil_append, List.cons_append]
   refine Ae ?_
   refine cF_ ?_
   refine sq ?_
   refine kp [5, 6, 7, 8, 9, 10, 11, 178, 179, 180, 181, 182, 183, 184, 185, 186, 187, 188, 189, 190, 191, 192, 193, 194, 195, 196, 197, 198, 199, 200] ?_
   refine Al Ay (by kernel_rfl) (by kernel_rfl) (fun _ _ => _) (fun _ => rfl) ?_
   refine dn2 ?_
   refine dj ?_
   first | refine dc (fun _ _ => Ah rfl rfl (A2 (by omega))) ?_
   refine dj ?_
   first | refine dc (fun _ _ => Bh) ?_
   refine dn1 ?_
   refine dj ?_
   first | refine dc (fun _ _ => Ew) ?_
   refine dj ?_
   first | refine dc (fun _ _ => Bh) ?_
   refine dn5 ?_
   refine dj ?_
   first | refine dc (fun _ _ => Bp) ?_
   refine dj ?_
   first | refine dc (fun _ _ => Bh) ?_
   refine dn7 ?_
   refine dj ?_
   first | refine dc (fun _ _ => Bp) ?_
   refine dj ?_
   first | refine dc (fun _ _ => Cz) ?_
   refine Aw ?_; intro ρ; simp only [Ao, facts, Bb, List.append_nil, List.nil_append, List.cons_append]
   refine Ae ?_
   refine cF_ ?_
   refine Ak ?_
   refine As ?_
   refine Ae ?_
   refine sq ?_
   have eh : (Af (Ad l m.line) id m) = ((Ad l m.line), []) := by unfold Af; rw [if_neg (by omega), if_neg (by omega), if_neg (by omega), if_neg (by omega), if_neg (by omega)]
   refine JC.conseq (L' := foc 58 g13.1 l m.line.toNat (Entry.cells uo (Af (Ad l m.line) id m).1) :: row 3 uo (Af (Ad l m.line) id m).1.last :: blk b51 104 [ep g13.1 10 m.line.toNat 0, vi m.line, vi id, .slice none 0 0] :: row 42 (.slice none 0 0) (Af (Ad l m.line) id m).2 :: L) (fun w hs => by rw [eh]; exact Ag hs) ?_
   have hEB : EB (Af (Ad l m.line) id m).1 := Dj hE hm (by omega)
   refine JC.shut (v := uo) (xs := (Af (Ad l m.line) id m).1.last) pkk ?_
   refine JC.unfocus (Af (Ad l m.line) id m).1 pkk (Dh mm hEB.1) ?_
   refine JC.shut (v := g13.1) pkk ?_
   refine Al Ay (by kernel_rfl) (by kernel_rfl) (fun _ _ => _) (fun _ => rfl) ?_
   refine dn7 ?_
   refine Aw ?_; intro ρ; simp only [Ao, facts, Bb, List.append_nil, List.nil_append, List.cons_append]
   refine Ae ?_
   refine rt ?_
   have er : Ai l id m = (l.set m.line.toNat (Af (Ad l m.line) id m).1, (Af (Ad l m.line) id m).2) := by unfold Ai; rw [if_neg (by omega)]
   rw [er]
   refine Aj (.inr rfl) (fun B w hs => Ed rfl rfl rfl B w) (fun w hs => ⟨(g13.1, .slice none 0 0), ?_, Ag (St.shut (hs.pick pkk))⟩)
   rfl
  ·
   refine Al Ay (by kernel_rfl) (by kernel_rfl) (fun _ _ => _) (fun _ => rfl) ?_
   refine dn6 ?_
   refine dj ?_
   first | refine dc (fun _ _ => Ah rfl rfl (A2 (by omega))) ?_
   refine dj ?_
   first | refine dc (fun _ _ => Cz) ?_
   refine Aw ?_; intro ρ; simp only [Ao, facts, Bb, List.append_nil, List.nil_append, List.cons_append]
   refine Ae ?_
   refine sq ?_
   refine Av ?_
   refine sr ?_
   refine rn2 ?_
   refine ob (Ah rfl rfl (An (by omega))) ?_
   refine rn3 ?_
   refine gy ?_
   refine ob (Ah rfl rfl (An (by omega))) ?_
   refine rn2 ?_
   refine nx ?_
   refine cF_ ?_
   refine sr ?_
   refine rn2 ?_
   refine ob (Ah rfl rfl (An (by omega))) ?_
   refine rn1 ?_
   refine nx ?_
   refine cF_ ?_
   refine sq ?_
   refine kp [5, 6, 7, 8, 9, 10, 11, 76, 77, 78, 79, 80, 81, 82, 83, 84, 85, 86, 87, 88, 89, 90, 91, 92, 93, 94, 95, 96, 97, 98] ?_
   refine Al Ay (by kernel_rfl) (by kernel_rfl) (fun _ _ => _) (fun _ => rfl) ?_
   refine dn2 ?_
   refine dj ?_
   first | refine dc (fun _ _ => Ah rfl rfl (An (by omega))) ?_
   refine dj ?_
   first | refine dc (fun _ _ => Bh) ?_
   refine dn1 ?_
   refine dj ?_
   first | refine dc (fun _ _ => Bp) ?_
   refine dj ?_
   first | refine dc (fun _ _ => Bh) ?_
   refine dn5 ?_
   refine dj ?_
   first | refine dc (fun _ _ => Bp) ?_
   refine dj ?_
   first | refine dc (fun _ _ => Bh) ?_
   refine dn7 ?_
   refine dj ?_
   first | refine dc (fun _ _ => Bp) ?_
   refine dj ?_
   first | refine dc (fun _ _ => Cz) ?_
   refine Aw ?_; intro ρ; simp only [Ao, facts, Bb, List.append_nil, List.nil_append, List.cons_append]
   refine Ae ?_
   refine cF_ ?_
   refine sq ?_
   refine Al Ay (by kernel_rfl) (by kernel_rfl) (fun _ _ => _) (fun _ => rfl) ?_
   refine dn2 ?_
   refine dj ?_
   first | refine dc (fun _ _ => Ah rfl rfl (An (by omega))) ?_
   refine dj ?_
   first | refine dc (fun _ _ => Bh) ?_
   refine dn1 ?_
   refine dj ?_
   first | refine dc (fun _ _ => Bp) ?_
   refine dj ?_
   first | refine dc (fun _ _ => Bh) ?_
   refine dn5 ?_
   refine dj ?_
   first | refine dc (fun _ _ => Bp) ?_
   refine dj ?_
   first | refine dc (fun _ _ => Bh) ?_
   refine dn9 ?_
   refine dj ?_
   first | refine dc (fun _ _ => Bp) ?_
   refine dj ?_
   first | refine dc (fun _ _ => Cz) ?_
   refine Aw ?_; intro ρ; simp only [Ao, facts, Bb, List.append_nil, List.nil_append, List.cons_append]
   refine Ae ?_
   refine cF_ ?_
   refine sq ?_
   refine kp [5, 6, 7, 8, 9, 10, 11, 178, 179, 180, 181, 182, 183, 184, 185, 186, 187, 188, 189, 190, 191, 192, 193, 194, 195, 196, 197, 198, 199, 200] ?_
   refine Al Ay (by kernel_rfl) (by kernel_rfl) (fun _ _ => _) (fun _ => rfl) ?_
   refine dn2 ?_
   refine dj ?_
   first | refine dc (fun _ _ => Ah rfl rfl (A2 (by omega))) ?_
   refine dj ?_
   first | refine dc (fun _ _ => Bh) ?_
   refine dn1 ?_
   refine dj ?_
   first | refine dc (fun _ _ => Ew) ?_
   refine dj ?_
   first | refine dc (fun _ _ => Bh) ?_
   refine dn4 ?_
   refine dj (dgy ?_)
   first | refine dc (fun _ _ => Ah rfl rfl (An (by omega))) ?_
   refine dj ?_
   first | refine dc (fun _ _ => Ew) ?_
   refine dj ?_
   first | refine dc (fun _ _ => Bh) ?_
   refine dn7 ?_
   refine dj ?_
   first | refine dc (fun _ _ => Bp) ?_
   refine dj ?_
   first | refine dc (fun _ _ => Cz) ?_
   refine Aw ?_; intro ρ; simp only [Ao, facts, Bb, List.append_nil, List.nil_append, List.cons_append]
   refine Ae ?_
   refine cF_ ?_
   refine Ak ?_
   refine As ?_
   refine Ae ?_
   refine sq ?_
   have eh : (Af (Ad l m.line) id m) = ((Ad l m.line), []) := by unfold Af; rw [if_neg (by omega), if_neg (by omega), if_neg (by omega), if_neg (by omega), if_neg (by omega)]
   refine JC.conseq (L' := foc 58 g13.1 l m.line.toNat (Entry.cells uo (Af (Ad l m.line) id m).1) :: row 3 uo (Af (Ad l m.line) id m).1.last :: blk b51 104 [ep g13.1 10 m.line.toNat 0, vi m.line, vi id, .slice none 0 0] :: row 42 (.slice none 0 0) (Af (Ad l m.line) id m).2 :: L) (fun w hs => by rw [eh]; exact Ag hs) ?_
   have hEB : EB (Af (Ad l m.line) id m).1 := Dj hE hm (by omega)
   refine JC.shut (v := uo) (xs := (Af (Ad l m.line) id m).1.last) pkk ?_
   refine JC.unfocus (Af (Ad l m.line) id m).1 pkk (Dh mm hEB.1) ?_
   refine JC.shut (v := g13.1) pkk ?_
   refine Al Ay (by kernel_rfl) (by kernel_rfl) (fun _ _ => _) (fun _ => rfl) ?_
   refine dn7 ?_
   refine Aw ?_; intro ρ; simp only [Ao, facts, Bb, List.append_nil, List.nil_append, List.cons_append]
   refine Ae ?_
   refine rt ?_
   have er : Ai l id m = (l.set m.line.toNat (Af (Ad l m.line) id m).1, (Af (Ad l m.line) id m).2) := by unfold Ai; rw [if_neg (by omega)]
   rw [er]
   refine Aj (.inr rfl) (fun B w hs => Ed rfl rfl rfl B w) (fun w hs => ⟨(g13.1, .slice none 0 0), ?_, Ag (St.shut (hs.pick pkk))⟩)
   rfl
  ·
   refine Al Ay (by kernel_rfl) (by kernel_rfl) (fun _ _ => _) (fun _ => rfl) ?_
   refine dn6 ?_
   refine dj ?_
   first | refine dc (fun _ _ => Ah rfl rfl (A2 (by omega))) ?_
   refine dj ?_
   first | refine dc (fun _ _ => Cz) ?_
   refine Aw ?_; intro ρ; simp only [Ao, facts, Bb, List.append_nil, List.nil_append, List.cons_append]
   refine Ae ?_
   refine sq ?_
   refine Av ?_
   refine sr ?_
   refine rn2 ?_
   refine ob (Ah rfl rfl (An (by omega))) ?_
   refine rn3 ?_
   refine gy ?_
   refine ob (Ah rfl rfl (An (by omega))) ?_
   refine rn2 ?_
   refine nx ?_
   refine cF_ ?_
   refine sr ?_
   refine rn2 ?_
   refine ob (Ah rfl rfl (An (by omega))) ?_
   refine rn1 ?_
   refine nx ?_
   refine cF_ ?_
   refine sq ?_
   refine kp [5, 6, 7, 8, 9, 10, 11, 76, 77, 78, 79, 80, 81, 82, 83, 84, 85, 86, 87, 88, 89, 90, 91, 92, 93, 94, 95, 96, 97, 98] ?_
   refine Al Ay (by kernel_rfl) (by kernel_rfl) (fun _ _ => _) (fun _ => rfl) ?_
   refine dn2 ?_
   refine dj ?_
   first | refine dc (fun _ _ => Ah rfl rfl (An (by omega))) ?_
   refine dj ?_
   first | refine dc (fun _ _ => Bh) ?_
   refine dn1 ?_
   refine dj ?_
   first | refine dc (fun _ _ => Bp) ?_
   refine dj ?_
   first | refine dc (fun _ _ => Bh) ?_
   refine dn5 ?_
   refine dj ?_
   first | refine dc (fun _ _ => Bp) ?_
   refine dj ?_
   first | refine dc (fun _ _ => Bh) ?_
   refine dn7 ?_
   refine dj ?_
   first | refine dc (fun _ _ => Bp) ?_
   refine dj ?_
   first | refine dc (fun _ _ => Cz) ?_
   refine Aw ?_; intro ρ; simp only [Ao, facts, Bb, List.append_nil, List.nil_append, List.cons_append]
   refine Ae ?_
   refine cF_ ?_
   refine sq ?_
   refine Al Ay (by kernel_rfl) (by kernel_rfl) (fun _ _ => _) (fun _ => rfl) ?_
   refine dn2 ?_
   refine dj ?_
   first | refine dc (fun _ _ => Ah rfl rfl (An (by omega))) ?_
   refine dj ?_
   first | refine dc (fun _ _ => Bh) ?_
   refine dn1 ?_
   refine dj ?_
   first | refine dc (fun _ _ => Bp) ?_
   refine dj ?_
   first | refine dc (fun _ _ => Bh) ?_
   refine dn5 ?_
   refine dj ?_
   first | refine dc (fun _ _ => Bp) ?_
   refine dj ?_
   first | refine dc (fun _ _ => Bh) ?_
   refine dn9 ?_
   refine dj ?_
   first | refine dc (fun _ _ => Bp) ?_
   refine dj ?_
   first | refine dc (fun _ _ => Cz) ?_
   refine Aw ?_; intro ρ; simp only [Ao, facts, Bb, List.append_nil, List.nil_append, List.cons_append]
   refine Ae ?_
   refine cF_ ?_
   refine sq ?_
   refine kp [5, 6, 7, 8, 9, 10, 11, 178, 179, 180, 181, 182, 183, 184, 185, 186, 187, 188, 189, 190, 191, 192, 193, 194, 195, 196, 197, 198, 199, 200] ?_
   refine Al Ay (by kernel_rfl) (by kernel_rfl) (fun _ _ => _) (fun _ => rfl) ?_
   refine dn2 ?_
   refine dj ?_
   first | refine dc (fun _ _ => Ah rfl rfl (A2 (by omega))) ?_
   refine dj ?_
   first | refine dc (fun _ _ => Bh) ?_
   refine dn1 ?_
   refine dj ?_
   first | refine dc (fun _ _ => Ew) ?_
   refine dj ?_
   first | refine dc (fun _ _ => Bh) ?_
   refine dn4 ?_
   refine dj (dgy ?_)
   first | refine dc (fun _ _ => Ah rfl rfl (A2 (by omega))) ?_
   refine dj ?_
   first | refine dc (fun _ _ => Ew) ?_
   refine dj ?_
   first | refine dc (fun _ _ => Bh) ?_
   refine dn6 ?_
   refine dj (dgy ?_)
   first | refine dc (fun _ _ => Ah rfl rfl (An (by omega))) ?_
   refine dj ?_
   first | refine dc (fun _ _ => Ew) ?_
   refine dj ?_
   first | refine dc (fun _ _ => Cz) ?_
   refine Aw ?_; intro ρ; simp only [Ao, facts, Bb, List.append_nil, List.nil_append, List.cons_append]
   refine Ae ?_
   refine cF_ ?_
   refine Ak ?_
   refine As ?_
   refine Ae ?_
   refine sq ?_
   have eh : (Af (Ad l m.line) id m) = ((Ad l m.line), []) := by unfold Af; rw [if_neg (by omega), if_neg (by omega), if_neg (by omega), if_neg (by omega), if_neg (by omega)]
   refine JC.conseq (L' := foc 58 g13.1 l m.line.toNat (Entry.cells uo (Af (Ad l m.line) id m).1) :: row 3 uo (Af (Ad l m.line) id m).1.last :: blk b51 104 [ep g13.1 10 m.line.toNat 0, vi m.line, vi id, .slice none 0 0] :: row 42 (.slice none 0 0) (Af (Ad l m.line) id m).2 :: L) (fun w hs => by rw [eh]; exact Ag hs) ?_
   have hEB : EB (Af (Ad l m.line) id m).1 := Dj hE hm (by omega)
   refine JC.shut (v := uo) (xs := (Af (Ad l m.line) id m).1.last) pkk ?_
   refine JC.unfocus (Af (Ad l m.line) id m).1 pkk (Dh mm hEB.1) ?_
   refine JC.shut (v := g13.1) pkk ?_
   refine Al Ay (by kernel_rfl) (by kernel_rfl) (fun _ _ => _) (fun _ => rfl) ?_
   refine dn7 ?_
   refine Aw ?_; intro ρ; simp only [Ao, facts, Bb, List.append_nil, List.nil_append, List.cons_append]
   refine Ae ?_
   refine rt ?_
   have er : Ai l id m = (l.set m.line.toNat (Af (Ad l m.line) id m).1, (Af (Ad l m.line) id m).2) := by unfold Ai; rw [if_neg (by omega)]
   rw [er]
   refine Aj (.inr rfl) (fun B w hs => Ed rfl rfl rfl B w) (fun w hs => ⟨(g13.1, .slice none 0 0), ?_, Ag (St.shut (hs.pick pkk))⟩)
   rfl
  ·
   refine Al Ay (by kernel_rfl) (by kernel_rfl) (fun _ _ => _) (fun _ => rfl) ?_
   refine dn6 ?_
   refine dj ?_
   first | refine dc (fun _ _ => Ah rfl rfl (A2 (by omega))) ?_
   refine dj ?_
   first | refine dc (fun _ _ => Cz) ?_
   refine Aw ?_; intro ρ; simp only [Ao, facts, Bb, List.append_nil, List.nil_append, List.cons_append]
   refine Ae ?_
   refine sq ?_
   refine Av ?_
   refine sr ?_
   refine rn2 ?_
   refine ob (Ah rfl rfl (An (by omega))) ?_
   refine rn3 ?_
   refine gy ?_
   refine ob (Ah rfl rfl (An (by omega))) ?_
   refine rn2 ?_
   refine nx ?_
   refine cF_ ?_
   refine sr ?_
   refine rn2 ?_
   refine ob (Ah rfl rfl (An (by omega))) ?_
   refine rn1 ?_
   refine nx ?_
   refine cF_ ?_
   refine sq ?_
   refine kp [5, 6, 7, 8, 9, 10, 11, 76, 77, 78, 79, 80, 81, 82, 83, 84, 85, 86, 87, 88, 89, 90, 91, 92, 93, 94, 95, 96, 97, 98] ?_
   refine Al Ay (by kernel_rfl) (by kernel_rfl) (fun _ _ => _) (fun _ => rfl) ?_
   refine dn2 ?_
   refine dj ?_
   first | refine dc (fun _ _ => Ah rfl rfl (An (by omega))) ?_
   refine dj ?_
   first | refine dc (fun _ _ => Bh) ?_
   refine dn1 ?_
   refine dj ?_
   first | refine dc (fun _ _ => Bp) ?_
   refine dj ?_
   first | refine dc (fun _ _ => Bh) ?_
   refine dn5 ?_
   refine dj ?_
   first | refine dc (fun _ _ => Bp) ?_
   refine dj ?_
   first | refine dc (fun _ _ => Bh) ?_
   refine dn7 ?_
   refine dj ?_
   first | refine dc (fun _ _ => Bp) ?_
   refine dj ?_
   first | refine dc (fun _ _ => Cz) ?_
   refine Aw ?_; intro ρ; simp only [Ao, facts, Bb, List.append_nil, List.nil_append, List.cons_append]
   refine Ae ?_
   refine cF_ ?_
   refine sq ?_
   refine Al Ay (by kernel_rfl) (by kernel_rfl) (fun _ _ => _) (fun _ => rfl) ?_
   refine dn2 ?_
   refine dj ?_
   first | refine dc (fun _ _ => Ah rfl rfl (An (by omega))) ?_
   refine dj ?_
   first | refine dc (fun _ _ => Bh) ?_
   refine dn1 ?_
   refine dj ?_
   first | refine dc (fun _ _ => Bp) ?_
   refine dj ?_
   first | refine dc (fun _ _ => Bh) ?_
   refine dn5 ?_
   refine dj ?_
   first | refine dc (fun _ _ => Bp) ?_
   refine dj ?_
   first | refine dc (fun _ _ => Bh) ?_
   refine dn9 ?_
   refine dj ?_
   first | refine dc (fun _ _ => Bp) ?_
   refine dj ?_
   first | refine dc (fun _ _ => Cz) ?_
   refine Aw ?_; intro ρ; simp only [Ao, facts, Bb, List.append_nil, List.nil_append, List.cons_append]
   refine Ae ?_
   refine cF_ ?_
   refine sq ?_
   refine kp [5, 6, 7, 8, 9, 10, 11, 178, 179, 180, 181, 182, 183, 184, 185, 186, 187, 188, 189, 190, 191, 192, 193, 194, 195, 196, 197, 198, 199, 200] ?_
   refine Al Ay (by kernel_rfl) (by kernel_rfl) (fun _ _ => _) (fun _ => rfl) ?_
   refine dn2 ?_
   refine dj ?_
   first | refine dc (fun _ _ => Ah rfl rfl (A2 (by omega))) ?_
   refine dj ?_
   first | refine dc (fun _ _ => Bh) ?_
   refine dn1 ?_
   refine dj ?_
   first | refine dc (fun _ _ => Ew) ?_
   refine dj ?_
   first | refine dc (fun _ _ => Bh) ?_
   refine dn4 ?_
   refine dj (dgy ?_)
   first | refine dc (fun _ _ => Ah rfl rfl (A2 (by omega))) ?_
   refine dj ?_
   first | refine dc (fun _ _ => Ew) ?_
   refine dj ?_
   first | refine dc (fun _ _ => Bh) ?_
   refine dn6 ?_
   refine dj (dgy ?_)
   first | refine dc (fun _ _ => Ah rfl rfl (A2 (by omega))) ?_
   refine dj ?_
   first | refine dc (fun _ _ => Ew) ?_
   refine dj ?_
   first | refine dc (fun _ _ => Cz) ?_
   refine Aw ?_; intro ρ; simp only [Ao, facts, Bb, List.append_nil, List.nil_append, List.cons_append]
   refine Ae ?_
   refine cT ?_
   refine sq ?_
   refine Al Ay (by kernel_rfl) (by kernel_rfl) (fun _ _ => _) (fun _ => rfl) ?_
   refine dn8 ?_
   refine dj ?_
   refine dc (fun _ _ => E5 (a := 1) (b := (Ad l m.line).who) (Nr (by omega) (by omega))) ?_
   refine dj ?_
   refine dc (fun _ _ => E5 (a := (Ad l m.line).sharers) (b := ((2 ^ (Ad l m.line).who.toNat : Nat) : Int)) (b_orB (by omega) (by omega) (by omega) (by omega))) ?_
   refine dn2 ?_
   refine Ei (by kernel_rfl) ?_; intro ρ; simp only [Ao, facts, Bb, List.append_nil, List.nil_append, List.cons_append]
   refine sc ?_
   refine nx ?_
   refine kp [6, 7, 8, 9, 10, 213, 214, 215, 216] ?_
   refine Aa ?_
   refine rn4 ?_
   refine nx ?_
   refine Ci (b := ?b1) ?e1 ?_ ?_; case e1 => exact rfl
   ·
    intro ht216
    refine Aa ?_
    refine rn8 ?_
    refine sc ?_
    refine rn2 ?_
    refine sc ?_
    refine nr ?_
    refine rn6 ?_
    refine sc ?_
    refine rn2 ?_
    refine sc ?_
    refine rn2 ?_
    refine sc ?_
    refine rn2 ?_
    refine sc ?_
    refine J.nil ?_
    refine As ?_
    refine Ae ?_
    refine sq ?_
    have eh : (Af (Ad l m.line) id m) = ({ (Ad l m.line) with owner := (Ad l m.line).who, sharers := 0, phase := 0, who := 0, serial := 0, alone := false }, []) := by
     unfold Af
     rw [if_neg (by omega), if_neg (by omega), if_neg (by omega), if_neg (by omega), if_pos (by omega)]
     unfold Bs
     rw [if_pos ht216]
    refine JC.conseq (L' := foc 58 g13.1 l m.line.toNat (Entry.cells uo (Af (Ad l m.line) id m).1) :: row 3 uo (Af (Ad l m.line) id m).1.last :: blk b51 104 [ep g13.1 10 m.line.toNat 0, vi m.line, vi id, .slice none 0 0] :: row 42 (.slice none 0 0) (Af (Ad l m.line) id m).2 :: L) (fun w hs => by rw [eh]; exact Ag hs) ?_
    have hEB : EB (Af (Ad l m.line) id m).1 := Dj hE hm (by omega)
    refine JC.shut (v := uo) (xs := (Af (Ad l m.line) id m).1.last) pkk ?_
    refine JC.unfocus (Af (Ad l m.line) id m).1 pkk (Dh mm hEB.1) ?_
    refine JC.shut (v := g13.1) pkk ?_
    refine kp [6, 7, 8, 10, 239, 240, 241, 242, 243] ?_
    refine Al Ay (by kernel_rfl) (by kernel_rfl) (fun _ _ => _) (fun _ => rfl) ?_
    refine dn7 ?_
    refine Aw ?_; intro ρ; simp only [Ao, facts, Bb, List.append_nil, List.nil_append, List.cons_append]
    refine Ae ?_
    refine rt ?_
    have er : Ai l id m = (l.set m.line.toNat (Af (Ad l m.line) id m).1, (Af (Ad l m.line) id m).2) := by unfold Ai; rw [if_neg (by omega)]
    rw [er]
    refine Aj (.inr rfl) (fun B w hs => Ed rfl rfl rfl B w) (fun w hs => ⟨(g13.1, .slice none 0 0), ?_, Ag (St.shut (hs.pick pkk))⟩)
    rfl
   ·
    intro ht216
    refine Ak ?_
    refine Ae ?_
    refine Aa ?_
    refine rn6 ?_
    refine sc ?_
    refine rn2 ?_
    refine sc ?_
    refine rn2 ?_
    refine sc ?_
    refine rn2 ?_
    refine sc ?_
    refine J.nil ?_
    refine As ?_
    refine Ae ?_
    refine sq ?_
    have eh : (Af (Ad l m.line) id m) = ({ (Ad l m.line) with sharers := Gb (Ad l m.line).sharers (Ad l m.line).who, phase := 0, who := 0, serial := 0, alone := false }, []) := by
     unfold Af
     rw [if_neg (by omega), if_neg (by omega), if_neg (by omega), if_neg (by omega), if_pos (by omega)]
     unfold Bs
     rw [if_neg (by rw [ht216]; decide)]
    refine JC.conseq (L' := foc 58 g13.1 l m.line.toNat (Entry.cells uo (Af (Ad l m.line) id m).1) :: row 3 uo (Af (Ad l m.line) id m).1.last :: blk b51 104 [ep g13.1 10 m.line.toNat 0, vi m.line, vi id, .slice none 0 0] :: row 42 (.slice none 0 0) (Af (Ad l m.line) id m).2 :: L) (fun w hs => by rw [eh]; exact Ag hs) ?_
    have hEB : EB (Af (Ad l m.line) id m).1 := Dj hE hm (by omega)
    refine JC.shut (v := uo) (xs := (Af (Ad l m.line) id m).1.last) pkk ?_
    refine JC.unfocus (Af (Ad l m.line) id m).1 pkk (Dh mm hEB.1) ?_
    refine JC.shut (v := g13.1) pkk ?_
    refine Al Ay (by kernel_rfl) (by kernel_rfl) (fun _ _ => _) (fun _ => rfl) ?_
    refine dn7 ?_
    refine Aw ?_; intro ρ; simp only [Ao, facts, Bb, List.append_nil, List.nil_append, List.cons_append]
    refine Ae ?_
    refine rt ?_
    have er : Ai l id m = (l.set m.line.toNat (Af (Ad l m.line) id m).1, (Af (Ad l m.line) id m).2) := by unfold Ai; rw [if_neg (by omega)]
    rw [er]
    refine Aj (.inr rfl) (fun B w hs => Ed rfl rfl rfl B w) (fun w hs => ⟨(g13.1, .slice none 0 0), ?_, Ag (St.shut (hs.pick pkk))⟩)
    rfl
end Go.Proofs.Ytofgpimoekhfaaa

/- This file proves what the program's home hears. No conditions. -/
set_option linter.unusedVariables false
set_option linter.unusedSimpArgs false
set_option maxHeartbeats 1000000
set_option maxRecDepth 8000
namespace Go.Proofs.Ytofgpimoekhfaaa
open Go
theorem Ey {L : List Chunk} {R : List Fact} {w : World} {v0 : Value} {l : List Entry} {id : Int} {m : Msg} (hs : St (L) R w) (h0 : sl v0 l ∈ R) (hb : ∀ i, i < l.length → EB (l.getD i Aq)) (hla : ∀ i, i < l.length → (l.getD i Aq).last.length ≤ 4) (hm : m.wf) (hid : Ax id) : Calls Try.prog 29 [v0, vi id, .agg m.cells.toArray].toArray w (C2 (fun v : Value × Value => .tuple #[v.1, v.2]) (fun v => L) (fun v => sl v.1 (Ai l id m).1 :: sl v.2 (Ai l id m).2 :: R)) := by
  by_cases h : 0 ≤ m.line ∧ m.line < (l.length : Int) ∧ 0 ≤ m.src ∧ m.src < ((Ad l m.line).last.length : Int)
  · by_cases h1 : m.kind = 1
    · exact Qd hs h0 hb hla hm hid (by omega)
    by_cases h2 : m.kind = 2
    · exact Qc hs h0 hb hla hm hid (by omega)
    by_cases h3 : m.kind = 3
    · exact Qb hs h0 hb hla hm hid (by omega)
    by_cases h9 : m.kind = 9
    · exact P9 hs h0 hb hla hm hid (by omega)
    by_cases h8 : m.kind = 8
    · exact Qa hs h0 hb hla hm hid (by omega)
    by_cases h10 : m.kind = 10
    · exact Oj hs h0 hb hla hm hid (by omega)
    exact P8 hs h0 hb hla hm hid (by omega)
  · exact Qe hs h0 hb hla hm hid h
end Go.Proofs.Ytofgpimoekhfaaa

/- This file proves what frame.Sum and its twin in shref1 compute. No conditions. -/
set_option linter.unusedVariables false
set_option linter.unusedSimpArgs false
set_option maxHeartbeats 1000000
set_option maxRecDepth 8000
namespace Go.Proofs.Ytofgpimoekhfaaa
open Go
theorem Gj {L : List Chunk} {R : List Fact} {w : World} {v0 : Value} {b : List UInt8} (hs : St L R w) (h0 : sl v0 b ∈ R) : Calls Try.prog 91 [v0].toArray w (C2 (fun _ : Unit => vi (H6 b)) (fun _ => L) (fun _ => R)) := by
  have hlen := Bv h0 hs
  refine Au Try.func91 rfl Try.ntmps91 rfl hs ?_
  clear hs
  repeat refine Ch ?_
  refine Aa ?_
  refine Cl rfl ?_
  refine J.nil ?_
  refine Ae ?_
  repeat refine Ch ?_
  refine Aa ?_
  refine Cl rfl ?_
  refine J.nil ?_
  refine Ae ?_
  repeat refine Ch ?_
  refine Aa ?_
  refine Cf rfl ?_
  refine r_len Try.underlying23 rfl (by first | exact Eg (by first | exact .hd | exact .tl .hd | exact .tl (.tl .hd) | exact .tl (.tl (.tl .hd)) | exact .tl (.tl (.tl (.tl .hd))) | exact .tl (.tl (.tl (.tl (.tl .hd)))) | exact .tl (.tl (.tl (.tl (.tl (.tl .hd))))) | exact .tl (.tl (.tl (.tl (.tl (.tl (.tl .hd)))))) | exact .tl (.tl (.tl (.tl (.tl (.tl (.tl (.tl .hd)))))))) | exact Fx (by first | assumption | exact .head _ | (refine .tail _ ?_; first | assumption | exact .head _ | (refine .tail _ ?_; first | assumption | exact .head _ | (refine .tail _ ?_; first | assumption | exact .head _ | (refine .tail _ ?_; first | assumption | exact .head _ | (refine .tail _ ?_; first | assumption | exact .head _ | (refine .tail _ ?_; first | assumption | exact .head _ | (refine .tail _ ?_; first | assumption | exact .head _ | (refine .tail _ ?_; first | assumption | exact .head _ | (refine .tail _ ?_; first | assumption | exact .head _))))))))))) ?_
  refine Cf rfl ?_
  refine J.nil ?_
  refine Ae ?_
  repeat refine Ch ?_
  refine Av ?_
  refine Ck (γ := Nat) (fun k => k ≤ b.length) (fun _ => L) (fun _ => R) (fun k => [(0, v0), (9, v0), (10, vi (b.length : Int)), (11, vi (k : Int)), (3, vi ((Ld b k).toNat : Int))]) (fun k => b.length - k) 0 (by omega) ⟨rfl, rfl, rfl, rfl, rfl, trivial⟩ (fun w hs => hs) ?_
  intro k hk
  repeat refine Ch ?_
  refine Aa ?_
  refine E2 rfl rfl Kn ?_
  refine J.nil ?_
  refine Ae ?_
  repeat refine Ch ?_
  refine Ci rfl (fun ht12 => ?_) (fun ht12 => ?_)
  · -- t12 True
    try simp only [decide_eq_true_eq, decide_eq_false_iff_not, beq_iff_eq, bne_iff_ne, beq_eq_false_iff_ne, bne_eq_false_iff_eq, Int.not_lt, Int.not_le, Bool.not_eq_true, ne_eq, Bool.not_eq_eq_eq_not, Bool.not_true, Bool.not_false] at ht12
    refine Ak ?_
    refine Ae ?_
    repeat refine Ch ?_
    refine Av ?_
    repeat refine Ch ?_
    refine Aa ?_
    first | refine Is D5 rfl rfl (by first | exact Eg (by first | exact .hd | exact .tl .hd | exact .tl (.tl .hd) | exact .tl (.tl (.tl .hd)) | exact .tl (.tl (.tl (.tl .hd))) | exact .tl (.tl (.tl (.tl (.tl .hd)))) | exact .tl (.tl (.tl (.tl (.tl (.tl .hd))))) | exact .tl (.tl (.tl (.tl (.tl (.tl (.tl .hd)))))) | exact .tl (.tl (.tl (.tl (.tl (.tl (.tl (.tl .hd)))))))) | exact Fx (by first | assumption | exact .head _ | (refine .tail _ ?_; first | assumption | exact .head _ | (refine .tail _ ?_; first | assumption | exact .head _ | (refine .tail _ ?_; first | assumption | exact .head _ | (refine .tail _ ?_; first | assumption | exact .head _ | (refine .tail _ ?_; first | assumption | exact .head _ | (refine .tail _ ?_; first | assumption | exact .head _ | (refine .tail _ ?_; first | assumption | exact .head _ | (refine .tail _ ?_; first | assumption | exact .head _ | (refine .tail _ ?_; first | assumption | exact .head _))))))))))) (by first | assumption | omega | (simp only [List.length_nil, List.length_cons, List.length_append, List.length_take, List.length_drop, List.length_set, List.length_replicate]; omega)) ?_ | refine Hd D5 rfl rfl (by first | exact Eg (by first | exact .hd | exact .tl .hd | exact .tl (.tl .hd) | exact .tl (.tl (.tl .hd)) | exact .tl (.tl (.tl (.tl .hd))) | exact .tl (.tl (.tl (.tl (.tl .hd)))) | exact .tl (.tl (.tl (.tl (.tl (.tl .hd))))) | exact .tl (.tl (.tl (.tl (.tl (.tl (.tl .hd)))))) | exact .tl (.tl (.tl (.tl (.tl (.tl (.tl (.tl .hd)))))))) | exact Fx (by first | assumption | exact .head _ | (refine .tail _ ?_; first | assumption | exact .head _ | (refine .tail _ ?_; first | assumption | exact .head _ | (refine .tail _ ?_; first | assumption | exact .head _ | (refine .tail _ ?_; first | assumption | exact .head _ | (refine .tail _ ?_; first | assumption | exact .head _ | (refine .tail _ ?_; first | assumption | exact .head _ | (refine .tail _ ?_; first | assumption | exact .head _ | (refine .tail _ ?_; first | assumption | exact .head _ | (refine .tail _ ?_; first | assumption | exact .head _))))))))))) (by first | assumption | omega | (simp only [List.length_nil, List.length_cons, List.length_append, List.length_take, List.length_drop, List.length_set, List.length_replicate]; omega)) (by first | assumption | omega | (simp only [List.length_nil, List.length_cons, List.length_append, List.length_take, List.length_drop, List.length_set, List.length_replicate]; omega)) ?_
    first | refine H9 Try.isAgg5 rfl (Bc (by first | exact .hd | exact .tl .hd | exact .tl (.tl .hd) | exact .tl (.tl (.tl .hd)) | exact .tl (.tl (.tl (.tl .hd))) | exact .tl (.tl (.tl (.tl (.tl .hd)))) | exact .tl (.tl (.tl (.tl (.tl (.tl .hd))))) | exact .tl (.tl (.tl (.tl (.tl (.tl (.tl .hd)))))) | exact .tl (.tl (.tl (.tl (.tl (.tl (.tl (.tl .hd)))))))) (by exact rfl)) ?_ | refine H9 Try.isAgg5 rfl (at_byterow (by first | exact .hd | exact .tl .hd | exact .tl (.tl .hd) | exact .tl (.tl (.tl .hd)) | exact .tl (.tl (.tl (.tl .hd))) | exact .tl (.tl (.tl (.tl (.tl .hd)))) | exact .tl (.tl (.tl (.tl (.tl (.tl .hd))))) | exact .tl (.tl (.tl (.tl (.tl (.tl (.tl .hd)))))) | exact .tl (.tl (.tl (.tl (.tl (.tl (.tl (.tl .hd)))))))) (by first | assumption | omega | (simp only [List.length_nil, List.length_cons, List.length_append, List.length_take, List.length_drop, List.length_set, List.length_replicate]; omega))) ?_ | refine H9 Try.isAgg5 rfl (Pj (by first | assumption | exact .head _ | (refine .tail _ ?_; first | assumption | exact .head _ | (refine .tail _ ?_; first | assumption | exact .head _ | (refine .tail _ ?_; first | assumption | exact .head _ | (refine .tail _ ?_; first | assumption | exact .head _ | (refine .tail _ ?_; first | assumption | exact .head _ | (refine .tail _ ?_; first | assumption | exact .head _ | (refine .tail _ ?_; first | assumption | exact .head _ | (refine .tail _ ?_; first | assumption | exact .head _ | (refine .tail _ ?_; first | assumption | exact .head _)))))))))) (by first | assumption | omega | (simp only [List.length_nil, List.length_cons, List.length_append, List.length_take, List.length_drop, List.length_set, List.length_replicate]; omega))) ?_
    refine Cl rfl ?_
    refine J.nil ?_
    refine Ae ?_
    repeat refine Ch ?_
    refine Aa ?_
    refine Cl rfl ?_
    refine J.nil ?_
    refine Ae ?_
    refine Av ?_
    refine Ck (γ := Nat) (fun j => j ≤ 8) (fun _ => L) (fun _ => R) (fun j => [(0, v0), (9, v0), (10, vi (b.length : Int)), (11, vi (k : Int)), (5, vb (b.getD k 0)), (6, vi (7 - (j : Int))), (3, vi ((Gk (b.getD k 0) j (Ld b k)).toNat : Int))]) (fun j => 8 - j) 0 (by omega) ⟨rfl, rfl, rfl, rfl, rfl, rfl, rfl, trivial⟩ (fun w hs => hs) ?_
    intro j hj
    generalize hx : Gk (b.getD k 0) j (Ld b k) = x
    repeat refine Ch ?_
    refine Aa ?_
    refine Cf rfl ?_
    refine E2 rfl rfl Nu ?_
    refine J.nil ?_
    refine Ae ?_
    repeat refine Ch ?_
    refine Ci rfl (fun ht16 => ?_) (fun ht16 => ?_)
    · -- t16 True
      try simp only [decide_eq_true_eq, decide_eq_false_iff_not, beq_iff_eq, bne_iff_ne, beq_eq_false_iff_ne, bne_eq_false_iff_eq, Int.not_lt, Int.not_le, Bool.not_eq_true, ne_eq, Bool.not_eq_eq_eq_not, Bool.not_true, Bool.not_false] at ht16
      refine Ak ?_
      refine Ae ?_
      repeat refine Ch ?_
      refine Av ?_
      repeat refine Ch ?_
      obtain ⟨q, hq⟩ : ∃ q : Nat, 7 - (j : Int) = (q : Int) := ⟨7 - j, by omega⟩
      have hq2 : q = 7 - j := by omega
      rw [hq]
      refine Aa ?_
      refine Cf rfl ?_
      refine r_p (Bg Try.underlying5 Try.underlying3 rfl (Br _)) rfl ?_
      refine Cf rfl ?_
      refine Vd rfl rfl (b_shr (by omega) (by omega)) ?_
      rw [Int.toNat_natCast, show ((b.getD k 0).toNat : Int) / 2 ^ q = ((((b.getD k 0).toNat : Int) / 2 ^ q).toNat : Int) from (Int.toNat_of_nonneg (Int.ediv_nonneg (by omega) (Int.pow_nonneg (by omega)))).symm]
      refine E2 rfl rfl (b_andN (b := 1) (by have := (b.getD k 0).toNat_lt; have h1 := Int.ediv_le_self (a := ((b.getD k 0).toNat : Int)) (2 ^ q) (by omega); omega) (by omega)) ?_
      rw [Sx _ _ (by omega)]
      refine Cl rfl ?_
      refine J.nil ?_
      refine Ae ?_
      repeat refine Ch ?_
      refine Aa ?_
      refine Cf rfl ?_
      refine E2 rfl rfl (b_quo (by decide) (by rw [N6]; split <;> omega) (by rw [N6]; split <;> omega)) ?_
      rw [N6]
      refine Cl rfl ?_
      refine J.nil ?_
      refine Ae ?_
      repeat refine Ch ?_
      refine Aa ?_
      refine Cf rfl ?_
      refine E2 rfl rfl b_mulw ?_
      refine E2 rfl rfl (Uo (by decide) (by rw [N7]; omega) (by rw [N7]; have := (x <<< 1).isLt; omega)) ?_
      rw [N7]
      refine Cl rfl ?_
      refine J.nil ?_
      refine Ae ?_
      repeat refine Ch ?_
      refine Aa ?_
      refine Cf rfl ?_
      refine Cf rfl ?_
      refine E2 rfl rfl Up ?_
      refine J.nil ?_
      refine Ae ?_
      refine Ci rfl (fun ht31 => ?_) (fun ht31 => ?_)
      · -- t31 True
        try simp only [decide_eq_true_eq, decide_eq_false_iff_not, beq_iff_eq, bne_iff_ne, beq_eq_false_iff_ne, bne_eq_false_iff_eq, Int.not_lt, Int.not_le, Bool.not_eq_true, ne_eq, Bool.not_eq_eq_eq_not, Bool.not_true, Bool.not_false] at ht31
        replace ht31 : (x.msb ^^ (b.getD k 0).toBitVec.getLsbD (7 - j)) = true := by rw [← hq2]; generalize b.getD k 0 = c at ht31 ⊢; cases h1 : x.msb <;> cases h2 : c.toBitVec.getLsbD q <;> simp [h1, h2] at ht31 ⊢
        refine Aa ?_
        refine Cf rfl ?_
        refine E2 rfl rfl (U5 (b := 4129) (lt63 _) (by omega)) ?_
        refine Cl rfl ?_
        refine J.nil ?_
        refine As ?_
        refine Ae ?_
        refine Aa ?_
        refine Cf rfl ?_
        refine E2 rfl rfl (Un (by omega) (by omega)) ?_
        refine Cl rfl ?_
        refine J.nil ?_
        refine Bk (j + 1) (by omega) (by omega) ⟨rfl, rfl, rfl, rfl, rfl, ?_, ?_, trivial⟩ (fun w hs => hs)
        · exact congrArg (fun z => some (vi z)) (show (q : Int) - 1 = 7 - ((j + 1 : Nat) : Int) by omega)
        rw [Ir, hx]
        exact congrArg (fun z : Nat => some (vi (z : Int))) (by rw [Vb]; unfold Ky; rw [if_pos ht31])
      · -- t31 False
        try simp only [decide_eq_true_eq, decide_eq_false_iff_not, beq_iff_eq, bne_iff_ne, beq_eq_false_iff_ne, bne_eq_false_iff_eq, Int.not_lt, Int.not_le, Bool.not_eq_true, ne_eq, Bool.not_eq_eq_eq_not, Bool.not_true, Bool.not_false] at ht31
        replace ht31 : (x.msb ^^ (b.getD k 0).toBitVec.getLsbD (7 - j)) = false := by rw [← hq2]; generalize b.getD k 0 = c at ht31 ⊢; cases h1 : x.msb <;> cases h2 : c.toBitVec.getLsbD q <;> simp [h1, h2] at ht31 ⊢
        refine Ak ?_
        refine As ?_
        refine Ae ?_
        refine Aa ?_
        refine Cf rfl ?_
        refine E2 rfl rfl (Un (by omega) (by omega)) ?_
        refine Cl rfl ?_
        refine J.nil ?_
        refine Bk (j + 1) (by omega) (by omega) ⟨rfl, rfl, rfl, rfl, rfl, ?_, ?_, trivial⟩ (fun w hs => hs)
        · exact congrArg (fun z => some (vi z)) (show (q : Int) - 1 = 7 - ((j + 1 : Nat) : Int) by omega)
        rw [Ir, hx]
        exact congrArg (fun z : Nat => some (vi (z : Int))) (by unfold Ky; rw [if_neg (by rw [ht31]; decide), BitVec.xor_zero])
    · -- t16 False
      try simp only [decide_eq_true_eq, decide_eq_false_iff_not, beq_iff_eq, bne_iff_ne, beq_eq_false_iff_ne, bne_eq_false_iff_eq, Int.not_lt, Int.not_le, Bool.not_eq_true, ne_eq, Bool.not_eq_eq_eq_not, Bool.not_true, Bool.not_false] at ht16
      refine Jt ?_
      repeat (first | refine Fh ?_ | refine Ex rfl ?_)
      refine Fi ?_
      refine As ?_
      refine Ae ?_
      refine Aa ?_
      refine E2 rfl rfl (Md (by omega) (by omega)) ?_
      refine Cf rfl ?_
      refine J.nil ?_
      refine Bk (k + 1) (by omega) (by omega) ⟨rfl, rfl, rfl, rfl, ?_, trivial⟩ (fun w hs => hs)
      have h8 : j = 8 := by omega
      subst h8
      rw [Pq (by omega), On, hx]; rfl
  · -- t12 False
    try simp only [decide_eq_true_eq, decide_eq_false_iff_not, beq_iff_eq, bne_iff_ne, beq_eq_false_iff_ne, bne_eq_false_iff_eq, Int.not_lt, Int.not_le, Bool.not_eq_true, ne_eq, Bool.not_eq_eq_eq_not, Bool.not_true, Bool.not_false] at ht12
    refine Jt ?_
    repeat (first | refine Fh ?_ | refine Ex rfl ?_)
    refine Fi ?_
    refine Ae ?_
    repeat refine Ch ?_
    refine Aa ?_
    refine Cf rfl ?_
    refine Cl rfl ?_
    refine J.nil ?_
    refine Ae ?_
    refine Rn ?_
    repeat (first | refine Ih ?_ | refine He ?_)
    have hkl : k = b.length := by omega
    subst hkl
    rw [sum_vi]
    refine Aj (.inr rfl) (fun B w _ => Ek rfl rfl B w) (fun w hs => ⟨(), ?_, hs.sub (by repeat (first | exact .refl | exact .nil | refine .cons (by first | exact .hd | exact .tl .hd | exact .tl (.tl .hd) | exact .tl (.tl (.tl .hd)) | exact .tl (.tl (.tl (.tl .hd))) | exact .tl (.tl (.tl (.tl (.tl .hd)))) | exact .tl (.tl (.tl (.tl (.tl (.tl .hd))))) | exact .tl (.tl (.tl (.tl (.tl (.tl (.tl .hd)))))) | exact .tl (.tl (.tl (.tl (.tl (.tl (.tl (.tl .hd)))))))) ?_ | refine .drop ?_)) (by repeat (first | exact FSub.refl | exact FSub.nil | refine FSub.cons (by first | assumption | (repeat (first | assumption | exact List.Mem.head _ | refine .tail _ ?_))) ?_ | refine FSub.drop ?_))⟩)
    rfl
end Go.Proofs.Ytofgpimoekhfaaa

/- This file proves what the document's answer tells of frames: what is wrong with a message, its bytes, and the message of bytes. No conditions. -/
set_option linter.unusedVariables false
set_option linter.unusedSimpArgs false
set_option maxHeartbeats 1000000
set_option maxRecDepth 8000
namespace Go.Proofs.Ytofgpimoekhfaaa
open Go
theorem Sy {L : List Chunk} {R : List Fact} {w : World} {c : Config} {m : Msg} (hs : St (L) R w) (hcw : c.wf) (hm : m.wf) : Calls Try.prog 92 [.agg c.cells.toArray, .agg m.cells.toArray].toArray w (C2 (fun _ : Unit => vi (Bq c m)) (fun _ => L) (fun _ => R)) := by
  refine Au Try.func92 rfl Try.ntmps92 rfl hs ?_
  clear hs
  refine sr ?_
  refine bx ?_; intro b2
  refine bx ?_; intro b3
  refine rn1 ?_
  refine nx ?_
  rcases (show (m.kind < 1) ∨ (¬ m.kind < 1 ∧ 11 < m.kind) ∨ (1 ≤ m.kind ∧ m.kind ≤ 11) from by omega) with hc | hc | hc
  ·
   refine Aa ?_
   refine rn2 ?_
   refine ob (Ah rfl rfl (C8 (by omega))) ?_
   refine rn5 ?_
   refine nx ?_
   refine cT ?_
   refine sr ?_
   refine rn1 ?_
   refine nx ?_
   refine rt ?_
   have er : Bq c m = 1 := by unfold Bq; rw [if_pos (by omega)]
   rw [er]
   refine Aj (.inr rfl) (fun B w hs => Ek rfl rfl B w) (fun w hs => ⟨(), ?_, Ag hs⟩)
   rfl
  ·
   refine Aa ?_
   refine rn2 ?_
   refine ob (Ah rfl rfl (Az (by omega))) ?_
   refine rn3 ?_
   refine gy ?_
   refine ob (Ah rfl rfl (En (by omega))) ?_
   refine rn1 ?_
   refine nx ?_
   refine cT ?_
   refine sr ?_
   refine rn1 ?_
   refine nx ?_
   refine rt ?_
   have er : Bq c m = 1 := by unfold Bq; rw [if_pos (by omega)]
   rw [er]
   refine Aj (.inr rfl) (fun B w hs => Ek rfl rfl B w) (fun w hs => ⟨(), ?_, Ag hs⟩)
   rfl
  ·
   refine Aa ?_
   refine rn2 ?_
   refine ob (Ah rfl rfl (Az (by omega))) ?_
   refine rn3 ?_
   refine gy ?_
   refine ob (Ah rfl rfl (D2 (by omega))) ?_
   refine rn1 ?_
   refine nx ?_
   refine cF_ ?_
   refine Ak ?_
   refine Ae ?_
   refine sr ?_
   refine rn4 ?_
   refine ob (Hm Try.underlying143 Try.sizeOf3 Try.zeroValue143 rfl rfl) ?_
   refine rn4 ?_
   refine ob (Hm Try.underlying143 Try.sizeOf3 Try.zeroValue143 rfl rfl) ?_
   refine rn2 ?_
   refine ob (Hm Try.underlying143 Try.sizeOf3 Try.zeroValue143 rfl rfl) ?_
   refine rn2 ?_
   refine ob (Hm Try.underlying143 Try.sizeOf3 Try.zeroValue143 rfl rfl) ?_
   refine rn2 ?_
   refine ob (Hm Try.underlying143 Try.sizeOf3 Try.zeroValue143 rfl rfl) ?_
   refine li (α := Int × Int) [(m.src, c.cores), (m.dst, c.cores), (m.serial, 65535), (m.turn, 65535), (m.value, 255)] eo_144 rfl (fun j hj => ⟨⟨_, rfl, rfl, hm.2.1, hcw.1⟩, ⟨_, rfl, rfl, hm.2.2.1, hcw.1⟩, ⟨_, rfl, rfl, hm.2.2.2.2.1, by unfold Ax; simp only; omega⟩, ⟨_, rfl, rfl, hm.2.2.2.2.2.1, by unfold Ax; simp only; omega⟩, ⟨_, rfl, rfl, hm.2.2.2.2.2.2, by unfold Ax; simp only; omega⟩, trivial⟩) ?_; intro v34
   have hxl : ([(m.src, c.cores), (m.dst, c.cores), (m.serial, 65535), (m.turn, 65535), (m.value, 255)] : List (Int × Int)).length = 5 := rfl
   generalize hxs : ([(m.src, c.cores), (m.dst, c.cores), (m.serial, 65535), (m.turn, 65535), (m.value, 255)] : List (Int × Int)) = xs at hxl ⊢
   refine rn2 ?_
   refine nx ?_
   refine Av ?_
   refine Ck (γ := Nat) (fun k => k ≤ 5 ∧ (0 < k → ¬ (m.line < 0 ∨ c.lines ≤ m.line)) ∧ ∀ i, i < k → ¬ ((xs.getD i (0, 0)).1 < 0 ∨ (xs.getD i (0, 0)).2 < (xs.getD i (0, 0)).1)) (fun _ => blk b3 42 m.cells :: blk b2 39 c.cells :: L) (fun _ => sl v34 xs :: R) (fun k => [(2, bp b2 0), (3, bp b3 0), (34, v34), (35, vi (5 : Int)), (36, vi (k : Int))]) (fun k => 5 - k) 0 ⟨by omega, fun h => by omega, fun i hi => by omega⟩ ⟨rfl, rfl, rfl, congrArg (fun z : Nat => some (vi (z : Int))) hxl, rfl, trivial⟩ (fun w hs => Ag hs) ?_
   rintro k ⟨hk, hkl, hkx⟩
   refine sq ?_
   refine kp [2, 3, 4, 34, 35, 36, 37] ?_
   refine Aa ?_
   refine rn1 ?_
   refine nx ?_
   refine cdx (p := ?p1) (hd := ?d1) ?e1 ?_ ?_; case e1 => exact rfl
   ·
    intro ht37
    refine Ak ?_
    refine Ae ?_
    refine sq ?_
    refine Av ?_
    refine sq ?_
    refine JC.open0 (xs := xs) (v := v34) k mm (by omega) (fun hpw => ?_)
    refine Aa ?_
    refine rn2 ?_
    refine al_ (cs := [vi 0, vi 0]) Try.zeroValue143 ?_; intro b6
    refine s_B (cs := [vi (xs.getD k (0, 0)).1, vi (xs.getD k (0, 0)).2]) Try.sizeOf143 ?_
    refine nx ?_
    refine kp [2, 3, 4, 6, 34, 35, 36, 37, 38, 39, 40, 41, 42, 43, 44, 45, 46, 47, 48, 49, 50, 51, 52, 53, 54, 55, 56, 57, 58, 59, 60, 61] ?_
    refine F6 61 (.bool (decide (((xs.getD k (0, 0)).1 < 0) ∨ ((xs.getD k (0, 0)).2 < (xs.getD k (0, 0)).1) ∨ (m.line < 0) ∨ (c.lines ≤ m.line)))) ?_ ?_
    ·
     rcases (show (((xs.getD k (0, 0)).1 < 0)) ∨ (¬ ((xs.getD k (0, 0)).1 < 0) ∧ ((xs.getD k (0, 0)).2 < (xs.getD k (0, 0)).1)) ∨ (¬ ((xs.getD k (0, 0)).1 < 0) ∧ ¬ ((xs.getD k (0, 0)).2 < (xs.getD k (0, 0)).1) ∧ (m.line < 0)) ∨ (¬ ((xs.getD k (0, 0)).1 < 0) ∧ ¬ ((xs.getD k (0, 0)).2 < (xs.getD k (0, 0)).1) ∧ ¬ (m.line < 0) ∧ (c.lines ≤ m.line)) ∨ (¬ ((xs.getD k (0, 0)).1 < 0) ∧ ¬ ((xs.getD k (0, 0)).2 < (xs.getD k (0, 0)).1) ∧ ¬ (m.line < 0) ∧ ¬ (c.lines ≤ m.line)) from by omega) with hm | hm | hm | hm | hm
     ·
      refine Aa ?_
      refine ob (Ce (i := 0) Try.underlying143 Try.sizeOf3 rfl rfl rfl) ?_
      refine rn1 ?_
      refine ob (Ah rfl rfl (C8 (by omega))) ?_
      refine rn19 ?_
      refine J.nil ?_
      refine Bw ?_ (fun w hs => hs)
      refine ⟨by first | exact congrArg (fun b => some (Value.bool b)) (decide_eq_true (by omega)).symm | exact congrArg (fun b => some (Value.bool b)) (by simp; omega), alT⟩
     ·
      refine Aa ?_
      refine ob (Ce (i := 0) Try.underlying143 Try.sizeOf3 rfl rfl rfl) ?_
      refine rn1 ?_
      refine ob (Ah rfl rfl (Az (by omega))) ?_
      refine rn1 ?_
      refine gy ?_
      refine ob (Ce (i := 0) Try.underlying143 Try.sizeOf3 rfl rfl rfl) ?_
      refine rn1 ?_
      refine gy ?_
      refine ob (Ce (i := 1) Try.underlying143 Try.sizeOf3 rfl rfl rfl) ?_
      refine rn1 ?_
      refine gy ?_
      refine ob (Ah rfl rfl (En (by omega))) ?_
      refine rn13 ?_
      refine J.nil ?_
      refine Bw ?_ (fun w hs => hs)
      refine ⟨by first | exact congrArg (fun b => some (Value.bool b)) (decide_eq_true (by omega)).symm | exact congrArg (fun b => some (Value.bool b)) (by simp; omega), alT⟩
     ·
      refine kp [2, 3, 4, 6, 34, 35, 36, 37, 38, 39, 40, 41, 42, 43, 44, 45, 46, 47, 48, 49, 50, 51, 52, 53, 54, 55, 56, 57, 58, 59, 60, 61] ?_
      refine Aa ?_
      refine ob (Ce (i := 0) Try.underlying143 Try.sizeOf3 rfl rfl rfl) ?_
      refine rn1 ?_
      refine ob (Ah rfl rfl (Az (by omega))) ?_
      refine rn1 ?_
      refine gy ?_
      refine ob (Ce (i := 0) Try.underlying143 Try.sizeOf3 rfl rfl rfl) ?_
      refine rn1 ?_
      refine gy ?_
      refine ob (Ce (i := 1) Try.underlying143 Try.sizeOf3 rfl rfl rfl) ?_
      refine rn1 ?_
      refine gy ?_
      refine ob (Ah rfl rfl (D2 (by omega))) ?_
      refine rn4 ?_
      refine gy ?_
      refine ob (Ah rfl rfl (C8 (by omega))) ?_
      refine rn8 ?_
      refine J.nil ?_
      refine Bw ?_ (fun w hs => hs)
      refine ⟨by first | exact congrArg (fun b => some (Value.bool b)) (decide_eq_true (by omega)).symm | exact congrArg (fun b => some (Value.bool b)) (by simp; omega), alT⟩
     ·
      refine Aa ?_
      refine ob (Ce (i := 0) Try.underlying143 Try.sizeOf3 rfl rfl rfl) ?_
      refine rn1 ?_
      refine ob (Ah rfl rfl (Az (by omega))) ?_
      refine rn1 ?_
      refine gy ?_
      refine ob (Ce (i := 0) Try.underlying143 Try.sizeOf3 rfl rfl rfl) ?_
      refine rn1 ?_
      refine gy ?_
      refine ob (Ce (i := 1) Try.underlying143 Try.sizeOf3 rfl rfl rfl) ?_
      refine rn1 ?_
      refine gy ?_
      refine ob (Ah rfl rfl (D2 (by omega))) ?_
      refine rn4 ?_
      refine gy ?_
      refine ob (Ah rfl rfl (Az (by omega))) ?_
      refine rn6 ?_
      refine gy ?_
      refine ob (Ah rfl rfl (D7 (by omega))) ?_
      refine rn1 ?_
      refine J.nil ?_
      refine Bw ?_ (fun w hs => hs)
      refine ⟨by first | exact congrArg (fun b => some (Value.bool b)) (decide_eq_true (by omega)).symm | exact congrArg (fun b => some (Value.bool b)) (by simp; omega), alT⟩
     ·
      refine kp [2, 3, 4, 6, 34, 35, 36, 37, 38, 39, 40, 41, 42, 43, 44, 45, 46, 47, 48, 49, 50, 51, 52, 53, 54, 55, 56, 57, 58, 59, 60, 61] ?_
      refine Aa ?_
      refine ob (Ce (i := 0) Try.underlying143 Try.sizeOf3 rfl rfl rfl) ?_
      refine rn1 ?_
      refine ob (Ah rfl rfl (Az (by omega))) ?_
      refine rn1 ?_
      refine gy ?_
      refine ob (Ce (i := 0) Try.underlying143 Try.sizeOf3 rfl rfl rfl) ?_
      refine rn1 ?_
      refine gy ?_
      refine ob (Ce (i := 1) Try.underlying143 Try.sizeOf3 rfl rfl rfl) ?_
      refine rn1 ?_
      refine gy ?_
      refine ob (Ah rfl rfl (D2 (by omega))) ?_
      refine rn4 ?_
      refine gy ?_
      refine ob (Ah rfl rfl (Az (by omega))) ?_
      refine rn6 ?_
      refine gy ?_
      refine ob (Ah rfl rfl (Bd (by omega))) ?_
      refine rn1 ?_
      refine J.nil ?_
      refine Bw ?_ (fun w hs => hs)
      refine ⟨by first | exact congrArg (fun b => some (Value.bool b)) (decide_eq_false (by omega)).symm | exact congrArg (fun b => some (Value.bool b)) (by simp; omega), alT⟩
    ·
     refine Ae ?_
     first | (refine cdx (p := ?p2) (hd := ?d2) ?e2 ?_ ?_; case e2 => exact rfl) | (refine Ci (b := ?b2) ?e2 ?_ ?_; case e2 => exact rfl)
     ·
      intro ht61
      refine sr ?_
      refine rn1 ?_
      refine nx ?_
      refine rt ?_
      have hr : m.src < 0 ∨ c.cores < m.src ∨ m.dst < 0 ∨ c.cores < m.dst ∨ m.line < 0 ∨ c.lines ≤ m.line ∨ m.serial < 0 ∨ 65535 < m.serial ∨ m.turn < 0 ∨ 65535 < m.turn ∨ m.value < 0 ∨ 255 < m.value := by
       subst hxs
       have hk5 : k = 0 ∨ k = 1 ∨ k = 2 ∨ k = 3 ∨ k = 4 := by omega
       rcases hk5 with rfl | rfl | rfl | rfl | rfl <;> simp only [List.getD_cons_zero, List.getD_cons_succ] at ht61 <;> omega
      have er : Bq c m = 3 := by unfold Bq; rw [if_neg (by omega), if_pos hr]
      rw [er]
      refine Aj (.inr rfl) (fun B w hs => Ek rfl rfl B w) (fun w hs => ⟨(), ?_, Ag hs⟩)
      rfl
     ·
      intro ht61
      refine Ak ?_
      refine As ?_
      refine Ae ?_
      refine Aa ?_
      refine rn2 ?_
      refine J.nil ?_
      refine Bk (k + 1) ⟨by omega, fun _ => by omega, fun i hi => ?_⟩ (by omega) alT (fun w hs => Ag hs)
      by_cases hik : i = k
      ·
       subst hik; omega
      ·
       exact hkx i (by omega)
   ·
    intro ht37
    refine xt ?_
    refine Ae ?_
    refine sq ?_
    refine kp [2, 3, 4, 6, 34, 35, 36, 37, 38, 39, 40, 41, 42, 43, 44, 45, 46, 47, 48, 49, 50, 51, 52, 53, 54, 55, 56, 57, 58, 59, 60, 61, 62, 63, 64, 65, 66, 67, 68, 69, 70, 71, 72, 73, 74, 75, 76, 77, 78, 79, 80, 81, 82, 83, 84, 85, 86, 87, 88] ?_
    refine F6 88 (.bool (decide (m.src = c.cores ↔ m.dst = c.cores))) ?_ ?_
    ·
     rcases (show (m.src = c.cores ∧ m.dst = c.cores) ∨ (m.src = c.cores ∧ m.dst ≠ c.cores) ∨ (m.src ≠ c.cores ∧ m.dst = c.cores) ∨ (m.src ≠ c.cores ∧ m.dst ≠ c.cores) from by omega) with hm | hm | hm | hm
     ·
      refine Aa ?_
      refine rn4 ?_
      refine ob (Ah rfl rfl (A2 (by omega))) ?_
      refine rn5 ?_
      refine gy ?_
      refine ob (Ah rfl rfl (A2 (by omega))) ?_
      refine rn15 ?_
      refine J.nil ?_
      refine Bw ?_ (fun w hs => hs)
      refine ⟨by first | exact congrArg (fun b => some (Value.bool b)) (decide_eq_true (by omega)).symm | exact congrArg (fun b => some (Value.bool b)) (by simp; omega), alT⟩
     ·
      refine Aa ?_
      refine rn4 ?_
      refine ob (Ah rfl rfl (A2 (by omega))) ?_
      refine rn5 ?_
      refine gy ?_
      refine ob (Ah rfl rfl (An (by omega))) ?_
      refine rn6 ?_
      refine gy ?_
      refine ob (Ah rfl rfl (Bu (by omega))) ?_
      refine rn8 ?_
      refine J.nil ?_
      refine Bw ?_ (fun w hs => hs)
      refine ⟨by first | exact congrArg (fun b => some (Value.bool b)) (decide_eq_false (by omega)).symm | exact congrArg (fun b => some (Value.bool b)) (by simp; omega), alT⟩
     ·
      refine kp [2, 3, 4, 6, 34, 35, 36, 37, 38, 39, 40, 41, 42, 43, 44, 45, 46, 47, 48, 49, 50, 51, 52, 53, 54, 55, 56, 57, 58, 59, 60, 61, 62, 63, 64, 65, 66, 67, 68, 69, 70, 71, 72, 73, 74, 75, 76, 77, 78, 79, 80, 81, 82, 83, 84, 85, 86, 87, 88] ?_
      refine Aa ?_
      refine rn4 ?_
      refine ob (Ah rfl rfl (An (by omega))) ?_
      refine rn12 ?_
      refine gy ?_
      refine ob (Ah rfl rfl (C0 (by omega))) ?_
      refine rn5 ?_
      refine gy ?_
      refine ob (Ah rfl rfl (Bu (by omega))) ?_
      refine rn2 ?_
      refine J.nil ?_
      refine Bw ?_ (fun w hs => hs)
      refine ⟨by first | exact congrArg (fun b => some (Value.bool b)) (decide_eq_false (by omega)).symm | exact congrArg (fun b => some (Value.bool b)) (by simp; omega), alT⟩
     ·
      refine Aa ?_
      refine rn4 ?_
      refine ob (Ah rfl rfl (An (by omega))) ?_
      refine rn12 ?_
      refine gy ?_
      refine ob (Ah rfl rfl (C0 (by omega))) ?_
      refine rn5 ?_
      refine gy ?_
      refine ob (Ah rfl rfl (C0 (by omega))) ?_
      refine rn2 ?_
      refine J.nil ?_
      refine Bw ?_ (fun w hs => hs)
      refine ⟨by first | exact congrArg (fun b => some (Value.bool b)) (decide_eq_true (by omega)).symm | exact congrArg (fun b => some (Value.bool b)) (by simp; omega), alT⟩
    ·
     refine Ae ?_
     refine sq ?_
     first | (refine cdx (p := ?p3) (hd := ?d3) ?e3 ?_ ?_; case e3 => exact rfl) | (refine Ci (b := ?b3) ?e3 ?_ ?_; case e3 => exact rfl)
     ·
      intro ht88
      refine sq ?_
      refine kp [4] ?_
      refine Aa ?_
      refine rn1 ?_
      refine nx ?_
      refine rt ?_
      have hk5 : k = 5 := by omega
      subst hk5
      have hl := hkl (by omega)
      subst hxs
      have q0 := hkx 0 (by omega)
      have q1 := hkx 1 (by omega)
      have q2 := hkx 2 (by omega)
      have q3 := hkx 3 (by omega)
      have q4 := hkx 4 (by omega)
      simp only [List.getD_cons_zero, List.getD_cons_succ] at q0 q1 q2 q3 q4
      have hr : ¬ (m.src < 0 ∨ c.cores < m.src ∨ m.dst < 0 ∨ c.cores < m.dst ∨ m.line < 0 ∨ c.lines ≤ m.line ∨ m.serial < 0 ∨ 65535 < m.serial ∨ m.turn < 0 ∨ 65535 < m.turn ∨ m.value < 0 ∨ 255 < m.value) := by omega
      have er : Bq c m = 6 := by unfold Bq; rw [if_neg (by omega), if_neg hr, if_pos ht88]
      rw [er]
      refine Aj (.inr rfl) (fun B w hs => Ek rfl rfl B w) (fun w hs => ⟨(), ?_, Ag hs⟩)
      rfl
     ·
      intro ht88
      refine Ak ?_
      refine Ae ?_
      refine sq ?_
      refine kp [4] ?_
      refine Aa ?_
      refine rn1 ?_
      refine nx ?_
      refine rt ?_
      have hk5 : k = 5 := by omega
      subst hk5
      have hl := hkl (by omega)
      subst hxs
      have q0 := hkx 0 (by omega)
      have q1 := hkx 1 (by omega)
      have q2 := hkx 2 (by omega)
      have q3 := hkx 3 (by omega)
      have q4 := hkx 4 (by omega)
      simp only [List.getD_cons_zero, List.getD_cons_succ] at q0 q1 q2 q3 q4
      have hr : ¬ (m.src < 0 ∨ c.cores < m.src ∨ m.dst < 0 ∨ c.cores < m.dst ∨ m.line < 0 ∨ c.lines ≤ m.line ∨ m.serial < 0 ∨ 65535 < m.serial ∨ m.turn < 0 ∨ 65535 < m.turn ∨ m.value < 0 ∨ 255 < m.value) := by omega
      have er : Bq c m = 0 := by unfold Bq; rw [if_neg (by omega), if_neg hr, if_neg ht88]
      rw [er]
      refine Aj (.inr rfl) (fun B w hs => Ek rfl rfl B w) (fun w hs => ⟨(), ?_, Ag hs⟩)
      rfl
theorem Tc {L : List Chunk} {R : List Fact} {w : World} {m : Msg} (hs : St (L) R w) (hin : MsgIn m) : Calls Try.prog 105 [.agg m.cells.toArray].toArray w (C2 (fun v : Value => v) (fun v => L) (fun v => sl v (Cg m) :: R)) := by
  obtain ⟨k0, k1, k2, k3, k4, k5, k6⟩ := hin
  refine Au Try.func105 rfl Try.ntmps105 rfl hs ?_
  clear hs
  refine sr ?_
  refine bx ?_; intro b1
  refine rn1 ?_
  refine nr ?_
  refine rn1 ?_
  refine nr ?_
  refine rn2 ?_
  refine nx ?_
  refine Ci (b := ?b1) ?e1 ?_ ?_; case e1 => exact rfl
  ·
   intro ht9
   refine Aa ?_
   refine rn1 ?_
   refine nr ?_
   refine rn1 ?_
   refine nr ?_
   refine rn12 ?_
   refine ob (Ah rfl rfl (Iz (b := 256) (by omega) (by omega) (by omega))) ?_
   refine rn2 ?_
   refine ob (Ah rfl rfl (Iy (b := 256) (by omega) (by omega) (by omega))) ?_
   refine rn2 ?_
   refine ob (Ah rfl rfl (Iz (b := 256) (by omega) (by omega) (by omega))) ?_
   refine rn2 ?_
   refine ob (Ah rfl rfl (Iy (b := 256) (by omega) (by omega) (by omega))) ?_
   refine rn3 ?_
   refine li (α := Int) ([m.kind, 16 * m.src + m.dst, m.line, m.serial / 256, m.serial % 256, m.turn / 256, m.turn % 256, m.value, 1, 0] : List Int) D6 rfl (fun j hj => ⟨⟨_, rfl, rfl, by unfold Ax; omega⟩, ⟨⟨_, rfl, rfl, by unfold Ax; omega⟩, ⟨⟨_, rfl, rfl, by unfold Ax; omega⟩, ⟨⟨_, rfl, rfl, by unfold Ax; omega⟩, ⟨⟨_, rfl, rfl, by unfold Ax; omega⟩, ⟨⟨_, rfl, rfl, by unfold Ax; omega⟩, ⟨⟨_, rfl, rfl, by unfold Ax; omega⟩, ⟨⟨_, rfl, rfl, by unfold Ax; omega⟩, ⟨⟨_, rfl, rfl, by unfold Ax; omega⟩, ⟨⟨_, rfl, rfl, by unfold Ax; omega⟩, trivial⟩⟩⟩⟩⟩⟩⟩⟩⟩⟩) ?_; intro v35
   have hxl : ([m.kind, 16 * m.src + m.dst, m.line, m.serial / 256, m.serial % 256, m.turn / 256, m.turn % 256, m.value, 1, 0] : List Int).length = 10 := rfl
   have hxb : ([m.kind, 16 * m.src + m.dst, m.line, m.serial / 256, m.serial % 256, m.turn / 256, m.turn % 256, m.value, 1, 0] : List Int).map u8 = C4 m := by
    have e : ∀ x y : Int, x % 256 = y % 256 → u8 x = u8 y := fun x y h => by unfold u8; rw [h]
    unfold C4
    simp only [List.map_cons, List.map_nil]
    rw [ht9, e (m.serial % 256) m.serial (by omega), e (m.turn % 256) m.turn (by omega)]; rfl
   generalize hxs : ([m.kind, 16 * m.src + m.dst, m.line, m.serial / 256, m.serial % 256, m.turn / 256, m.turn % 256, m.value, 1, 0] : List Int) = xs at hxl hxb ⊢
   refine rn2 ?_
   refine nx ?_
   refine Av ?_
   refine JC.rowNil 5 UInt8 ?_
   refine Ck (γ := Nat × Value) (fun g => g.1 ≤ 10) (fun g => row 5 g.2 ((xs.map u8).take g.1) :: L) (fun _ => sl v35 xs :: R) (fun g => [(4, g.2), (35, v35), (36, vi (10 : Int)), (37, vi (g.1 : Int))]) (fun g => 10 - g.1) (0, .slice none 0 0) (by omega) ⟨rfl, rfl, congrArg (fun z : Nat => some (vi (z : Int))) hxl, rfl, trivial⟩ (fun w hs => Ag hs) ?_
   rintro ⟨k, v4⟩ hk
   try simp only at hk ⊢
   refine sq ?_
   refine kp [2, 4, 35, 36, 37, 38] ?_
   refine Aa ?_
   refine rn1 ?_
   refine nx ?_
   refine cdx (p := ?p2) (hd := ?d2) ?e2 ?_ ?_; case e2 => exact rfl
   ·
    intro ht38
    refine Ak ?_
    refine Ae ?_
    refine sq ?_
    refine Av ?_
    refine sq ?_
    refine JC.open0 (xs := xs) (v := v35) k mm (by omega) (fun hpw => ?_)
    refine Aa ?_
    refine rn3 ?_
    refine nr ?_
    refine rn2 ?_
    refine ob (Bg Try.underlying3 Try.underlying5 rfl (F1 _)) ?_
    refine li (α := UInt8) ([u8 (xs.getD k 0)] : List UInt8) Ht rfl (fun j hj => ⟨⟨_, rfl, rfl⟩, trivial⟩) ?_; intro v44
    refine ap Ht (hb := fun w hs => by have : maxN = 16777216 := rfl; first | (rw [I6]; simp only [List.length_cons, List.length_nil]; omega) | (rw [List.length_take, List.length_map]; simp only [List.length_cons, List.length_nil]; omega)) (k := ?_); intro v45
    refine rn1 ?_
    refine J.nil ?_
    refine As ?_
    refine Ae ?_
    refine Aa ?_
    refine rn2 ?_
    refine J.nil ?_
    refine Bk (k + 1, v45) (by show k + 1 ≤ 10; omega) (by show 10 - (k + 1) < 10 - k; omega) alT (fun w hs => ?_)
    try simp only
    have e9 : (xs.map u8).take (k + 1) = (xs.map u8).take k ++ [u8 (xs.getD k 0)] := by rw [Fp 0 (by rw [List.length_map]; omega)]; simp [List.getD_eq_getElem?_getD, List.getElem?_map, List.getElem?_eq_getElem (show k < xs.length by omega)]
    rw [e9]; exact Ag hs
   ·
    intro ht38
    refine xt ?_
    refine Ae ?_
    refine sq ?_
    have hk10 : k = 10 := by omega
    subst hk10
    rw [List.take_of_length_le (by rw [List.length_map]; omega), hxb]
    have hsm := Ox (C4 m)
    refine Aa ?_
    refine rn1 ?_
    refine A1 (γ := Unit) (val := fun _ => vi (H6 (C4 m))) Try.call91 rfl (fun w hs => lend .hd (fun L R w hs hf _ => Gj hs hf) hs) ?_; intro _
    refine rn1 ?_
    refine nr ?_
    refine rn2 ?_
    refine ob (Ah rfl rfl (Iz (b := 256) (by omega) (by omega) (by omega))) ?_
    refine ob (Bg Try.underlying3 Try.underlying5 rfl (F1 _)) ?_
    refine rn1 ?_
    refine ob (Ah rfl rfl (Iy (b := 256) (by omega) (by omega) (by omega))) ?_
    refine ob (Bg Try.underlying3 Try.underlying5 rfl (F1 _)) ?_
    have hsr : u8 (H6 (C4 m) % 256) = u8 (H6 (C4 m)) := by unfold u8; rw [Int.emod_emod_of_dvd _ (by decide)]
    refine li (α := UInt8) ([u8 (H6 (C4 m) / 256), u8 (H6 (C4 m) % 256)] : List UInt8) Ht rfl (fun j hj => ⟨⟨_, rfl, rfl⟩, ⟨⟨_, rfl, rfl⟩, trivial⟩⟩) ?_; intro v56
    rw [hsr]
    refine ap Ht (hb := fun w hs => by have : maxN = 16777216 := rfl; first | (rw [I6]; simp only [List.length_cons, List.length_nil]; omega) | (rw [List.length_take, List.length_map]; simp only [List.length_cons, List.length_nil]; omega)) (k := ?_); intro v57
    refine rn1 ?_
    refine nx ?_
    refine rt ?_
    refine Aj (.inr rfl) (fun B w hs => Ek rfl rfl B w) (fun w hs => ⟨v57, ?_, Ag (St.shut (hs.pick pkk))⟩)
    rfl
  ·
   intro ht9
   refine Ak ?_
   refine Ae ?_
   refine sr ?_
   refine rn1 ?_
   refine nr ?_
   refine rn12 ?_
   refine ob (Ah rfl rfl (Iz (b := 256) (by omega) (by omega) (by omega))) ?_
   refine rn2 ?_
   refine ob (Ah rfl rfl (Iy (b := 256) (by omega) (by omega) (by omega))) ?_
   refine rn2 ?_
   refine ob (Ah rfl rfl (Iz (b := 256) (by omega) (by omega) (by omega))) ?_
   refine rn2 ?_
   refine ob (Ah rfl rfl (Iy (b := 256) (by omega) (by omega) (by omega))) ?_
   refine rn3 ?_
   refine li (α := Int) ([m.kind, 16 * m.src + m.dst, m.line, m.serial / 256, m.serial % 256, m.turn / 256, m.turn % 256, m.value, 0, 0] : List Int) D6 rfl (fun j hj => ⟨⟨_, rfl, rfl, by unfold Ax; omega⟩, ⟨⟨_, rfl, rfl, by unfold Ax; omega⟩, ⟨⟨_, rfl, rfl, by unfold Ax; omega⟩, ⟨⟨_, rfl, rfl, by unfold Ax; omega⟩, ⟨⟨_, rfl, rfl, by unfold Ax; omega⟩, ⟨⟨_, rfl, rfl, by unfold Ax; omega⟩, ⟨⟨_, rfl, rfl, by unfold Ax; omega⟩, ⟨⟨_, rfl, rfl, by unfold Ax; omega⟩, ⟨⟨_, rfl, rfl, by unfold Ax; omega⟩, ⟨⟨_, rfl, rfl, by unfold Ax; omega⟩, trivial⟩⟩⟩⟩⟩⟩⟩⟩⟩⟩) ?_; intro v35
   have hxl : ([m.kind, 16 * m.src + m.dst, m.line, m.serial / 256, m.serial % 256, m.turn / 256, m.turn % 256, m.value, 0, 0] : List Int).length = 10 := rfl
   have hxb : ([m.kind, 16 * m.src + m.dst, m.line, m.serial / 256, m.serial % 256, m.turn / 256, m.turn % 256, m.value, 0, 0] : List Int).map u8 = C4 m := by
    have e : ∀ x y : Int, x % 256 = y % 256 → u8 x = u8 y := fun x y h => by unfold u8; rw [h]
    unfold C4
    simp only [List.map_cons, List.map_nil]
    rw [ht9, e (m.serial % 256) m.serial (by omega), e (m.turn % 256) m.turn (by omega)]; rfl
   generalize hxs : ([m.kind, 16 * m.src + m.dst, m.line, m.serial / 256, m.serial % 256, m.turn / 256, m.turn % 256, m.value, 0, 0] : List Int) = xs at hxl hxb ⊢
   refine rn2 ?_
   refine nx ?_
   refine Av ?_
   refine JC.rowNil 5 UInt8 ?_
   refine Ck (γ := Nat × Value) (fun g => g.1 ≤ 10) (fun g => row 5 g.2 ((xs.map u8).take g.1) :: L) (fun _ => sl v35 xs :: R) (fun g => [(4, g.2), (35, v35), (36, vi (10 : Int)), (37, vi (g.1 : Int))]) (fun g => 10 - g.1) (0, .slice none 0 0) (by omega) ⟨rfl, rfl, congrArg (fun z : Nat => some (vi (z : Int))) hxl, rfl, trivial⟩ (fun w hs => Ag hs) ?_
   rintro ⟨k, v4⟩ hk
   try simp only at hk ⊢
   refine sq ?_
   refine kp [2, 4, 35, 36, 37, 38] ?_
   refine Aa ?_
   refine rn1 ?_
   refine nx ?_
   refine cdx (p := ?p3) (hd := ?d3) ?e3 ?_ ?_; case e3 => exact rfl
   ·
    intro ht38
    refine Ak ?_
    refine Ae ?_
    refine sq ?_
    refine Av ?_
    refine sq ?_
    refine JC.open0 (xs := xs) (v := v35) k mm (by omega) (fun hpw => ?_)
    refine Aa ?_
    refine rn3 ?_
    refine nr ?_
    refine rn2 ?_
    refine ob (Bg Try.underlying3 Try.underlying5 rfl (F1 _)) ?_
    refine li (α := UInt8) ([u8 (xs.getD k 0)] : List UInt8) Ht rfl (fun j hj => ⟨⟨_, rfl, rfl⟩, trivial⟩) ?_; intro v44
    refine ap Ht (hb := fun w hs => by have : maxN = 16777216 := rfl; first | (rw [I6]; simp only [List.length_cons, List.length_nil]; omega) | (rw [List.length_take, List.length_map]; simp only [List.length_cons, List.length_nil]; omega)) (k := ?_); intro v45
    refine rn1 ?_
    refine J.nil ?_
    refine As ?_
    refine Ae ?_
    refine Aa ?_
    refine rn2 ?_
    refine J.nil ?_
    refine Bk (k + 1, v45) (by show k + 1 ≤ 10; omega) (by show 10 - (k + 1) < 10 - k; omega) alT (fun w hs => ?_)
    try simp only
    have e9 : (xs.map u8).take (k + 1) = (xs.map u8).take k ++ [u8 (xs.getD k 0)] := by rw [Fp 0 (by rw [List.length_map]; omega)]; simp [List.getD_eq_getElem?_getD, List.getElem?_map, List.getElem?_eq_getElem (show k < xs.length by omega)]
    rw [e9]; exact Ag hs
   ·
    intro ht38
    refine xt ?_
    refine Ae ?_
    refine sq ?_
    have hk10 : k = 10 := by omega
    subst hk10
    rw [List.take_of_length_le (by rw [List.length_map]; omega), hxb]
    have hsm := Ox (C4 m)
    refine Aa ?_
    refine rn1 ?_
    refine A1 (γ := Unit) (val := fun _ => vi (H6 (C4 m))) Try.call91 rfl (fun w hs => lend .hd (fun L R w hs hf _ => Gj hs hf) hs) ?_; intro _
    refine rn1 ?_
    refine nr ?_
    refine rn2 ?_
    refine ob (Ah rfl rfl (Iz (b := 256) (by omega) (by omega) (by omega))) ?_
    refine ob (Bg Try.underlying3 Try.underlying5 rfl (F1 _)) ?_
    refine rn1 ?_
    refine ob (Ah rfl rfl (Iy (b := 256) (by omega) (by omega) (by omega))) ?_
    refine ob (Bg Try.underlying3 Try.underlying5 rfl (F1 _)) ?_
    have hsr : u8 (H6 (C4 m) % 256) = u8 (H6 (C4 m)) := by unfold u8; rw [Int.emod_emod_of_dvd _ (by decide)]
    refine li (α := UInt8) ([u8 (H6 (C4 m) / 256), u8 (H6 (C4 m) % 256)] : List UInt8) Ht rfl (fun j hj => ⟨⟨_, rfl, rfl⟩, ⟨⟨_, rfl, rfl⟩, trivial⟩⟩) ?_; intro v56
    rw [hsr]
    refine ap Ht (hb := fun w hs => by have : maxN = 16777216 := rfl; first | (rw [I6]; simp only [List.length_cons, List.length_nil]; omega) | (rw [List.length_take, List.length_map]; simp only [List.length_cons, List.length_nil]; omega)) (k := ?_); intro v57
    refine rn1 ?_
    refine nx ?_
    refine rt ?_
    refine Aj (.inr rfl) (fun B w hs => Ek rfl rfl B w) (fun w hs => ⟨v57, ?_, Ag (St.shut (hs.pick pkk))⟩)
    rfl
theorem I1 {P : Program} {n : Nat} {Q : Exit → Act → World → Prop} {L : List Chunk} {R : List Fact} {al : List (Nat × Value)} {c : Code} {v : Value} {b : List UInt8} (i : Nat) (hm : sl v b ∈ R) (hi : i < b.length) (k : JC P n c Q L (cF v 1 i [vb (b.getD i 0)] :: R) al) : JC P n c Q L R al := JC.open0 (xs := b) i hm hi (fun _ => k)
theorem Oz {L : List Chunk} {R : List Fact} {w : World} {v1 : Value} {b : List UInt8} {c : Config} (hs : St (L) R w) (h1 : sl v1 b ∈ R) (hc : c.wf) : Calls Try.prog 57 [.agg c.cells.toArray, v1].toArray w (C2 (fun _ : Unit => .tuple #[.agg (Am c b).1.cells.toArray, vi (Am c b).2]) (fun _ => L) (fun _ => R)) := by
  have hlen := Bv h1 hs
  have B : ∀ i, (b.getD i 0).toNat < 256 := fun i => (b.getD i 0).toNat_lt
  refine Au Try.func57 rfl Try.ntmps57 rfl hs ?_
  clear hs
  refine sr ?_
  refine bx ?_; intro b2
  refine al_ (cs := zMsg.cells) Try.zeroValue42 ?_; intro b4
  refine rn1 ?_
  refine nr ?_
  refine rn3 ?_
  refine nx ?_
  refine cdx (p := ?p1) (hd := ?d1) ?e1 ?_ ?_; case e1 => exact rfl
  ·
   intro ht10
   refine sr ?_
   refine ob (Ge (cs := zMsg.cells) Ev) ?_
   refine s_B Try.sizeOf42 ?_
   refine rn1 ?_
   refine nx ?_
   refine rt ?_
   have er : Am c b = (zMsg, 2) := by
    unfold Am
    rw [if_pos (by omega)]
   rw [er]
   refine Aj (.inr rfl) (fun B w hs => Hl rfl rfl rfl Try.isAgg42 Try.sizeOf42 pkk rfl B w hs) (fun w hs => ⟨(), ?_, Ag hs⟩)
   rfl
  ·
   intro ht10
   refine Ak ?_
   refine Ae ?_
   refine sq ?_
   have B0 := B 0; have B1 := B 1; have B2 := B 2; have B3 := B 3; have B4 := B 4; have B5 := B 5; have B6 := B 6; have B7 := B 7; have B8 := B 8; have B9 := B 9; have B10 := B 10; have B11 := B 11
   refine I1 (v := v1) (b := b) 10 mm (by omega) ?_
   refine I1 (v := v1) (b := b) 11 mm (by omega) ?_
   refine Al Ay (by kernel_rfl) (by kernel_rfl) (fun _ _ => _) (fun _ => rfl) ?_
   refine dn1 ?_
   refine dj ?_
   refine Ud (α := UInt8) (xs := b) (lo := 0) (hi := 10) D5 (fun _ => rfl) mm (fun _ => rfl) (fun _ => rfl) (by omega) (by omega) (fun _ _ _ _ => rfl) ?_
   refine dj ?_
   refine Hx (γ := Unit) (val := fun _ => vi (H6 (b.take 10))) (F := fun _ => []) (C := fun _ => []) Try.call91 (fun _ => rfl) (fun _ _ _ _ => rfl) (fun ρ L R w hd hs => Gj hs (hd.dep (it := ⟨1, _, _, _, _⟩) (by repeat (first | exact List.Mem.head _ | refine List.Mem.tail _ ?_)) ⟨9, rfl⟩ (List.Mem.head _))) ?_
   refine dn1 ?_
   refine dj ?_
   first | refine dc (fun _ _ => Gd (i := 10) D5) ?_ | refine dp (fun _ _ => Gd (i := 10) D5) ?_
   refine dj ?_
   first | refine dc (fun _ _ => Dn Try.isAgg5) ?_ | refine dp (fun _ _ => Dn Try.isAgg5) ?_
   refine dj ?_
   first | refine dc (fun _ _ => Bg Try.underlying5 Try.underlying3 rfl (Br _)) ?_ | refine dp (fun _ _ => Bg Try.underlying5 Try.underlying3 rfl (Br _)) ?_
   refine dj ?_
   first | refine dc (fun _ _ => Kh) ?_ | refine dp (fun _ _ => Kh) ?_
   refine dn1 ?_
   refine dj ?_
   first | refine dc (fun _ _ => Gd (i := 11) D5) ?_ | refine dp (fun _ _ => Gd (i := 11) D5) ?_
   refine dj ?_
   first | refine dc (fun _ _ => Dn Try.isAgg5) ?_ | refine dp (fun _ _ => Dn Try.isAgg5) ?_
   refine dj ?_
   first | refine dc (fun _ _ => Bg Try.underlying5 Try.underlying3 rfl (Br _)) ?_ | refine dp (fun _ _ => Bg Try.underlying5 Try.underlying3 rfl (Br _)) ?_
   refine dj ?_
   first | refine dc (fun _ _ => D9) ?_ | refine dc (fun _ _ => E7) ?_ | refine dp (fun _ _ => D9) ?_ | refine dp (fun _ _ => E7) ?_
   refine dj ?_
   first | refine dc (fun _ _ => E5 Qs) ?_ | refine dp (fun _ _ => E5 Qs) ?_
   refine Aw ?_; intro ρ; simp only [Ao, facts, Bb, List.append_nil, List.nil_append, List.cons_append]
   refine Ae ?_
   refine sq ?_
   refine cdx (p := ?p2) (hd := ?d2) ?e2 ?_ ?_; case e2 => exact rfl
   ·
    intro ht25
    refine sr ?_
    refine ob (Ge (cs := zMsg.cells) Ev) ?_
    refine s_B Try.sizeOf42 ?_
    refine rn1 ?_
    refine nx ?_
    refine rt ?_
    have er : Am c b = (zMsg, 7) := by
     unfold Am
     rw [if_neg (by omega), if_pos (by show H6 (b.take 10) ≠ _; unfold at8; omega)]
    rw [er]
    refine Aj (.inr rfl) (fun B w hs => Hl rfl rfl rfl Try.isAgg42 Try.sizeOf42 pkk rfl B w hs) (fun w hs => ⟨(), ?_, Ag hs⟩)
    rfl
   ·
    intro ht25
    refine Ak ?_
    refine Ae ?_
    refine sq ?_
    refine I1 (v := v1) (b := b) 8 mm (by omega) ?_
    refine I1 (v := v1) (b := b) 9 mm (by omega) ?_
    refine Aa ?_
    refine rn1 ?_
    refine ob (Gd (i := 8) D5) ?_
    refine rn3 ?_
    refine jgx (t := 31) (p := ?p3) (hd := ?d3) ?e3 ?_ ?_; case e3 => exact rfl
    ·
     intro ht31
     refine rn5 ?_
     refine nx ?_
     refine cT ?_
     refine sr ?_
     refine ob (Ge (cs := zMsg.cells) Ev) ?_
     refine s_B Try.sizeOf42 ?_
     refine rn1 ?_
     refine nx ?_
     refine rt ?_
     have er : Am c b = (zMsg, 2) := by
      unfold Am
      rw [if_neg (by omega), if_neg (by show ¬ H6 (b.take 10) ≠ _; unfold at8; omega), if_pos (by unfold at8; omega)]
     rw [er]
     refine Aj (.inr rfl) (fun B w hs => Hl rfl rfl rfl Try.isAgg42 Try.sizeOf42 pkk rfl B w hs) (fun w hs => ⟨(), ?_, Ag hs⟩)
     rfl
    ·
     intro ht31
     refine rn1 ?_
     refine gy ?_
     refine ob (Gd (i := 9) D5) ?_
     refine rn3 ?_
     refine nx ?_
     refine cdx (p := ?p4) (hd := ?d4) ?e4 ?_ ?_; case e4 => exact rfl
     ·
      intro ht36
      refine sr ?_
      refine ob (Ge (cs := zMsg.cells) Ev) ?_
      refine s_B Try.sizeOf42 ?_
      refine rn1 ?_
      refine nx ?_
      refine rt ?_
      have er : Am c b = (zMsg, 2) := by
       unfold Am
       rw [if_neg (by omega), if_neg (by show ¬ H6 (b.take 10) ≠ _; unfold at8; omega), if_pos (by unfold at8; omega)]
      rw [er]
      refine Aj (.inr rfl) (fun B w hs => Hl rfl rfl rfl Try.isAgg42 Try.sizeOf42 pkk rfl B w hs) (fun w hs => ⟨(), ?_, Ag hs⟩)
      rfl
     ·
      intro ht36
      refine Ak ?_
      refine Ae ?_
      refine sq ?_
      refine I1 (v := v1) (b := b) 0 mm (by omega) ?_
      refine I1 (v := v1) (b := b) 1 mm (by omega) ?_
      refine I1 (v := v1) (b := b) 2 mm (by omega) ?_
      refine I1 (v := v1) (b := b) 3 mm (by omega) ?_
      refine I1 (v := v1) (b := b) 4 mm (by omega) ?_
      refine I1 (v := v1) (b := b) 5 mm (by omega) ?_
      refine I1 (v := v1) (b := b) 6 mm (by omega) ?_
      refine I1 (v := v1) (b := b) 7 mm (by omega) ?_
      refine JC.conseq (L' := blk b4 42 zMsg.cells :: blk b2 39 c.cells :: L) (fun w hs => Ag hs) ?_
      refine Al Ay (by kernel_rfl) (by kernel_rfl) (fun ρ S => blk b4 42 zMsg.cells :: blk b2 39 c.cells :: ((bif S 47 then [blk (Gh.dec (γ := Nat) (ρ 47)) 42 (bif S 48 then (G0 b).cells else zMsg.cells)] else []) ++ (L))) (fun _ => rfl) ?_
      refine dn1 ?_
      first | refine Dl (fun _ _ => Gd (i := 0) D5) (fun _ _ _ _ _ => rfl) ?_ | refine e_p (fun _ _ => Gd (i := 0) D5) (by first | exact Ind.const _ | exact fun _ _ _ _ _ => rfl | exact Ind.self | exact Ind.gh _ 3 rfl) (fun _ _ _ _ _ => rfl) ?_
      first | refine Dl (fun _ _ => Dn Try.isAgg5) (fun _ _ _ _ _ => rfl) ?_ | refine e_p (fun _ _ => Dn Try.isAgg5) (by first | exact Ind.const _ | exact fun _ _ _ _ _ => rfl | exact Ind.self | exact Ind.gh _ 3 rfl) (fun _ _ _ _ _ => rfl) ?_
      first | refine Dl (fun _ _ => Bg Try.underlying5 Try.underlying3 rfl (Br _)) (fun _ _ _ _ _ => rfl) ?_ | refine e_p (fun _ _ => Bg Try.underlying5 Try.underlying3 rfl (Br _)) (by first | exact Ind.const _ | exact fun _ _ _ _ _ => rfl | exact Ind.self | exact Ind.gh _ 3 rfl) (fun _ _ _ _ _ => rfl) ?_
      refine dn1 ?_
      first | refine Dl (fun _ _ => Gd (i := 1) D5) (fun _ _ _ _ _ => rfl) ?_ | refine e_p (fun _ _ => Gd (i := 1) D5) (by first | exact Ind.const _ | exact fun _ _ _ _ _ => rfl | exact Ind.self | exact Ind.gh _ 3 rfl) (fun _ _ _ _ _ => rfl) ?_
      first | refine Dl (fun _ _ => Dn Try.isAgg5) (fun _ _ _ _ _ => rfl) ?_ | refine e_p (fun _ _ => Dn Try.isAgg5) (by first | exact Ind.const _ | exact fun _ _ _ _ _ => rfl | exact Ind.self | exact Ind.gh _ 3 rfl) (fun _ _ _ _ _ => rfl) ?_
      first | refine Dl (fun _ _ => Bg Try.underlying5 Try.underlying3 rfl (Br _)) (fun _ _ _ _ _ => rfl) ?_ | refine e_p (fun _ _ => Bg Try.underlying5 Try.underlying3 rfl (Br _)) (by first | exact Ind.const _ | exact fun _ _ _ _ _ => rfl | exact Ind.self | exact Ind.gh _ 3 rfl) (fun _ _ _ _ _ => rfl) ?_
      refine Dl (fun _ _ => Ah rfl rfl (Iz (b := 16) (by omega) (by omega) (by omega))) (fun _ _ _ _ _ => rfl) ?_
      refine dn1 ?_
      first | refine Dl (fun _ _ => Gd (i := 1) D5) (fun _ _ _ _ _ => rfl) ?_ | refine e_p (fun _ _ => Gd (i := 1) D5) (by first | exact Ind.const _ | exact fun _ _ _ _ _ => rfl | exact Ind.self | exact Ind.gh _ 3 rfl) (fun _ _ _ _ _ => rfl) ?_
      first | refine Dl (fun _ _ => Dn Try.isAgg5) (fun _ _ _ _ _ => rfl) ?_ | refine e_p (fun _ _ => Dn Try.isAgg5) (by first | exact Ind.const _ | exact fun _ _ _ _ _ => rfl | exact Ind.self | exact Ind.gh _ 3 rfl) (fun _ _ _ _ _ => rfl) ?_
      first | refine Dl (fun _ _ => Bg Try.underlying5 Try.underlying3 rfl (Br _)) (fun _ _ _ _ _ => rfl) ?_ | refine e_p (fun _ _ => Bg Try.underlying5 Try.underlying3 rfl (Br _)) (by first | exact Ind.const _ | exact fun _ _ _ _ _ => rfl | exact Ind.self | exact Ind.gh _ 3 rfl) (fun _ _ _ _ _ => rfl) ?_
      refine Dl (fun _ _ => Ah rfl rfl (Iy (b := 16) (by omega) (by omega) (by omega))) (fun _ _ _ _ _ => rfl) ?_
      refine dn1 ?_
      first | refine Dl (fun _ _ => Gd (i := 2) D5) (fun _ _ _ _ _ => rfl) ?_ | refine e_p (fun _ _ => Gd (i := 2) D5) (by first | exact Ind.const _ | exact fun _ _ _ _ _ => rfl | exact Ind.self | exact Ind.gh _ 3 rfl) (fun _ _ _ _ _ => rfl) ?_
      first | refine Dl (fun _ _ => Dn Try.isAgg5) (fun _ _ _ _ _ => rfl) ?_ | refine e_p (fun _ _ => Dn Try.isAgg5) (by first | exact Ind.const _ | exact fun _ _ _ _ _ => rfl | exact Ind.self | exact Ind.gh _ 3 rfl) (fun _ _ _ _ _ => rfl) ?_
      first | refine Dl (fun _ _ => Bg Try.underlying5 Try.underlying3 rfl (Br _)) (fun _ _ _ _ _ => rfl) ?_ | refine e_p (fun _ _ => Bg Try.underlying5 Try.underlying3 rfl (Br _)) (by first | exact Ind.const _ | exact fun _ _ _ _ _ => rfl | exact Ind.self | exact Ind.gh _ 3 rfl) (fun _ _ _ _ _ => rfl) ?_
      refine dn1 ?_
      first | refine Dl (fun _ _ => Gd (i := 3) D5) (fun _ _ _ _ _ => rfl) ?_ | refine e_p (fun _ _ => Gd (i := 3) D5) (by first | exact Ind.const _ | exact fun _ _ _ _ _ => rfl | exact Ind.self | exact Ind.gh _ 3 rfl) (fun _ _ _ _ _ => rfl) ?_
      first | refine Dl (fun _ _ => Dn Try.isAgg5) (fun _ _ _ _ _ => rfl) ?_ | refine e_p (fun _ _ => Dn Try.isAgg5) (by first | exact Ind.const _ | exact fun _ _ _ _ _ => rfl | exact Ind.self | exact Ind.gh _ 3 rfl) (fun _ _ _ _ _ => rfl) ?_
      first | refine Dl (fun _ _ => Bg Try.underlying5 Try.underlying3 rfl (Br _)) (fun _ _ _ _ _ => rfl) ?_ | refine e_p (fun _ _ => Bg Try.underlying5 Try.underlying3 rfl (Br _)) (by first | exact Ind.const _ | exact fun _ _ _ _ _ => rfl | exact Ind.self | exact Ind.gh _ 3 rfl) (fun _ _ _ _ _ => rfl) ?_
      first | refine Dl (fun _ _ => Kh) (fun _ _ _ _ _ => rfl) ?_ | refine e_p (fun _ _ => Kh) (by first | exact Ind.const _ | exact fun _ _ _ _ _ => rfl | exact Ind.self | exact Ind.gh _ 3 rfl) (fun _ _ _ _ _ => rfl) ?_
      refine dn1 ?_
      first | refine Dl (fun _ _ => Gd (i := 4) D5) (fun _ _ _ _ _ => rfl) ?_ | refine e_p (fun _ _ => Gd (i := 4) D5) (by first | exact Ind.const _ | exact fun _ _ _ _ _ => rfl | exact Ind.self | exact Ind.gh _ 3 rfl) (fun _ _ _ _ _ => rfl) ?_
      first | refine Dl (fun _ _ => Dn Try.isAgg5) (fun _ _ _ _ _ => rfl) ?_ | refine e_p (fun _ _ => Dn Try.isAgg5) (by first | exact Ind.const _ | exact fun _ _ _ _ _ => rfl | exact Ind.self | exact Ind.gh _ 3 rfl) (fun _ _ _ _ _ => rfl) ?_
      first | refine Dl (fun _ _ => Bg Try.underlying5 Try.underlying3 rfl (Br _)) (fun _ _ _ _ _ => rfl) ?_ | refine e_p (fun _ _ => Bg Try.underlying5 Try.underlying3 rfl (Br _)) (by first | exact Ind.const _ | exact fun _ _ _ _ _ => rfl | exact Ind.self | exact Ind.gh _ 3 rfl) (fun _ _ _ _ _ => rfl) ?_
      first | refine Dl (fun _ _ => D9) (fun _ _ _ _ _ => rfl) ?_ | refine Dl (fun _ _ => E7) (fun _ _ _ _ _ => rfl) ?_ | refine e_p (fun _ _ => D9) (by first | exact Ind.const _ | exact fun _ _ _ _ _ => rfl | exact Ind.self | exact Ind.gh _ 3 rfl) (fun _ _ _ _ _ => rfl) ?_ | refine e_p (fun _ _ => E7) (by first | exact Ind.const _ | exact fun _ _ _ _ _ => rfl | exact Ind.self | exact Ind.gh _ 3 rfl) (fun _ _ _ _ _ => rfl) ?_
      refine dn1 ?_
      first | refine Dl (fun _ _ => Gd (i := 5) D5) (fun _ _ _ _ _ => rfl) ?_ | refine e_p (fun _ _ => Gd (i := 5) D5) (by first | exact Ind.const _ | exact fun _ _ _ _ _ => rfl | exact Ind.self | exact Ind.gh _ 3 rfl) (fun _ _ _ _ _ => rfl) ?_
      first | refine Dl (fun _ _ => Dn Try.isAgg5) (fun _ _ _ _ _ => rfl) ?_ | refine e_p (fun _ _ => Dn Try.isAgg5) (by first | exact Ind.const _ | exact fun _ _ _ _ _ => rfl | exact Ind.self | exact Ind.gh _ 3 rfl) (fun _ _ _ _ _ => rfl) ?_
      first | refine Dl (fun _ _ => Bg Try.underlying5 Try.underlying3 rfl (Br _)) (fun _ _ _ _ _ => rfl) ?_ | refine e_p (fun _ _ => Bg Try.underlying5 Try.underlying3 rfl (Br _)) (by first | exact Ind.const _ | exact fun _ _ _ _ _ => rfl | exact Ind.self | exact Ind.gh _ 3 rfl) (fun _ _ _ _ _ => rfl) ?_
      first | refine Dl (fun _ _ => Kh) (fun _ _ _ _ _ => rfl) ?_ | refine e_p (fun _ _ => Kh) (by first | exact Ind.const _ | exact fun _ _ _ _ _ => rfl | exact Ind.self | exact Ind.gh _ 3 rfl) (fun _ _ _ _ _ => rfl) ?_
      refine dn1 ?_
      first | refine Dl (fun _ _ => Gd (i := 6) D5) (fun _ _ _ _ _ => rfl) ?_ | refine e_p (fun _ _ => Gd (i := 6) D5) (by first | exact Ind.const _ | exact fun _ _ _ _ _ => rfl | exact Ind.self | exact Ind.gh _ 3 rfl) (fun _ _ _ _ _ => rfl) ?_
      first | refine Dl (fun _ _ => Dn Try.isAgg5) (fun _ _ _ _ _ => rfl) ?_ | refine e_p (fun _ _ => Dn Try.isAgg5) (by first | exact Ind.const _ | exact fun _ _ _ _ _ => rfl | exact Ind.self | exact Ind.gh _ 3 rfl) (fun _ _ _ _ _ => rfl) ?_
      first | refine Dl (fun _ _ => Bg Try.underlying5 Try.underlying3 rfl (Br _)) (fun _ _ _ _ _ => rfl) ?_ | refine e_p (fun _ _ => Bg Try.underlying5 Try.underlying3 rfl (Br _)) (by first | exact Ind.const _ | exact fun _ _ _ _ _ => rfl | exact Ind.self | exact Ind.gh _ 3 rfl) (fun _ _ _ _ _ => rfl) ?_
      first | refine Dl (fun _ _ => D9) (fun _ _ _ _ _ => rfl) ?_ | refine Dl (fun _ _ => E7) (fun _ _ _ _ _ => rfl) ?_ | refine e_p (fun _ _ => D9) (by first | exact Ind.const _ | exact fun _ _ _ _ _ => rfl | exact Ind.self | exact Ind.gh _ 3 rfl) (fun _ _ _ _ _ => rfl) ?_ | refine e_p (fun _ _ => E7) (by first | exact Ind.const _ | exact fun _ _ _ _ _ => rfl | exact Ind.self | exact Ind.gh _ 3 rfl) (fun _ _ _ _ _ => rfl) ?_
      refine dn1 ?_
      first | refine Dl (fun _ _ => Gd (i := 7) D5) (fun _ _ _ _ _ => rfl) ?_ | refine e_p (fun _ _ => Gd (i := 7) D5) (by first | exact Ind.const _ | exact fun _ _ _ _ _ => rfl | exact Ind.self | exact Ind.gh _ 3 rfl) (fun _ _ _ _ _ => rfl) ?_
      first | refine Dl (fun _ _ => Dn Try.isAgg5) (fun _ _ _ _ _ => rfl) ?_ | refine e_p (fun _ _ => Dn Try.isAgg5) (by first | exact Ind.const _ | exact fun _ _ _ _ _ => rfl | exact Ind.self | exact Ind.gh _ 3 rfl) (fun _ _ _ _ _ => rfl) ?_
      first | refine Dl (fun _ _ => Bg Try.underlying5 Try.underlying3 rfl (Br _)) (fun _ _ _ _ _ => rfl) ?_ | refine e_p (fun _ _ => Bg Try.underlying5 Try.underlying3 rfl (Br _)) (by first | exact Ind.const _ | exact fun _ _ _ _ _ => rfl | exact Ind.self | exact Ind.gh _ 3 rfl) (fun _ _ _ _ _ => rfl) ?_
      refine dn1 ?_
      first | refine Dl (fun _ _ => Gd (i := 8) D5) (fun _ _ _ _ _ => rfl) ?_ | refine e_p (fun _ _ => Gd (i := 8) D5) (by first | exact Ind.const _ | exact fun _ _ _ _ _ => rfl | exact Ind.self | exact Ind.gh _ 3 rfl) (fun _ _ _ _ _ => rfl) ?_
      first | refine Dl (fun _ _ => Dn Try.isAgg5) (fun _ _ _ _ _ => rfl) ?_ | refine e_p (fun _ _ => Dn Try.isAgg5) (by first | exact Ind.const _ | exact fun _ _ _ _ _ => rfl | exact Ind.self | exact Ind.gh _ 3 rfl) (fun _ _ _ _ _ => rfl) ?_
      first | refine Dl (fun _ _ => E5 Qu) (fun _ _ _ _ _ => rfl) ?_ | refine e_p (fun _ _ => E5 Qu) (by first | exact Ind.const _ | exact fun _ _ _ _ _ => rfl | exact Ind.self | exact Ind.gh _ 3 rfl) (fun _ _ _ _ _ => rfl) ?_
      first | refine Dl (fun _ _ => Ge Ev) (fun _ _ _ _ _ => rfl) ?_ | refine Dl (fun _ _ => Gz Ev) (fun _ _ _ _ _ => rfl) ?_ | refine e_p (fun _ _ => Ge Ev) (by first | exact Ind.const _ | exact fun _ _ _ _ _ => rfl | exact Ind.self | exact Ind.gh _ 3 rfl) (fun _ _ _ _ _ => rfl) ?_ | refine e_p (fun _ _ => Gz Ev) (by first | exact Ind.const _ | exact fun _ _ _ _ _ => rfl | exact Ind.self | exact Ind.gh _ 3 rfl) (fun _ _ _ _ _ => rfl) ?_
      refine J5 (cs := zMsg.cells) Try.zeroValue42 rfl (fun ρ b S hS hA => ?_) ?_
      ·
       have ui : upS S 47 47 = true := rfl; have u48 : upS S 47 48 = S 48 := rfl; have h48 : S 48 = false := hA 48 ⟨0, rfl⟩; have rs : (Gh.dec (γ := Nat) (Rho.set ρ 47 (Gh.enc b) 47)) = b := rfl
       simp only [ui, hS, u48, h48, rs, cond_true, cond_false, List.nil_append]
       exact Ins.perm (by repeat (first | exact .hd | exact .hc | refine .tl ?_ | refine .ap ?_))
      refine Be (T0 := 42) (f := 0) (vs := fun ρ => zMsg.cells) (us := fun ρ => (G0 b).cells) (sz := 8) (fun ρ => (Gh.dec (γ := Nat) (ρ 47))) Try.sizeOf42 (fun _ => rfl) (fun _ => rfl) (fun _ => rfl) (fun _ => rfl) (fun ρ R w L' hd hs u hu => by revert u hu; simp [Value.oneCell', Config.cells, Msg.cells, Line.cells, Op.cells, Done.cells, Step.cells]) (fun _ => rfl) (fun ρ g S hS hB hA => ?_) ?_
      ·
       have ui : upS S 48 48 = true := rfl; have u47 : upS S 48 47 = S 47 := rfl; have r47 : Rho.set ρ 48 g 47 = ρ 47 := rfl; have h47 : S 47 = true := hB 47 ⟨0, rfl⟩
       simp only [ui, hS, u47, r47, h47, cond_true, cond_false]
       exact Pos.ex (by repeat (first | exact .hd | exact .hc | apply Pos.tl | apply Pos.ap))
      refine Aw ?_; intro ρ; simp only [Ao, facts, Bb, List.append_nil, List.nil_append, List.cons_append]
      refine JX.conseq (L' := blk b4 42 zMsg.cells :: blk b2 39 c.cells :: (blk (Gh.dec (γ := Nat) (ρ 47)) 42 (G0 b).cells :: L)) (fun w hs => hs) ?_
      generalize (Gh.dec (γ := Nat) (ρ 47)) = b6
      refine Ae ?_
      refine sq ?_
      refine kp [2, 4, 5, 6, 7, 85, 86, 87] ?_
      refine Aa ?_
      refine rn2 ?_
      refine A1 Try.call92 rfl (fun w hs => Sy (c := c) (m := G0 b) hs hc (O3 b)) ?_; intro _
      refine rn1 ?_
      refine nr ?_
      refine rn2 ?_
      refine nx ?_
      refine cdx (p := ?p5) (hd := ?d5) ?e5 ?_ ?_; case e5 => exact rfl
      ·
       intro ht89
       refine sr ?_
       refine ob (Ge (cs := zMsg.cells) Ev) ?_
       refine rn1 ?_
       refine s_B Try.sizeOf42 ?_
       refine rn1 ?_
       refine nx ?_
       refine rt ?_
       have er : Am c b = (zMsg, Bq c (G0 b)) := by
        unfold Am
        rw [if_neg (by omega), if_neg (by show ¬ H6 (b.take 10) ≠ _; unfold at8; omega), if_neg (by unfold at8; omega), if_pos (by omega)]
       rw [er]
       refine Aj (.inr rfl) (fun B w hs => Hl rfl rfl rfl Try.isAgg42 Try.sizeOf42 pkk rfl B w hs) (fun w hs => ⟨(), ?_, Ag hs⟩)
       rfl
      ·
       intro ht89
       refine Ak ?_
       refine Ae ?_
       refine sr ?_
       refine rn1 ?_
       refine s_B Try.sizeOf42 ?_
       refine rn1 ?_
       refine nx ?_
       refine rt ?_
       have er : Am c b = (G0 b, 0) := by
        unfold Am
        rw [if_neg (by omega), if_neg (by show ¬ H6 (b.take 10) ≠ _; unfold at8; omega), if_neg (by unfold at8; omega), if_neg (by omega)]
       rw [er]
       refine Aj (.inr rfl) (fun B w hs => Hl rfl rfl rfl Try.isAgg42 Try.sizeOf42 pkk rfl B w hs) (fun w hs => ⟨(), ?_, Ag hs⟩)
       rfl
end Go.Proofs.Ytofgpimoekhfaaa

/- This file proves what net.Own, Send, and copies of slices compute. No conditions. -/
set_option linter.unusedVariables false
set_option linter.unusedSimpArgs false
set_option maxHeartbeats 1000000
set_option maxRecDepth 8000
namespace Go.Proofs.Ytofgpimoekhfaaa
open Go
theorem Q8 {L : List Chunk} {R : List Fact} {w : World} {v0 v1 : Value} {l : Frames} {b : List UInt8} (hs : St (L) R w) (h0 : sl v0 l ∈ R) (h1 : sl v1 b ∈ R) : Calls Try.prog 21 [v0, v1].toArray w (C2 (fun v : Value => v) (fun v => L) (fun v => sl v (Fq l b) :: R)) := by
  have hlen := Bv h0 hs
  refine Au Try.func21 rfl Try.ntmps21 rfl hs ?_
  clear hs
  refine sr ?_
  refine rn1 ?_
  refine nr ?_
  refine rn3 ?_
  refine nx ?_
  refine cdx (p := ?p1) (hd := ?d1) ?e1 ?_ ?_; case e1 => exact rfl
  ·
   intro ht7
   refine sr ?_
   refine rn2 ?_
   refine nx ?_
   refine rt ?_
   have e : Fq l b = l := by unfold Fq; rw [if_neg (by omega)]
   rw [e]
   refine Aj (.inr rfl) (fun B w hs => Ek rfl rfl B w) (fun w hs => ⟨v0, ?_, Ag hs⟩)
   rfl
  ·
   intro ht7
   refine Ak ?_
   refine Ae ?_
   refine sr ?_
   refine liO ([] : Frames) Nj rfl (fun j h => Fu) ?_; intro v9
   refine rn1 ?_
   refine ap Nj (hb := fun w hs => by have : maxN = 16777216 := rfl; have := hlen; simp only [List.length_cons, List.length_nil, List.length_take, List.length_append]; omega) (k := ?_); intro v11
   refine rn1 ?_
   refine li [_] Nj rfl rd_sl ?_; intro v13
   refine ap Nj (hb := fun w hs => by have : maxN = 16777216 := rfl; have := hlen; simp only [List.length_cons, List.length_nil, List.length_take, List.length_append]; omega) (k := ?_); intro v14
   refine rn1 ?_
   refine nx ?_
   refine rt ?_
   have e : Fq l b = l ++ [b] := by unfold Fq; rw [if_pos (by omega)]
   rw [e]
   refine Aj (.inr rfl) (fun B w hs => Ek rfl rfl B w) (fun w hs => ⟨v14, ?_, Ag (St.shut hs)⟩)
   rfl
end Go.Proofs.Ytofgpimoekhfaaa

/- This file proves what frame.Turn and its twin in shref1 compute. No conditions. -/
set_option linter.unusedVariables false
set_option linter.unusedSimpArgs false
set_option maxHeartbeats 1000000
set_option maxRecDepth 8000
namespace Go.Proofs.Ytofgpimoekhfaaa
open Go
theorem Ji {L : List Chunk} {R : List Fact} {w : World} {v0 : Value} {b : List UInt8} {bit : Int} (hs : St L R w) (h0 : sl v0 b ∈ R) (hbit : Ax bit) : Calls Try.prog 26 [v0, vi bit].toArray w (C2 (fun v : Value => v) (fun _ => L) (fun v => sl v (Bt b bit) :: R)) := by
  have hlen := Bv h0 hs
  have hbit' := hbit
  unfold Ax at hbit'
  refine Au Try.func26 rfl Try.ntmps26 rfl hs ?_
  clear hs
  repeat refine Ch ?_
  refine Aa ?_
  refine Cl rfl ?_
  refine J.nil ?_
  refine Ae ?_
  repeat refine Ch ?_
  refine Aa ?_
  refine Cl rfl ?_
  refine J.nil ?_
  refine Ae ?_
  repeat refine Ch ?_
  refine Aa ?_
  refine Cf rfl ?_
  refine r_len Try.underlying23 rfl (by first | exact Eg (by first | exact .hd | exact .tl .hd | exact .tl (.tl .hd) | exact .tl (.tl (.tl .hd)) | exact .tl (.tl (.tl (.tl .hd))) | exact .tl (.tl (.tl (.tl (.tl .hd)))) | exact .tl (.tl (.tl (.tl (.tl (.tl .hd))))) | exact .tl (.tl (.tl (.tl (.tl (.tl (.tl .hd)))))) | exact .tl (.tl (.tl (.tl (.tl (.tl (.tl (.tl .hd)))))))) | exact Fx (by first | assumption | exact .head _ | (refine .tail _ ?_; first | assumption | exact .head _ | (refine .tail _ ?_; first | assumption | exact .head _ | (refine .tail _ ?_; first | assumption | exact .head _ | (refine .tail _ ?_; first | assumption | exact .head _ | (refine .tail _ ?_; first | assumption | exact .head _ | (refine .tail _ ?_; first | assumption | exact .head _ | (refine .tail _ ?_; first | assumption | exact .head _ | (refine .tail _ ?_; first | assumption | exact .head _ | (refine .tail _ ?_; first | assumption | exact .head _))))))))))) ?_
  refine Cf rfl ?_
  refine J.nil ?_
  refine Ae ?_
  repeat refine Ch ?_
  refine Av ?_
  have hbl : (Bt b bit).length = b.length := Gu b bit
  refine JC.rowNil 5 UInt8 ?_
  refine Ck (γ := Nat × Value) (fun g => g.1 ≤ b.length) (fun g => row 5 g.2 ((Bt b bit).take g.1) :: L) (fun _ => R) (fun g => [(1, vi bit), (5, g.2), (9, v0), (10, vi (b.length : Int)), (11, vi (g.1 : Int))]) (fun g => b.length - g.1) (0, .slice none 0 0) (by omega) ⟨rfl, rfl, rfl, rfl, rfl, trivial⟩ (fun w hs => hs) ?_
  rintro ⟨k, v5⟩ hk
  simp only at hk ⊢
  repeat refine Ch ?_
  refine Aa ?_
  refine E2 rfl rfl Kn ?_
  refine J.nil ?_
  refine Ae ?_
  repeat refine Ch ?_
  refine Ci rfl (fun ht12 => ?_) (fun ht12 => ?_)
  · -- t12 True
    try simp only [decide_eq_true_eq, decide_eq_false_iff_not, beq_iff_eq, bne_iff_ne, beq_eq_false_iff_ne, bne_eq_false_iff_eq, Int.not_lt, Int.not_le, Bool.not_eq_true, ne_eq, Bool.not_eq_eq_eq_not, Bool.not_true, Bool.not_false] at ht12
    refine Ak ?_
    refine Ae ?_
    repeat refine Ch ?_
    refine Av ?_
    repeat refine Ch ?_
    refine Aa ?_
    refine Cf rfl ?_
    first | refine Is D5 rfl rfl (by first | exact Eg (by first | exact .hd | exact .tl .hd | exact .tl (.tl .hd) | exact .tl (.tl (.tl .hd)) | exact .tl (.tl (.tl (.tl .hd))) | exact .tl (.tl (.tl (.tl (.tl .hd)))) | exact .tl (.tl (.tl (.tl (.tl (.tl .hd))))) | exact .tl (.tl (.tl (.tl (.tl (.tl (.tl .hd)))))) | exact .tl (.tl (.tl (.tl (.tl (.tl (.tl (.tl .hd)))))))) | exact Fx (by first | assumption | exact .head _ | (refine .tail _ ?_; first | assumption | exact .head _ | (refine .tail _ ?_; first | assumption | exact .head _ | (refine .tail _ ?_; first | assumption | exact .head _ | (refine .tail _ ?_; first | assumption | exact .head _ | (refine .tail _ ?_; first | assumption | exact .head _ | (refine .tail _ ?_; first | assumption | exact .head _ | (refine .tail _ ?_; first | assumption | exact .head _ | (refine .tail _ ?_; first | assumption | exact .head _ | (refine .tail _ ?_; first | assumption | exact .head _))))))))))) (by first | assumption | omega | (simp only [List.length_nil, List.length_cons, List.length_append, List.length_take, List.length_drop, List.length_set, List.length_replicate]; omega)) ?_ | refine Hd D5 rfl rfl (by first | exact Eg (by first | exact .hd | exact .tl .hd | exact .tl (.tl .hd) | exact .tl (.tl (.tl .hd)) | exact .tl (.tl (.tl (.tl .hd))) | exact .tl (.tl (.tl (.tl (.tl .hd)))) | exact .tl (.tl (.tl (.tl (.tl (.tl .hd))))) | exact .tl (.tl (.tl (.tl (.tl (.tl (.tl .hd)))))) | exact .tl (.tl (.tl (.tl (.tl (.tl (.tl (.tl .hd)))))))) | exact Fx (by first | assumption | exact .head _ | (refine .tail _ ?_; first | assumption | exact .head _ | (refine .tail _ ?_; first | assumption | exact .head _ | (refine .tail _ ?_; first | assumption | exact .head _ | (refine .tail _ ?_; first | assumption | exact .head _ | (refine .tail _ ?_; first | assumption | exact .head _ | (refine .tail _ ?_; first | assumption | exact .head _ | (refine .tail _ ?_; first | assumption | exact .head _ | (refine .tail _ ?_; first | assumption | exact .head _ | (refine .tail _ ?_; first | assumption | exact .head _))))))))))) (by first | assumption | omega | (simp only [List.length_nil, List.length_cons, List.length_append, List.length_take, List.length_drop, List.length_set, List.length_replicate]; omega)) (by first | assumption | omega | (simp only [List.length_nil, List.length_cons, List.length_append, List.length_take, List.length_drop, List.length_set, List.length_replicate]; omega)) ?_
    first | refine H9 Try.isAgg5 rfl (Bc (by first | exact .hd | exact .tl .hd | exact .tl (.tl .hd) | exact .tl (.tl (.tl .hd)) | exact .tl (.tl (.tl (.tl .hd))) | exact .tl (.tl (.tl (.tl (.tl .hd)))) | exact .tl (.tl (.tl (.tl (.tl (.tl .hd))))) | exact .tl (.tl (.tl (.tl (.tl (.tl (.tl .hd)))))) | exact .tl (.tl (.tl (.tl (.tl (.tl (.tl (.tl .hd)))))))) (by exact rfl)) ?_ | refine H9 Try.isAgg5 rfl (at_byterow (by first | exact .hd | exact .tl .hd | exact .tl (.tl .hd) | exact .tl (.tl (.tl .hd)) | exact .tl (.tl (.tl (.tl .hd))) | exact .tl (.tl (.tl (.tl (.tl .hd)))) | exact .tl (.tl (.tl (.tl (.tl (.tl .hd))))) | exact .tl (.tl (.tl (.tl (.tl (.tl (.tl .hd)))))) | exact .tl (.tl (.tl (.tl (.tl (.tl (.tl (.tl .hd)))))))) (by first | assumption | omega | (simp only [List.length_nil, List.length_cons, List.length_append, List.length_take, List.length_drop, List.length_set, List.length_replicate]; omega))) ?_ | refine H9 Try.isAgg5 rfl (Pj (by first | assumption | exact .head _ | (refine .tail _ ?_; first | assumption | exact .head _ | (refine .tail _ ?_; first | assumption | exact .head _ | (refine .tail _ ?_; first | assumption | exact .head _ | (refine .tail _ ?_; first | assumption | exact .head _ | (refine .tail _ ?_; first | assumption | exact .head _ | (refine .tail _ ?_; first | assumption | exact .head _ | (refine .tail _ ?_; first | assumption | exact .head _ | (refine .tail _ ?_; first | assumption | exact .head _ | (refine .tail _ ?_; first | assumption | exact .head _)))))))))) (by first | assumption | omega | (simp only [List.length_nil, List.length_cons, List.length_append, List.length_take, List.length_drop, List.length_set, List.length_replicate]; omega))) ?_
    refine Cl rfl ?_
    refine Cl rfl ?_
    refine J.nil ?_
    refine Ae ?_
    repeat refine Ch ?_
    refine Aa ?_
    refine Cf rfl ?_
    refine Cf rfl ?_
    refine E2 rfl rfl (Ns (by omega) (by omega)) ?_
    refine E2 rfl rfl Nu ?_
    refine Cf rfl ?_
    refine Ii (t := 20) (b := ?b1) ?e1 ?_ ?_
    case e1 => exact rfl
    · -- t20 True
      intro ht20
      try simp only [decide_eq_true_eq, decide_eq_false_iff_not, beq_iff_eq, bne_iff_ne, beq_eq_false_iff_ne, bne_eq_false_iff_eq, Int.not_lt, Int.not_le, Bool.not_eq_true, ne_eq, Bool.not_eq_eq_eq_not, Bool.not_true, Bool.not_false] at ht20
      refine J.guardYes ?_ ?_
      · exact rfl
      refine Cf rfl ?_
      refine J.guardYes ?_ ?_
      · exact rfl
      refine Cf rfl ?_
      refine J.guardYes ?_ ?_
      · exact rfl
      refine E2 rfl rfl (Ns (by omega) (by omega)) ?_
      refine J.guardYes ?_ ?_
      · exact rfl
      refine E2 rfl rfl (Md (by omega) (by omega)) ?_
      refine J.guardYes ?_ ?_
      · exact rfl
      refine E2 rfl rfl Kn ?_
      refine Ve rfl rfl ?_
      refine J.nil ?_
      refine Ae ?_
      repeat refine Ch ?_
      refine Ci rfl (fun ht26 => ?_) (fun ht26 => ?_)
      · -- t26 True
        try simp only [decide_eq_true_eq, decide_eq_false_iff_not, beq_iff_eq, bne_iff_ne, beq_eq_false_iff_ne, bne_eq_false_iff_eq, Int.not_lt, Int.not_le, Bool.not_eq_true, ne_eq, Bool.not_eq_eq_eq_not, Bool.not_true, Bool.not_false] at ht26
        repeat refine Ch ?_
        obtain ⟨r, hr⟩ : ∃ r : Nat, bit = 8 * (k : Int) + r := ⟨(bit - 8 * (k : Int)).toNat, by omega⟩
        have hr8 : r < 8 := by omega
        have hget : (Bt b bit).getD k 0 = b.getD k 0 ^^^ ((1 : UInt8) <<< UInt8.ofNat r) := by
          have e1 : (bit / 8).toNat = k := by omega
          have e2 : (bit % 8).toNat = r := by omega
          unfold Bt
          rw [if_pos (by omega), e1, e2, C5 _ _ _ _ _ (by omega), if_pos rfl]
        refine Aa ?_
        refine Cl rfl ?_
        refine J.nil ?_
        refine Ae ?_
        repeat refine Ch ?_
        refine Aa ?_
        refine Cf rfl ?_
        refine Cf rfl ?_
        refine E2 rfl rfl (Ns (by omega) (by omega)) ?_
        refine E2 rfl rfl (Un (by omega) (by omega)) ?_
        refine Cf rfl ?_
        refine J.nil ?_
        refine Ae ?_
        repeat refine Ch ?_
        refine Av ?_
        rw [show bit - 8 * (k : Int) = (r : Int) by omega]
        refine Ck (γ := Nat) (fun j => j ≤ r) (fun _ => row 5 v5 ((Bt b bit).take k) :: L) (fun _ => R) (fun j => [(1, vi bit), (5, v5), (9, v0), (10, vi (b.length : Int)), (11, vi (k : Int)), (7, vb (b.getD k 0)), (30, vi (r : Int)), (31, vi (j : Int)), (8, vi ((2 ^ j : Nat) : Int))]) (fun j => r - j) 0 (by omega) ⟨rfl, rfl, rfl, rfl, rfl, rfl, rfl, rfl, rfl, trivial⟩ (fun w hs => hs.sub (by repeat (first | exact .refl | exact .nil | refine .cons (by first | exact .hd | exact .tl .hd | exact .tl (.tl .hd) | exact .tl (.tl (.tl .hd)) | exact .tl (.tl (.tl (.tl .hd))) | exact .tl (.tl (.tl (.tl (.tl .hd)))) | exact .tl (.tl (.tl (.tl (.tl (.tl .hd))))) | exact .tl (.tl (.tl (.tl (.tl (.tl (.tl .hd)))))) | exact .tl (.tl (.tl (.tl (.tl (.tl (.tl (.tl .hd)))))))) ?_ | refine .drop ?_)) (by repeat (first | exact FSub.refl | exact FSub.nil | refine FSub.cons (by first | assumption | (repeat (first | assumption | exact List.Mem.head _ | refine .tail _ ?_))) ?_ | refine FSub.drop ?_))) ?_
        intro j hj
        repeat refine Ch ?_
        refine Aa ?_
        refine E2 rfl rfl Kn ?_
        refine J.nil ?_
        refine Ae ?_
        repeat refine Ch ?_
        refine Ci rfl (fun ht32 => ?_) (fun ht32 => ?_)
        · -- t32 True
          try simp only [decide_eq_true_eq, decide_eq_false_iff_not, beq_iff_eq, bne_iff_ne, beq_eq_false_iff_ne, bne_eq_false_iff_eq, Int.not_lt, Int.not_le, Bool.not_eq_true, ne_eq, Bool.not_eq_eq_eq_not, Bool.not_true, Bool.not_false] at ht32
          refine Ak ?_
          refine Ae ?_
          repeat refine Ch ?_
          refine Av ?_
          refine Aa ?_
          refine Cf rfl ?_
          have hp := Nat.pow_le_pow_right (show 0 < 2 by decide) (show j ≤ 8 by omega)
          have hp1 : (0 : Int) ≤ ((2 ^ j : Nat) : Int) := Int.natCast_nonneg _
          have hp2 : ((2 ^ j : Nat) : Int) ≤ 256 := Int.ofNat_le.2 hp
          refine E2 rfl rfl (Ns (by omega) (by omega)) ?_
          refine Cl rfl ?_
          refine J.nil ?_
          refine As ?_
          refine Ae ?_
          refine Aa ?_
          refine E2 rfl rfl (Md (by omega) (by omega)) ?_
          refine Cf rfl ?_
          refine J.nil ?_
          have hp3 : 2 ^ (j + 1) = 2 ^ j * 2 := Nat.pow_succ ..
          refine Bk (j + 1) (by omega) (by omega) ⟨rfl, rfl, rfl, rfl, rfl, rfl, rfl, rfl, ?_, trivial⟩ (fun w hs => hs)
          exact congrArg (fun z => some (vi z)) (show 2 * ((2 ^ j : Nat) : Int) = ((2 ^ (j + 1) : Nat) : Int) by rw [hp3, Int.natCast_mul]; exact Int.mul_comm _ _)
        · -- t32 False
          try simp only [decide_eq_true_eq, decide_eq_false_iff_not, beq_iff_eq, bne_iff_ne, beq_eq_false_iff_ne, bne_eq_false_iff_eq, Int.not_lt, Int.not_le, Bool.not_eq_true, ne_eq, Bool.not_eq_eq_eq_not, Bool.not_true, Bool.not_false] at ht32
          refine Jt ?_
          repeat (first | refine Fh ?_ | refine Ex rfl ?_)
          refine Fi ?_
          refine Ae ?_
          refine Aa ?_
          refine Cf rfl ?_
          refine r_p (Bg Try.underlying5 Try.underlying3 rfl (Br _)) rfl ?_
          refine Cf rfl ?_
          have hjr : j = r := by omega
          subst hjr
          have hp := Nat.pow_le_pow_right (show 0 < 2 by decide) (show j ≤ 8 by omega)
          refine r_p (Ah rfl rfl (U5 (by have := (b.getD k 0).toNat_lt; omega) (by omega))) rfl ?_
          refine r_p (Bg Try.underlying3 Try.underlying5 rfl (F1 _)) rfl ?_
          rw [Sl _ _ hr8]
          refine Cl rfl ?_
          refine J.nil ?_
          refine Ae ?_
          refine Aa ?_
          refine Cf rfl ?_
          refine Cf rfl ?_
          refine Rd (α := UInt8) [b.getD k 0 ^^^ ((1 : UInt8) <<< UInt8.ofNat j)] Ht rfl rfl rfl rfl rfl rfl (fun j hj => ⟨⟨_, rfl, rfl⟩, trivial⟩) ?_; intro v43
          refine J.shut .hd ?_
          refine I4 Ht rfl rfl rfl (by decide) (by first | exact .hd | exact .tl .hd | exact .tl (.tl .hd) | exact .tl (.tl (.tl .hd)) | exact .tl (.tl (.tl (.tl .hd))) | exact .tl (.tl (.tl (.tl (.tl .hd)))) | exact .tl (.tl (.tl (.tl (.tl (.tl .hd))))) | exact .tl (.tl (.tl (.tl (.tl (.tl (.tl .hd)))))) | exact .tl (.tl (.tl (.tl (.tl (.tl (.tl (.tl .hd)))))))) (.head _) (fun w hs => by have : maxN = 16777216 := rfl; rw [List.length_take, Gu]; simp only [List.length_cons, List.length_nil]; omega) ?_; intro v44
          refine Cl rfl ?_
          refine J.nil ?_
          refine As ?_
          refine Ae ?_
          refine Aa ?_
          refine E2 rfl rfl (Md (by omega) (by omega)) ?_
          refine Cf rfl ?_
          refine J.nil ?_
          refine Bk (k + 1, v44) (by show k + 1 ≤ b.length; omega) (by show b.length - (k + 1) < b.length - k; omega) ⟨rfl, rfl, rfl, rfl, rfl, trivial⟩ (fun w hs => ?_)
          have hxk : ((Bt b bit)[k]?).toList = [b.getD k 0 ^^^ ((1 : UInt8) <<< UInt8.ofNat j)] := by
            rw [getD_some 0 (show k < (Bt b bit).length by omega)]
            have hg : (Bt b bit).getD k 0 = b.getD k 0 ^^^ ((1 : UInt8) <<< UInt8.ofNat j) := hget
            rw [hg]; rfl
          show St (row 5 v44 ((Bt b bit).take (k + 1)) :: _) _ w
          rw [List.take_add_one, hxk]; exact hs.sub (by repeat (first | exact .refl | exact .nil | refine .cons (by first | exact .hd | exact .tl .hd | exact .tl (.tl .hd) | exact .tl (.tl (.tl .hd)) | exact .tl (.tl (.tl (.tl .hd))) | exact .tl (.tl (.tl (.tl (.tl .hd)))) | exact .tl (.tl (.tl (.tl (.tl (.tl .hd))))) | exact .tl (.tl (.tl (.tl (.tl (.tl (.tl .hd)))))) | exact .tl (.tl (.tl (.tl (.tl (.tl (.tl (.tl .hd)))))))) ?_ | refine .drop ?_)) (by repeat (first | exact FSub.refl | exact FSub.nil | refine FSub.cons (by first | assumption | (repeat (first | assumption | exact List.Mem.head _ | refine .tail _ ?_))) ?_ | refine FSub.drop ?_))
      · -- t26 False
        try simp only [decide_eq_true_eq, decide_eq_false_iff_not, beq_iff_eq, bne_iff_ne, beq_eq_false_iff_ne, bne_eq_false_iff_eq, Int.not_lt, Int.not_le, Bool.not_eq_true, ne_eq, Bool.not_eq_eq_eq_not, Bool.not_true, Bool.not_false] at ht26
        have hget : (Bt b bit).getD k 0 = b.getD k 0 := by
          unfold Bt
          split
          · rw [C5 _ _ _ _ _ (by omega), if_neg (by omega)]
          · rfl
        refine Ak ?_
        refine Ae ?_
        refine Aa ?_
        refine Cf rfl ?_
        refine Cf rfl ?_
        refine Rd (α := UInt8) [b.getD k 0] Ht rfl rfl rfl rfl rfl rfl (fun j hj => ⟨⟨_, rfl, rfl⟩, trivial⟩) ?_; intro v43
        refine J.shut .hd ?_
        refine I4 Ht rfl rfl rfl (by decide) (by first | exact .hd | exact .tl .hd | exact .tl (.tl .hd) | exact .tl (.tl (.tl .hd)) | exact .tl (.tl (.tl (.tl .hd))) | exact .tl (.tl (.tl (.tl (.tl .hd)))) | exact .tl (.tl (.tl (.tl (.tl (.tl .hd))))) | exact .tl (.tl (.tl (.tl (.tl (.tl (.tl .hd)))))) | exact .tl (.tl (.tl (.tl (.tl (.tl (.tl (.tl .hd)))))))) (.head _) (fun w hs => by have : maxN = 16777216 := rfl; rw [List.length_take, Gu]; simp only [List.length_cons, List.length_nil]; omega) ?_; intro v44
        refine Cl rfl ?_
        refine J.nil ?_
        refine As ?_
        refine Ae ?_
        refine Aa ?_
        refine E2 rfl rfl (Md (by omega) (by omega)) ?_
        refine Cf rfl ?_
        refine J.nil ?_
        refine Bk (k + 1, v44) (by show k + 1 ≤ b.length; omega) (by show b.length - (k + 1) < b.length - k; omega) ⟨rfl, rfl, rfl, rfl, rfl, trivial⟩ (fun w hs => ?_)
        have hxk : ((Bt b bit)[k]?).toList = [b.getD k 0] := by
          rw [getD_some 0 (show k < (Bt b bit).length by omega)]
          have hg : (Bt b bit).getD k 0 = b.getD k 0 := hget
          rw [hg]; rfl
        show St (row 5 v44 ((Bt b bit).take (k + 1)) :: _) _ w
        rw [List.take_add_one, hxk]; exact hs.sub (by repeat (first | exact .refl | exact .nil | refine .cons (by first | exact .hd | exact .tl .hd | exact .tl (.tl .hd) | exact .tl (.tl (.tl .hd)) | exact .tl (.tl (.tl (.tl .hd))) | exact .tl (.tl (.tl (.tl (.tl .hd)))) | exact .tl (.tl (.tl (.tl (.tl (.tl .hd))))) | exact .tl (.tl (.tl (.tl (.tl (.tl (.tl .hd)))))) | exact .tl (.tl (.tl (.tl (.tl (.tl (.tl (.tl .hd)))))))) ?_ | refine .drop ?_)) (by repeat (first | exact FSub.refl | exact FSub.nil | refine FSub.cons (by first | assumption | (repeat (first | assumption | exact List.Mem.head _ | refine .tail _ ?_))) ?_ | refine FSub.drop ?_))
    · -- t20 False
      intro ht20
      try simp only [decide_eq_true_eq, decide_eq_false_iff_not, beq_iff_eq, bne_iff_ne, beq_eq_false_iff_ne, bne_eq_false_iff_eq, Int.not_lt, Int.not_le, Bool.not_eq_true, ne_eq, Bool.not_eq_eq_eq_not, Bool.not_true, Bool.not_false] at ht20
      have hget : (Bt b bit).getD k 0 = b.getD k 0 := by
        unfold Bt
        split
        · rw [C5 _ _ _ _ _ (by omega), if_neg (by omega)]
        · rfl
      refine J.guardNo ?_ ?_
      · exact rfl
      refine J.guardNo ?_ ?_
      · exact rfl
      refine J.guardNo ?_ ?_
      · exact rfl
      refine J.guardNo ?_ ?_
      · exact rfl
      refine J.guardNo ?_ ?_
      · exact rfl
      refine Vf rfl rfl ?_
      refine J.nil ?_
      refine Ae ?_
      repeat refine Ch ?_
      refine Lt rfl ?_
      refine Ak ?_
      refine Ae ?_
      refine Aa ?_
      refine Cf rfl ?_
      refine Cf rfl ?_
      refine Rd (α := UInt8) [b.getD k 0] Ht rfl rfl rfl rfl rfl rfl (fun j hj => ⟨⟨_, rfl, rfl⟩, trivial⟩) ?_; intro v43
      refine J.shut .hd ?_
      refine I4 Ht rfl rfl rfl (by decide) (by first | exact .hd | exact .tl .hd | exact .tl (.tl .hd) | exact .tl (.tl (.tl .hd)) | exact .tl (.tl (.tl (.tl .hd))) | exact .tl (.tl (.tl (.tl (.tl .hd)))) | exact .tl (.tl (.tl (.tl (.tl (.tl .hd))))) | exact .tl (.tl (.tl (.tl (.tl (.tl (.tl .hd)))))) | exact .tl (.tl (.tl (.tl (.tl (.tl (.tl (.tl .hd)))))))) (.head _) (fun w hs => by have : maxN = 16777216 := rfl; rw [List.length_take, Gu]; simp only [List.length_cons, List.length_nil]; omega) ?_; intro v44
      refine Cl rfl ?_
      refine J.nil ?_
      refine As ?_
      refine Ae ?_
      refine Aa ?_
      refine E2 rfl rfl (Md (by omega) (by omega)) ?_
      refine Cf rfl ?_
      refine J.nil ?_
      refine Bk (k + 1, v44) (by show k + 1 ≤ b.length; omega) (by show b.length - (k + 1) < b.length - k; omega) ⟨rfl, rfl, rfl, rfl, rfl, trivial⟩ (fun w hs => ?_)
      have hxk : ((Bt b bit)[k]?).toList = [b.getD k 0] := by
        rw [getD_some 0 (show k < (Bt b bit).length by omega)]
        have hg : (Bt b bit).getD k 0 = b.getD k 0 := hget
        rw [hg]; rfl
      show St (row 5 v44 ((Bt b bit).take (k + 1)) :: _) _ w
      rw [List.take_add_one, hxk]; exact hs.sub (by repeat (first | exact .refl | exact .nil | refine .cons (by first | exact .hd | exact .tl .hd | exact .tl (.tl .hd) | exact .tl (.tl (.tl .hd)) | exact .tl (.tl (.tl (.tl .hd))) | exact .tl (.tl (.tl (.tl (.tl .hd)))) | exact .tl (.tl (.tl (.tl (.tl (.tl .hd))))) | exact .tl (.tl (.tl (.tl (.tl (.tl (.tl .hd)))))) | exact .tl (.tl (.tl (.tl (.tl (.tl (.tl (.tl .hd)))))))) ?_ | refine .drop ?_)) (by repeat (first | exact FSub.refl | exact FSub.nil | refine FSub.cons (by first | assumption | (repeat (first | assumption | exact List.Mem.head _ | refine .tail _ ?_))) ?_ | refine FSub.drop ?_))
  · -- t12 False
    try simp only [decide_eq_true_eq, decide_eq_false_iff_not, beq_iff_eq, bne_iff_ne, beq_eq_false_iff_ne, bne_eq_false_iff_eq, Int.not_lt, Int.not_le, Bool.not_eq_true, ne_eq, Bool.not_eq_eq_eq_not, Bool.not_true, Bool.not_false] at ht12
    refine Jt ?_
    repeat (first | refine Fh ?_ | refine Ex rfl ?_)
    refine Fi ?_
    refine Ae ?_
    repeat refine Ch ?_
    refine Aa ?_
    refine Cf rfl ?_
    refine Cl rfl ?_
    refine J.nil ?_
    refine Ae ?_
    refine Rn ?_
    repeat (first | refine Ih ?_ | refine He ?_)
    have hkl : k = b.length := by omega
    refine Aj (.inr rfl) (fun B w hs => Ek rfl rfl B w) (fun w hs => ?_)
    refine ⟨v5, rfl, ?_⟩
    have h := St.shut (hs.pick (by first | exact .hd | exact .tl .hd | exact .tl (.tl .hd) | exact .tl (.tl (.tl .hd)) | exact .tl (.tl (.tl (.tl .hd))) | exact .tl (.tl (.tl (.tl (.tl .hd)))) | exact .tl (.tl (.tl (.tl (.tl (.tl .hd))))) | exact .tl (.tl (.tl (.tl (.tl (.tl (.tl .hd)))))) | exact .tl (.tl (.tl (.tl (.tl (.tl (.tl (.tl .hd)))))))))
    rw [List.take_of_length_le (by omega)] at h
    exact h.sub (by repeat (first | exact .refl | exact .nil | refine .cons (by first | exact .hd | exact .tl .hd | exact .tl (.tl .hd) | exact .tl (.tl (.tl .hd)) | exact .tl (.tl (.tl (.tl .hd))) | exact .tl (.tl (.tl (.tl (.tl .hd)))) | exact .tl (.tl (.tl (.tl (.tl (.tl .hd))))) | exact .tl (.tl (.tl (.tl (.tl (.tl (.tl .hd)))))) | exact .tl (.tl (.tl (.tl (.tl (.tl (.tl (.tl .hd)))))))) ?_ | refine .drop ?_)) (by repeat (first | exact FSub.refl | exact FSub.nil | refine FSub.cons (by first | assumption | (repeat (first | assumption | exact List.Mem.head _ | refine .tail _ ?_))) ?_ | refine FSub.drop ?_))
end Go.Proofs.Ytofgpimoekhfaaa

/- This file proves what net.Take, Twice, Spoil and their twins compute. No conditions. -/
set_option linter.unusedVariables false
set_option linter.unusedSimpArgs false
set_option maxHeartbeats 1000000
set_option maxRecDepth 8000
namespace Go.Proofs.Ytofgpimoekhfaaa
open Go
theorem Ol {α : Type} {l : List α} {i : Nat} : l.eraseIdx i = l.take i ++ l.drop (i + 1) := List.eraseIdx_eq_take_drop_succ ..
theorem RdL.erase {α : Type} [Enc α] {m : Mem} {xs : List α} {cs : List Value} {i : Nat} (hz : Enc.sz α = 1) (hi : i < xs.length) (h : RdL xs cs m) : RdL (xs.eraseIdx i) (cs.take i ++ cs.drop (i + 1)) m := by
 have h1 : xs = xs.take i ++ xs.drop i := (List.take_append_drop i xs).symm
 rw [h1] at h
 obtain ⟨a, b, e1, e2, e3⟩ := RdL.split h
 have la : a.length = i := by rw [e2.len, hz, List.length_take]; omega
 rw [List.drop_eq_getElem_cons hi] at e3
 obtain ⟨c1, c2, g1, g2, g3⟩ := e3
 have lc : c1.length = 1 := by rw [Enc.len _ _ _ g2, hz]
 rw [Ol]
 have ea : cs.take i = a := by rw [e1, ← la]; simp
 have eb : cs.drop (i + 1) = c2 := by
  rw [e1, g1, ← la, List.drop_append, show a.length + 1 - a.length = 1 by omega, List.drop_append, lc]
  simp [List.drop_of_length_le, lc]
 rw [ea, eb]
 exact RdL.append g3 e2
end Go.Proofs.Ytofgpimoekhfaaa

/- This file proves what small functions of the document's answer compute: comparing, what is put on the way, and new chips. No conditions. -/
set_option linter.unusedVariables false
set_option linter.unusedSimpArgs false
set_option maxHeartbeats 1000000
set_option maxRecDepth 8000
namespace Go.Proofs.Ytofgpimoekhfaaa
open Go
theorem Us {L : List Chunk} {R : List Fact} {w : World} {f : Fact} (hs : St L R w) (h : f ∈ R) : St L (f :: R) w := hs.sub .refl (fun g hg => by
  rcases List.mem_cons.1 hg with e | e
  · rw [e]; exact h
  · exact e)
theorem Mq {L : List Chunk} {R : List Fact} {w : World} {v0 v1 : Value} {fs : Frames} {ms : List Msg} (hs : St (L) R w) (h0 : sl v0 fs ∈ R) (h1 : sl v1 ms ∈ R) (hm : ∀ m ∈ ms, MsgIn m) : Calls Try.prog 97 [v0, v1].toArray w (C2 (fun v : Value => v) (fun v => L) (fun v => sl v (way fs ms) :: R)) := by
  have hlen := Bv h1 hs
  refine Au Try.func97 rfl Try.ntmps97 rfl hs ?_
  clear hs
  refine sr ?_
  refine rn1 ?_
  refine nr ?_
  refine rn3 ?_
  refine nx ?_
  refine Av ?_
  refine Ck (γ := Nat × Value) (fun g => g.1 ≤ ms.length) (fun _ => L) (fun g => sl g.2 (way fs (ms.take g.1)) :: R) (fun g => [(0, g.2), (7, v1), (8, vi (ms.length : Int)), (9, vi (g.1 : Int))]) (fun g => ms.length - g.1) (0, v0) (Nat.zero_le _) alT (fun w hs => Us hs h0) ?_
  rintro ⟨k, vs⟩ hk
  try simp only at hk ⊢
  refine sr ?_
  refine rn1 ?_
  refine nx ?_
  refine cdx (p := ?p1) (hd := ?d1) ?e1 ?_ ?_; case e1 => exact rfl
  ·
   intro ht10
   refine Ak ?_
   refine Ae ?_
   refine sq ?_
   refine Av ?_
   refine sq ?_
   refine JC.open0 (xs := ms) (v := v1) k mm (by omega) (fun _ => ?_)
   have hin : MsgIn (ms.getD k zMsg) := hm _ (by rw [List.getD_eq_getElem?_getD, List.getElem?_eq_getElem (by omega)]; exact List.getElem_mem _)
   refine Aa ?_
   refine rn2 ?_
   refine al_ (cs := zMsg.cells) Try.zeroValue42 ?_; intro b6
   refine s_B (cs := (ms.getD k zMsg).cells) Try.sizeOf42 ?_
   refine nr ?_
   refine rn2 ?_
   refine A1 Try.call105 rfl (fun w hs => Tc hs hin) ?_; intro v15
   refine A1 Try.call21 rfl (fun w hs => Q8 hs (l := way fs (ms.take k)) (b := Cg (ms.getD k zMsg)) mm mm) ?_; intro v16
   refine rn1 ?_
   refine J.nil ?_
   refine As ?_
   refine Ae ?_
   refine Aa ?_
   refine rn2 ?_
   refine J.nil ?_
   refine Bk (k + 1, v16) (by show k + 1 ≤ ms.length; omega) (by show ms.length - (k + 1) < ms.length - k; omega) alT (fun w hs => ?_)
   try simp only
   rw [Fp zMsg (by omega), H3]; exact Ag hs
  ·
   intro ht10
   refine xt ?_
   refine Ae ?_
   refine sr ?_
   refine rn2 ?_
   refine nx ?_
   refine rt ?_
   have hkl : k = ms.length := by omega
   subst hkl
   rw [List.take_length]
   refine Aj (.inr rfl) (fun B w hs => Ek rfl rfl B w) (fun w hs => ⟨vs, ?_, Ag hs⟩)
   rfl
theorem H8 {L : List Chunk} {R : List Fact} {w : World} {e : Int} (hs : St (L) R w) : Calls Try.prog 95 [vi e].toArray w (C2 (fun _ : Unit => .tuple #[.agg #[.slice none 0 0, .slice none 0 0, .slice none 0 0], .slice none 0 0, vi e]) (fun _ => L) (fun _ => R)) := by
 refine Au Try.func95 rfl Try.ntmps95 rfl hs ?_
 clear hs
 refine sr ?_
 refine al_ (cs := [.slice none 0 0, .slice none 0 0, .slice none 0 0]) Try.zeroValue46 ?_; intro b2
 refine rn2 ?_
 refine nr ?_
 refine ob (Ge (cs := [.slice none 0 0, .slice none 0 0, .slice none 0 0]) Pr) ?_
 refine rn1 ?_
 refine s_B Try.sizeOf46 ?_
 refine rn2 ?_
 refine nx ?_
 refine rt ?_
 refine Aj (.inr rfl) (fun B w hs => Db rfl rfl rfl rfl Try.isAgg46 Try.sizeOf46 pkk rfl B w hs) (fun w hs => ⟨(), ?_, Ag hs⟩)
 rfl
theorem E8 {P : Program} {n : Nat} {Q : Exit → Act → World → Prop} {L : List Chunk} {R : List Fact} {al : List (Nat × Value)} {c : Code} {v : Value} {l : List Entry} (i : Nat) (hm : sl v l ∈ R) (hi : i < l.length) (k : (l.getD i Aq).wf → ∀ u, JC P n c Q L (cF v 10 i (Entry.cells u (l.getD i Aq)) :: sl u (l.getD i Aq).last :: R) al) : JC P n c Q L R al := JC.open1 i hm hi k
theorem W4 {a b : Entry} (h0 : a.value = b.value) (h1 : a.owner = b.owner) (h2 : a.sharers = b.sharers) (h3 : a.phase = b.phase) (h4 : a.who = b.who) (h5 : a.serial = b.serial) (h6 : a.alone = b.alone) (h7 : a.turn = b.turn) (h8 : a.need = b.need) (h9 : a.last = b.last) : a = b := by
 cases a; cases b; simp only at *; subst h0 h1 h2 h3 h4 h5 h6 h7 h8 h9; rfl
theorem Sw {L : List Chunk} {R : List Fact} {w : World} {v0 v1 : Value} {a b : List Entry} (hs : St (L) R w) (h0 : sl v0 a ∈ R) (h1 : sl v1 b ∈ R) : Calls Try.prog 31 [v0, v1].toArray w (C2 (fun _ : Unit => .bool (decide (a = b))) (fun _ => L) (fun _ => R)) := by
  have hla := Bv h0 hs
  have hlb := Bv h1 hs
  refine Au Try.func31 rfl Try.ntmps31 rfl hs ?_
  clear hs
  refine sr ?_
  refine rn1 ?_
  refine nr ?_
  refine rn5 ?_
  refine nx ?_
  refine cdx (p := ?p1) (hd := ?d1) ?e1 ?_ ?_; case e1 => exact rfl
  ·
   intro ht12
   refine sr ?_
   refine rn1 ?_
   refine nx ?_
   refine rt ?_
   have e : a ≠ b := by intro h; apply ht12; rw [h]
   refine Aj (.inr rfl) (fun B w hs => Ek rfl rfl B w) (fun w hs => ⟨(), ?_, Ag hs⟩)
   simp [e]
  ·
   intro ht12
   refine Ak ?_
   refine Ae ?_
   refine sr ?_
   refine rn3 ?_
   refine nx ?_
   refine Av ?_
   refine Ck (γ := Nat) (fun k => k ≤ a.length ∧ a.take k = b.take k) (fun _ => L) (fun _ => R) (fun k => [(0, v0), (1, v1), (14, vi (a.length : Int)), (15, vi (k : Int))]) (fun k => a.length - k) 0 ⟨Nat.zero_le _, rfl⟩ alT (fun w hs => hs) ?_
   rintro k ⟨hk, hab⟩
   refine sr ?_
   refine rn1 ?_
   refine nx ?_
   refine cdx (p := ?p2) (hd := ?d2) ?e2 ?_ ?_; case e2 => exact rfl
   ·
    intro ht16
    refine Ak ?_
    refine Ae ?_
    refine sq ?_
    refine Av ?_
    refine sr ?_
    refine rn2 ?_
    refine nx ?_
    refine E8 (l := a) (v := v0) k mm (by omega) (fun _ ua => ?_)
    refine E8 (l := b) (v := v1) k mm (by omega) (fun _ ub => ?_)
    refine JC.know (p := ua.oneCell' = true ∧ ub.oneCell' = true) (fun w hs => ⟨isSlice.one (hs.fact (.tail _ (.tail _ (.tail _ (.head _))))), isSlice.one (hs.fact (.tail _ (.head _)))⟩) (fun h12 => ?_)
    obtain ⟨hone1, hone2⟩ := h12
    refine JC.conseq (L' := L) (fun w hs => Ag hs) ?_
    refine Al Ay (by kernel_rfl) (by kernel_rfl) (fun ρ S => (bif S 8 then [blk (Gh.dec (γ := Nat) (ρ 8)) 58 (bif S 10 then (Entry.cells ua (a.getD k Aq)) else zEC)] else []) ++ ((bif S 9 then [blk (Gh.dec (γ := Nat) (ρ 9)) 58 (bif S 11 then (Entry.cells ub (b.getD k Aq)) else zEC)] else []) ++ (L))) (fun _ => rfl) ?_
    refine dn8 ?_
    refine J5 (cs := zEC) Try.zeroValue58 rfl (fun ρ b S hS hA => ?_) ?_
    ·
     have ui : upS S 8 8 = true := rfl; have u9 : upS S 8 9 = S 9 := rfl; have u10 : upS S 8 10 = S 10 := rfl; have u11 : upS S 8 11 = S 11 := rfl; have r9 : Rho.set ρ 8 (Gh.enc b) 9 = ρ 9 := rfl; have h10 : S 10 = false := hA 10 ⟨0, rfl⟩; have rs : (Gh.dec (γ := Nat) (Rho.set ρ 8 (Gh.enc b) 8)) = b := rfl
     simp only [ui, hS, u9, u10, u11, r9, h10, rs, cond_true, cond_false, List.nil_append]
     exact Ins.perm (by repeat (first | exact .hd | exact .hc | refine .tl ?_ | refine .ap ?_))
    refine J5 (cs := zEC) Try.zeroValue58 rfl (fun ρ b S hS hA => ?_) ?_
    ·
     have ui : upS S 9 9 = true := rfl; have u8 : upS S 9 8 = S 8 := rfl; have u10 : upS S 9 10 = S 10 := rfl; have u11 : upS S 9 11 = S 11 := rfl; have r8 : Rho.set ρ 9 (Gh.enc b) 8 = ρ 8 := rfl; have h11 : S 11 = false := hA 11 ⟨0, rfl⟩; have rs : (Gh.dec (γ := Nat) (Rho.set ρ 9 (Gh.enc b) 9)) = b := rfl
     simp only [ui, hS, u8, u10, u11, r8, h11, rs, cond_true, cond_false, List.nil_append]
     exact Ins.perm (by repeat (first | exact .hd | exact .hc | refine .tl ?_ | refine .ap ?_))
    refine Be (T0 := 58) (f := 0) (vs := fun ρ => zEC) (us := fun ρ => (Entry.cells ua (a.getD k Aq))) (sz := 10) (fun ρ => (Gh.dec (γ := Nat) (ρ 8))) Try.sizeOf58 (fun _ => rfl) (fun _ => rfl) (fun _ => rfl) (fun _ => rfl) (fun _ _ _ _ _ _ => by repeat (first | exact Co | refine Bi (by first | exact rfl | assumption) ?_)) (fun _ => rfl) (fun ρ g S hS hB hA => ?_) ?_
    ·
     have ui : upS S 10 10 = true := rfl; have u8 : upS S 10 8 = S 8 := rfl; have u9 : upS S 10 9 = S 9 := rfl; have u11 : upS S 10 11 = S 11 := rfl; have r8 : Rho.set ρ 10 g 8 = ρ 8 := rfl; have r9 : Rho.set ρ 10 g 9 = ρ 9 := rfl; have h8 : S 8 = true := hB 8 ⟨0, rfl⟩
     simp only [ui, hS, u8, u9, u11, r8, r9, h8, cond_true, cond_false]
     exact Pos.ex (by repeat (first | exact .hd | exact .hc | apply Pos.tl | apply Pos.ap))
    refine Be (T0 := 58) (f := 0) (vs := fun ρ => zEC) (us := fun ρ => (Entry.cells ub (b.getD k Aq))) (sz := 10) (fun ρ => (Gh.dec (γ := Nat) (ρ 9))) Try.sizeOf58 (fun _ => rfl) (fun _ => rfl) (fun _ => rfl) (fun _ => rfl) (fun _ _ _ _ _ _ => by repeat (first | exact Co | refine Bi (by first | exact rfl | assumption) ?_)) (fun _ => rfl) (fun ρ g S hS hB hA => ?_) ?_
    ·
     have ui : upS S 11 11 = true := rfl; have u8 : upS S 11 8 = S 8 := rfl; have u9 : upS S 11 9 = S 9 := rfl; have u10 : upS S 11 10 = S 10 := rfl; have r8 : Rho.set ρ 11 g 8 = ρ 8 := rfl; have r9 : Rho.set ρ 11 g 9 = ρ 9 := rfl; have h9 : S 9 = true := hB 9 ⟨0, rfl⟩
     simp only [ui, hS, u8, u9, u10, r8, r9, h9, cond_true, cond_false]
     exact Pos.ex (by repeat (first | exact .hd | exact .hc | apply Pos.tl | apply Pos.ap))
    refine Aw ?_; intro ρ; simp only [Ao, facts, Bb, List.append_nil, List.nil_append, List.cons_append]
    refine JX.conseq (L' := blk (Gh.dec (γ := Nat) (ρ 8)) 58 (Entry.cells ua (a.getD k Aq)) :: blk (Gh.dec (γ := Nat) (ρ 9)) 58 (Entry.cells ub (b.getD k Aq)) :: L) (fun w hs => hs) ?_
    generalize (Gh.dec (γ := Nat) (ρ 8)) = b6
    generalize (Gh.dec (γ := Nat) (ρ 9)) = b7
    refine Ae ?_
    refine sr ?_
    refine rn6 ?_
    refine jgx (t := 31) (p := ?p3) (hd := ?d3) ?e3 ?_ ?_; case e3 => exact rfl
    ·
     intro ht31
     refine rn32 ?_
     refine rn31 ?_
     refine nx ?_
     refine cT ?_
     refine sq ?_
     refine kp [0, 1, 4, 5, 6, 7, 14, 15, 16, 17, 18, 19, 20, 21, 22, 23, 24, 25, 26, 27, 28, 29, 30, 31, 32, 33, 34, 35, 36, 37, 38, 39, 40, 41, 42, 43, 44, 45, 46, 47, 48, 49, 50, 51, 52, 53, 54, 55, 56, 57, 58, 59, 60, 61, 62, 63, 64, 65, 66, 67, 68, 69, 70, 71, 72, 73, 74, 75, 76, 77, 78, 79, 80, 81, 82, 83, 84, 85, 86, 87, 88, 89, 90, 91, 92, 93, 94] ?_
     refine Aa ?_
     refine rn1 ?_
     refine nx ?_
     refine rt ?_
     have e : a ≠ b := by intro h; apply ht31; rw [h]
     refine Aj (.inr rfl) (fun B w hs => Ek rfl rfl B w) (fun w hs => ⟨(), ?_, Ag hs⟩)
     simp [e]
    ·
     intro ht31
     refine rn7 ?_
     refine jgx (t := 38) (p := ?p4) (hd := ?d4) ?e4 ?_ ?_; case e4 => exact rfl
     ·
      intro ht38
      refine rn32 ?_
      refine rn24 ?_
      refine nx ?_
      refine cT ?_
      refine sq ?_
      refine kp [0, 1, 4, 5, 6, 7, 14, 15, 16, 17, 18, 19, 20, 21, 22, 23, 24, 25, 26, 27, 28, 29, 30, 31, 32, 33, 34, 35, 36, 37, 38, 39, 40, 41, 42, 43, 44, 45, 46, 47, 48, 49, 50, 51, 52, 53, 54, 55, 56, 57, 58, 59, 60, 61, 62, 63, 64, 65, 66, 67, 68, 69, 70, 71, 72, 73, 74, 75, 76, 77, 78, 79, 80, 81, 82, 83, 84, 85, 86, 87, 88, 89, 90, 91, 92, 93, 94] ?_
      refine Aa ?_
      refine rn1 ?_
      refine nx ?_
      refine rt ?_
      have e : a ≠ b := by intro h; apply ht38; rw [h]
      refine Aj (.inr rfl) (fun B w hs => Ek rfl rfl B w) (fun w hs => ⟨(), ?_, Ag hs⟩)
      simp [e]
     ·
      intro ht38
      refine rn7 ?_
      refine jgx (t := 45) (p := ?p5) (hd := ?d5) ?e5 ?_ ?_; case e5 => exact rfl
      ·
       intro ht45
       refine rn32 ?_
       refine rn17 ?_
       refine nx ?_
       refine cT ?_
       refine sq ?_
       refine kp [0, 1, 4, 5, 6, 7, 14, 15, 16, 17, 18, 19, 20, 21, 22, 23, 24, 25, 26, 27, 28, 29, 30, 31, 32, 33, 34, 35, 36, 37, 38, 39, 40, 41, 42, 43, 44, 45, 46, 47, 48, 49, 50, 51, 52, 53, 54, 55, 56, 57, 58, 59, 60, 61, 62, 63, 64, 65, 66, 67, 68, 69, 70, 71, 72, 73, 74, 75, 76, 77, 78, 79, 80, 81, 82, 83, 84, 85, 86, 87, 88, 89, 90, 91, 92, 93, 94] ?_
       refine Aa ?_
       refine rn1 ?_
       refine nx ?_
       refine rt ?_
       have e : a ≠ b := by intro h; apply ht45; rw [h]
       refine Aj (.inr rfl) (fun B w hs => Ek rfl rfl B w) (fun w hs => ⟨(), ?_, Ag hs⟩)
       simp [e]
      ·
       intro ht45
       refine rn7 ?_
       refine jgx (t := 52) (p := ?p6) (hd := ?d6) ?e6 ?_ ?_; case e6 => exact rfl
       ·
        intro ht52
        refine rn32 ?_
        refine rn10 ?_
        refine nx ?_
        refine cT ?_
        refine sq ?_
        refine kp [0, 1, 4, 5, 6, 7, 14, 15, 16, 17, 18, 19, 20, 21, 22, 23, 24, 25, 26, 27, 28, 29, 30, 31, 32, 33, 34, 35, 36, 37, 38, 39, 40, 41, 42, 43, 44, 45, 46, 47, 48, 49, 50, 51, 52, 53, 54, 55, 56, 57, 58, 59, 60, 61, 62, 63, 64, 65, 66, 67, 68, 69, 70, 71, 72, 73, 74, 75, 76, 77, 78, 79, 80, 81, 82, 83, 84, 85, 86, 87, 88, 89, 90, 91, 92, 93, 94] ?_
        refine Aa ?_
        refine rn1 ?_
        refine nx ?_
        refine rt ?_
        have e : a ≠ b := by intro h; apply ht52; rw [h]
        refine Aj (.inr rfl) (fun B w hs => Ek rfl rfl B w) (fun w hs => ⟨(), ?_, Ag hs⟩)
        simp [e]
       ·
        intro ht52
        refine rn7 ?_
        refine jgx (t := 59) (p := ?p7) (hd := ?d7) ?e7 ?_ ?_; case e7 => exact rfl
        ·
         intro ht59
         refine rn32 ?_
         refine rn3 ?_
         refine nx ?_
         refine cT ?_
         refine sq ?_
         refine kp [0, 1, 4, 5, 6, 7, 14, 15, 16, 17, 18, 19, 20, 21, 22, 23, 24, 25, 26, 27, 28, 29, 30, 31, 32, 33, 34, 35, 36, 37, 38, 39, 40, 41, 42, 43, 44, 45, 46, 47, 48, 49, 50, 51, 52, 53, 54, 55, 56, 57, 58, 59, 60, 61, 62, 63, 64, 65, 66, 67, 68, 69, 70, 71, 72, 73, 74, 75, 76, 77, 78, 79, 80, 81, 82, 83, 84, 85, 86, 87, 88, 89, 90, 91, 92, 93, 94] ?_
         refine Aa ?_
         refine rn1 ?_
         refine nx ?_
         refine rt ?_
         have e : a ≠ b := by intro h; apply ht59; rw [h]
         refine Aj (.inr rfl) (fun B w hs => Ek rfl rfl B w) (fun w hs => ⟨(), ?_, Ag hs⟩)
         simp [e]
        ·
         intro ht59
         refine rn7 ?_
         refine jgx (t := 66) (p := ?p8) (hd := ?d8) ?e8 ?_ ?_; case e8 => exact rfl
         ·
          intro ht66
          refine rn28 ?_
          refine nx ?_
          refine cT ?_
          refine sq ?_
          refine kp [0, 1, 4, 5, 6, 7, 14, 15, 16, 17, 18, 19, 20, 21, 22, 23, 24, 25, 26, 27, 28, 29, 30, 31, 32, 33, 34, 35, 36, 37, 38, 39, 40, 41, 42, 43, 44, 45, 46, 47, 48, 49, 50, 51, 52, 53, 54, 55, 56, 57, 58, 59, 60, 61, 62, 63, 64, 65, 66, 67, 68, 69, 70, 71, 72, 73, 74, 75, 76, 77, 78, 79, 80, 81, 82, 83, 84, 85, 86, 87, 88, 89, 90, 91, 92, 93, 94] ?_
          refine Aa ?_
          refine rn1 ?_
          refine nx ?_
          refine rt ?_
          have e : a ≠ b := by intro h; apply ht66; rw [h]
          refine Aj (.inr rfl) (fun B w hs => Ek rfl rfl B w) (fun w hs => ⟨(), ?_, Ag hs⟩)
          simp [e]
         ·
          intro ht66
          refine rn4 ?_
          refine gy ?_
          refine ob (Ux rfl rfl (Pi Try.underlying4)) ?_
          refine rn2 ?_
          refine Ii (t := 73) (b := ?b9) ?e9 ?_ ?_; case e9 => exact rfl
          ·
           intro ht73
           refine rn21 ?_
           refine nx ?_
           refine cT ?_
           refine sq ?_
           refine kp [0, 1, 4, 5, 6, 7, 14, 15, 16, 17, 18, 19, 20, 21, 22, 23, 24, 25, 26, 27, 28, 29, 30, 31, 32, 33, 34, 35, 36, 37, 38, 39, 40, 41, 42, 43, 44, 45, 46, 47, 48, 49, 50, 51, 52, 53, 54, 55, 56, 57, 58, 59, 60, 61, 62, 63, 64, 65, 66, 67, 68, 69, 70, 71, 72, 73, 74, 75, 76, 77, 78, 79, 80, 81, 82, 83, 84, 85, 86, 87, 88, 89, 90, 91, 92, 93, 94] ?_
           refine Aa ?_
           refine rn1 ?_
           refine nx ?_
           refine rt ?_
           have e : a ≠ b := by intro h; rw [h] at ht73; simp at ht73
           refine Aj (.inr rfl) (fun B w hs => Ek rfl rfl B w) (fun w hs => ⟨(), ?_, Ag hs⟩)
           simp [e]
          ·
           intro ht73
           refine rn7 ?_
           refine jgx (t := 80) (p := ?p10) (hd := ?d10) ?e10 ?_ ?_; case e10 => exact rfl
           ·
            intro ht80
            refine rn14 ?_
            refine nx ?_
            refine cT ?_
            refine sq ?_
            refine kp [0, 1, 4, 5, 6, 7, 14, 15, 16, 17, 18, 19, 20, 21, 22, 23, 24, 25, 26, 27, 28, 29, 30, 31, 32, 33, 34, 35, 36, 37, 38, 39, 40, 41, 42, 43, 44, 45, 46, 47, 48, 49, 50, 51, 52, 53, 54, 55, 56, 57, 58, 59, 60, 61, 62, 63, 64, 65, 66, 67, 68, 69, 70, 71, 72, 73, 74, 75, 76, 77, 78, 79, 80, 81, 82, 83, 84, 85, 86, 87, 88, 89, 90, 91, 92, 93, 94] ?_
            refine Aa ?_
            refine rn1 ?_
            refine nx ?_
            refine rt ?_
            have e : a ≠ b := by intro h; apply ht80; rw [h]
            refine Aj (.inr rfl) (fun B w hs => Ek rfl rfl B w) (fun w hs => ⟨(), ?_, Ag hs⟩)
            simp [e]
           ·
            intro ht80
            refine rn7 ?_
            refine jgx (t := 87) (p := ?p11) (hd := ?d11) ?e11 ?_ ?_; case e11 => exact rfl
            ·
             intro ht87
             refine rn7 ?_
             refine nx ?_
             refine cT ?_
             refine sq ?_
             refine kp [0, 1, 4, 5, 6, 7, 14, 15, 16, 17, 18, 19, 20, 21, 22, 23, 24, 25, 26, 27, 28, 29, 30, 31, 32, 33, 34, 35, 36, 37, 38, 39, 40, 41, 42, 43, 44, 45, 46, 47, 48, 49, 50, 51, 52, 53, 54, 55, 56, 57, 58, 59, 60, 61, 62, 63, 64, 65, 66, 67, 68, 69, 70, 71, 72, 73, 74, 75, 76, 77, 78, 79, 80, 81, 82, 83, 84, 85, 86, 87, 88, 89, 90, 91, 92, 93, 94] ?_
             refine Aa ?_
             refine rn1 ?_
             refine nx ?_
             refine rt ?_
             have e : a ≠ b := by intro h; apply ht87; rw [h]
             refine Aj (.inr rfl) (fun B w hs => Ek rfl rfl B w) (fun w hs => ⟨(), ?_, Ag hs⟩)
             simp [e]
            ·
             intro ht87
             refine rn4 ?_
             refine gy ?_
             refine A1 Try.call72 rfl (fun w hs => Sv (a := (a.getD k Aq).last) (b := (b.getD k Aq).last) hs mm mm) ?_; intro _
             refine rn2 ?_
             refine nx ?_
             first | (refine cdx (p := ?p12) (hd := ?d12) ?e12 ?_ ?_; case e12 => exact rfl) | (refine Ci (b := ?b12) ?e12 ?_ ?_; case e12 => exact rfl)
             ·
              intro ht94
              refine sq ?_
              refine kp [0, 1, 4, 5, 6, 7, 14, 15, 16, 17, 18, 19, 20, 21, 22, 23, 24, 25, 26, 27, 28, 29, 30, 31, 32, 33, 34, 35, 36, 37, 38, 39, 40, 41, 42, 43, 44, 45, 46, 47, 48, 49, 50, 51, 52, 53, 54, 55, 56, 57, 58, 59, 60, 61, 62, 63, 64, 65, 66, 67, 68, 69, 70, 71, 72, 73, 74, 75, 76, 77, 78, 79, 80, 81, 82, 83, 84, 85, 86, 87, 88, 89, 90, 91, 92, 93, 94] ?_
              refine Aa ?_
              refine rn1 ?_
              refine nx ?_
              refine rt ?_
              have e : a ≠ b := by intro h; rw [h] at ht94; simp at ht94
              refine Aj (.inr rfl) (fun B w hs => Ek rfl rfl B w) (fun w hs => ⟨(), ?_, Ag hs⟩)
              simp [e]
             ·
              intro ht94
              refine Ak ?_
              refine As ?_
              refine Ae ?_
              refine kp [0, 1, 4, 5, 6, 7, 14, 15, 16, 17, 18, 19, 20, 21, 22, 23, 24, 25, 26, 27, 28, 29, 30, 31, 32, 33, 34, 35, 36, 37, 38, 39, 40, 41, 42, 43, 44, 45, 46, 47, 48, 49, 50, 51, 52, 53, 54, 55, 56, 57, 58, 59, 60, 61, 62, 63, 64, 65, 66, 67, 68, 69, 70, 71, 72, 73, 74, 75, 76, 77, 78, 79, 80, 81, 82, 83, 84, 85, 86, 87, 88, 89, 90, 91, 92, 93, 94, 95] ?_
              refine Aa ?_
              refine rn2 ?_
              refine J.nil ?_
              refine Bk (k + 1) ⟨by omega, ?_⟩ (by omega) alT (fun w hs => Ag hs)
              rw [Fp Aq (by omega), Fp Aq (by omega), hab]
              exact congrArg (fun z => b.take k ++ [z]) (W4 (Decidable.not_not.1 ht31) (Decidable.not_not.1 ht38) (Decidable.not_not.1 ht45) (Decidable.not_not.1 ht52) (Decidable.not_not.1 ht59) (Decidable.not_not.1 ht66) (by simpa using ht73) (Decidable.not_not.1 ht80) (Decidable.not_not.1 ht87) (by simpa using ht94))
   ·
    intro ht16
    refine xt ?_
    refine Ae ?_
    refine sr ?_
    refine rn1 ?_
    refine nx ?_
    refine rt ?_
    have e : a = b := by
     have hkl : k = a.length := by omega
     rw [hkl, List.take_length, show a.length = b.length by omega, List.take_length] at hab
     exact hab
    refine Aj (.inr rfl) (fun B w hs => Ek rfl rfl B w) (fun w hs => ⟨(), ?_, Ag hs⟩)
    simp [e]
end Go.Proofs.Ytofgpimoekhfaaa

/- This file proves what a new chip is, by the document's answer. No conditions. -/
set_option linter.unusedVariables false
set_option linter.unusedSimpArgs false
set_option maxHeartbeats 1000000
set_option maxRecDepth 8000
namespace Go.Proofs.Ytofgpimoekhfaaa
open Go
def Fw (c : Config) : Entry := { Aq with last := List.replicate c.cores.toNat 0 }
def Iv (c : Config) : Core := ⟨List.replicate c.lines.toNat zLine, zOp⟩
theorem Lg {α : Type} (k : Nat) (a : α) : List.replicate (k + 1) a = List.replicate k a ++ [a] := List.replicate_succ' ..
theorem M7 (c : Config) : (Fw c).wf := by unfold Fw Aq Entry.wf Ax; simp only; omega
theorem Fk {c : Config} (h : c.cores < 1 ∨ 4 < c.cores ∨ c.lines < 1 ∨ 4 < c.lines) : Cc c = (D4, 3) := by unfold Cc H0; rw [if_pos h, if_pos (by decide)]
theorem Ix {c : Config} (h : ¬ (c.cores < 1 ∨ 4 < c.cores ∨ c.lines < 1 ∨ 4 < c.lines)) : Cc c = (⟨List.replicate c.cores.toNat (Iv c), List.replicate c.lines.toNat (Fw c), []⟩, 0) := by unfold Cc H0; rw [if_neg h, if_neg (by decide)]; rfl
theorem Uu {L : List Chunk} {R : List Fact} {w : World} {c : Config} (hs : St (L) R w) (hc : c.wf) : Calls Try.prog 35 [.agg c.cells.toArray].toArray w (C2 (fun v : Value × Value => .tuple #[.agg #[v.1, v.2, .slice none 0 0], vi (Cc c).2]) (fun v => L) (fun v => sl v.1 (Cc c).1.cores :: sl v.2 (Cc c).1.home :: sl (.slice none 0 0) (Cc c).1.frames :: R)) := by
  refine Au Try.func35 rfl Try.ntmps35 rfl hs ?_
  clear hs
  refine sr ?_
  refine bx ?_; intro b1
  refine al_ (cs := [.slice none 0 0, .slice none 0 0, .slice none 0 0]) Try.zeroValue46 ?_; intro b2
  refine rn1 ?_
  refine nx ?_
  rcases (show (c.cores < 1) ∨ (¬ c.cores < 1 ∧ 4 < c.cores) ∨ (¬ c.cores < 1 ∧ ¬ 4 < c.cores ∧ c.lines < 1) ∨ (¬ c.cores < 1 ∧ ¬ 4 < c.cores ∧ ¬ c.lines < 1 ∧ 4 < c.lines) ∨ (1 ≤ c.cores ∧ c.cores ≤ 4 ∧ 1 ≤ c.lines ∧ c.lines ≤ 4) from by omega) with hc | hc | hc | hc | hc
  ·
   refine Aa ?_
   refine rn2 ?_
   refine ob (Ah rfl rfl (C8 (by omega))) ?_
   refine rn15 ?_
   refine nx ?_
   refine cT ?_
   refine sq ?_
   refine JC.slNil Core ?_
   refine JC.slNil Entry ?_
   refine JC.slNil (List UInt8) ?_
   refine Aa ?_
   refine ob (Ge (cs := [.slice none 0 0, .slice none 0 0, .slice none 0 0]) Pr) ?_
   refine s_B Try.sizeOf46 ?_
   refine rn1 ?_
   refine nx ?_
   refine rt ?_
   have er : Cc c = (D4, 3) := Fk (by omega)
   rw [er]
   refine Aj (.inr rfl) (fun B w hs => Hl rfl rfl rfl Try.isAgg46 Try.sizeOf46 pkk rfl B w hs) (fun w hs => ⟨(.slice none 0 0, .slice none 0 0), ?_, Ag hs⟩)
   rfl
  ·
   refine Aa ?_
   refine rn2 ?_
   refine ob (Ah rfl rfl (Az (by omega))) ?_
   refine rn3 ?_
   refine gy ?_
   refine ob (Ah rfl rfl (En (by omega))) ?_
   refine rn11 ?_
   refine nx ?_
   refine cT ?_
   refine sq ?_
   refine JC.slNil Core ?_
   refine JC.slNil Entry ?_
   refine JC.slNil (List UInt8) ?_
   refine Aa ?_
   refine ob (Ge (cs := [.slice none 0 0, .slice none 0 0, .slice none 0 0]) Pr) ?_
   refine s_B Try.sizeOf46 ?_
   refine rn1 ?_
   refine nx ?_
   refine rt ?_
   have er : Cc c = (D4, 3) := Fk (by omega)
   rw [er]
   refine Aj (.inr rfl) (fun B w hs => Hl rfl rfl rfl Try.isAgg46 Try.sizeOf46 pkk rfl B w hs) (fun w hs => ⟨(.slice none 0 0, .slice none 0 0), ?_, Ag hs⟩)
   rfl
  ·
   refine Aa ?_
   refine rn2 ?_
   refine ob (Ah rfl rfl (Az (by omega))) ?_
   refine rn3 ?_
   refine gy ?_
   refine ob (Ah rfl rfl (D2 (by omega))) ?_
   refine rn4 ?_
   refine gy ?_
   refine ob (Ah rfl rfl (C8 (by omega))) ?_
   refine rn6 ?_
   refine nx ?_
   refine cT ?_
   refine sq ?_
   refine JC.slNil Core ?_
   refine JC.slNil Entry ?_
   refine JC.slNil (List UInt8) ?_
   refine Aa ?_
   refine ob (Ge (cs := [.slice none 0 0, .slice none 0 0, .slice none 0 0]) Pr) ?_
   refine s_B Try.sizeOf46 ?_
   refine rn1 ?_
   refine nx ?_
   refine rt ?_
   have er : Cc c = (D4, 3) := Fk (by omega)
   rw [er]
   refine Aj (.inr rfl) (fun B w hs => Hl rfl rfl rfl Try.isAgg46 Try.sizeOf46 pkk rfl B w hs) (fun w hs => ⟨(.slice none 0 0, .slice none 0 0), ?_, Ag hs⟩)
   rfl
  ·
   refine Aa ?_
   refine rn2 ?_
   refine ob (Ah rfl rfl (Az (by omega))) ?_
   refine rn3 ?_
   refine gy ?_
   refine ob (Ah rfl rfl (D2 (by omega))) ?_
   refine rn4 ?_
   refine gy ?_
   refine ob (Ah rfl rfl (Az (by omega))) ?_
   refine rn4 ?_
   refine gy ?_
   refine ob (Ah rfl rfl (En (by omega))) ?_
   refine rn1 ?_
   refine nx ?_
   refine cT ?_
   refine sq ?_
   refine JC.slNil Core ?_
   refine JC.slNil Entry ?_
   refine JC.slNil (List UInt8) ?_
   refine Aa ?_
   refine ob (Ge (cs := [.slice none 0 0, .slice none 0 0, .slice none 0 0]) Pr) ?_
   refine s_B Try.sizeOf46 ?_
   refine rn1 ?_
   refine nx ?_
   refine rt ?_
   have er : Cc c = (D4, 3) := Fk (by omega)
   rw [er]
   refine Aj (.inr rfl) (fun B w hs => Hl rfl rfl rfl Try.isAgg46 Try.sizeOf46 pkk rfl B w hs) (fun w hs => ⟨(.slice none 0 0, .slice none 0 0), ?_, Ag hs⟩)
   rfl
  ·
   refine Aa ?_
   refine rn2 ?_
   refine ob (Ah rfl rfl (Az (by omega))) ?_
   refine rn3 ?_
   refine gy ?_
   refine ob (Ah rfl rfl (D2 (by omega))) ?_
   refine rn4 ?_
   refine gy ?_
   refine ob (Ah rfl rfl (Az (by omega))) ?_
   refine rn4 ?_
   refine gy ?_
   refine ob (Ah rfl rfl (D2 (by omega))) ?_
   refine rn1 ?_
   refine nx ?_
   refine cF_ ?_
   refine Ak ?_
   refine Ae ?_
   refine sr ?_
   refine al_ (cs := [.slice none 0 0, .slice none 0 0, .slice none 0 0]) Try.zeroValue46 ?_; intro b4
   refine nr ?_
   refine rn3 ?_
   refine nx ?_
   refine Av ?_
   refine JC.rowNil 58 Entry ?_
   refine Ck (γ := Nat × Value) (fun g => (g.1 : Int) ≤ c.lines) (fun g => row 58 g.2 (List.replicate g.1 (Fw c)) :: blk b4 46 [.slice none 0 0, g.2, .slice none 0 0] :: blk b1 39 c.cells :: blk b2 46 [.slice none 0 0, .slice none 0 0, .slice none 0 0] :: L) (fun _ => R) (fun g => [(1, bp b1 0), (2, bp b2 0), (4, bp b4 0), (25, vi c.lines), (26, vi (g.1 : Int))]) (fun g => c.lines.toNat - g.1) (0, .slice none 0 0) (by show (0 : Int) ≤ c.lines; omega) alT (fun w hs => Ag hs) ?_
   rintro ⟨k, vh⟩ hk
   try simp only at hk ⊢
   refine sr ?_
   refine rn1 ?_
   refine nx ?_
   refine cdx (p := ?p1) (hd := ?d1) ?e1 ?_ ?_; case e1 => exact rfl
   ·
    intro ht27
    refine Ak ?_
    refine Ae ?_
    refine sq ?_
    refine Av ?_
    refine JC.conseq (L' := row 58 vh (List.replicate k (Fw c)) :: blk b4 46 [.slice none 0 0, vh, .slice none 0 0] :: blk b1 39 c.cells :: blk b2 46 [.slice none 0 0, .slice none 0 0, .slice none 0 0] :: L) (fun w hs => Ag hs) ?_
    refine Al Ay (by kernel_rfl) (by kernel_rfl) (fun ρ S => row 58 vh (List.replicate k (Fw c)) :: blk b4 46 [.slice none 0 0, vh, .slice none 0 0] :: blk b1 39 c.cells :: blk b2 46 [.slice none 0 0, .slice none 0 0, .slice none 0 0] :: L) (fun _ => rfl) ?_
    refine dn4 ?_
    refine U1 (a := c.cores) (x0 := (0 : Int)) (zc := [vi 0]) D6 rfl (by decide) (fun _ => rfl) (fun _ => rfl) rfl (fun j => ⟨rfl, by unfold Ax; omega⟩) (by omega) (by omega) (fun _ _ _ _ => rfl) ?_
    refine e_pd (v := fun ρ => .agg ([vi 0, vi (-1), vi 0, vi 0, vi 0, vi 0, .bool false, vi 0, vi 0, (Gh.dec (γ := Value) (ρ 4))]).toArray) (fun ρ S R' L' w hd hs => by have h1 : (Gh.dec (γ := Value) (ρ 4)).oneCell' = true := isSlice.one (hs.fact (hd.dep (it := ⟨4, _, _, _, _⟩) (by repeat (first | exact List.Mem.head _ | refine List.Mem.tail _ ?_)) ⟨9, rfl⟩ (List.Mem.head _))); exact Gz st_58) (Ind.gh (h := fun g => Value.agg ([vi 0, vi (-1), vi 0, vi 0, vi 0, vi 0, .bool false, vi 0, vi 0, (Gh.dec (γ := Value) g)]).toArray) 4 3 rfl) (fun _ _ _ _ _ => rfl) ?_
    refine Fl ([Fw c] : List Entry) Hs rfl (fun _ => rfl) rfl (fun _ => rfl) rfl rfl (fun ρ R hd j hj => ⟨⟨_, rfl, ⟨_, rfl, hj _ (hd.dep (it := ⟨4, _, _, _, _⟩) (by repeat (first | exact List.Mem.head _ | refine List.Mem.tail _ ?_)) ⟨9, rfl⟩ (List.Mem.head _)), M7 c⟩⟩, trivial⟩) (fun _ _ _ _ _ => rfl) ?_
    refine Ei (by kernel_rfl) ?_; intro ρ; simp only [Ao, facts, Bb, List.append_nil, List.nil_append, List.cons_append]
    refine J.conseq (L' := row 58 vh (List.replicate k (Fw c)) :: blk b4 46 [.slice none 0 0, vh, .slice none 0 0] :: blk b1 39 c.cells :: blk b2 46 [.slice none 0 0, .slice none 0 0, .slice none 0 0] :: L) (fun w hs => hs) ?_
    generalize (Gh.dec (γ := Value) (ρ 4)) = v32
    generalize (Gh.dec (γ := Value) (ρ 6)) = v34
    refine ap Hs (hb := fun w hs => by have : maxN = 16777216 := rfl; simp only [List.length_cons, List.length_nil, List.length_replicate]; omega) (k := ?_); intro v35
    refine rn1 ?_
    refine J.know (p := v35.oneCell' = true) (fun w hs => Hb (v := v35) pkk hs) (fun honev35 => ?_)
    refine sc ?_
    refine J.nil ?_
    refine As ?_
    refine Ae ?_
    refine kp [1, 2, 3, 4, 25, 26, 27, 28, 29, 30, 31, 32, 33, 34, 35, 36, 37] ?_
    refine Aa ?_
    refine rn2 ?_
    refine J.nil ?_
    refine Bk (k + 1, v35) (by show ((k + 1 : Nat) : Int) ≤ c.lines; omega) (by show c.lines.toNat - (k + 1) < c.lines.toNat - k; omega) alT (fun w hs => ?_)
    try simp only
    rw [Lg]; exact Ag hs
   ·
    intro ht27
    refine xt ?_
    refine Ae ?_
    refine sr ?_
    refine rn3 ?_
    refine nx ?_
    refine Av ?_
    refine JC.shut (v := vh) pkk ?_
    refine JC.know (p := vh.oneCell' = true) (fun w hs => isSlice.one (hs.fact (List.Mem.head _))) (fun honeh => ?_)
    refine JC.rowNil 69 Core ?_
    refine Ck (γ := Nat × Value) (fun g => (g.1 : Int) ≤ c.cores) (fun g => row 69 g.2 (List.replicate g.1 (Iv c)) :: blk b4 46 [g.2, vh, .slice none 0 0] :: blk b1 39 c.cells :: blk b2 46 [.slice none 0 0, .slice none 0 0, .slice none 0 0] :: L) (fun _ => sl vh (List.replicate k (Fw c)) :: R) (fun g => [(1, bp b1 0), (2, bp b2 0), (4, bp b4 0), (39, vi c.cores), (40, vi (g.1 : Int))]) (fun g => c.cores.toNat - g.1) (0, .slice none 0 0) (by show (0 : Int) ≤ c.cores; omega) alT (fun w hs => Ag hs) ?_
    rintro ⟨k2, vc⟩ hk2
    try simp only at hk2 ⊢
    refine sr ?_
    refine rn1 ?_
    refine nx ?_
    refine cdx (p := ?p2) (hd := ?d2) ?e2 ?_ ?_; case e2 => exact rfl
    ·
     intro ht41
     refine Ak ?_
     refine Ae ?_
     refine sq ?_
     refine Av ?_
     refine JC.conseq (L' := row 69 vc (List.replicate k2 (Iv c)) :: blk b4 46 [vc, vh, .slice none 0 0] :: blk b1 39 c.cells :: blk b2 46 [.slice none 0 0, .slice none 0 0, .slice none 0 0] :: L) (fun w hs => Ag hs) ?_
     refine Al Ay (by kernel_rfl) (by kernel_rfl) (fun ρ S => row 69 vc (List.replicate k2 (Iv c)) :: blk b4 46 [vc, vh, .slice none 0 0] :: blk b1 39 c.cells :: blk b2 46 [.slice none 0 0, .slice none 0 0, .slice none 0 0] :: L) (fun _ => rfl) ?_
     refine dn4 ?_
     refine U1 (a := c.lines) (x0 := zLine) (zc := zLine.cells) W2 rfl (by decide) (fun _ => rfl) (fun _ => rfl) rfl (fun j => ⟨rfl, by unfold Line.wf Ax zLine; simp only; omega⟩) (by omega) (by omega) (fun _ _ _ _ => rfl) ?_
     refine e_pd (v := fun ρ => .agg ([(Gh.dec (γ := Value) (ρ 4)), vi 0, vi 0, vi 0]).toArray) (fun ρ S R' L' w hd hs => by have h1 : (Gh.dec (γ := Value) (ρ 4)).oneCell' = true := isSlice.one (hs.fact (hd.dep (it := ⟨4, _, _, _, _⟩) (by repeat (first | exact List.Mem.head _ | refine List.Mem.tail _ ?_)) ⟨9, rfl⟩ (List.Mem.head _))); exact Gz Kg) (Ind.gh (h := fun g => Value.agg ([(Gh.dec (γ := Value) g), vi 0, vi 0, vi 0]).toArray) 4 3 rfl) (fun _ _ _ _ _ => rfl) ?_
     refine Fl ([Iv c] : List Core) T9 rfl (fun _ => rfl) rfl (fun _ => rfl) rfl rfl (fun ρ R hd j hj => ⟨⟨_, rfl, ⟨_, rfl, hj _ (hd.dep (it := ⟨4, _, _, _, _⟩) (by repeat (first | exact List.Mem.head _ | refine List.Mem.tail _ ?_)) ⟨9, rfl⟩ (List.Mem.head _)), by unfold Iv zOp Op.wf Ax; simp only; omega⟩⟩, trivial⟩) (fun _ _ _ _ _ => rfl) ?_
     refine Ei (by kernel_rfl) ?_; intro ρ; simp only [Ao, facts, Bb, List.append_nil, List.nil_append, List.cons_append]
     refine J.conseq (L' := row 69 vc (List.replicate k2 (Iv c)) :: blk b4 46 [vc, vh, .slice none 0 0] :: blk b1 39 c.cells :: blk b2 46 [.slice none 0 0, .slice none 0 0, .slice none 0 0] :: L) (fun w hs => hs) ?_
     generalize (Gh.dec (γ := Value) (ρ 4)) = v46
     generalize (Gh.dec (γ := Value) (ρ 6)) = v48
     refine ap T9 (hb := fun w hs => by have : maxN = 16777216 := rfl; simp only [List.length_cons, List.length_nil, List.length_replicate]; omega) (k := ?_); intro v49
     refine rn1 ?_
     refine J.know (p := v49.oneCell' = true) (fun w hs => Hb (v := v49) pkk hs) (fun honev49 => ?_)
     refine sc ?_
     refine J.nil ?_
     refine As ?_
     refine Ae ?_
     refine kp [1, 2, 3, 4, 39, 40, 41, 42, 43, 44, 45, 46, 47, 48, 49, 50, 51] ?_
     refine Aa ?_
     refine rn2 ?_
     refine J.nil ?_
     refine Bk (k2 + 1, v49) (by show ((k2 + 1 : Nat) : Int) ≤ c.cores; omega) (by show c.cores.toNat - (k2 + 1) < c.cores.toNat - k2; omega) alT (fun w hs => ?_)
     try simp only
     rw [Lg]; exact Ag hs
    ·
     intro ht41
     refine xt ?_
     refine Ae ?_
     refine sq ?_
     refine JC.shut (v := vc) pkk ?_
     refine JC.know (p := vc.oneCell' = true) (fun w hs => isSlice.one (hs.fact (List.Mem.head _))) (fun honec => ?_)
     refine JC.slNil (List UInt8) ?_
     refine Aa ?_
     refine rn1 ?_
     refine s_B Try.sizeOf46 ?_
     refine rn1 ?_
     refine nx ?_
     refine rt ?_
     have er : Cc c = (⟨List.replicate k2 (Iv c), List.replicate k (Fw c), []⟩, 0) := by rw [Ix (by omega), show c.lines.toNat = k by omega, show c.cores.toNat = k2 by omega]
     rw [er]
     refine Aj (.inr rfl) (fun B w hs => Hl rfl rfl rfl Try.isAgg46 Try.sizeOf46 pkk rfl B w hs) (fun w hs => ⟨(vc, vh), ?_, Ag hs⟩)
     rfl
end Go.Proofs.Ytofgpimoekhfaaa

/- This file proves what the program's home says by its timer, and what a new home is. No conditions. -/
set_option linter.unusedVariables false
set_option linter.unusedSimpArgs false
set_option maxHeartbeats 1000000
set_option maxRecDepth 8000
namespace Go.Proofs.Ytofgpimoekhfaaa
open Go
theorem K1 {L : List Chunk} {R : List Fact} {w : World} {v0 : Value} {l : List Entry} {id : Int} (hs : St (L) R w) (h0 : sl v0 l ∈ R) (hb : ∀ i, i < l.length → EB (l.getD i Aq)) (hln : l.length ≤ 100) (hid : Ax id) : Calls Try.prog 36 [v0, vi id].toArray w (C2 (fun v : Value => v) (fun v => L) (fun v => sl v (Fy l id) :: R)) := by
  have hlen := Bv h0 hs
  refine Au Try.func36 rfl Try.ntmps36 rfl hs ?_
  clear hs
  refine sr ?_
  refine rn1 ?_
  refine nr ?_
  refine rn1 ?_
  refine nr ?_
  refine rn1 ?_
  refine A1 Try.call33 rfl (fun w hs => Ly (l := l) hs mm) ?_; intro v10
  refine rn1 ?_
  refine nr ?_
  refine rn3 ?_
  refine nx ?_
  refine Av ?_
  refine JC.rowNil 42 Msg ?_
  refine Ck (γ := Nat × Value) (fun g => g.1 ≤ l.length) (fun g => row 42 g.2 (Cr id 0 (l.take g.1)) :: L) (fun _ => sl v10 l :: R) (fun g => [(1, vi id), (5, g.2), (6, v10), (12, vi (l.length : Int)), (13, vi (g.1 : Int))]) (fun g => l.length - g.1) (0, .slice none 0 0) (Nat.zero_le _) alT (fun w hs => hs) ?_
  rintro ⟨k, vs⟩ hk
  try simp only at hk ⊢
  have hsl := Gf id (l.take k) 0
  rw [List.length_take] at hsl
  refine sr ?_
  refine rn1 ?_
  refine nx ?_
  refine cdx (p := ?p1) (hd := ?d1) ?e1 ?_ ?_; case e1 => exact rfl
  ·
   intro ht14
   refine Ak ?_
   refine Ae ?_
   refine sq ?_
   refine Av ?_
   refine sr ?_
   refine rn2 ?_
   refine nx ?_
   refine E8 (l := l) (v := v10) k mm (by omega) (fun _ u => ?_)
   refine JC.know (p := EpAll v10 10 k) (fun w hs => ok_c (v := v10) (i := k) (.head _) w hs) (fun hA => ?_)
   have honeE : (ep v10 10 k 0).oneCell' = true := hA.one
   refine Aa ?_
   refine rn6 ?_
   refine bx ?_; intro b22
   refine rn1 ?_
   refine nx ?_
   refine JC.rowNil 42 Msg ?_
   refine Aa ?_
   refine rn1 ?_
   refine A1 Try.call74 rfl (fun w hs => Gp (vh := v10) (vo := .slice none 0 0) (u := u) (i := k) (e := (l.getD k Aq)) (ms := []) (line := (k : Int)) (id := id) (LX := row 42 vs (Cr id 0 (l.take k)) :: L) (Ag hs) (Sf (cs := Entry.cells u (l.getD k Aq)) mm) hA (by simp) (hb k (by omega)) (by unfold Ax; omega) hid) ?_; intro vq
   refine nx ?_
   refine JC.shut (v := vq) pkk ?_
   have hs4 := Le (l.getD k Aq) (k : Int) id
   refine Aa ?_
   refine rn5 ?_
   refine ap Em (hb := fun w hs => by have : maxN = 16777216 := rfl; simp only [List.length_append, List.length_nil]; omega) (k := ?_); intro v30
   refine rn1 ?_
   refine J.nil ?_
   refine As ?_
   refine Ae ?_
   refine Aa ?_
   refine rn2 ?_
   refine J.nil ?_
   refine Bk (k + 1, v30) (by show k + 1 ≤ l.length; omega) (by show l.length - (k + 1) < l.length - k; omega) alT (fun w hs => ?_)
   try simp only
   rw [Fp Aq (by omega), E6, List.length_take, Nat.min_eq_left (by omega), Int.zero_add]; exact Ag hs
  ·
   intro ht14
   refine xt ?_
   refine Ae ?_
   refine sr ?_
   refine rn2 ?_
   refine nx ?_
   refine rt ?_
   have hkl : k = l.length := by omega
   rw [show Cr id 0 (l.take k) = Fy l id from by rw [hkl, List.take_length]; rfl]
   refine Aj (.inr rfl) (fun B w hs => Ek rfl rfl B w) (fun w hs => ⟨vs, ?_, Ag (St.shut (hs.pick pkk))⟩)
   rfl
theorem O8 {L : List Chunk} {R : List Fact} {w : World} {cores lines : Int} (hs : St (L) R w) (hc : 0 ≤ cores ∧ cores ≤ 4) (hl : 0 ≤ lines ∧ lines ≤ 4) : Calls Try.prog 37 [vi cores, vi lines].toArray w (C2 (fun v : Value => v) (fun v => L) (fun v => sl v (Ij cores lines) :: R)) := by
  refine Au Try.func37 rfl Try.ntmps37 rfl hs ?_
  clear hs
  refine sr ?_
  refine rn1 ?_
  refine nr ?_
  refine rn1 ?_
  refine nr ?_
  refine rn2 ?_
  refine nx ?_
  refine Av ?_
  refine JC.rowNil 58 Entry ?_
  refine Ck (γ := Nat × Value) (fun g => (g.1 : Int) ≤ lines) (fun g => row 58 g.2 (List.replicate g.1 (Fw ⟨cores, lines⟩)) :: L) (fun _ => R) (fun g => [(0, vi cores), (5, g.2), (6, vi lines), (7, vi (g.1 : Int))]) (fun g => lines.toNat - g.1) (0, .slice none 0 0) (by show (0 : Int) ≤ lines; omega) alT (fun w hs => hs) ?_
  rintro ⟨k, vs⟩ hk
  try simp only at hk ⊢
  refine sr ?_
  refine rn1 ?_
  refine nx ?_
  refine cdx (p := ?p1) (hd := ?d1) ?e1 ?_ ?_; case e1 => exact rfl
  ·
   intro ht8
   refine Ak ?_
   refine Ae ?_
   refine sq ?_
   refine Av ?_
   refine Aa ?_
   refine rn2 ?_
   refine ob (q_max (a := cores) rfl (by omega)) ?_
   refine Uv (α := Int) (x0 := 0) (zc := [vi 0]) D6 rfl (by decide) rfl rfl rfl (fun j => ⟨rfl, by unfold Ax; omega⟩) (by omega) (by omega) ?_; intro v12
   refine J.shut .hd ?_
   refine J.know (p := v12.oneCell' = true) (fun w hs => isSlice.one (hs.fact (.head _))) (fun honev12 => ?_)
   refine rn1 ?_
   refine li (α := Entry) [Fw ⟨cores, lines⟩] Hs rfl (fun j hj => ⟨⟨_, rfl, ⟨_, rfl, hj _ (.head _), M7 ⟨cores, lines⟩⟩⟩, trivial⟩) ?_; intro v14
   refine ap Hs (hb := fun w hs => by have : maxN = 16777216 := rfl; simp only [List.length_replicate, List.length_cons, List.length_nil]; omega) (k := ?_); intro v15
   refine rn1 ?_
   refine J.nil ?_
   refine As ?_
   refine Ae ?_
   refine Aa ?_
   refine rn2 ?_
   refine J.nil ?_
   refine Bk (k + 1, v15) (by show ((k + 1 : Nat) : Int) ≤ lines; omega) (by show lines.toNat - (k + 1) < lines.toNat - k; omega) alT (fun w hs => ?_)
   try simp only
   rw [Lg]; exact Ag hs
  ·
   intro ht8
   refine xt ?_
   refine Ae ?_
   refine sr ?_
   refine rn2 ?_
   refine nx ?_
   refine rt ?_
   have hkl : k = lines.toNat := by omega
   rw [show List.replicate k (Fw ⟨cores, lines⟩) = Ij cores lines from by rw [hkl]; rfl]
   refine Aj (.inr rfl) (fun B w hs => Ek rfl rfl B w) (fun w hs => ⟨vs, ?_, Ag (St.shut (hs.pick pkk))⟩)
   rfl
end Go.Proofs.Ytofgpimoekhfaaa

/- This file proves what the home hears, by the document's answer: some kinds of messages. No conditions. -/
set_option linter.unusedVariables false
set_option linter.unusedSimpArgs false
set_option maxHeartbeats 1000000
set_option maxRecDepth 8000
namespace Go.Proofs.Ytofgpimoekhfaaa
open Go
theorem Mx {L : List Chunk} {R : List Fact} {w : World} {v0 : Value} {l : List Entry} {id : Int} {m : Msg} (hs : St (L) R w) (h0 : sl v0 l ∈ R) (hb : ∀ i, i < l.length → EB (l.getD i Aq)) (hla : ∀ i, i < l.length → (l.getD i Aq).last.length ≤ 4) (hm : m.wf) (hid : Ax id) (hk : ¬ (0 ≤ m.line ∧ m.line < (l.length : Int) ∧ 0 ≤ m.src ∧ m.src < ((Ad l m.line).last.length : Int))) : Calls Try.prog 30 [v0, vi id, .agg m.cells.toArray].toArray w (C2 (fun v : Value × Value => .tuple #[v.1, v.2]) (fun v => L) (fun v => sl v.1 (Ai l id m).1 :: sl v.2 (Ai l id m).2 :: R)) := by
  have hlen := Bv h0 hs
  have hm0 := hm
  unfold Msg.wf Ax at hm0
  have hid0 := hid
  unfold Ax at hid0
  refine Au Try.func30 rfl Try.ntmps30 rfl hs ?_
  clear hs
  refine sr ?_
  refine bx ?_; intro b5
  refine rn2 ?_
  refine nx ?_
  rcases (show (m.line < 0) ∨ (¬ m.line < 0 ∧ (l.length : Int) ≤ m.line) ∨ (¬ m.line < 0 ∧ m.line < (l.length : Int) ∧ m.src < 0) ∨ (¬ m.line < 0 ∧ m.line < (l.length : Int) ∧ 0 ≤ m.src ∧ ((Ad l m.line).last.length : Int) ≤ m.src) from by omega) with hc | hc | hc | hc
  ·
   refine Al Ay (by kernel_rfl) (by kernel_rfl) (fun _ _ => _) (fun _ => rfl) ?_
   refine dn2 ?_
   refine dj ?_
   first | refine dc (fun _ _ => Ah rfl rfl (C8 (by omega))) ?_
   refine dj ?_
   first | refine dc (fun _ _ => Bh) ?_
   refine dn5 ?_
   refine dj ?_
   first | refine dc (fun _ _ => Ew) ?_
   refine dj ?_
   first | refine dc (fun _ _ => Bh) ?_
   refine dn3 ?_
   refine dj ?_
   first | refine dc (fun _ _ => Ew) ?_
   refine dj ?_
   first | refine dc (fun _ _ => Bh) ?_
   refine W6 ?_
   refine dj ?_
   first | refine dc (fun _ _ => Ew) ?_
   refine Aw ?_; intro ρ; simp only [Ao, facts, Bb, List.append_nil, List.nil_append, List.cons_append]
   refine Ae ?_
   refine sq ?_
   refine cT ?_
   refine sr ?_
   refine rn3 ?_
   refine nx ?_
   refine rt ?_
   have er : Ai l id m = (l, []) := by unfold Ai; rw [if_pos (by omega)]
   rw [er]
   refine Aj (.inr rfl) (fun B w hs => Ed rfl rfl rfl B w) (fun w hs => ⟨(v0, .slice none 0 0), ?_, Ag (St.shut (hs.rowNil 42 Msg))⟩)
   rfl
  ·
   refine Al Ay (by kernel_rfl) (by kernel_rfl) (fun _ _ => _) (fun _ => rfl) ?_
   refine dn2 ?_
   refine dj ?_
   first | refine dc (fun _ _ => Ah rfl rfl (Az (by omega))) ?_
   refine dj ?_
   first | refine dc (fun _ _ => Bh) ?_
   refine dn4 ?_
   refine dj (dgy ?_)
   first | refine dc (fun _ _ => Ah rfl rfl (D7 (by omega))) ?_
   refine dj ?_
   first | refine dc (fun _ _ => Bp) ?_
   refine dj ?_
   first | refine dc (fun _ _ => Bh) ?_
   refine dn3 ?_
   refine dj ?_
   first | refine dc (fun _ _ => Ew) ?_
   refine dj ?_
   first | refine dc (fun _ _ => Bh) ?_
   refine W6 ?_
   refine dj ?_
   first | refine dc (fun _ _ => Ew) ?_
   refine Aw ?_; intro ρ; simp only [Ao, facts, Bb, List.append_nil, List.nil_append, List.cons_append]
   refine Ae ?_
   refine sq ?_
   refine cT ?_
   refine sr ?_
   refine rn3 ?_
   refine nx ?_
   refine rt ?_
   have er : Ai l id m = (l, []) := by unfold Ai; rw [if_pos (by omega)]
   rw [er]
   refine Aj (.inr rfl) (fun B w hs => Ed rfl rfl rfl B w) (fun w hs => ⟨(v0, .slice none 0 0), ?_, Ag (St.shut (hs.rowNil 42 Msg))⟩)
   rfl
  ·
   refine Al Ay (by kernel_rfl) (by kernel_rfl) (fun _ _ => _) (fun _ => rfl) ?_
   refine dn2 ?_
   refine dj ?_
   first | refine dc (fun _ _ => Ah rfl rfl (Az (by omega))) ?_
   refine dj ?_
   first | refine dc (fun _ _ => Bh) ?_
   refine dn4 ?_
   refine dj (dgy ?_)
   first | refine dc (fun _ _ => Ah rfl rfl (Bd (by omega))) ?_
   refine dj ?_
   first | refine dc (fun _ _ => Bp) ?_
   refine dj ?_
   first | refine dc (fun _ _ => Bh) ?_
   refine dn2 ?_
   refine dj (dgy ?_)
   first | refine dc (fun _ _ => Ah rfl rfl (C8 (by omega))) ?_
   refine dj ?_
   first | refine dc (fun _ _ => Bp) ?_
   refine dj ?_
   first | refine dc (fun _ _ => Bh) ?_
   refine W6 ?_
   refine dj ?_
   first | refine dc (fun _ _ => Ew) ?_
   refine Aw ?_; intro ρ; simp only [Ao, facts, Bb, List.append_nil, List.nil_append, List.cons_append]
   refine Ae ?_
   refine sq ?_
   refine cT ?_
   refine sr ?_
   refine rn3 ?_
   refine nx ?_
   refine rt ?_
   have er : Ai l id m = (l, []) := by unfold Ai; rw [if_pos (by omega)]
   rw [er]
   refine Aj (.inr rfl) (fun B w hs => Ed rfl rfl rfl B w) (fun w hs => ⟨(v0, .slice none 0 0), ?_, Ag (St.shut (hs.rowNil 42 Msg))⟩)
   rfl
  ·
   refine Dx (v := v0) m.line mm (by omega) (by omega) (fun hEw u => ?_)
   have hE : EB (Ad l m.line) := hb m.line.toNat (by omega)
   have hE0 := hE
   unfold EB Entry.wf Ax at hE0
   have hL : (Ad l m.line).last.length ≤ 4 := hla m.line.toNat (by omega)
   refine JC.know (p := u.oneCell' = true) (fun w hs => isSlice.one (hs.fact (.tail _ (.head _)))) (fun hone => ?_)
   refine JC.know (p := ∀ x ∈ (Ad l m.line).last, Ax x) (fun w hs => Dy (.tail _ (.head _)) hs) (fun hlin => ?_)
   refine Al Ay (by kernel_rfl) (by kernel_rfl) (fun _ _ => _) (fun _ => rfl) ?_
   refine dn2 ?_
   refine dj ?_
   first | refine dc (fun _ _ => Ah rfl rfl (Az (by omega))) ?_
   refine dj ?_
   first | refine dc (fun _ _ => Bh) ?_
   refine dn4 ?_
   refine dj (dgy ?_)
   first | refine dc (fun _ _ => Ah rfl rfl (Bd (by omega))) ?_
   refine dj ?_
   first | refine dc (fun _ _ => Bp) ?_
   refine dj ?_
   first | refine dc (fun _ _ => Bh) ?_
   refine dn2 ?_
   refine dj (dgy ?_)
   first | refine dc (fun _ _ => Ah rfl rfl (Az (by omega))) ?_
   refine dj ?_
   first | refine dc (fun _ _ => Bp) ?_
   refine dj ?_
   first | refine dc (fun _ _ => Bh) ?_
   refine dn9 ?_
   refine dj (dgy ?_)
   first | refine dc (fun _ _ => Ah rfl rfl (D7 (show ((Ad l m.line).last.length : Int) ≤ m.src by omega))) ?_
   refine dj ?_
   first | refine dc (fun _ _ => Bp) ?_
   refine Aw ?_; intro ρ; simp only [Ao, facts, Bb, List.append_nil, List.nil_append, List.cons_append]
   refine Ae ?_
   refine sq ?_
   refine cT ?_
   refine sr ?_
   refine rn3 ?_
   refine nx ?_
   refine rt ?_
   have er : Ai l id m = (l, []) := by unfold Ai; rw [if_pos (by omega)]
   rw [er]
   refine Aj (.inr rfl) (fun B w hs => Ed rfl rfl rfl B w) (fun w hs => ⟨(v0, .slice none 0 0), ?_, Ag (St.shut (hs.rowNil 42 Msg))⟩)
   rfl
theorem Mu {L : List Chunk} {R : List Fact} {w : World} {v0 : Value} {l : List Entry} {id : Int} {m : Msg} (hs : St (L) R w) (h0 : sl v0 l ∈ R) (hb : ∀ i, i < l.length → EB (l.getD i Aq)) (hla : ∀ i, i < l.length → (l.getD i Aq).last.length ≤ 4) (hm : m.wf) (hid : Ax id) (hk : 0 ≤ m.line ∧ m.line < (l.length : Int) ∧ 0 ≤ m.src ∧ m.src < ((Ad l m.line).last.length : Int) ∧ m.kind = 3) : Calls Try.prog 30 [v0, vi id, .agg m.cells.toArray].toArray w (C2 (fun v : Value × Value => .tuple #[v.1, v.2]) (fun v => L) (fun v => sl v.1 (Ai l id m).1 :: sl v.2 (Ai l id m).2 :: R)) := by
  have hlen := Bv h0 hs
  have hm0 := hm
  unfold Msg.wf Ax at hm0
  have hid0 := hid
  unfold Ax at hid0
  refine Au Try.func30 rfl Try.ntmps30 rfl hs ?_
  clear hs
  refine sr ?_
  refine bx ?_; intro b5
  refine rn2 ?_
  refine nx ?_
  refine Dx (v := v0) m.line mm (by omega) (by omega) (fun hEw u => ?_)
  have hE : EB (Ad l m.line) := hb m.line.toNat (by omega)
  have hE0 := hE
  unfold EB Entry.wf Ax at hE0
  have hL : (Ad l m.line).last.length ≤ 4 := hla m.line.toNat (by omega)
  refine JC.know (p := u.oneCell' = true) (fun w hs => isSlice.one (hs.fact (.tail _ (.head _)))) (fun hone => ?_)
  refine JC.know (p := ∀ x ∈ (Ad l m.line).last, Ax x) (fun w hs => Dy (.tail _ (.head _)) hs) (fun hlin => ?_)
  refine Al Ay (by kernel_rfl) (by kernel_rfl) (fun _ _ => _) (fun _ => rfl) ?_
  refine dn2 ?_
  refine dj ?_
  first | refine dc (fun _ _ => Ah rfl rfl (Az (by omega))) ?_
  refine dj ?_
  first | refine dc (fun _ _ => Bh) ?_
  refine dn4 ?_
  refine dj (dgy ?_)
  first | refine dc (fun _ _ => Ah rfl rfl (Bd (by omega))) ?_
  refine dj ?_
  first | refine dc (fun _ _ => Bp) ?_
  refine dj ?_
  first | refine dc (fun _ _ => Bh) ?_
  refine dn2 ?_
  refine dj (dgy ?_)
  first | refine dc (fun _ _ => Ah rfl rfl (Az (by omega))) ?_
  refine dj ?_
  first | refine dc (fun _ _ => Bp) ?_
  refine dj ?_
  first | refine dc (fun _ _ => Bh) ?_
  refine dn9 ?_
  refine dj (dgy ?_)
  first | refine dc (fun _ _ => Ah rfl rfl (Bd (show ¬ ((Ad l m.line).last.length : Int) ≤ m.src by omega))) ?_
  refine dj ?_
  first | refine dc (fun _ _ => Bp) ?_
  refine Aw ?_; intro ρ; simp only [Ao, facts, Bb, List.append_nil, List.nil_append, List.cons_append]
  refine Ae ?_
  refine sq ?_
  refine cF_ ?_
  refine Ak ?_
  refine Ae ?_
  refine sr ?_
  refine rn5 ?_
  refine al_ (cs := zEC) Try.zeroValue58 ?_; intro b8
  refine s_B (cs := Entry.cells u (Ad l m.line)) Try.sizeOf58 ?_
  refine nx ?_
  refine kp [0, 1, 5, 6, 7, 8, 9, 43, 44, 45, 46] ?_
  refine Aa ?_
  refine liO ([] : List Int) D6 rfl (fun j h => Fu) ?_; intro v43
  refine rn2 ?_
  refine ap D6 (hb := fun w hs => by have : maxN = 16777216 := rfl; simp only [List.length_nil]; omega) (k := ?_); intro v46
  refine rn1 ?_
  refine nr ?_
  refine rn2 ?_
  refine nx ?_
  refine Av ?_
  refine sr ?_
  refine ob (Ah rfl rfl (An (by omega))) ?_
  refine rn1 ?_
  refine nx ?_
  refine cF_ ?_
  refine Aa ?_
  refine ob (Ah rfl rfl (An (by omega))) ?_
  refine rn1 ?_
  refine nx ?_
  refine cF_ ?_
  refine sr ?_
  refine ob (Ah rfl rfl (A2 (by omega))) ?_
  refine rn1 ?_
  refine nx ?_
  refine cT ?_
  refine sr ?_
  refine rn3 ?_
  refine nx ?_
  refine cdx (p := ?p1) (hd := ?d1) ?e1 ?_ ?_; case e1 => exact rfl
  ·
   intro ht100
   refine sr ?_
   refine rn3 ?_
   refine nx ?_
   refine rt ?_
   have er : Ai l id m = (l, []) := Cu (by omega) (by unfold Af; rw [if_neg (by omega), if_pos (by omega), if_pos ht100])
   rw [er]
   refine Aj (.inr rfl) (fun B w hs => Ed rfl rfl rfl B w) (fun w hs => ⟨(v0, .slice none 0 0), ?_, Ag (St.shut (hs.rowNil 42 Msg))⟩)
   rfl
  ·
   intro ht100
   refine Ak ?_
   refine Ae ?_
   refine sq ?_
   refine Al Ay (by kernel_rfl) (by kernel_rfl) (fun _ _ => _) (fun _ => rfl) ?_
   refine dn6 ?_
   refine dj ?_
   refine dc (fun _ _ => Dn (hc := Di (xs := (Ad l m.line).last) pkk (by omega)) Try.isAgg3) ?_
   refine dj ?_
   first | refine dc (fun _ _ => E5 Nt) ?_
   refine Aw ?_; intro ρ; simp only [Ao, facts, Bb, List.append_nil, List.nil_append, List.cons_append]
   refine Ae ?_
   refine sq ?_
   refine cdx (p := ?p2) (hd := ?d2) ?e2 ?_ ?_; case e2 => exact rfl
   ·
    intro ht109
    refine sr ?_
    refine rn6 ?_
    refine Fb (xs := (Ad l m.line).last) Try.sizeOf3 rfl rfl pkk (getD_some 0 (by omega)) hm.2.2.2.2.1 ?_
    refine nx ?_
    refine JC.shut (v := v46) pkk ?_
    refine JC.know (p := v46.oneCell' = true) (fun w hs => isSlice.one (hs.fact (List.Mem.head _))) (fun hone9 => ?_)
    refine kp [0, 1, 5, 6, 7, 8, 9, 48, 116, 117] ?_
    refine Aa ?_
    refine rn2 ?_
    refine sc ?_
    refine nr ?_
    refine rn5 ?_
    refine nx ?_
    refine cdx (p := ?p3) (hd := ?d3) ?e3 ?_ ?_; case e3 => exact rfl
    ·
     intro ht122
     refine Aa ?_
     refine rn3 ?_
     refine sc ?_
     refine rn1 ?_
     refine sc ?_
     refine nx ?_
     have er : Ai l id m = (l.set m.line.toNat ({ (Ad l m.line) with last := ((Ad l m.line).last.set m.src.toNat m.serial), value := m.value, owner := -1 }), [⟨11, id, m.src, m.line, m.serial, 0, 0, false⟩]) := Dz (by omega) (by unfold Af; rw [if_neg (by omega), if_pos (by omega), if_neg ht100]; unfold C7; rw [if_pos (by unfold C6; omega), if_pos ht122])
     refine JC.conseq (L' := blk b8 58 (Entry.cells v46 ({ (Ad l m.line) with last := ((Ad l m.line).last.set m.src.toNat m.serial), value := m.value, owner := -1 })) :: blk b5 42 m.cells :: L) (fun w hs => Ag hs) ?_
     refine Al Ay (by kernel_rfl) (by kernel_rfl) (fun ρ S => blk b8 58 (Entry.cells v46 ({ (Ad l m.line) with last := ((Ad l m.line).last.set m.src.toNat m.serial), value := m.value, owner := -1 })) :: blk b5 42 m.cells :: L) (fun _ => rfl) ?_
     refine dn4 ?_
     refine Cb (γ := Value) (val := fun v => v) (F := fun v => [sl v (l.set m.line.toNat ({ (Ad l m.line) with last := ((Ad l m.line).last.set m.src.toNat m.serial), value := m.value, owner := -1 }))]) Try.call69 (fun _ => rfl) (fun ρ L R w hd hs => Bx (e := { (Ad l m.line) with last := ((Ad l m.line).last.set m.src.toNat m.serial), value := m.value, owner := -1 }) (u := v46) hs (hd.base mm) (hd.base mm) (by first | exact hE.1 | (unfold Entry.wf Ax; simp only; omega)) (by omega)) (fun _ _ _ _ _ => rfl) ?_
     refine dn8 ?_
     refine Fl ([⟨11, id, m.src, m.line, m.serial, 0, 0, false⟩] : List Msg) Em rfl (fun _ => rfl) rfl (fun _ => rfl) rfl rfl (fun ρ R hd => Gy (by unfold Msg.wf Ax; simp only; omega)) (fun _ _ _ _ _ => rfl) ?_
     refine e_p (v := fun ρ => (Gh.dec (γ := Value) (ρ 4))) (fun _ _ => Cz) (Ind.gh (h := fun g => ((Gh.dec (γ := Value) g) : Value)) 4 0 rfl) (fun _ _ _ _ _ => rfl) ?_
     refine e_p (v := fun ρ => (Gh.dec (γ := Value) (ρ 13))) (fun _ _ => Cz) (Ind.gh (h := fun g => ((Gh.dec (γ := Value) g) : Value)) 13 0 rfl) (fun _ _ _ _ _ => rfl) ?_
     refine Aw ?_; intro ρ; simp only [Ao, facts, Bb, List.append_nil, List.nil_append, List.cons_append]
     refine JX.conseq (L' := blk b8 58 (Entry.cells v46 ({ (Ad l m.line) with last := ((Ad l m.line).last.set m.src.toNat m.serial), value := m.value, owner := -1 })) :: blk b5 42 m.cells :: L) (fun w hs => hs) ?_
     generalize (Gh.dec (γ := Value) (ρ 4)) = v131
     generalize (Gh.dec (γ := Value) (ρ 13)) = v140
     refine Ae ?_
     refine rt ?_
     rw [er]
     refine Aj (.inr rfl) (fun B w hs => Ed rfl rfl rfl B w) (fun w hs => ⟨(v131, v140), ?_, Ag hs⟩)
     rfl
    ·
     intro ht122
     refine Ak ?_
     refine Ae ?_
     refine sq ?_
     have er : Ai l id m = (l.set m.line.toNat ({ (Ad l m.line) with last := ((Ad l m.line).last.set m.src.toNat m.serial) }), [⟨11, id, m.src, m.line, m.serial, 0, 0, false⟩]) := Dz (by omega) (by unfold Af; rw [if_neg (by omega), if_pos (by omega), if_neg ht100]; unfold C7; rw [if_pos (by unfold C6; omega), if_neg ht122])
     refine JC.conseq (L' := blk b8 58 (Entry.cells v46 ({ (Ad l m.line) with last := ((Ad l m.line).last.set m.src.toNat m.serial) })) :: blk b5 42 m.cells :: L) (fun w hs => Ag hs) ?_
     refine Al Ay (by kernel_rfl) (by kernel_rfl) (fun ρ S => blk b8 58 (Entry.cells v46 ({ (Ad l m.line) with last := ((Ad l m.line).last.set m.src.toNat m.serial) })) :: blk b5 42 m.cells :: L) (fun _ => rfl) ?_
     refine dn4 ?_
     refine Cb (γ := Value) (val := fun v => v) (F := fun v => [sl v (l.set m.line.toNat ({ (Ad l m.line) with last := ((Ad l m.line).last.set m.src.toNat m.serial) }))]) Try.call69 (fun _ => rfl) (fun ρ L R w hd hs => Bx (e := { (Ad l m.line) with last := ((Ad l m.line).last.set m.src.toNat m.serial) }) (u := v46) hs (hd.base mm) (hd.base mm) (by first | exact hE.1 | (unfold Entry.wf Ax; simp only; omega)) (by omega)) (fun _ _ _ _ _ => rfl) ?_
     refine dn8 ?_
     refine Fl ([⟨11, id, m.src, m.line, m.serial, 0, 0, false⟩] : List Msg) Em rfl (fun _ => rfl) rfl (fun _ => rfl) rfl rfl (fun ρ R hd => Gy (by unfold Msg.wf Ax; simp only; omega)) (fun _ _ _ _ _ => rfl) ?_
     refine e_p (v := fun ρ => (Gh.dec (γ := Value) (ρ 4))) (fun _ _ => Cz) (Ind.gh (h := fun g => ((Gh.dec (γ := Value) g) : Value)) 4 0 rfl) (fun _ _ _ _ _ => rfl) ?_
     refine e_p (v := fun ρ => (Gh.dec (γ := Value) (ρ 13))) (fun _ _ => Cz) (Ind.gh (h := fun g => ((Gh.dec (γ := Value) g) : Value)) 13 0 rfl) (fun _ _ _ _ _ => rfl) ?_
     refine Aw ?_; intro ρ; simp only [Ao, facts, Bb, List.append_nil, List.nil_append, List.cons_append]
     refine JX.conseq (L' := blk b8 58 (Entry.cells v46 ({ (Ad l m.line) with last := ((Ad l m.line).last.set m.src.toNat m.serial) })) :: blk b5 42 m.cells :: L) (fun w hs => hs) ?_
     generalize (Gh.dec (γ := Value) (ρ 4)) = v131
     generalize (Gh.dec (γ := Value) (ρ 13)) = v140
     refine Ae ?_
     refine rt ?_
     rw [er]
     refine Aj (.inr rfl) (fun B w hs => Ed rfl rfl rfl B w) (fun w hs => ⟨(v131, v140), ?_, Ag hs⟩)
     rfl
   ·
    intro ht109
    refine Ak ?_
    refine Ae ?_
    refine sq ?_
    have er : Ai l id m = (l.set m.line.toNat ((Ad l m.line)), [⟨11, id, m.src, m.line, m.serial, 0, 0, false⟩]) := Dz (by omega) (by unfold Af; rw [if_neg (by omega), if_pos (by omega), if_neg ht100]; unfold C7; rw [if_neg (by unfold C6; omega)])
    refine JC.conseq (L' := blk b8 58 (Entry.cells u ((Ad l m.line))) :: blk b5 42 m.cells :: L) (fun w hs => Ag hs) ?_
    refine Al Ay (by kernel_rfl) (by kernel_rfl) (fun ρ S => blk b8 58 (Entry.cells u ((Ad l m.line))) :: blk b5 42 m.cells :: L) (fun _ => rfl) ?_
    refine dn4 ?_
    refine Cb (γ := Value) (val := fun v => v) (F := fun v => [sl v (l.set m.line.toNat ((Ad l m.line)))]) Try.call69 (fun _ => rfl) (fun ρ L R w hd hs => Bx (e := (Ad l m.line)) (u := u) hs (hd.base mm) (hd.base mm) (by first | exact hE.1 | (unfold Entry.wf Ax; simp only; omega)) (by omega)) (fun _ _ _ _ _ => rfl) ?_
    refine dn8 ?_
    refine Fl ([⟨11, id, m.src, m.line, m.serial, 0, 0, false⟩] : List Msg) Em rfl (fun _ => rfl) rfl (fun _ => rfl) rfl rfl (fun ρ R hd => Gy (by unfold Msg.wf Ax; simp only; omega)) (fun _ _ _ _ _ => rfl) ?_
    refine e_p (v := fun ρ => (Gh.dec (γ := Value) (ρ 4))) (fun _ _ => Cz) (Ind.gh (h := fun g => ((Gh.dec (γ := Value) g) : Value)) 4 0 rfl) (fun _ _ _ _ _ => rfl) ?_
    refine e_p (v := fun ρ => (Gh.dec (γ := Value) (ρ 13))) (fun _ _ => Cz) (Ind.gh (h := fun g => ((Gh.dec (γ := Value) g) : Value)) 13 0 rfl) (fun _ _ _ _ _ => rfl) ?_
    refine Aw ?_; intro ρ; simp only [Ao, facts, Bb, List.append_nil, List.nil_append, List.cons_append]
    refine JX.conseq (L' := blk b8 58 (Entry.cells u ((Ad l m.line))) :: blk b5 42 m.cells :: L) (fun w hs => hs) ?_
    generalize (Gh.dec (γ := Value) (ρ 4)) = v131
    generalize (Gh.dec (γ := Value) (ρ 13)) = v140
    refine Ae ?_
    refine rt ?_
    rw [er]
    refine Aj (.inr rfl) (fun B w hs => Ed rfl rfl rfl B w) (fun w hs => ⟨(v131, v140), ?_, Ag hs⟩)
    rfl
theorem Mr {L : List Chunk} {R : List Fact} {w : World} {v0 : Value} {l : List Entry} {id : Int} {m : Msg} (hs : St (L) R w) (h0 : sl v0 l ∈ R) (hb : ∀ i, i < l.length → EB (l.getD i Aq)) (hla : ∀ i, i < l.length → (l.getD i Aq).last.length ≤ 4) (hm : m.wf) (hid : Ax id) (hk : 0 ≤ m.line ∧ m.line < (l.length : Int) ∧ 0 ≤ m.src ∧ m.src < ((Ad l m.line).last.length : Int) ∧ m.kind ≠ 1 ∧ m.kind ≠ 2 ∧ m.kind ≠ 3 ∧ m.kind ≠ 9 ∧ m.kind ≠ 8 ∧ m.kind ≠ 10) : Calls Try.prog 30 [v0, vi id, .agg m.cells.toArray].toArray w (C2 (fun v : Value × Value => .tuple #[v.1, v.2]) (fun v => L) (fun v => sl v.1 (Ai l id m).1 :: sl v.2 (Ai l id m).2 :: R)) := by
 have hlen := Bv h0 hs
 have hm0 := hm
 unfold Msg.wf Ax at hm0
 have hid0 := hid
 unfold Ax at hid0
 refine Au Try.func30 rfl Try.ntmps30 rfl hs ?_
 clear hs
 refine sr ?_
 refine bx ?_; intro b5
 refine rn2 ?_
 refine nx ?_
 refine Dx (v := v0) m.line mm (by omega) (by omega) (fun hEw u => ?_)
 have hE : EB (Ad l m.line) := hb m.line.toNat (by omega)
 have hE0 := hE
 unfold EB Entry.wf Ax at hE0
 have hL : (Ad l m.line).last.length ≤ 4 := hla m.line.toNat (by omega)
 refine JC.know (p := u.oneCell' = true) (fun w hs => isSlice.one (hs.fact (.tail _ (.head _)))) (fun hone => ?_)
 refine JC.know (p := ∀ x ∈ (Ad l m.line).last, Ax x) (fun w hs => Dy (.tail _ (.head _)) hs) (fun hlin => ?_)
 refine Al Ay (by kernel_rfl) (by kernel_rfl) (fun _ _ => _) (fun _ => rfl) ?_
 refine dn2 ?_
 refine dj ?_
 first | refine dc (fun _ _ => Ah rfl rfl (Az (by omega))) ?_
 refine dj ?_
 first | refine dc (fun _ _ => Bh) ?_
 refine dn4 ?_
 refine dj (dgy ?_)
 first | refine dc (fun _ _ => Ah rfl rfl (Bd (by omega))) ?_
 refine dj ?_
 first | refine dc (fun _ _ => Bp) ?_
 refine dj ?_
 first | refine dc (fun _ _ => Bh) ?_
 refine dn2 ?_
 refine dj (dgy ?_)
 first | refine dc (fun _ _ => Ah rfl rfl (Az (by omega))) ?_
 refine dj ?_
 first | refine dc (fun _ _ => Bp) ?_
 refine dj ?_
 first | refine dc (fun _ _ => Bh) ?_
 refine dn9 ?_
 refine dj (dgy ?_)
 first | refine dc (fun _ _ => Ah rfl rfl (Bd (show ¬ ((Ad l m.line).last.length : Int) ≤ m.src by omega))) ?_
 refine dj ?_
 first | refine dc (fun _ _ => Bp) ?_
 refine Aw ?_; intro ρ; simp only [Ao, facts, Bb, List.append_nil, List.nil_append, List.cons_append]
 refine Ae ?_
 refine sq ?_
 refine cF_ ?_
 refine Ak ?_
 refine Ae ?_
 refine sr ?_
 refine rn5 ?_
 refine al_ (cs := zEC) Try.zeroValue58 ?_; intro b8
 refine s_B (cs := Entry.cells u (Ad l m.line)) Try.sizeOf58 ?_
 refine nx ?_
 refine kp [0, 1, 5, 6, 7, 8, 9, 43, 44, 45, 46] ?_
 refine Aa ?_
 refine liO ([] : List Int) D6 rfl (fun j h => Fu) ?_; intro v43
 refine rn2 ?_
 refine ap D6 (hb := fun w hs => by have : maxN = 16777216 := rfl; simp only [List.length_nil]; omega) (k := ?_); intro v46
 refine rn1 ?_
 refine nr ?_
 refine rn2 ?_
 refine nx ?_
 refine Av ?_
 refine sr ?_
 refine ob (Ah rfl rfl (An (by omega))) ?_
 refine rn1 ?_
 refine nx ?_
 refine cF_ ?_
 refine Aa ?_
 refine ob (Ah rfl rfl (An (by omega))) ?_
 refine rn1 ?_
 refine nx ?_
 refine cF_ ?_
 refine sr ?_
 refine ob (Ah rfl rfl (An (by omega))) ?_
 refine rn1 ?_
 refine nx ?_
 refine cF_ ?_
 refine sr ?_
 refine ob (Ah rfl rfl (An (by omega))) ?_
 refine rn1 ?_
 refine nx ?_
 refine cF_ ?_
 refine sr ?_
 refine ob (Ah rfl rfl (An (by omega))) ?_
 refine rn1 ?_
 refine nx ?_
 refine cF_ ?_
 refine sr ?_
 refine ob (Ah rfl rfl (An (by omega))) ?_
 refine rn1 ?_
 refine nx ?_
 refine cF_ ?_
 refine sr ?_
 refine rn3 ?_
 refine nx ?_
 refine rt ?_
 have er : Ai l id m = (l, []) := Cu (by omega) (by unfold Af; rw [if_neg (by omega), if_neg (by omega), if_neg (by omega), if_neg (by omega), if_neg (by omega)])
 rw [er]
 refine Aj (.inr rfl) (fun B w hs => Ed rfl rfl rfl B w) (fun w hs => ⟨(v0, .slice none 0 0), ?_, Ag (St.shut (hs.rowNil 42 Msg))⟩)
 rfl
end Go.Proofs.Ytofgpimoekhfaaa

/- This file proves what the home hears, by the document's answer: some kinds of messages. No conditions. -/
set_option linter.unusedVariables false
set_option linter.unusedSimpArgs false
set_option maxHeartbeats 1000000
set_option maxRecDepth 8000
namespace Go.Proofs.Ytofgpimoekhfaaa
open Go
theorem Mw {L : List Chunk} {R : List Fact} {w : World} {v0 : Value} {l : List Entry} {id : Int} {m : Msg} (hs : St (L) R w) (h0 : sl v0 l ∈ R) (hb : ∀ i, i < l.length → EB (l.getD i Aq)) (hla : ∀ i, i < l.length → (l.getD i Aq).last.length ≤ 4) (hm : m.wf) (hid : Ax id) (hk : 0 ≤ m.line ∧ m.line < (l.length : Int) ∧ 0 ≤ m.src ∧ m.src < ((Ad l m.line).last.length : Int) ∧ m.kind = 1) : Calls Try.prog 30 [v0, vi id, .agg m.cells.toArray].toArray w (C2 (fun v : Value × Value => .tuple #[v.1, v.2]) (fun v => L) (fun v => sl v.1 (Ai l id m).1 :: sl v.2 (Ai l id m).2 :: R)) := by
  have hlen := Bv h0 hs
  have hm0 := hm
  unfold Msg.wf Ax at hm0
  have hid0 := hid
  unfold Ax at hid0
  refine Au Try.func30 rfl Try.ntmps30 rfl hs ?_
  clear hs
  refine sr ?_
  refine bx ?_; intro b5
  refine rn2 ?_
  refine nx ?_
  refine Dx (v := v0) m.line mm (by omega) (by omega) (fun hEw u => ?_)
  have hE : EB (Ad l m.line) := hb m.line.toNat (by omega)
  have hE0 := hE
  unfold EB Entry.wf Ax at hE0
  have hL : (Ad l m.line).last.length ≤ 4 := hla m.line.toNat (by omega)
  refine JC.know (p := u.oneCell' = true) (fun w hs => isSlice.one (hs.fact (.tail _ (.head _)))) (fun hone => ?_)
  refine JC.know (p := ∀ x ∈ (Ad l m.line).last, Ax x) (fun w hs => Dy (.tail _ (.head _)) hs) (fun hlin => ?_)
  refine Al Ay (by kernel_rfl) (by kernel_rfl) (fun _ _ => _) (fun _ => rfl) ?_
  refine dn2 ?_
  refine dj ?_
  first | refine dc (fun _ _ => Ah rfl rfl (Az (by omega))) ?_
  refine dj ?_
  first | refine dc (fun _ _ => Bh) ?_
  refine dn4 ?_
  refine dj (dgy ?_)
  first | refine dc (fun _ _ => Ah rfl rfl (Bd (by omega))) ?_
  refine dj ?_
  first | refine dc (fun _ _ => Bp) ?_
  refine dj ?_
  first | refine dc (fun _ _ => Bh) ?_
  refine dn2 ?_
  refine dj (dgy ?_)
  first | refine dc (fun _ _ => Ah rfl rfl (Az (by omega))) ?_
  refine dj ?_
  first | refine dc (fun _ _ => Bp) ?_
  refine dj ?_
  first | refine dc (fun _ _ => Bh) ?_
  refine dn9 ?_
  refine dj (dgy ?_)
  first | refine dc (fun _ _ => Ah rfl rfl (Bd (show ¬ ((Ad l m.line).last.length : Int) ≤ m.src by omega))) ?_
  refine dj ?_
  first | refine dc (fun _ _ => Bp) ?_
  refine Aw ?_; intro ρ; simp only [Ao, facts, Bb, List.append_nil, List.nil_append, List.cons_append]
  refine Ae ?_
  refine sq ?_
  refine cF_ ?_
  refine Ak ?_
  refine Ae ?_
  refine sr ?_
  refine rn5 ?_
  refine al_ (cs := zEC) Try.zeroValue58 ?_; intro b8
  refine s_B (cs := Entry.cells u (Ad l m.line)) Try.sizeOf58 ?_
  refine nx ?_
  refine kp [0, 1, 5, 6, 7, 8, 9, 43, 44, 45, 46] ?_
  refine Aa ?_
  refine liO ([] : List Int) D6 rfl (fun j h => Fu) ?_; intro v43
  refine rn2 ?_
  refine ap D6 (hb := fun w hs => by have : maxN = 16777216 := rfl; simp only [List.length_nil]; omega) (k := ?_); intro v46
  refine rn1 ?_
  refine nr ?_
  refine rn2 ?_
  refine nx ?_
  refine Av ?_
  refine sr ?_
  refine ob (Ah rfl rfl (A2 (by omega))) ?_
  refine rn1 ?_
  refine nx ?_
  refine cT ?_
  refine Ak ?_
  refine Ae ?_
  refine cT ?_
  refine sq ?_
  rcases (show ((Ad l m.line).phase ≠ 0) ∨ ((Ad l m.line).phase = 0 ∧ m.serial ≤ (Ad l m.line).last.getD m.src.toNat 0) ∨ ((Ad l m.line).phase = 0 ∧ (Ad l m.line).last.getD m.src.toNat 0 < m.serial ∧ 65535 ≤ (Ad l m.line).turn) ∨ ((Ad l m.line).phase = 0 ∧ (Ad l m.line).last.getD m.src.toNat 0 < m.serial ∧ (Ad l m.line).turn < 65535) from by omega) with hc | hc | hc | hc
  ·
   refine Al Ay (by kernel_rfl) (by kernel_rfl) (fun _ _ => _) (fun _ => rfl) ?_
   refine dn2 ?_
   refine dj ?_
   first | refine dc (fun _ _ => Ah rfl rfl (C0 (by omega))) ?_
   refine dj ?_
   first | refine dc (fun _ _ => Bh) ?_
   refine dn8 ?_
   refine dj ?_
   first | refine dc (fun _ _ => Ew) ?_
   refine dj ?_
   first | refine dc (fun _ _ => Bh) ?_
   refine dn3 ?_
   refine dj ?_
   first | refine dc (fun _ _ => Ew) ?_
   refine Aw ?_; intro ρ; simp only [Ao, facts, Bb, List.append_nil, List.nil_append, List.cons_append]
   refine Ae ?_
   refine sq ?_
   refine cT ?_
   refine sr ?_
   refine rn3 ?_
   refine nx ?_
   refine rt ?_
   have er : Ai l id m = (l, []) := Cu (by omega) (by unfold Af; rw [if_pos (by omega), if_pos (by unfold C6; omega)])
   rw [er]
   refine Aj (.inr rfl) (fun B w hs => Ed rfl rfl rfl B w) (fun w hs => ⟨(v0, .slice none 0 0), ?_, Ag (St.shut (hs.rowNil 42 Msg))⟩)
   rfl
  ·
   refine Al Ay (by kernel_rfl) (by kernel_rfl) (fun _ _ => _) (fun _ => rfl) ?_
   refine dn2 ?_
   refine dj ?_
   first | refine dc (fun _ _ => Ah rfl rfl (Bu (by omega))) ?_
   refine dj ?_
   first | refine dc (fun _ _ => Bh) ?_
   refine dn6 ?_
   refine dj (dgy ?_)
   refine dc (fun _ _ => Dn (hc := Di (xs := (Ad l m.line).last) pkk (by omega)) Try.isAgg3) ?_
   refine dj (dgy ?_)
   first | refine dc (fun _ _ => Ah rfl rfl (Ka (by omega))) ?_
   refine dj ?_
   first | refine dc (fun _ _ => Bp) ?_
   refine dj ?_
   first | refine dc (fun _ _ => Bh) ?_
   refine dn3 ?_
   refine dj ?_
   first | refine dc (fun _ _ => Ew) ?_
   refine Aw ?_; intro ρ; simp only [Ao, facts, Bb, List.append_nil, List.nil_append, List.cons_append]
   refine Ae ?_
   refine sq ?_
   refine cT ?_
   refine sr ?_
   refine rn3 ?_
   refine nx ?_
   refine rt ?_
   have er : Ai l id m = (l, []) := Cu (by omega) (by unfold Af; rw [if_pos (by omega), if_pos (by unfold C6; omega)])
   rw [er]
   refine Aj (.inr rfl) (fun B w hs => Ed rfl rfl rfl B w) (fun w hs => ⟨(v0, .slice none 0 0), ?_, Ag (St.shut (hs.rowNil 42 Msg))⟩)
   rfl
  ·
   refine Al Ay (by kernel_rfl) (by kernel_rfl) (fun _ _ => _) (fun _ => rfl) ?_
   refine dn2 ?_
   refine dj ?_
   first | refine dc (fun _ _ => Ah rfl rfl (Bu (by omega))) ?_
   refine dj ?_
   first | refine dc (fun _ _ => Bh) ?_
   refine dn6 ?_
   refine dj (dgy ?_)
   refine dc (fun _ _ => Dn (hc := Di (xs := (Ad l m.line).last) pkk (by omega)) Try.isAgg3) ?_
   refine dj (dgy ?_)
   first | refine dc (fun _ _ => Ah rfl rfl (E4 (by omega))) ?_
   refine dj ?_
   first | refine dc (fun _ _ => Bp) ?_
   refine dj ?_
   first | refine dc (fun _ _ => Bh) ?_
   refine dn2 ?_
   refine dj (dgy ?_)
   first | refine dc (fun _ _ => Ah rfl rfl (D7 (by omega))) ?_
   refine dj ?_
   first | refine dc (fun _ _ => Bp) ?_
   refine Aw ?_; intro ρ; simp only [Ao, facts, Bb, List.append_nil, List.nil_append, List.cons_append]
   refine Ae ?_
   refine sq ?_
   refine cT ?_
   refine sr ?_
   refine rn3 ?_
   refine nx ?_
   refine rt ?_
   have er : Ai l id m = (l, []) := Cu (by omega) (by unfold Af; rw [if_pos (by omega), if_pos (by unfold C6; omega)])
   rw [er]
   refine Aj (.inr rfl) (fun B w hs => Ed rfl rfl rfl B w) (fun w hs => ⟨(v0, .slice none 0 0), ?_, Ag (St.shut (hs.rowNil 42 Msg))⟩)
   rfl
  ·
   refine Al Ay (by kernel_rfl) (by kernel_rfl) (fun _ _ => _) (fun _ => rfl) ?_
   refine dn2 ?_
   refine dj ?_
   first | refine dc (fun _ _ => Ah rfl rfl (Bu (by omega))) ?_
   refine dj ?_
   first | refine dc (fun _ _ => Bh) ?_
   refine dn6 ?_
   refine dj (dgy ?_)
   refine dc (fun _ _ => Dn (hc := Di (xs := (Ad l m.line).last) pkk (by omega)) Try.isAgg3) ?_
   refine dj (dgy ?_)
   first | refine dc (fun _ _ => Ah rfl rfl (E4 (by omega))) ?_
   refine dj ?_
   first | refine dc (fun _ _ => Bp) ?_
   refine dj ?_
   first | refine dc (fun _ _ => Bh) ?_
   refine dn2 ?_
   refine dj (dgy ?_)
   first | refine dc (fun _ _ => Ah rfl rfl (Bd (by omega))) ?_
   refine dj ?_
   first | refine dc (fun _ _ => Bp) ?_
   refine Aw ?_; intro ρ; simp only [Ao, facts, Bb, List.append_nil, List.nil_append, List.cons_append]
   refine Ae ?_
   refine sq ?_
   refine cF_ ?_
   refine Ak ?_
   refine Ae ?_
   refine sr ?_
   refine rn6 ?_
   refine Fb (xs := (Ad l m.line).last) Try.sizeOf3 rfl rfl pkk (getD_some 0 (by omega)) hm.2.2.2.2.1 ?_
   refine nx ?_
   refine JC.shut (v := v46) pkk ?_
   refine JC.know (p := v46.oneCell' = true) (fun w hs => isSlice.one (hs.fact (List.Mem.head _))) (fun hone9 => ?_)
   refine kp [0, 1, 5, 6, 7, 8, 9, 48, 78, 79, 80, 81, 82, 83, 84, 85, 86, 87, 88, 89, 90, 91, 92, 93] ?_
   refine JC.conseq (L' := blk b8 58 [vi (Ad l m.line).value, vi (Ad l m.line).owner, vi (Ad l m.line).sharers, vi (Ad l m.line).phase, vi (Ad l m.line).who, vi (Ad l m.line).serial, .bool (Ad l m.line).alone, vi (Ad l m.line).turn, vi (Ad l m.line).need, u] :: blk b5 42 m.cells :: L) (fun w hs => Ag hs) ?_
   refine Al Ay (by kernel_rfl) (by kernel_rfl) (fun ρ S => blk b8 58 (bif S 20 then [vi (Ad l m.line).value, vi (Ad l m.line).owner, vi (Ad l m.line).sharers, vi (Ad l m.line).phase, vi m.src, vi m.serial, .bool (decide (m.kind = 2)), vi ((Ad l m.line).turn + 1), vi (Ad l m.line).need, v46] else (bif S 18 then [vi (Ad l m.line).value, vi (Ad l m.line).owner, vi (Ad l m.line).sharers, vi (Ad l m.line).phase, vi m.src, vi m.serial, .bool (decide (m.kind = 2)), vi (Ad l m.line).turn, vi (Ad l m.line).need, v46] else (bif S 16 then [vi (Ad l m.line).value, vi (Ad l m.line).owner, vi (Ad l m.line).sharers, vi (Ad l m.line).phase, vi m.src, vi m.serial, .bool (Ad l m.line).alone, vi (Ad l m.line).turn, vi (Ad l m.line).need, v46] else (bif S 14 then [vi (Ad l m.line).value, vi (Ad l m.line).owner, vi (Ad l m.line).sharers, vi (Ad l m.line).phase, vi m.src, vi (Ad l m.line).serial, .bool (Ad l m.line).alone, vi (Ad l m.line).turn, vi (Ad l m.line).need, v46] else (bif S 12 then [vi (Ad l m.line).value, vi (Ad l m.line).owner, vi (Ad l m.line).sharers, vi (Ad l m.line).phase, vi (Ad l m.line).who, vi (Ad l m.line).serial, .bool (Ad l m.line).alone, vi (Ad l m.line).turn, vi (Ad l m.line).need, v46] else [vi (Ad l m.line).value, vi (Ad l m.line).owner, vi (Ad l m.line).sharers, vi (Ad l m.line).phase, vi (Ad l m.line).who, vi (Ad l m.line).serial, .bool (Ad l m.line).alone, vi (Ad l m.line).turn, vi (Ad l m.line).need, u]))))) :: blk b5 42 m.cells :: L) (fun _ => rfl) ?_
   refine dn9 ?_
   refine K4 (v := vi (Ad l m.line).turn) (fun ρ S hS hB hA => by have h20 : S 20 = false := hA 20 ⟨0, rfl⟩; simp only [h20, cond_false]; exact Dn (hc := Bc pkk (by repeat (first | exact rfl | refine Ec rfl ?_))) Try.isAgg3) (fun _ _ _ _ _ => rfl) ?_
   first | refine Dl (fun _ _ => D9) (fun _ _ _ _ _ => rfl) ?_ | refine Dl (fun _ _ => E7) (fun _ _ _ _ _ => rfl) ?_ | refine e_p (fun _ _ => D9) (by first | exact Ind.const _ | exact fun _ _ _ _ _ => rfl | exact Ind.self | exact Ind.gh _ 3 rfl) (fun _ _ _ _ _ => rfl) ?_ | refine e_p (fun _ _ => E7) (by first | exact Ind.const _ | exact fun _ _ _ _ _ => rfl | exact Ind.self | exact Ind.gh _ 3 rfl) (fun _ _ _ _ _ => rfl) ?_
   refine dn1 ?_
   refine Be (T0 := 58) (f := 9) (vs := fun ρ => [vi (Ad l m.line).value, vi (Ad l m.line).owner, vi (Ad l m.line).sharers, vi (Ad l m.line).phase, vi (Ad l m.line).who, vi (Ad l m.line).serial, .bool (Ad l m.line).alone, vi (Ad l m.line).turn, vi (Ad l m.line).need, u]) (us := fun ρ => [v46]) (sz := 1) (fun ρ => b8) Try.sizeOf56 (fun _ => rfl) (fun _ => rfl) (fun _ => F0 hone9) (fun _ => rfl) (fun ρ R w L' hd hs u hu => by cases List.mem_singleton.1 hu; exact hone9) (fun _ => rfl) (fun ρ g S hS hB hA => ?_) ?_
   ·
    have ui : upS S 12 12 = true := rfl; have u14 : upS S 12 14 = S 14 := rfl; have u16 : upS S 12 16 = S 16 := rfl; have u18 : upS S 12 18 = S 18 := rfl; have u20 : upS S 12 20 = S 20 := rfl; have h14 : S 14 = false := hA 14 ⟨0, rfl⟩; have h16 : S 16 = false := hA 16 ⟨0, rfl⟩; have h18 : S 18 = false := hA 18 ⟨0, rfl⟩; have h20 : S 20 = false := hA 20 ⟨0, rfl⟩
    simp only [ui, hS, u14, u16, u18, u20, h14, h16, h18, h20, cond_true, cond_false]
    exact Pos.ex (by repeat (first | exact .hd | exact .hc | apply Pos.tl | apply Pos.ap))
   refine dn1 ?_
   refine Be (T0 := 58) (f := 4) (vs := fun ρ => [vi (Ad l m.line).value, vi (Ad l m.line).owner, vi (Ad l m.line).sharers, vi (Ad l m.line).phase, vi (Ad l m.line).who, vi (Ad l m.line).serial, .bool (Ad l m.line).alone, vi (Ad l m.line).turn, vi (Ad l m.line).need, v46]) (us := fun ρ => [vi m.src]) (sz := 1) (fun ρ => b8) Try.sizeOf3 (fun _ => rfl) (fun _ => rfl) (fun _ => rfl) (fun _ => rfl) (fun ρ R w L' hd hs u hu => by revert u hu; simp [Value.oneCell', Config.cells, Msg.cells, Line.cells, Op.cells, Done.cells, Step.cells]) (fun _ => rfl) (fun ρ g S hS hB hA => ?_) ?_
   ·
    have ui : upS S 14 14 = true := rfl; have u12 : upS S 14 12 = S 12 := rfl; have u16 : upS S 14 16 = S 16 := rfl; have u18 : upS S 14 18 = S 18 := rfl; have u20 : upS S 14 20 = S 20 := rfl; have h12 : S 12 = true := hB 12 ⟨0, rfl⟩; have h16 : S 16 = false := hA 16 ⟨0, rfl⟩; have h18 : S 18 = false := hA 18 ⟨0, rfl⟩; have h20 : S 20 = false := hA 20 ⟨0, rfl⟩
    simp only [ui, hS, u12, u16, u18, u20, h12, h16, h18, h20, cond_true, cond_false]
    exact Pos.ex (by repeat (first | exact .hd | exact .hc | apply Pos.tl | apply Pos.ap))
   refine dn1 ?_
   refine Be (T0 := 58) (f := 5) (vs := fun ρ => [vi (Ad l m.line).value, vi (Ad l m.line).owner, vi (Ad l m.line).sharers, vi (Ad l m.line).phase, vi m.src, vi (Ad l m.line).serial, .bool (Ad l m.line).alone, vi (Ad l m.line).turn, vi (Ad l m.line).need, v46]) (us := fun ρ => [vi m.serial]) (sz := 1) (fun ρ => b8) Try.sizeOf3 (fun _ => rfl) (fun _ => rfl) (fun _ => rfl) (fun _ => rfl) (fun ρ R w L' hd hs u hu => by revert u hu; simp [Value.oneCell', Config.cells, Msg.cells, Line.cells, Op.cells, Done.cells, Step.cells]) (fun _ => rfl) (fun ρ g S hS hB hA => ?_) ?_
   ·
    have ui : upS S 16 16 = true := rfl; have u12 : upS S 16 12 = S 12 := rfl; have u14 : upS S 16 14 = S 14 := rfl; have u18 : upS S 16 18 = S 18 := rfl; have u20 : upS S 16 20 = S 20 := rfl; have h12 : S 12 = true := hB 12 ⟨0, rfl⟩; have h14 : S 14 = true := hB 14 ⟨0, rfl⟩; have h18 : S 18 = false := hA 18 ⟨0, rfl⟩; have h20 : S 20 = false := hA 20 ⟨0, rfl⟩
    simp only [ui, hS, u12, u14, u18, u20, h12, h14, h18, h20, cond_true, cond_false]
    exact Pos.ex (by repeat (first | exact .hd | exact .hc | apply Pos.tl | apply Pos.ap))
   refine dn1 ?_
   refine Be (T0 := 58) (f := 6) (vs := fun ρ => [vi (Ad l m.line).value, vi (Ad l m.line).owner, vi (Ad l m.line).sharers, vi (Ad l m.line).phase, vi m.src, vi m.serial, .bool (Ad l m.line).alone, vi (Ad l m.line).turn, vi (Ad l m.line).need, v46]) (us := fun ρ => [.bool (decide (m.kind = 2))]) (sz := 1) (fun ρ => b8) Try.sizeOf4 (fun _ => rfl) (fun _ => rfl) (fun _ => rfl) (fun _ => rfl) (fun ρ R w L' hd hs u hu => by revert u hu; simp [Value.oneCell', Config.cells, Msg.cells, Line.cells, Op.cells, Done.cells, Step.cells]) (fun _ => rfl) (fun ρ g S hS hB hA => ?_) ?_
   ·
    have ui : upS S 18 18 = true := rfl; have u12 : upS S 18 12 = S 12 := rfl; have u14 : upS S 18 14 = S 14 := rfl; have u16 : upS S 18 16 = S 16 := rfl; have u20 : upS S 18 20 = S 20 := rfl; have h12 : S 12 = true := hB 12 ⟨0, rfl⟩; have h14 : S 14 = true := hB 14 ⟨0, rfl⟩; have h16 : S 16 = true := hB 16 ⟨0, rfl⟩; have h20 : S 20 = false := hA 20 ⟨0, rfl⟩
    simp only [ui, hS, u12, u14, u16, u20, h12, h14, h16, h20, cond_true, cond_false]
    exact Pos.ex (by repeat (first | exact .hd | exact .hc | apply Pos.tl | apply Pos.ap))
   refine dn1 ?_
   refine Be (T0 := 58) (f := 7) (vs := fun ρ => [vi (Ad l m.line).value, vi (Ad l m.line).owner, vi (Ad l m.line).sharers, vi (Ad l m.line).phase, vi m.src, vi m.serial, .bool (decide (m.kind = 2)), vi (Ad l m.line).turn, vi (Ad l m.line).need, v46]) (us := fun ρ => [vi ((Ad l m.line).turn + 1)]) (sz := 1) (fun ρ => b8) Try.sizeOf3 (fun _ => rfl) (fun _ => rfl) (fun _ => rfl) (fun _ => rfl) (fun ρ R w L' hd hs u hu => by revert u hu; simp [Value.oneCell', Config.cells, Msg.cells, Line.cells, Op.cells, Done.cells, Step.cells]) (fun _ => rfl) (fun ρ g S hS hB hA => ?_) ?_
   ·
    have ui : upS S 20 20 = true := rfl; have u12 : upS S 20 12 = S 12 := rfl; have u14 : upS S 20 14 = S 14 := rfl; have u16 : upS S 20 16 = S 16 := rfl; have u18 : upS S 20 18 = S 18 := rfl; have h12 : S 12 = true := hB 12 ⟨0, rfl⟩; have h14 : S 14 = true := hB 14 ⟨0, rfl⟩; have h16 : S 16 = true := hB 16 ⟨0, rfl⟩; have h18 : S 18 = true := hB 18 ⟨0, rfl⟩
    simp only [ui, hS, u12, u14, u16, u18, h12, h14, h16, h18, cond_true, cond_false]
    exact Pos.ex (by repeat (first | exact .hd | exact .hc | apply Pos.tl | apply Pos.ap))
   refine Aw ?_; intro ρ; simp only [Ao, facts, Bb, List.append_nil, List.nil_append, List.cons_append]
   refine JX.conseq (L' := blk b8 58 [vi (Ad l m.line).value, vi (Ad l m.line).owner, vi (Ad l m.line).sharers, vi (Ad l m.line).phase, vi m.src, vi m.serial, .bool (decide (m.kind = 2)), vi ((Ad l m.line).turn + 1), vi (Ad l m.line).need, v46] :: blk b5 42 m.cells :: L) (fun w hs => hs) ?_
   refine Ae ?_
   refine Aa ?_
   refine rn1 ?_
   have hX : EB ({ (Ad l m.line) with last := ((Ad l m.line).last.set m.src.toNat m.serial), who := m.src, serial := m.serial, alone := m.kind == 2, turn := (Ad l m.line).turn + 1 }) := by unfold EB Entry.wf Ax; simp only; omega
   refine A1 Try.call68 rfl (fun w hs => Hc (e := { (Ad l m.line) with last := ((Ad l m.line).last.set m.src.toNat m.serial), who := m.src, serial := m.serial, alone := m.kind == 2, turn := (Ad l m.line).turn + 1 }) (u := v46) hs hX (by assumption)) ?_; intro _
   refine s_B (cs := (A3 ({ (Ad l m.line) with last := ((Ad l m.line).last.set m.src.toNat m.serial), who := m.src, serial := m.serial, alone := m.kind == 2, turn := (Ad l m.line).turn + 1 })).cells v46) Try.sizeOf58 ?_
   refine J.nil ?_
   refine As ?_
   refine Ae ?_
   refine sq ?_
   have er : Ai l id m = (l.set m.line.toNat (A3 ({ (Ad l m.line) with last := ((Ad l m.line).last.set m.src.toNat m.serial), who := m.src, serial := m.serial, alone := m.kind == 2, turn := (Ad l m.line).turn + 1 })), says (A3 ({ (Ad l m.line) with last := ((Ad l m.line).last.set m.src.toNat m.serial), who := m.src, serial := m.serial, alone := m.kind == 2, turn := (Ad l m.line).turn + 1 })) m.line id) := Dz (by omega) (by unfold Af; rw [if_pos (by omega), if_neg (by unfold C6; omega)]; rfl)
   refine JC.conseq (L' := blk b8 58 ((A3 ({ (Ad l m.line) with last := ((Ad l m.line).last.set m.src.toNat m.serial), who := m.src, serial := m.serial, alone := m.kind == 2, turn := (Ad l m.line).turn + 1 })).cells v46) :: blk b5 42 m.cells :: L) (fun w hs => Ag hs) ?_
   refine Al Ay (by kernel_rfl) (by kernel_rfl) (fun ρ S => blk b8 58 ((A3 ({ (Ad l m.line) with last := ((Ad l m.line).last.set m.src.toNat m.serial), who := m.src, serial := m.serial, alone := m.kind == 2, turn := (Ad l m.line).turn + 1 })).cells v46) :: blk b5 42 m.cells :: L) (fun _ => rfl) ?_
   refine dn4 ?_
   refine Cb (γ := Value) (val := fun v => v) (F := fun v => [sl v (l.set m.line.toNat (A3 ({ (Ad l m.line) with last := ((Ad l m.line).last.set m.src.toNat m.serial), who := m.src, serial := m.serial, alone := m.kind == 2, turn := (Ad l m.line).turn + 1 })))]) Try.call69 (fun _ => rfl) (fun ρ L R w hd hs => Bx (e := A3 ({ (Ad l m.line) with last := ((Ad l m.line).last.set m.src.toNat m.serial), who := m.src, serial := m.serial, alone := m.kind == 2, turn := (Ad l m.line).turn + 1 })) (u := v46) hs (hd.base mm) (by rw [Cw]; exact hd.base mm) (C1 hX).1 (by omega)) (fun _ _ _ _ _ => rfl) ?_
   refine dn4 ?_
   refine Cb (γ := Value) (val := fun v => v) (F := fun v => [sl v (says (A3 ({ (Ad l m.line) with last := ((Ad l m.line).last.set m.src.toNat m.serial), who := m.src, serial := m.serial, alone := m.kind == 2, turn := (Ad l m.line).turn + 1 })) m.line id)]) Try.call34 (fun _ => rfl) (fun ρ L R w hd hs => F3 (e := A3 ({ (Ad l m.line) with last := ((Ad l m.line).last.set m.src.toNat m.serial), who := m.src, serial := m.serial, alone := m.kind == 2, turn := (Ad l m.line).turn + 1 })) (u := v46) hs (C1 hX) (by assumption) hm.2.2.2.1 hid) (fun _ _ _ _ _ => rfl) ?_
   refine e_p (v := fun ρ => (Gh.dec (γ := Value) (ρ 4))) (fun _ _ => Cz) (Ind.gh (h := fun g => ((Gh.dec (γ := Value) g) : Value)) 4 0 rfl) (fun _ _ _ _ _ => rfl) ?_
   refine e_p (v := fun ρ => (Gh.dec (γ := Value) (ρ 9))) (fun _ _ => Cz) (Ind.gh (h := fun g => ((Gh.dec (γ := Value) g) : Value)) 9 0 rfl) (fun _ _ _ _ _ => rfl) ?_
   refine Aw ?_; intro ρ; simp only [Ao, facts, Bb, List.append_nil, List.nil_append, List.cons_append]
   refine JX.conseq (L' := blk b8 58 ((A3 ({ (Ad l m.line) with last := ((Ad l m.line).last.set m.src.toNat m.serial), who := m.src, serial := m.serial, alone := m.kind == 2, turn := (Ad l m.line).turn + 1 })).cells v46) :: blk b5 42 m.cells :: L) (fun w hs => hs) ?_
   generalize (Gh.dec (γ := Value) (ρ 4)) = v287
   generalize (Gh.dec (γ := Value) (ρ 9)) = v292
   refine Ae ?_
   refine rt ?_
   rw [er]
   refine Aj (.inr rfl) (fun B w hs => Ed rfl rfl rfl B w) (fun w hs => ⟨(v287, v292), ?_, Ag hs⟩)
   rfl
end Go.Proofs.Ytofgpimoekhfaaa

/- This file proves what the home hears, by the document's answer: some kinds of messages. No conditions. -/
set_option linter.unusedVariables false
set_option linter.unusedSimpArgs false
set_option maxHeartbeats 1000000
set_option maxRecDepth 8000
namespace Go.Proofs.Ytofgpimoekhfaaa
open Go
theorem Mv {L : List Chunk} {R : List Fact} {w : World} {v0 : Value} {l : List Entry} {id : Int} {m : Msg} (hs : St (L) R w) (h0 : sl v0 l ∈ R) (hb : ∀ i, i < l.length → EB (l.getD i Aq)) (hla : ∀ i, i < l.length → (l.getD i Aq).last.length ≤ 4) (hm : m.wf) (hid : Ax id) (hk : 0 ≤ m.line ∧ m.line < (l.length : Int) ∧ 0 ≤ m.src ∧ m.src < ((Ad l m.line).last.length : Int) ∧ m.kind = 2) : Calls Try.prog 30 [v0, vi id, .agg m.cells.toArray].toArray w (C2 (fun v : Value × Value => .tuple #[v.1, v.2]) (fun v => L) (fun v => sl v.1 (Ai l id m).1 :: sl v.2 (Ai l id m).2 :: R)) := by
  have hlen := Bv h0 hs
  have hm0 := hm
  unfold Msg.wf Ax at hm0
  have hid0 := hid
  unfold Ax at hid0
  refine Au Try.func30 rfl Try.ntmps30 rfl hs ?_
  clear hs
  refine sr ?_
  refine bx ?_; intro b5
  refine rn2 ?_
  refine nx ?_
  refine Dx (v := v0) m.line mm (by omega) (by omega) (fun hEw u => ?_)
  have hE : EB (Ad l m.line) := hb m.line.toNat (by omega)
  have hE0 := hE
  unfold EB Entry.wf Ax at hE0
  have hL : (Ad l m.line).last.length ≤ 4 := hla m.line.toNat (by omega)
  refine JC.know (p := u.oneCell' = true) (fun w hs => isSlice.one (hs.fact (.tail _ (.head _)))) (fun hone => ?_)
  refine JC.know (p := ∀ x ∈ (Ad l m.line).last, Ax x) (fun w hs => Dy (.tail _ (.head _)) hs) (fun hlin => ?_)
  refine Al Ay (by kernel_rfl) (by kernel_rfl) (fun _ _ => _) (fun _ => rfl) ?_
  refine dn2 ?_
  refine dj ?_
  first | refine dc (fun _ _ => Ah rfl rfl (Az (by omega))) ?_
  refine dj ?_
  first | refine dc (fun _ _ => Bh) ?_
  refine dn4 ?_
  refine dj (dgy ?_)
  first | refine dc (fun _ _ => Ah rfl rfl (Bd (by omega))) ?_
  refine dj ?_
  first | refine dc (fun _ _ => Bp) ?_
  refine dj ?_
  first | refine dc (fun _ _ => Bh) ?_
  refine dn2 ?_
  refine dj (dgy ?_)
  first | refine dc (fun _ _ => Ah rfl rfl (Az (by omega))) ?_
  refine dj ?_
  first | refine dc (fun _ _ => Bp) ?_
  refine dj ?_
  first | refine dc (fun _ _ => Bh) ?_
  refine dn9 ?_
  refine dj (dgy ?_)
  first | refine dc (fun _ _ => Ah rfl rfl (Bd (show ¬ ((Ad l m.line).last.length : Int) ≤ m.src by omega))) ?_
  refine dj ?_
  first | refine dc (fun _ _ => Bp) ?_
  refine Aw ?_; intro ρ; simp only [Ao, facts, Bb, List.append_nil, List.nil_append, List.cons_append]
  refine Ae ?_
  refine sq ?_
  refine cF_ ?_
  refine Ak ?_
  refine Ae ?_
  refine sr ?_
  refine rn5 ?_
  refine al_ (cs := zEC) Try.zeroValue58 ?_; intro b8
  refine s_B (cs := Entry.cells u (Ad l m.line)) Try.sizeOf58 ?_
  refine nx ?_
  refine kp [0, 1, 5, 6, 7, 8, 9, 43, 44, 45, 46] ?_
  refine Aa ?_
  refine liO ([] : List Int) D6 rfl (fun j h => Fu) ?_; intro v43
  refine rn2 ?_
  refine ap D6 (hb := fun w hs => by have : maxN = 16777216 := rfl; simp only [List.length_nil]; omega) (k := ?_); intro v46
  refine rn1 ?_
  refine nr ?_
  refine rn2 ?_
  refine nx ?_
  refine Av ?_
  refine sr ?_
  refine ob (Ah rfl rfl (An (by omega))) ?_
  refine rn1 ?_
  refine nx ?_
  refine cF_ ?_
  refine Aa ?_
  refine ob (Ah rfl rfl (A2 (by omega))) ?_
  refine rn1 ?_
  refine nx ?_
  refine cT ?_
  refine sq ?_
  rcases (show ((Ad l m.line).phase ≠ 0) ∨ ((Ad l m.line).phase = 0 ∧ m.serial ≤ (Ad l m.line).last.getD m.src.toNat 0) ∨ ((Ad l m.line).phase = 0 ∧ (Ad l m.line).last.getD m.src.toNat 0 < m.serial ∧ 65535 ≤ (Ad l m.line).turn) ∨ ((Ad l m.line).phase = 0 ∧ (Ad l m.line).last.getD m.src.toNat 0 < m.serial ∧ (Ad l m.line).turn < 65535) from by omega) with hc | hc | hc | hc
  ·
   refine Al Ay (by kernel_rfl) (by kernel_rfl) (fun _ _ => _) (fun _ => rfl) ?_
   refine dn2 ?_
   refine dj ?_
   first | refine dc (fun _ _ => Ah rfl rfl (C0 (by omega))) ?_
   refine dj ?_
   first | refine dc (fun _ _ => Bh) ?_
   refine dn8 ?_
   refine dj ?_
   first | refine dc (fun _ _ => Ew) ?_
   refine dj ?_
   first | refine dc (fun _ _ => Bh) ?_
   refine dn3 ?_
   refine dj ?_
   first | refine dc (fun _ _ => Ew) ?_
   refine Aw ?_; intro ρ; simp only [Ao, facts, Bb, List.append_nil, List.nil_append, List.cons_append]
   refine Ae ?_
   refine sq ?_
   refine cT ?_
   refine sr ?_
   refine rn3 ?_
   refine nx ?_
   refine rt ?_
   have er : Ai l id m = (l, []) := Cu (by omega) (by unfold Af; rw [if_pos (by omega), if_pos (by unfold C6; omega)])
   rw [er]
   refine Aj (.inr rfl) (fun B w hs => Ed rfl rfl rfl B w) (fun w hs => ⟨(v0, .slice none 0 0), ?_, Ag (St.shut (hs.rowNil 42 Msg))⟩)
   rfl
  ·
   refine Al Ay (by kernel_rfl) (by kernel_rfl) (fun _ _ => _) (fun _ => rfl) ?_
   refine dn2 ?_
   refine dj ?_
   first | refine dc (fun _ _ => Ah rfl rfl (Bu (by omega))) ?_
   refine dj ?_
   first | refine dc (fun _ _ => Bh) ?_
   refine dn6 ?_
   refine dj (dgy ?_)
   refine dc (fun _ _ => Dn (hc := Di (xs := (Ad l m.line).last) pkk (by omega)) Try.isAgg3) ?_
   refine dj (dgy ?_)
   first | refine dc (fun _ _ => Ah rfl rfl (Ka (by omega))) ?_
   refine dj ?_
   first | refine dc (fun _ _ => Bp) ?_
   refine dj ?_
   first | refine dc (fun _ _ => Bh) ?_
   refine dn3 ?_
   refine dj ?_
   first | refine dc (fun _ _ => Ew) ?_
   refine Aw ?_; intro ρ; simp only [Ao, facts, Bb, List.append_nil, List.nil_append, List.cons_append]
   refine Ae ?_
   refine sq ?_
   refine cT ?_
   refine sr ?_
   refine rn3 ?_
   refine nx ?_
   refine rt ?_
   have er : Ai l id m = (l, []) := Cu (by omega) (by unfold Af; rw [if_pos (by omega), if_pos (by unfold C6; omega)])
   rw [er]
   refine Aj (.inr rfl) (fun B w hs => Ed rfl rfl rfl B w) (fun w hs => ⟨(v0, .slice none 0 0), ?_, Ag (St.shut (hs.rowNil 42 Msg))⟩)
   rfl
  ·
   refine Al Ay (by kernel_rfl) (by kernel_rfl) (fun _ _ => _) (fun _ => rfl) ?_
   refine dn2 ?_
   refine dj ?_
   first | refine dc (fun _ _ => Ah rfl rfl (Bu (by omega))) ?_
   refine dj ?_
   first | refine dc (fun _ _ => Bh) ?_
   refine dn6 ?_
   refine dj (dgy ?_)
   refine dc (fun _ _ => Dn (hc := Di (xs := (Ad l m.line).last) pkk (by omega)) Try.isAgg3) ?_
   refine dj (dgy ?_)
   first | refine dc (fun _ _ => Ah rfl rfl (E4 (by omega))) ?_
   refine dj ?_
   first | refine dc (fun _ _ => Bp) ?_
   refine dj ?_
   first | refine dc (fun _ _ => Bh) ?_
   refine dn2 ?_
   refine dj (dgy ?_)
   first | refine dc (fun _ _ => Ah rfl rfl (D7 (by omega))) ?_
   refine dj ?_
   first | refine dc (fun _ _ => Bp) ?_
   refine Aw ?_; intro ρ; simp only [Ao, facts, Bb, List.append_nil, List.nil_append, List.cons_append]
   refine Ae ?_
   refine sq ?_
   refine cT ?_
   refine sr ?_
   refine rn3 ?_
   refine nx ?_
   refine rt ?_
   have er : Ai l id m = (l, []) := Cu (by omega) (by unfold Af; rw [if_pos (by omega), if_pos (by unfold C6; omega)])
   rw [er]
   refine Aj (.inr rfl) (fun B w hs => Ed rfl rfl rfl B w) (fun w hs => ⟨(v0, .slice none 0 0), ?_, Ag (St.shut (hs.rowNil 42 Msg))⟩)
   rfl
  ·
   refine Al Ay (by kernel_rfl) (by kernel_rfl) (fun _ _ => _) (fun _ => rfl) ?_
   refine dn2 ?_
   refine dj ?_
   first | refine dc (fun _ _ => Ah rfl rfl (Bu (by omega))) ?_
   refine dj ?_
   first | refine dc (fun _ _ => Bh) ?_
   refine dn6 ?_
   refine dj (dgy ?_)
   refine dc (fun _ _ => Dn (hc := Di (xs := (Ad l m.line).last) pkk (by omega)) Try.isAgg3) ?_
   refine dj (dgy ?_)
   first | refine dc (fun _ _ => Ah rfl rfl (E4 (by omega))) ?_
   refine dj ?_
   first | refine dc (fun _ _ => Bp) ?_
   refine dj ?_
   first | refine dc (fun _ _ => Bh) ?_
   refine dn2 ?_
   refine dj (dgy ?_)
   first | refine dc (fun _ _ => Ah rfl rfl (Bd (by omega))) ?_
   refine dj ?_
   first | refine dc (fun _ _ => Bp) ?_
   refine Aw ?_; intro ρ; simp only [Ao, facts, Bb, List.append_nil, List.nil_append, List.cons_append]
   refine Ae ?_
   refine sq ?_
   refine cF_ ?_
   refine Ak ?_
   refine Ae ?_
   refine sr ?_
   refine rn6 ?_
   refine Fb (xs := (Ad l m.line).last) Try.sizeOf3 rfl rfl pkk (getD_some 0 (by omega)) hm.2.2.2.2.1 ?_
   refine nx ?_
   refine JC.shut (v := v46) pkk ?_
   refine JC.know (p := v46.oneCell' = true) (fun w hs => isSlice.one (hs.fact (List.Mem.head _))) (fun hone9 => ?_)
   refine kp [0, 1, 5, 6, 7, 8, 9, 48, 78, 79, 80, 81, 82, 83, 84, 85, 86, 87, 88, 89, 90, 91, 92, 93] ?_
   refine JC.conseq (L' := blk b8 58 [vi (Ad l m.line).value, vi (Ad l m.line).owner, vi (Ad l m.line).sharers, vi (Ad l m.line).phase, vi (Ad l m.line).who, vi (Ad l m.line).serial, .bool (Ad l m.line).alone, vi (Ad l m.line).turn, vi (Ad l m.line).need, u] :: blk b5 42 m.cells :: L) (fun w hs => Ag hs) ?_
   refine Al Ay (by kernel_rfl) (by kernel_rfl) (fun ρ S => blk b8 58 (bif S 20 then [vi (Ad l m.line).value, vi (Ad l m.line).owner, vi (Ad l m.line).sharers, vi (Ad l m.line).phase, vi m.src, vi m.serial, .bool (decide (m.kind = 2)), vi ((Ad l m.line).turn + 1), vi (Ad l m.line).need, v46] else (bif S 18 then [vi (Ad l m.line).value, vi (Ad l m.line).owner, vi (Ad l m.line).sharers, vi (Ad l m.line).phase, vi m.src, vi m.serial, .bool (decide (m.kind = 2)), vi (Ad l m.line).turn, vi (Ad l m.line).need, v46] else (bif S 16 then [vi (Ad l m.line).value, vi (Ad l m.line).owner, vi (Ad l m.line).sharers, vi (Ad l m.line).phase, vi m.src, vi m.serial, .bool (Ad l m.line).alone, vi (Ad l m.line).turn, vi (Ad l m.line).need, v46] else (bif S 14 then [vi (Ad l m.line).value, vi (Ad l m.line).owner, vi (Ad l m.line).sharers, vi (Ad l m.line).phase, vi m.src, vi (Ad l m.line).serial, .bool (Ad l m.line).alone, vi (Ad l m.line).turn, vi (Ad l m.line).need, v46] else (bif S 12 then [vi (Ad l m.line).value, vi (Ad l m.line).owner, vi (Ad l m.line).sharers, vi (Ad l m.line).phase, vi (Ad l m.line).who, vi (Ad l m.line).serial, .bool (Ad l m.line).alone, vi (Ad l m.line).turn, vi (Ad l m.line).need, v46] else [vi (Ad l m.line).value, vi (Ad l m.line).owner, vi (Ad l m.line).sharers, vi (Ad l m.line).phase, vi (Ad l m.line).who, vi (Ad l m.line).serial, .bool (Ad l m.line).alone, vi (Ad l m.line).turn, vi (Ad l m.line).need, u]))))) :: blk b5 42 m.cells :: L) (fun _ => rfl) ?_
   refine dn9 ?_
   refine K4 (v := vi (Ad l m.line).turn) (fun ρ S hS hB hA => by have h20 : S 20 = false := hA 20 ⟨0, rfl⟩; simp only [h20, cond_false]; exact Dn (hc := Bc pkk (by repeat (first | exact rfl | refine Ec rfl ?_))) Try.isAgg3) (fun _ _ _ _ _ => rfl) ?_
   first | refine Dl (fun _ _ => D9) (fun _ _ _ _ _ => rfl) ?_ | refine Dl (fun _ _ => E7) (fun _ _ _ _ _ => rfl) ?_ | refine e_p (fun _ _ => D9) (by first | exact Ind.const _ | exact fun _ _ _ _ _ => rfl | exact Ind.self | exact Ind.gh _ 3 rfl) (fun _ _ _ _ _ => rfl) ?_ | refine e_p (fun _ _ => E7) (by first | exact Ind.const _ | exact fun _ _ _ _ _ => rfl | exact Ind.self | exact Ind.gh _ 3 rfl) (fun _ _ _ _ _ => rfl) ?_
   refine dn1 ?_
   refine Be (T0 := 58) (f := 9) (vs := fun ρ => [vi (Ad l m.line).value, vi (Ad l m.line).owner, vi (Ad l m.line).sharers, vi (Ad l m.line).phase, vi (Ad l m.line).who, vi (Ad l m.line).serial, .bool (Ad l m.line).alone, vi (Ad l m.line).turn, vi (Ad l m.line).need, u]) (us := fun ρ => [v46]) (sz := 1) (fun ρ => b8) Try.sizeOf56 (fun _ => rfl) (fun _ => rfl) (fun _ => F0 hone9) (fun _ => rfl) (fun ρ R w L' hd hs u hu => by cases List.mem_singleton.1 hu; exact hone9) (fun _ => rfl) (fun ρ g S hS hB hA => ?_) ?_
   ·
    have ui : upS S 12 12 = true := rfl; have u14 : upS S 12 14 = S 14 := rfl; have u16 : upS S 12 16 = S 16 := rfl; have u18 : upS S 12 18 = S 18 := rfl; have u20 : upS S 12 20 = S 20 := rfl; have h14 : S 14 = false := hA 14 ⟨0, rfl⟩; have h16 : S 16 = false := hA 16 ⟨0, rfl⟩; have h18 : S 18 = false := hA 18 ⟨0, rfl⟩; have h20 : S 20 = false := hA 20 ⟨0, rfl⟩
    simp only [ui, hS, u14, u16, u18, u20, h14, h16, h18, h20, cond_true, cond_false]
    exact Pos.ex (by repeat (first | exact .hd | exact .hc | apply Pos.tl | apply Pos.ap))
   refine dn1 ?_
   refine Be (T0 := 58) (f := 4) (vs := fun ρ => [vi (Ad l m.line).value, vi (Ad l m.line).owner, vi (Ad l m.line).sharers, vi (Ad l m.line).phase, vi (Ad l m.line).who, vi (Ad l m.line).serial, .bool (Ad l m.line).alone, vi (Ad l m.line).turn, vi (Ad l m.line).need, v46]) (us := fun ρ => [vi m.src]) (sz := 1) (fun ρ => b8) Try.sizeOf3 (fun _ => rfl) (fun _ => rfl) (fun _ => rfl) (fun _ => rfl) (fun ρ R w L' hd hs u hu => by revert u hu; simp [Value.oneCell', Config.cells, Msg.cells, Line.cells, Op.cells, Done.cells, Step.cells]) (fun _ => rfl) (fun ρ g S hS hB hA => ?_) ?_
   ·
    have ui : upS S 14 14 = true := rfl; have u12 : upS S 14 12 = S 12 := rfl; have u16 : upS S 14 16 = S 16 := rfl; have u18 : upS S 14 18 = S 18 := rfl; have u20 : upS S 14 20 = S 20 := rfl; have h12 : S 12 = true := hB 12 ⟨0, rfl⟩; have h16 : S 16 = false := hA 16 ⟨0, rfl⟩; have h18 : S 18 = false := hA 18 ⟨0, rfl⟩; have h20 : S 20 = false := hA 20 ⟨0, rfl⟩
    simp only [ui, hS, u12, u16, u18, u20, h12, h16, h18, h20, cond_true, cond_false]
    exact Pos.ex (by repeat (first | exact .hd | exact .hc | apply Pos.tl | apply Pos.ap))
   refine dn1 ?_
   refine Be (T0 := 58) (f := 5) (vs := fun ρ => [vi (Ad l m.line).value, vi (Ad l m.line).owner, vi (Ad l m.line).sharers, vi (Ad l m.line).phase, vi m.src, vi (Ad l m.line).serial, .bool (Ad l m.line).alone, vi (Ad l m.line).turn, vi (Ad l m.line).need, v46]) (us := fun ρ => [vi m.serial]) (sz := 1) (fun ρ => b8) Try.sizeOf3 (fun _ => rfl) (fun _ => rfl) (fun _ => rfl) (fun _ => rfl) (fun ρ R w L' hd hs u hu => by revert u hu; simp [Value.oneCell', Config.cells, Msg.cells, Line.cells, Op.cells, Done.cells, Step.cells]) (fun _ => rfl) (fun ρ g S hS hB hA => ?_) ?_
   ·
    have ui : upS S 16 16 = true := rfl; have u12 : upS S 16 12 = S 12 := rfl; have u14 : upS S 16 14 = S 14 := rfl; have u18 : upS S 16 18 = S 18 := rfl; have u20 : upS S 16 20 = S 20 := rfl; have h12 : S 12 = true := hB 12 ⟨0, rfl⟩; have h14 : S 14 = true := hB 14 ⟨0, rfl⟩; have h18 : S 18 = false := hA 18 ⟨0, rfl⟩; have h20 : S 20 = false := hA 20 ⟨0, rfl⟩
    simp only [ui, hS, u12, u14, u18, u20, h12, h14, h18, h20, cond_true, cond_false]
    exact Pos.ex (by repeat (first | exact .hd | exact .hc | apply Pos.tl | apply Pos.ap))
   refine dn1 ?_
   refine Be (T0 := 58) (f := 6) (vs := fun ρ => [vi (Ad l m.line).value, vi (Ad l m.line).owner, vi (Ad l m.line).sharers, vi (Ad l m.line).phase, vi m.src, vi m.serial, .bool (Ad l m.line).alone, vi (Ad l m.line).turn, vi (Ad l m.line).need, v46]) (us := fun ρ => [.bool (decide (m.kind = 2))]) (sz := 1) (fun ρ => b8) Try.sizeOf4 (fun _ => rfl) (fun _ => rfl) (fun _ => rfl) (fun _ => rfl) (fun ρ R w L' hd hs u hu => by revert u hu; simp [Value.oneCell', Config.cells, Msg.cells, Line.cells, Op.cells, Done.cells, Step.cells]) (fun _ => rfl) (fun ρ g S hS hB hA => ?_) ?_
   ·
    have ui : upS S 18 18 = true := rfl; have u12 : upS S 18 12 = S 12 := rfl; have u14 : upS S 18 14 = S 14 := rfl; have u16 : upS S 18 16 = S 16 := rfl; have u20 : upS S 18 20 = S 20 := rfl; have h12 : S 12 = true := hB 12 ⟨0, rfl⟩; have h14 : S 14 = true := hB 14 ⟨0, rfl⟩; have h16 : S 16 = true := hB 16 ⟨0, rfl⟩; have h20 : S 20 = false := hA 20 ⟨0, rfl⟩
    simp only [ui, hS, u12, u14, u16, u20, h12, h14, h16, h20, cond_true, cond_false]
    exact Pos.ex (by repeat (first | exact .hd | exact .hc | apply Pos.tl | apply Pos.ap))
   refine dn1 ?_
   refine Be (T0 := 58) (f := 7) (vs := fun ρ => [vi (Ad l m.line).value, vi (Ad l m.line).owner, vi (Ad l m.line).sharers, vi (Ad l m.line).phase, vi m.src, vi m.serial, .bool (decide (m.kind = 2)), vi (Ad l m.line).turn, vi (Ad l m.line).need, v46]) (us := fun ρ => [vi ((Ad l m.line).turn + 1)]) (sz := 1) (fun ρ => b8) Try.sizeOf3 (fun _ => rfl) (fun _ => rfl) (fun _ => rfl) (fun _ => rfl) (fun ρ R w L' hd hs u hu => by revert u hu; simp [Value.oneCell', Config.cells, Msg.cells, Line.cells, Op.cells, Done.cells, Step.cells]) (fun _ => rfl) (fun ρ g S hS hB hA => ?_) ?_
   ·
    have ui : upS S 20 20 = true := rfl; have u12 : upS S 20 12 = S 12 := rfl; have u14 : upS S 20 14 = S 14 := rfl; have u16 : upS S 20 16 = S 16 := rfl; have u18 : upS S 20 18 = S 18 := rfl; have h12 : S 12 = true := hB 12 ⟨0, rfl⟩; have h14 : S 14 = true := hB 14 ⟨0, rfl⟩; have h16 : S 16 = true := hB 16 ⟨0, rfl⟩; have h18 : S 18 = true := hB 18 ⟨0, rfl⟩
    simp only [ui, hS, u12, u14, u16, u18, h12, h14, h16, h18, cond_true, cond_false]
    exact Pos.ex (by repeat (first | exact .hd | exact .hc | apply Pos.tl | apply Pos.ap))
   refine Aw ?_; intro ρ; simp only [Ao, facts, Bb, List.append_nil, List.nil_append, List.cons_append]
   refine JX.conseq (L' := blk b8 58 [vi (Ad l m.line).value, vi (Ad l m.line).owner, vi (Ad l m.line).sharers, vi (Ad l m.line).phase, vi m.src, vi m.serial, .bool (decide (m.kind = 2)), vi ((Ad l m.line).turn + 1), vi (Ad l m.line).need, v46] :: blk b5 42 m.cells :: L) (fun w hs => hs) ?_
   refine Ae ?_
   refine Aa ?_
   refine rn1 ?_
   have hX : EB ({ (Ad l m.line) with last := ((Ad l m.line).last.set m.src.toNat m.serial), who := m.src, serial := m.serial, alone := m.kind == 2, turn := (Ad l m.line).turn + 1 }) := by unfold EB Entry.wf Ax; simp only; omega
   refine A1 Try.call68 rfl (fun w hs => Hc (e := { (Ad l m.line) with last := ((Ad l m.line).last.set m.src.toNat m.serial), who := m.src, serial := m.serial, alone := m.kind == 2, turn := (Ad l m.line).turn + 1 }) (u := v46) hs hX (by assumption)) ?_; intro _
   refine s_B (cs := (A3 ({ (Ad l m.line) with last := ((Ad l m.line).last.set m.src.toNat m.serial), who := m.src, serial := m.serial, alone := m.kind == 2, turn := (Ad l m.line).turn + 1 })).cells v46) Try.sizeOf58 ?_
   refine J.nil ?_
   refine As ?_
   refine Ae ?_
   refine sq ?_
   have er : Ai l id m = (l.set m.line.toNat (A3 ({ (Ad l m.line) with last := ((Ad l m.line).last.set m.src.toNat m.serial), who := m.src, serial := m.serial, alone := m.kind == 2, turn := (Ad l m.line).turn + 1 })), says (A3 ({ (Ad l m.line) with last := ((Ad l m.line).last.set m.src.toNat m.serial), who := m.src, serial := m.serial, alone := m.kind == 2, turn := (Ad l m.line).turn + 1 })) m.line id) := Dz (by omega) (by unfold Af; rw [if_pos (by omega), if_neg (by unfold C6; omega)]; rfl)
   refine JC.conseq (L' := blk b8 58 ((A3 ({ (Ad l m.line) with last := ((Ad l m.line).last.set m.src.toNat m.serial), who := m.src, serial := m.serial, alone := m.kind == 2, turn := (Ad l m.line).turn + 1 })).cells v46) :: blk b5 42 m.cells :: L) (fun w hs => Ag hs) ?_
   refine Al Ay (by kernel_rfl) (by kernel_rfl) (fun ρ S => blk b8 58 ((A3 ({ (Ad l m.line) with last := ((Ad l m.line).last.set m.src.toNat m.serial), who := m.src, serial := m.serial, alone := m.kind == 2, turn := (Ad l m.line).turn + 1 })).cells v46) :: blk b5 42 m.cells :: L) (fun _ => rfl) ?_
   refine dn4 ?_
   refine Cb (γ := Value) (val := fun v => v) (F := fun v => [sl v (l.set m.line.toNat (A3 ({ (Ad l m.line) with last := ((Ad l m.line).last.set m.src.toNat m.serial), who := m.src, serial := m.serial, alone := m.kind == 2, turn := (Ad l m.line).turn + 1 })))]) Try.call69 (fun _ => rfl) (fun ρ L R w hd hs => Bx (e := A3 ({ (Ad l m.line) with last := ((Ad l m.line).last.set m.src.toNat m.serial), who := m.src, serial := m.serial, alone := m.kind == 2, turn := (Ad l m.line).turn + 1 })) (u := v46) hs (hd.base mm) (by rw [Cw]; exact hd.base mm) (C1 hX).1 (by omega)) (fun _ _ _ _ _ => rfl) ?_
   refine dn4 ?_
   refine Cb (γ := Value) (val := fun v => v) (F := fun v => [sl v (says (A3 ({ (Ad l m.line) with last := ((Ad l m.line).last.set m.src.toNat m.serial), who := m.src, serial := m.serial, alone := m.kind == 2, turn := (Ad l m.line).turn + 1 })) m.line id)]) Try.call34 (fun _ => rfl) (fun ρ L R w hd hs => F3 (e := A3 ({ (Ad l m.line) with last := ((Ad l m.line).last.set m.src.toNat m.serial), who := m.src, serial := m.serial, alone := m.kind == 2, turn := (Ad l m.line).turn + 1 })) (u := v46) hs (C1 hX) (by assumption) hm.2.2.2.1 hid) (fun _ _ _ _ _ => rfl) ?_
   refine e_p (v := fun ρ => (Gh.dec (γ := Value) (ρ 4))) (fun _ _ => Cz) (Ind.gh (h := fun g => ((Gh.dec (γ := Value) g) : Value)) 4 0 rfl) (fun _ _ _ _ _ => rfl) ?_
   refine e_p (v := fun ρ => (Gh.dec (γ := Value) (ρ 9))) (fun _ _ => Cz) (Ind.gh (h := fun g => ((Gh.dec (γ := Value) g) : Value)) 9 0 rfl) (fun _ _ _ _ _ => rfl) ?_
   refine Aw ?_; intro ρ; simp only [Ao, facts, Bb, List.append_nil, List.nil_append, List.cons_append]
   refine JX.conseq (L' := blk b8 58 ((A3 ({ (Ad l m.line) with last := ((Ad l m.line).last.set m.src.toNat m.serial), who := m.src, serial := m.serial, alone := m.kind == 2, turn := (Ad l m.line).turn + 1 })).cells v46) :: blk b5 42 m.cells :: L) (fun w hs => hs) ?_
   generalize (Gh.dec (γ := Value) (ρ 4)) = v287
   generalize (Gh.dec (γ := Value) (ρ 9)) = v292
   refine Ae ?_
   refine rt ?_
   rw [er]
   refine Aj (.inr rfl) (fun B w hs => Ed rfl rfl rfl B w) (fun w hs => ⟨(v287, v292), ?_, Ag hs⟩)
   rfl
end Go.Proofs.Ytofgpimoekhfaaa
