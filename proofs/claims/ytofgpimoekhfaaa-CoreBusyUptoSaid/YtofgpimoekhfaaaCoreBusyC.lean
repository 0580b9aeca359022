/- This file proves the law CoreBusy, where what it reads is of bulk at most 1048576: what its walk tells, said as data. Condition: the bulk. -/
import Derived.Test.YtofgpimoekhfaaaCoM1
import Derived.Test.YtofgpimoekhfaaaCoM5
import Derived.WalkKit
set_option linter.unusedVariables false
set_option linter.unusedSimpArgs false
namespace Go.Proofs.Ytofgpimoekhfaaa.coreBusy
open Go Go.ChangeShapes Go.WideShapes Go.ChangeAt Go.RowKit
set_option maxRecDepth 100000 in
theorem contract (H : Type) (enc : TypeId × Value → H) (W : World) (base : Nat) (args : Array Value) (ds gs : List (DataW H)) (before : List MemPlace)
  (hval : ∀ (j : Nat) t v, Try.f12.params[j]? = some t → args[j]? = some v → Value.okWide Try.prog W .any base t v)
  (hW : DataW.Whole enc Try.prog Try.f12.params.toList Rows.coreBusySpec.vars false W args.toList ds gs before) (hk : Rows.uptoSmall H (ds ++ gs) = true) :
  Calls Try.prog 12 args W fun e W' => ∃ v, e = .returned v ∧ Rows.coreBusySpec.post enc Try.prog Try.f12 false true false false W args v W' := by
 have hW' := hW
 obtain ⟨p, q, hA0, hV, rfl, hfz, hnd⟩ := hW
 obtain ⟨rfl, rfl⟩ := trodVars_none hV
 have hA : DataW.TrodAll enc Try.prog W 0 (fun _ => true) true Try.f12.params.toList args.toList ds p := hA0
 rw [Try.params12] at hA hval
 clear hA0
 obtain ⟨v0, vs0, d0, ds0, p0, q0, hargs, rfl, rfl, h0, r0⟩ := trodAll_cons hA
 obtain ⟨v1, vs1, d1, ds1, p1, q1, rfl, rfl, rfl, h1, r1⟩ := trodAll_cons r0
 obtain ⟨v2, vs2, d2, ds2, p2, q2, rfl, rfl, rfl, h2, r2⟩ := trodAll_cons r1
 obtain ⟨v3, vs3, d3, ds3, p3, q3, rfl, rfl, rfl, h3, r3⟩ := trodAll_cons r2
 obtain ⟨rfl, rfl, rfl⟩ := trodAll_nil r3
 obtain rfl : args = #[v0, v1, v2, v3] := by cases args; simp_all
 obtain ⟨x0, c0, rfl, g0, w0⟩ := Ds (α := Config) Try.underlying39 Jh (hval 0 39 v0 rfl rfl) h0 (C5 hk (d := d0) (by simp))
 obtain rfl : c0 = x0.cells.toArray := by rw [← g0]
 obtain ⟨x1, s1, l1⟩ := Ih (α := Step) Try.underlying40 Jg (hval 1 40 v1 rfl rfl) h1 (C5 hk (d := d1) (by simp))
 obtain ⟨x2, rfl, w2⟩ := Md Try.underlying3 (hval 2 3 v2 rfl rfl) h2
 obtain ⟨x3, c3, rfl, g3, w3⟩ := Ds (α := Op) Try.underlying66 Lj (hval 3 66 v3 rfl rfl) h3 (C5 hk (d := d3) (by simp))
 obtain rfl : c3 = x3.cells.toArray := by rw [← g3]
 have hst := St.begin W
 have hkeep : J8 W ∈ [J8 W] := List.Mem.head _
 replace hst := hst.learn hkeep s1
 replace hkeep := List.mem_cons_of_mem (sl v1 x1) hkeep
 refine (L4 hst (List.Mem.head _) w0 w3).mono fun e W' hpost => ?_
 obtain ⟨_, rfl, hend⟩ := hpost
 exact ⟨_, rfl, Ha kids full (by rw [Try.params12]; decide) rfl Try.underlying4 rfl ⟨rfl, rfl, rfl⟩ hW' (Jm hkeep hend)⟩
set_option maxRecDepth 100000 in
theorem lifted (os : Os) (started : os.Started) (H : Type) (enc : TypeId × Value → H) (F : Stop.Interp) :
  ReturnsInHanded {} Try.checked os 12 .any ((Rows.OpenSpec.upto Rows.coreBusySpec).pre6 enc Try.prog Try.f12 Rows.coreBusyUptoRow.domain false) (((Rows.OpenSpec.upto Rows.coreBusySpec).at F).post enc Try.prog Try.f12 false true false false) := by
 refine returnsInHanded_of_cond (C := Try.checked) (s := Rows.OpenSpec.upto Rows.coreBusySpec) (k := Rows.uptoSmall) rfl own started (by kernel_rfl) Try.func12
  (OpenSpec.witness (enc := enc) (C := Try.checked) (s := Rows.OpenSpec.upto Rows.coreBusySpec) (k := Rows.uptoSmall) rfl false ⟨#[], #[.agg #[.int .i64 0, .int .i64 0], .slice none 0 0, .int .i64 0, .agg #[.int .i64 0, .int .i64 0, .int .i64 0]], []⟩ 8 (by kernel_rfl) (by kernel_rfl) (by kernel_rfl)
   (x := ([.agg [.lit (.int .i64 0), .lit (.int .i64 0)], .nil, .lit (.int .i64 0), .agg [.lit (.int .i64 0), .lit (.int .i64 0), .lit (.int .i64 0)]], [], [])) (by kernel_rfl) rfl (by kernel_rfl)) ?_
 intro W base args ds gs before hval hW _ hk _
 exact contract H enc W base args ds gs before hval hW hk
theorem closed1 : OpenClaim.wf (OpenSpec.ofChange (Rows.OpenSpec.upto Rows.coreBusySpec).bare) Rows.coreBusyUptoRow = true := by kernel_rfl
theorem closed10 : (Rows.coreBusyUptoRow.inPlace == Try.prog.inPlace 12) = true := by kernel_rfl
theorem closed11 : (Rows.coreBusyUptoRow.unfollowed == Try.prog.unfollowed 12) = true := by kernel_rfl
theorem closed12 : (Rows.coreBusyUptoRow.recurses == Try.prog.recurses 12) = true := by kernel_rfl
theorem closed13 : (Rows.coreBusyUptoRow.named == Try.prog.varsNamed 12) = true := by kernel_rfl
set_option maxRecDepth 100000 in
theorem closed : joinedFacts Try.prog 12 Try.f12 (Rows.OpenSpec.upto Rows.coreBusySpec).bare Rows.coreBusyUptoRow = true := by
 simp only [joinedFacts, Bool.and_eq_true]
 exact ⟨⟨⟨⟨⟨⟨⟨⟨⟨⟨⟨⟨⟨⟨⟨⟨⟨⟨⟨⟨⟨⟨⟨⟨⟨⟨⟨⟨⟨⟨⟨closed1, H1⟩, G5⟩, by kernel_rfl⟩, by kernel_rfl⟩, rfl⟩, G3⟩, rfl⟩, G7⟩, closed10⟩, closed11⟩, closed12⟩, closed13⟩, by kernel_rfl⟩, by kernel_rfl⟩, by kernel_rfl⟩, by kernel_rfl⟩, by kernel_rfl⟩, by kernel_rfl⟩, by kernel_rfl⟩, by kernel_rfl⟩, by kernel_rfl⟩, by rw [G4]; rfl⟩, rfl⟩, F3⟩, H0⟩, by rw [Lo]; rfl⟩, by rw [Lq]; rfl⟩, by kernel_rfl⟩, by kernel_rfl⟩, by kernel_rfl⟩, by kernel_rfl⟩
theorem the_name : Try.prog.funcNamed Rows.coreBusyUptoRow.func = some 12 := by kernel_rfl
theorem proved : Rows.CoreBusyUptoSaid :=
 OpenClaim.holds_of_cond 12 Try.f12 rfl rfl rfl rfl rfl rfl rfl ⟨rfl, rfl, rfl, rfl, rfl⟩ rfl rfl rfl rfl rfl the_name Try.func12 closed
  (of_decide_eq_true (by kernel_rfl)) (by unfold Func.isWrapper; first | (rw [if_pos (by decide +kernel)]; kernel_rfl) | (rw [if_neg (by decide +kernel)]; exact ⟨rfl, rfl⟩))
  (fun os started H enc _ F => lifted os started H enc F)
end Go.Proofs.Ytofgpimoekhfaaa.coreBusy
