/- This file proves the law HomeOne, where what it reads is of bulk at most 1048576: what its walk tells, said as data. Condition: the bulk. -/
import Derived.Test.YtofgpimoekhfaaaHoM1
import Derived.Test.YtofgpimoekhfaaaHoM6
import Derived.WalkKit
set_option linter.unusedVariables false
set_option linter.unusedSimpArgs false
namespace Go.Proofs.Ytofgpimoekhfaaa.homeOne
open Go Go.ChangeShapes Go.WideShapes Go.ChangeAt Go.RowKit
set_option maxRecDepth 100000 in
theorem contract (H : Type) (enc : TypeId × Value → H) (W : World) (base : Nat) (args : Array Value) (ds gs : List (DataW H)) (before : List MemPlace)
  (hval : ∀ (j : Nat) t v, Try.f8.params[j]? = some t → args[j]? = some v → Value.okWide Try.prog W .any base t v)
  (hW : DataW.Whole enc Try.prog Try.f8.params.toList Rows.homeOneSpec.vars false W args.toList ds gs before) (hk : Rows.uptoSmall H (ds ++ gs) = true) :
  Calls Try.prog 8 args W fun e W' => ∃ v, e = .returned v ∧ Rows.homeOneSpec.post enc Try.prog Try.f8 false true false false W args v W' := by
 have hW' := hW
 obtain ⟨p, q, hA0, hV, rfl, hfz, hnd⟩ := hW
 obtain ⟨rfl, rfl⟩ := trodVars_none hV
 have hA : DataW.TrodAll enc Try.prog W 0 (fun _ => true) true Try.f8.params.toList args.toList ds p := hA0
 rw [Try.params8] at hA hval
 clear hA0
 obtain ⟨v0, vs0, d0, ds0, p0, q0, hargs, rfl, rfl, h0, r0⟩ := trodAll_cons hA
 obtain ⟨v1, vs1, d1, ds1, p1, q1, rfl, rfl, rfl, h1, r1⟩ := trodAll_cons r0
 obtain ⟨v2, vs2, d2, ds2, p2, q2, rfl, rfl, rfl, h2, r2⟩ := trodAll_cons r1
 obtain ⟨rfl, rfl, rfl⟩ := trodAll_nil r2
 obtain rfl : args = #[v0, v1, v2] := by cases args; simp_all
 obtain ⟨x0, c0, rfl, g0, w0⟩ := Fe (α := Config) Try.underlying39 Lm (hval 0 39 v0 rfl rfl) h0 (Ee hk (d := d0) (by simp))
 obtain rfl : c0 = x0.cells.toArray := by rw [← g0]
 obtain ⟨x1, s1, l1⟩ := Ke (α := Step) Try.underlying40 Ll (hval 1 40 v1 rfl rfl) h1 (Ee hk (d := d1) (by simp))
 obtain ⟨x2, c2, rfl, g2, w2⟩ := Fe (α := Msg) Try.underlying42 Lk (hval 2 42 v2 rfl rfl) h2 (Ee hk (d := d2) (by simp))
 obtain rfl : c2 = x2.cells.toArray := by rw [← g2]
 have hst := St.begin W
 have hkeep : Ls W ∈ [Ls W] := List.Mem.head _
 replace hst := hst.learn hkeep s1
 replace hkeep := List.mem_cons_of_mem (sl v1 x1) hkeep
 refine (Nd hst (List.Mem.head _) w0 w2).mono fun e W' hpost => ?_
 obtain ⟨_, rfl, hend⟩ := hpost
 exact ⟨_, rfl, Ip kids full (by rw [Try.params8]; decide) rfl Try.underlying4 rfl ⟨rfl, rfl, rfl⟩ hW' (L3 hkeep hend)⟩
set_option maxRecDepth 100000 in
theorem lifted (os : Os) (started : os.Started) (H : Type) (enc : TypeId × Value → H) (F : Stop.Interp) :
  ReturnsInHanded {} Try.checked os 8 .any ((Rows.OpenSpec.upto Rows.homeOneSpec).pre6 enc Try.prog Try.f8 Rows.homeOneUptoRow.domain false) (((Rows.OpenSpec.upto Rows.homeOneSpec).at F).post enc Try.prog Try.f8 false true false false) := by
 refine returnsInHanded_of_cond (C := Try.checked) (s := Rows.OpenSpec.upto Rows.homeOneSpec) (k := Rows.uptoSmall) rfl own started (by kernel_rfl) Try.func8
  (OpenSpec.witness (enc := enc) (C := Try.checked) (s := Rows.OpenSpec.upto Rows.homeOneSpec) (k := Rows.uptoSmall) rfl false ⟨#[], #[.agg #[.int .i64 0, .int .i64 0], .slice none 0 0, .agg #[.int .i64 0, .int .i64 0, .int .i64 0, .int .i64 0, .int .i64 0, .int .i64 0, .int .i64 0, .bool false]], []⟩ 8 (by kernel_rfl) (by kernel_rfl) (by kernel_rfl)
   (x := ([.agg [.lit (.int .i64 0), .lit (.int .i64 0)], .nil, .agg [.lit (.int .i64 0), .lit (.int .i64 0), .lit (.int .i64 0), .lit (.int .i64 0), .lit (.int .i64 0), .lit (.int .i64 0), .lit (.int .i64 0), .lit (.bool false)]], [], [])) (by kernel_rfl) rfl (by kernel_rfl)) ?_
 intro W base args ds gs before hval hW _ hk _
 exact contract H enc W base args ds gs before hval hW hk
theorem closed1 : OpenClaim.wf (OpenSpec.ofChange (Rows.OpenSpec.upto Rows.homeOneSpec).bare) Rows.homeOneUptoRow = true := by kernel_rfl
theorem closed10 : (Rows.homeOneUptoRow.inPlace == Try.prog.inPlace 8) = true := by kernel_rfl
theorem closed11 : (Rows.homeOneUptoRow.unfollowed == Try.prog.unfollowed 8) = true := by kernel_rfl
theorem closed12 : (Rows.homeOneUptoRow.recurses == Try.prog.recurses 8) = true := by kernel_rfl
theorem closed13 : (Rows.homeOneUptoRow.named == Try.prog.varsNamed 8) = true := by kernel_rfl
set_option maxRecDepth 100000 in
theorem closed : joinedFacts Try.prog 8 Try.f8 (Rows.OpenSpec.upto Rows.homeOneSpec).bare Rows.homeOneUptoRow = true := by
 simp only [joinedFacts, Bool.and_eq_true]
 exact ⟨⟨⟨⟨⟨⟨⟨⟨⟨⟨⟨⟨⟨⟨⟨⟨⟨⟨⟨⟨⟨⟨⟨⟨⟨⟨⟨⟨⟨⟨⟨closed1, I7⟩, Ic⟩, by kernel_rfl⟩, by kernel_rfl⟩, rfl⟩, H7⟩, rfl⟩, Ig⟩, closed10⟩, closed11⟩, closed12⟩, closed13⟩, by kernel_rfl⟩, by kernel_rfl⟩, by kernel_rfl⟩, by kernel_rfl⟩, by kernel_rfl⟩, by kernel_rfl⟩, by kernel_rfl⟩, by kernel_rfl⟩, by kernel_rfl⟩, by rw [Ib]; rfl⟩, rfl⟩, G9⟩, Jq⟩, by rw [Oc]; rfl⟩, by rw [Og]; rfl⟩, by kernel_rfl⟩, by kernel_rfl⟩, by kernel_rfl⟩, by kernel_rfl⟩
theorem the_name : Try.prog.funcNamed Rows.homeOneUptoRow.func = some 8 := by kernel_rfl
theorem proved : Rows.HomeOneUptoSaid :=
 OpenClaim.holds_of_cond 8 Try.f8 rfl rfl rfl rfl rfl rfl rfl ⟨rfl, rfl, rfl, rfl, rfl⟩ rfl rfl rfl rfl rfl the_name Try.func8 closed
  (of_decide_eq_true (by kernel_rfl)) (by unfold Func.isWrapper; first | (rw [if_pos (by decide +kernel)]; kernel_rfl) | (rw [if_neg (by decide +kernel)]; exact ⟨rfl, rfl⟩))
  (fun os started H enc _ F => lifted os started H enc F)
end Go.Proofs.Ytofgpimoekhfaaa.homeOne
