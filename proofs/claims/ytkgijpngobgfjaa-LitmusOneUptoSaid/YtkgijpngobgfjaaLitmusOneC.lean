/- This file proves the law LitmusOne, where what it reads is of bulk at Gw 1048576: what its walk tells, said as data. Condition: the bulk. -/
import Derived.Test.YtkgijpngobgfjaaLM1
import Derived.Test.YtkgijpngobgfjaaLM5
import Derived.WalkKit
set_option linter.unusedVariables false
set_option linter.unusedSimpArgs false
namespace Go.Proofs.Ytkgijpngobgfjaa.litmusOne
open Go Go.ChangeShapes Go.WideShapes Go.ChangeAt Go.RowKit
set_option maxRecDepth 100000 in
theorem contract (H : Type) (enc : TypeId × Value → H) (W : World) (base : Nat) (args : Array Value) (ds gs : List (DataW H)) (before : List MemPlace)
  (hval : ∀ (j : Nat) t v, Try.f6.params[j]? = some t → args[j]? = some v → Value.okWide Try.prog W .any base t v)
  (hW : DataW.Whole enc Try.prog Try.f6.params.toList Rows.litmusOneSpec.vars false W args.toList ds gs before) (hk : Rows.uptoSmall H (ds ++ gs) = true) :
  Calls Try.prog 6 args W fun e W' => ∃ v, e = .returned v ∧ Rows.litmusOneSpec.post enc Try.prog Try.f6 false true false false W args v W' := by
 have hW' := hW
 obtain ⟨p, q, hA0, hV, rfl, hfz, hnd⟩ := hW
 obtain ⟨rfl, rfl⟩ := trodVars_none hV
 have hA : DataW.TrodAll enc Try.prog W 0 (fun _ => true) true Try.f6.params.toList args.toList ds p := hA0
 rw [Try.params6] at hA hval
 clear hA0
 obtain ⟨v0, vs0, d0, ds0, p0, q0, hargs, rfl, rfl, h0, r0⟩ := trodAll_cons hA
 obtain ⟨v1, vs1, d1, ds1, p1, q1, rfl, rfl, rfl, h1, r1⟩ := trodAll_cons r0
 obtain ⟨v2, vs2, d2, ds2, p2, q2, rfl, rfl, rfl, h2, r2⟩ := trodAll_cons r1
 obtain ⟨rfl, rfl, rfl⟩ := trodAll_nil r2
 obtain rfl : args = #[v0, v1, v2] := by cases args; simp_all
 obtain ⟨x0, c0, rfl, g0, w0⟩ := Oq (α := Config) Try.underlying34 Ub (hval 0 34 v0 rfl rfl) h0 (Eh hk (d := d0) (by simp))
 obtain rfl : c0 = x0.cells.toArray := by rw [← g0]
 obtain ⟨x1, s1, l1⟩ := Fw (α := List Op) Try.underlying47 Ua (hval 1 47 v1 rfl rfl) h1 (Eh hk (d := d1) (by simp))
 obtain ⟨x2, s2, l2⟩ := Fw (α := Int) Try.underlying57 Ip (hval 2 57 v2 rfl rfl) h2 (Eh hk (d := d2) (by simp))
 refine ZaU ?_;intro hst hkeep
 replace hst := hst.learn hkeep s1
 replace hkeep := List.mem_cons_of_mem (sl v1 x1) hkeep
 replace hst := hst.learn hkeep s2
 replace hkeep := List.mem_cons_of_mem (sl v2 x2) hkeep
 refine (Nz hst (List.Mem.tail _ (List.Mem.head _)) (List.Mem.head _) w0).mono fun e W' hpost => ?_
 obtain ⟨_, rfl, hend⟩ := hpost
 exact ⟨_, rfl, Ga kids full (by rw [Try.params6]; decide) rfl Try.underlying4 rfl ⟨rfl, rfl, rfl⟩ hW' (Iv hkeep hend)⟩
set_option maxRecDepth 100000 in
theorem lifted (os : Os) (started : os.Started) (H : Type) (enc : TypeId × Value → H) (F : Stop.Interp) :
  ReturnsInHanded {} Try.checked os 6 .any ((Rows.OpenSpec.upto Rows.litmusOneSpec).pre6 enc Try.prog Try.f6 Rows.litmusOneUptoRow.domain false) (((Rows.OpenSpec.upto Rows.litmusOneSpec).at F).post enc Try.prog Try.f6 false true false false) := by
 refine returnsInHanded_of_cond (C := Try.checked) (s := Rows.OpenSpec.upto Rows.litmusOneSpec) (k := Rows.uptoSmall) rfl own started (by kernel_rfl) Try.func6
  (OpenSpec.witness (enc := enc) (C := Try.checked) (s := Rows.OpenSpec.upto Rows.litmusOneSpec) (k := Rows.uptoSmall) rfl false ⟨#[], #[.agg #[.int .i64 0, .int .i64 0], .slice none 0 0, .slice none 0 0], []⟩ 8 (by kernel_rfl) (by kernel_rfl) (by kernel_rfl)
   (x := ([.agg [.lit (.int .i64 0), .lit (.int .i64 0)], .nil, .nil], [], [])) (by kernel_rfl) rfl (by kernel_rfl)) ?_
 intro W base args ds gs before hval hW _ hk _
 exact contract H enc W base args ds gs before hval hW hk
theorem closed1 : OpenClaim.wf (OpenSpec.ofChange (Rows.OpenSpec.upto Rows.litmusOneSpec).bare) Rows.litmusOneUptoRow = true := by kernel_rfl
theorem closed10 : (Rows.litmusOneUptoRow.inPlace == Try.prog.inPlace 6) = true := by kernel_rfl
theorem closed11 : (Rows.litmusOneUptoRow.unfollowed == Try.prog.unfollowed 6) = true := by kernel_rfl
theorem closed12 : (Rows.litmusOneUptoRow.recurses == Try.prog.recurses 6) = true := by kernel_rfl
theorem closed13 : (Rows.litmusOneUptoRow.named == Try.prog.varsNamed 6) = true := by kernel_rfl
set_option maxRecDepth 100000 in
theorem closed : joinedFacts Try.prog 6 Try.f6 (Rows.OpenSpec.upto Rows.litmusOneSpec).bare Rows.litmusOneUptoRow = true := by
 exact ZcL
theorem the_name : Try.prog.funcNamed Rows.litmusOneUptoRow.func = some 6 := by kernel_rfl
theorem proved : Rows.LitmusOneUptoSaid :=
 OpenClaim.holds_of_cond 6 Try.f6 rfl rfl rfl rfl rfl rfl rfl ⟨rfl, rfl, rfl, rfl, rfl⟩ rfl rfl rfl rfl rfl the_name Try.func6 closed
  (of_decide_eq_true (by kernel_rfl)) (by unfold Func.isWrapper; first | (rw [if_pos (by decide +kernel)]; kernel_rfl) | (rw [if_neg (by decide +kernel)]; exact ⟨rfl, rfl⟩))
  (fun os started H enc _ F => lifted os started H enc F)
end Go.Proofs.Ytkgijpngobgfjaa.litmusOne
