/- This file proves the law TopFlag, where what it reads is of bulk at Gw 1048576: what its walk tells, said as data. Condition: the bulk. -/
import Derived.Test.YtkgijpngobgfjaaLM1
import Derived.Test.YtkgijpngobgfjaaLM5
import Derived.WalkKit
set_option linter.unusedVariables false
set_option linter.unusedSimpArgs false
namespace Go.Proofs.Ytkgijpngobgfjaa.topFlag
open Go Go.ChangeShapes Go.WideShapes Go.ChangeAt Go.RowKit
set_option maxRecDepth 100000 in
theorem contract (H : Type) (enc : TypeId × Value → H) (W : World) (base : Nat) (args : Array Value) (ds gs : List (DataW H)) (before : List MemPlace)
  (hval : ∀ (j : Nat) t v, Try.f4.params[j]? = some t → args[j]? = some v → Value.okWide Try.prog W .any base t v)
  (hW : DataW.Whole enc Try.prog Try.f4.params.toList Rows.topFlagSpec.vars false W args.toList ds gs before) (hk : Rows.uptoSmall H (ds ++ gs) = true) :
  Calls Try.prog 4 args W fun e W' => ∃ v, e = .returned v ∧ Rows.topFlagSpec.post enc Try.prog Try.f4 false true false false W args v W' := by
 have hW' := hW
 obtain ⟨p, q, hA0, hV, rfl, hfz, hnd⟩ := hW
 obtain ⟨rfl, rfl⟩ := trodVars_none hV
 have hA : DataW.TrodAll enc Try.prog W 0 (fun _ => true) true Try.f4.params.toList args.toList ds p := hA0
 rw [Try.params4] at hA hval
 clear hA0
 obtain ⟨v0, vs0, d0, ds0, p0, q0, hargs, rfl, rfl, h0, r0⟩ := trodAll_cons hA
 obtain ⟨v1, vs1, d1, ds1, p1, q1, rfl, rfl, rfl, h1, r1⟩ := trodAll_cons r0
 obtain ⟨rfl, rfl, rfl⟩ := trodAll_nil r1
 obtain rfl : args = #[v0, v1] := by cases args; simp_all
 obtain ⟨x0, rfl, w0⟩ := Np Try.underlying3 (hval 0 3 v0 rfl rfl) h0
 obtain ⟨x1, s1, l1⟩ := Fw (α := Int) Try.underlying57 Ip (hval 1 57 v1 rfl rfl) h1 (Eh hk (d := d1) (by simp))
 refine ZaU ?_;intro hst hkeep
 replace hst := hst.learn hkeep s1
 replace hkeep := List.mem_cons_of_mem (sl v1 x1) hkeep
 refine (Qg hst (List.Mem.head _) w0).mono fun e W' hpost => ?_
 obtain ⟨_, rfl, hend⟩ := hpost
 exact ⟨_, rfl, Ga kids full (by rw [Try.params4]; decide) rfl Try.underlying4 rfl ⟨rfl, rfl, rfl⟩ hW' (Iv hkeep hend)⟩
set_option maxRecDepth 100000 in
theorem lifted (os : Os) (started : os.Started) (H : Type) (enc : TypeId × Value → H) (F : Stop.Interp) :
  ReturnsInHanded {} Try.checked os 4 .any ((Rows.OpenSpec.upto Rows.topFlagSpec).pre6 enc Try.prog Try.f4 Rows.topFlagUptoRow.domain false) (((Rows.OpenSpec.upto Rows.topFlagSpec).at F).post enc Try.prog Try.f4 false true false false) := by
 refine returnsInHanded_of_cond (C := Try.checked) (s := Rows.OpenSpec.upto Rows.topFlagSpec) (k := Rows.uptoSmall) rfl own started (by kernel_rfl) Try.func4
  (OpenSpec.witness (enc := enc) (C := Try.checked) (s := Rows.OpenSpec.upto Rows.topFlagSpec) (k := Rows.uptoSmall) rfl false ⟨#[], #[.int .i64 0, .slice none 0 0], []⟩ 8 (by kernel_rfl) (by kernel_rfl) (by kernel_rfl)
   (x := ([.lit (.int .i64 0), .nil], [], [])) (by kernel_rfl) rfl (by kernel_rfl)) ?_
 intro W base args ds gs before hval hW _ hk _
 exact contract H enc W base args ds gs before hval hW hk
theorem closed1 : OpenClaim.wf (OpenSpec.ofChange (Rows.OpenSpec.upto Rows.topFlagSpec).bare) Rows.topFlagUptoRow = true := by kernel_rfl
theorem closed10 : (Rows.topFlagUptoRow.inPlace == Try.prog.inPlace 4) = true := by kernel_rfl
theorem closed11 : (Rows.topFlagUptoRow.unfollowed == Try.prog.unfollowed 4) = true := by kernel_rfl
theorem closed12 : (Rows.topFlagUptoRow.recurses == Try.prog.recurses 4) = true := by kernel_rfl
theorem closed13 : (Rows.topFlagUptoRow.named == Try.prog.varsNamed 4) = true := by kernel_rfl
set_option maxRecDepth 100000 in
theorem closed : joinedFacts Try.prog 4 Try.f4 (Rows.OpenSpec.upto Rows.topFlagSpec).bare Rows.topFlagUptoRow = true := by
 exact ZcL
theorem the_name : Try.prog.funcNamed Rows.topFlagUptoRow.func = some 4 := by kernel_rfl
theorem proved : Rows.TopFlagUptoSaid :=
 OpenClaim.holds_of_cond 4 Try.f4 rfl rfl rfl rfl rfl rfl rfl ⟨rfl, rfl, rfl, rfl, rfl⟩ rfl rfl rfl rfl rfl the_name Try.func4 closed
  (of_decide_eq_true (by kernel_rfl)) (by unfold Func.isWrapper; first | (rw [if_pos (by decide +kernel)]; kernel_rfl) | (rw [if_neg (by decide +kernel)]; exact ⟨rfl, rfl⟩))
  (fun os started H enc _ F => lifted os started H enc F)
end Go.Proofs.Ytkgijpngobgfjaa.topFlag
