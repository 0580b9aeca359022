/- This file proves the law TopBoth, where what it reads is of bulk at Gw 1048576: what its walk tells, said as data. Condition: the bulk. -/
import Derived.Test.YtkgijpngobgfjaaLM1
import Derived.Test.YtkgijpngobgfjaaLM5
import Derived.WalkKit
set_option linter.unusedVariables false
set_option linter.unusedSimpArgs false
namespace Go.Proofs.Ytkgijpngobgfjaa.topBoth
open Go Go.ChangeShapes Go.WideShapes Go.ChangeAt Go.RowKit
set_option maxRecDepth 100000 in
theorem contract (H : Type) (enc : TypeId × Value → H) (W : World) (base : Nat) (args : Array Value) (ds gs : List (DataW H)) (before : List MemPlace)
  (hval : ∀ (j : Nat) t v, Try.f8.params[j]? = some t → args[j]? = some v → Value.okWide Try.prog W .any base t v)
  (hW : DataW.Whole enc Try.prog Try.f8.params.toList Rows.topBothSpec.vars false W args.toList ds gs before) (hk : Rows.uptoSmall H (ds ++ gs) = true) :
  Calls Try.prog 8 args W fun e W' => ∃ v, e = .returned v ∧ Rows.topBothSpec.post enc Try.prog Try.f8 false true false false W args v W' := by
 have hW' := hW
 obtain ⟨p, q, hA0, hV, rfl, hfz, hnd⟩ := hW
 obtain ⟨rfl, rfl⟩ := trodVars_none hV
 have hA : DataW.TrodAll enc Try.prog W 0 (fun _ => true) true Try.f8.params.toList args.toList ds p := hA0
 rw [Try.params8] at hA hval
 clear hA0
 obtain ⟨v0, vs0, d0, ds0, p0, q0, hargs, rfl, rfl, h0, r0⟩ := trodAll_cons hA
 obtain ⟨rfl, rfl, rfl⟩ := trodAll_nil r0
 obtain rfl : args = #[v0] := by cases args; simp_all
 obtain ⟨x0, s0, l0⟩ := Fw (α := Int) Try.underlying57 Ip (hval 0 57 v0 rfl rfl) h0 (Eh hk (d := d0) (by simp))
 refine ZaU ?_;intro hst hkeep
 replace hst := hst.learn hkeep s0
 replace hkeep := List.mem_cons_of_mem (sl v0 x0) hkeep
 refine (Qh hst (List.Mem.head _) ).mono fun e W' hpost => ?_
 obtain ⟨_, rfl, hend⟩ := hpost
 exact ⟨_, rfl, Ga kids full (by rw [Try.params8]; decide) rfl Try.underlying4 rfl ⟨rfl, rfl, rfl⟩ hW' (Iv hkeep hend)⟩
set_option maxRecDepth 100000 in
theorem lifted (os : Os) (started : os.Started) (H : Type) (enc : TypeId × Value → H) (F : Stop.Interp) :
  ReturnsInHanded {} Try.checked os 8 .any ((Rows.OpenSpec.upto Rows.topBothSpec).pre6 enc Try.prog Try.f8 Rows.topBothUptoRow.domain false) (((Rows.OpenSpec.upto Rows.topBothSpec).at F).post enc Try.prog Try.f8 false true false false) := by
 refine returnsInHanded_of_cond (C := Try.checked) (s := Rows.OpenSpec.upto Rows.topBothSpec) (k := Rows.uptoSmall) rfl own started (by kernel_rfl) Try.func8
  (OpenSpec.witness (enc := enc) (C := Try.checked) (s := Rows.OpenSpec.upto Rows.topBothSpec) (k := Rows.uptoSmall) rfl false ⟨#[], #[.slice none 0 0], []⟩ 8 (by kernel_rfl) (by kernel_rfl) (by kernel_rfl)
   (x := ([.nil], [], [])) (by kernel_rfl) rfl (by kernel_rfl)) ?_
 intro W base args ds gs before hval hW _ hk _
 exact contract H enc W base args ds gs before hval hW hk
theorem closed1 : OpenClaim.wf (OpenSpec.ofChange (Rows.OpenSpec.upto Rows.topBothSpec).bare) Rows.topBothUptoRow = true := by kernel_rfl
theorem closed10 : (Rows.topBothUptoRow.inPlace == Try.prog.inPlace 8) = true := by kernel_rfl
theorem closed11 : (Rows.topBothUptoRow.unfollowed == Try.prog.unfollowed 8) = true := by kernel_rfl
theorem closed12 : (Rows.topBothUptoRow.recurses == Try.prog.recurses 8) = true := by kernel_rfl
theorem closed13 : (Rows.topBothUptoRow.named == Try.prog.varsNamed 8) = true := by kernel_rfl
set_option maxRecDepth 100000 in
theorem closed : joinedFacts Try.prog 8 Try.f8 (Rows.OpenSpec.upto Rows.topBothSpec).bare Rows.topBothUptoRow = true := by
 exact ZcL
theorem the_name : Try.prog.funcNamed Rows.topBothUptoRow.func = some 8 := by kernel_rfl
theorem proved : Rows.TopBothUptoSaid :=
 OpenClaim.holds_of_cond 8 Try.f8 rfl rfl rfl rfl rfl rfl rfl ⟨rfl, rfl, rfl, rfl, rfl⟩ rfl rfl rfl rfl rfl the_name Try.func8 closed
  (of_decide_eq_true (by kernel_rfl)) (by unfold Func.isWrapper; first | (rw [if_pos (by decide +kernel)]; kernel_rfl) | (rw [if_neg (by decide +kernel)]; exact ⟨rfl, rfl⟩))
  (fun os started H enc _ F => lifted os started H enc F)
end Go.Proofs.Ytkgijpngobgfjaa.topBoth
