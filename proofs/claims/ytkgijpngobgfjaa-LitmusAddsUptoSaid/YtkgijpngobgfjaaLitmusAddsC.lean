/- This file proves the law LitmusAdds, where what it reads is of bulk at Gw 1048576: what its walk tells, said as data. Condition: the bulk. -/
import Derived.Test.YtkgijpngobgfjaaLM1
import Derived.Test.YtkgijpngobgfjaaLM5
import Derived.WalkKit
set_option linter.unusedVariables false
set_option linter.unusedSimpArgs false
namespace Go.Proofs.Ytkgijpngobgfjaa.litmusAdds
open Go Go.ChangeShapes Go.WideShapes Go.ChangeAt Go.RowKit
set_option maxRecDepth 100000 in
theorem contract (H : Type) (enc : TypeId × Value → H) (W : World) (base : Nat) (args : Array Value) (ds gs : List (DataW H)) (before : List MemPlace)
  (hval : ∀ (j : Nat) t v, Try.f7.params[j]? = some t → args[j]? = some v → Value.okWide Try.prog W .any base t v)
  (hW : DataW.Whole enc Try.prog Try.f7.params.toList Rows.litmusAddsSpec.vars false W args.toList ds gs before) (hk : Rows.uptoSmall H (ds ++ gs) = true) :
  Calls Try.prog 7 args W fun e W' => ∃ v, e = .returned v ∧ Rows.litmusAddsSpec.post enc Try.prog Try.f7 false true false false W args v W' := by
 have hW' := hW
 obtain ⟨p, q, hA0, hV, rfl, hfz, hnd⟩ := hW
 obtain ⟨rfl, rfl⟩ := trodVars_none hV
 have hA : DataW.TrodAll enc Try.prog W 0 (fun _ => true) true Try.f7.params.toList args.toList ds p := hA0
 rw [Try.params7] at hA hval
 clear hA0
 obtain ⟨v0, vs0, d0, ds0, p0, q0, hargs, rfl, rfl, h0, r0⟩ := trodAll_cons hA
 obtain ⟨v1, vs1, d1, ds1, p1, q1, rfl, rfl, rfl, h1, r1⟩ := trodAll_cons r0
 obtain ⟨v2, vs2, d2, ds2, p2, q2, rfl, rfl, rfl, h2, r2⟩ := trodAll_cons r1
 obtain ⟨rfl, rfl, rfl⟩ := trodAll_nil r2
 obtain rfl : args = #[v0, v1, v2] := by cases args; simp_all
 obtain ⟨x0, rfl, w0⟩ := Np Try.underlying3 (hval 0 3 v0 rfl rfl) h0
 obtain ⟨x1, s1, l1⟩ := Fw (α := Int) Try.underlying57 Ip (hval 1 57 v1 rfl rfl) h1 (Eh hk (d := d1) (by simp))
 obtain ⟨x2, s2, l2⟩ := Fw (α := Int) Try.underlying57 Ip (hval 2 57 v2 rfl rfl) h2 (Eh hk (d := d2) (by simp))
 refine ZaU ?_;intro hst hkeep
 replace hst := hst.learn hkeep s1
 replace hkeep := List.mem_cons_of_mem (sl v1 x1) hkeep
 replace hst := hst.learn hkeep s2
 replace hkeep := List.mem_cons_of_mem (sl v2 x2) hkeep
 refine (Mv hst (List.Mem.tail _ (List.Mem.head _)) (List.Mem.head _) w0).mono fun e W' hpost => ?_
 obtain ⟨_, rfl, hend⟩ := hpost
 exact ⟨_, rfl, Ga kids full (by rw [Try.params7]; decide) rfl Try.underlying4 rfl ⟨rfl, rfl, rfl⟩ hW' (Iv hkeep hend)⟩
set_option maxRecDepth 100000 in
theorem lifted (os : Os) (started : os.Started) (H : Type) (enc : TypeId × Value → H) (F : Stop.Interp) :
  ReturnsInHanded {} Try.checked os 7 .any ((Rows.OpenSpec.upto Rows.litmusAddsSpec).pre6 enc Try.prog Try.f7 Rows.litmusAddsUptoRow.domain false) (((Rows.OpenSpec.upto Rows.litmusAddsSpec).at F).post enc Try.prog Try.f7 false true false false) := by
 refine returnsInHanded_of_cond (C := Try.checked) (s := Rows.OpenSpec.upto Rows.litmusAddsSpec) (k := Rows.uptoSmall) rfl own started (by kernel_rfl) Try.func7
  (OpenSpec.witness (enc := enc) (C := Try.checked) (s := Rows.OpenSpec.upto Rows.litmusAddsSpec) (k := Rows.uptoSmall) rfl false ⟨#[], #[.int .i64 0, .slice none 0 0, .slice none 0 0], []⟩ 8 (by kernel_rfl) (by kernel_rfl) (by kernel_rfl)
   (x := ([.lit (.int .i64 0), .nil, .nil], [], [])) (by kernel_rfl) rfl (by kernel_rfl)) ?_
 intro W base args ds gs before hval hW _ hk _
 exact contract H enc W base args ds gs before hval hW hk
theorem closed1 : OpenClaim.wf (OpenSpec.ofChange (Rows.OpenSpec.upto Rows.litmusAddsSpec).bare) Rows.litmusAddsUptoRow = true := by kernel_rfl
theorem closed10 : (Rows.litmusAddsUptoRow.inPlace == Try.prog.inPlace 7) = true := by kernel_rfl
theorem closed11 : (Rows.litmusAddsUptoRow.unfollowed == Try.prog.unfollowed 7) = true := by kernel_rfl
theorem closed12 : (Rows.litmusAddsUptoRow.recurses == Try.prog.recurses 7) = true := by kernel_rfl
theorem closed13 : (Rows.litmusAddsUptoRow.named == Try.prog.varsNamed 7) = true := by kernel_rfl
set_option maxRecDepth 100000 in
theorem closed : joinedFacts Try.prog 7 Try.f7 (Rows.OpenSpec.upto Rows.litmusAddsSpec).bare Rows.litmusAddsUptoRow = true := by
 exact ZcL
theorem the_name : Try.prog.funcNamed Rows.litmusAddsUptoRow.func = some 7 := by kernel_rfl
theorem proved : Rows.LitmusAddsUptoSaid :=
 OpenClaim.holds_of_cond 7 Try.f7 rfl rfl rfl rfl rfl rfl rfl ⟨rfl, rfl, rfl, rfl, rfl⟩ rfl rfl rfl rfl rfl the_name Try.func7 closed
  (of_decide_eq_true (by kernel_rfl)) (by unfold Func.isWrapper; first | (rw [if_pos (by decide +kernel)]; kernel_rfl) | (rw [if_neg (by decide +kernel)]; exact ⟨rfl, rfl⟩))
  (fun os started H enc _ F => lifted os started H enc F)
end Go.Proofs.Ytkgijpngobgfjaa.litmusAdds
