/- This file proves the law PlayParts, where what it reads is of bulk at Hb 1048576: what its walk tells, said as data. Condition: the bulk. -/
import Derived.Test.YtehpekiedfpnkaaVM1
import Derived.Test.YtehpekiedfpnkaaVM6
import Derived.WalkKit
set_option linter.unusedVariables false
set_option linter.unusedSimpArgs false
namespace Go.Proofs.Ytehpekiedfpnkaa.playParts
open Go Go.ChangeShapes Go.WideShapes Go.ChangeAt Go.RowKit
set_option maxRecDepth 100000 in
theorem contract (H : Type) (enc : TypeId × Value → H) (W : World) (base : Nat) (args : Array Value) (ds gs : List (DataW H)) (before : List MemPlace)
  (hval : ∀ (j : Nat) t v, Try.f10.params[j]? = some t → args[j]? = some v → Value.okWide Try.prog W .any base t v)
  (hW : DataW.Whole enc Try.prog Try.f10.params.toList Rows.playPartsSpec.vars false W args.toList ds gs before) (hk : Rows.uptoSmall H (ds ++ gs) = true) :
  Calls Try.prog 10 args W fun e W' => ∃ v, e = .returned v ∧ Rows.playPartsSpec.post enc Try.prog Try.f10 false true false false W args v W' := by
 have hW' := hW
 obtain ⟨p, q, hA0, hV, rfl, hfz, hnd⟩ := hW
 obtain ⟨rfl, rfl⟩ := trodVars_none hV
 have hA : DataW.TrodAll enc Try.prog W 0 (fun _ => true) true Try.f10.params.toList args.toList ds p := hA0
 rw [Try.params10] at hA hval
 clear hA0
 obtain ⟨v0, vs0, d0, ds0, p0, q0, hargs, rfl, rfl, h0, r0⟩ := trodAll_cons hA
 obtain ⟨v1, vs1, d1, ds1, p1, q1, rfl, rfl, rfl, h1, r1⟩ := trodAll_cons r0
 obtain ⟨v2, vs2, d2, ds2, p2, q2, rfl, rfl, rfl, h2, r2⟩ := trodAll_cons r1
 obtain ⟨rfl, rfl, rfl⟩ := trodAll_nil r2
 obtain rfl : args = #[v0, v1, v2] := by cases args; simp_all
 obtain ⟨x0, c0, rfl, g0, w0⟩ := Eh (α := Config) Try.underlying23 G9 (hval 0 23 v0 rfl rfl) h0 (C5 hk (d := d0) (by simp))
 obtain rfl : c0 = x0.cells.toArray := by rw [← g0]
 obtain ⟨x1, s1, l1⟩ := F9 (α := Step) Try.underlying24 G8 (hval 1 24 v1 rfl rfl) h1 (C5 hk (d := d1) (by simp))
 obtain ⟨x2, rfl, w2⟩ := Ls Try.underlying3 (hval 2 3 v2 rfl rfl) h2
 refine ZaK ?_;intro hst hkeep
 replace hst := hst.learn hkeep s1
 replace hkeep := List.mem_cons_of_mem (sl v1 x1) hkeep
 refine (Ol hst (List.Mem.head _) w0 w2).mono fun e W' hpost => ?_
 obtain ⟨_, rfl, hend⟩ := hpost
 exact ⟨_, rfl, Fg Acb full (by rw [Try.params10]; decide) rfl Try.underlying4 rfl ⟨rfl, rfl, rfl⟩ hW' (Hc hkeep hend)⟩
set_option maxRecDepth 100000 in
theorem lifted (os : Os) (started : os.Started) (H : Type) (enc : TypeId × Value → H) (F : Stop.Interp) :
  ReturnsInHanded {} Try.checked os 10 .any ((Rows.OpenSpec.upto Rows.playPartsSpec).pre6 enc Try.prog Try.f10 Rows.playPartsUptoRow.domain false) (((Rows.OpenSpec.upto Rows.playPartsSpec).at F).post enc Try.prog Try.f10 false true false false) := by
 refine returnsInHanded_of_cond (C := Try.checked) (s := Rows.OpenSpec.upto Rows.playPartsSpec) (k := Rows.uptoSmall) rfl own started (by kernel_rfl) Try.func10
  (OpenSpec.witness (enc := enc) (C := Try.checked) (s := Rows.OpenSpec.upto Rows.playPartsSpec) (k := Rows.uptoSmall) rfl false ⟨#[], #[.agg #[.int .i64 0, .int .i64 0], .slice none 0 0, .int .i64 0], []⟩ 8 (by kernel_rfl) (by kernel_rfl) (by kernel_rfl)
   (x := ([.agg [.lit (.int .i64 0), .lit (.int .i64 0)], .nil, .lit (.int .i64 0)], [], [])) (by kernel_rfl) rfl (by kernel_rfl)) ?_
 intro W base args ds gs before hval hW _ hk _
 exact contract H enc W base args ds gs before hval hW hk
theorem closed1 : OpenClaim.wf (OpenSpec.ofChange (Rows.OpenSpec.upto Rows.playPartsSpec).bare) Rows.playPartsUptoRow = true := by kernel_rfl
theorem closed10 : (Rows.playPartsUptoRow.inPlace == Try.prog.inPlace 10) = true := by kernel_rfl
theorem closed11 : (Rows.playPartsUptoRow.unfollowed == Try.prog.unfollowed 10) = true := by kernel_rfl
theorem closed12 : (Rows.playPartsUptoRow.recurses == Try.prog.recurses 10) = true := by kernel_rfl
theorem closed13 : (Rows.playPartsUptoRow.named == Try.prog.varsNamed 10) = true := by kernel_rfl
set_option maxRecDepth 100000 in
theorem closed : joinedFacts Try.prog 10 Try.f10 (Rows.OpenSpec.upto Rows.playPartsSpec).bare Rows.playPartsUptoRow = true := by
 exact ZeL
theorem the_name : Try.prog.funcNamed Rows.playPartsUptoRow.func = some 10 := by kernel_rfl
theorem proved : Rows.PlayPartsUptoSaid :=
 OpenClaim.holds_of_cond 10 Try.f10 rfl rfl rfl rfl rfl rfl rfl ⟨rfl, rfl, rfl, rfl, rfl⟩ rfl rfl rfl rfl rfl the_name Try.func10 closed
  (of_decide_eq_true (by kernel_rfl)) (by unfold Func.isWrapper; first | (rw [if_pos (by decide +kernel)]; kernel_rfl) | (rw [if_neg (by decide +kernel)]; exact ⟨rfl, rfl⟩))
  (fun os started H enc _ F => lifted os started H enc F)
end Go.Proofs.Ytehpekiedfpnkaa.playParts
