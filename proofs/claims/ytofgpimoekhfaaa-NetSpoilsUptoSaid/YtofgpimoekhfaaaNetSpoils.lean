/- This file proves the law NetSpoils, where what it reads is of bulk at most 1048576: what its walk tells, said as data. Condition: the bulk. -/
import Derived.Test.YtofgpimoekhfaaaDoor
import Derived.Test.YtofgpimoekhfaaaNet4
import Derived.WalkKit
set_option linter.unusedVariables false
set_option linter.unusedSimpArgs false
namespace Go.Proofs.Ytofgpimoekhfaaa.netSpoils
open Go Go.ChangeShapes Go.WideShapes Go.ChangeAt Go.RowKit
set_option maxRecDepth 100000 in
theorem contract (H : Type) (enc : TypeId × Value → H) (W : World) (base : Nat) (args : Array Value) (ds gs : List (DataW H)) (before : List MemPlace)
    (hval : ∀ (j : Nat) t v, Try.f5.params[j]? = some t → args[j]? = some v → Value.okWide Try.prog W .any base t v)
    (hW : DataW.Whole enc Try.prog Try.f5.params.toList Rows.netSpoilsSpec.vars false W args.toList ds gs before) (hk : Rows.uptoSmall H (ds ++ gs) = true) :
    Calls Try.prog 5 args W fun e W' => ∃ v, e = .returned v ∧ Rows.netSpoilsSpec.post enc Try.prog Try.f5 false true false false W args v W' := by
  have hW' := hW
  obtain ⟨p, q, hA0, hV, rfl, hfz, hnd⟩ := hW
  obtain ⟨rfl, rfl⟩ := trodVars_none hV
  have hA : DataW.TrodAll enc Try.prog W 0 (fun _ => true) true Try.f5.params.toList args.toList ds p := hA0
  rw [Try.params5] at hA hval
  clear hA0
  obtain ⟨v0, vs0, d0, ds0, p0, q0, hargs, rfl, rfl, h0, r0⟩ := trodAll_cons hA
  obtain ⟨v1, vs1, d1, ds1, p1, q1, rfl, rfl, rfl, h1, r1⟩ := trodAll_cons r0
  obtain ⟨v2, vs2, d2, ds2, p2, q2, rfl, rfl, rfl, h2, r2⟩ := trodAll_cons r1
  obtain ⟨rfl, rfl, rfl⟩ := trodAll_nil r2
  obtain rfl : args = #[v0, v1, v2] := by cases args; simp_all
  obtain ⟨x0, s0, l0⟩ := arg_slice (α := List UInt8) Try.underlying22 reads_22 (hval 0 22 v0 rfl rfl) h0 (small_all hk (d := d0) (by simp))
  obtain ⟨x1, rfl, w1⟩ := arg_int Try.underlying3 (hval 1 3 v1 rfl rfl) h1
  obtain ⟨x2, rfl, w2⟩ := arg_int Try.underlying3 (hval 2 3 v2 rfl rfl) h2
  have hst := St.begin W
  have hkeep : keepF W ∈ [keepF W] := List.Mem.head _
  replace hst := hst.learn hkeep s0
  replace hkeep := List.mem_cons_of_mem (sl v0 x0) hkeep
  refine (netSpoils_walk hst (List.Mem.head _) w1 w2).mono fun e W' hpost => ?_
  obtain ⟨_, rfl, hend⟩ := hpost
  exact ⟨_, rfl, close_true kids full (by rw [Try.params5]; decide) rfl Try.underlying4 rfl ⟨rfl, rfl, rfl⟩ hW' (grown_of hkeep hend)⟩

set_option maxRecDepth 100000 in
theorem lifted (os : Os) (started : os.Started) (H : Type) (enc : TypeId × Value → H) (F : Stop.Interp) :
    ReturnsInHanded {} Try.checked os 5 .any ((Rows.OpenSpec.upto Rows.netSpoilsSpec).pre6 enc Try.prog Try.f5 Rows.netSpoilsUptoRow.domain false) (((Rows.OpenSpec.upto Rows.netSpoilsSpec).at F).post enc Try.prog Try.f5 false true false false) := by
  refine returnsInHanded_of_cond (C := Try.checked) (s := Rows.OpenSpec.upto Rows.netSpoilsSpec) (k := Rows.uptoSmall) rfl own started (by kernel_rfl) Try.func5
    (OpenSpec.witness (enc := enc) (C := Try.checked) (s := Rows.OpenSpec.upto Rows.netSpoilsSpec) (k := Rows.uptoSmall) rfl false ⟨#[], #[.slice none 0 0, .int .i64 0, .int .i64 0], []⟩ 8 (by kernel_rfl) (by kernel_rfl) (by kernel_rfl)
      (x := ([.nil, .lit (.int .i64 0), .lit (.int .i64 0)], [], [])) (by kernel_rfl) rfl (by kernel_rfl)) ?_
  intro W base args ds gs before hval hW _ hk _
  exact contract H enc W base args ds gs before hval hW hk

theorem closed1 : OpenClaim.wf (OpenSpec.ofChange (Rows.OpenSpec.upto Rows.netSpoilsSpec).bare) Rows.netSpoilsUptoRow = true := by kernel_rfl
theorem closed10 : (Rows.netSpoilsUptoRow.inPlace == Try.prog.inPlace 5) = true := by kernel_rfl
theorem closed11 : (Rows.netSpoilsUptoRow.unfollowed == Try.prog.unfollowed 5) = true := by kernel_rfl
theorem closed12 : (Rows.netSpoilsUptoRow.recurses == Try.prog.recurses 5) = true := by kernel_rfl
theorem closed13 : (Rows.netSpoilsUptoRow.named == Try.prog.varsNamed 5) = true := by kernel_rfl
set_option maxRecDepth 100000 in
theorem closed : joinedFacts Try.prog 5 Try.f5 (Rows.OpenSpec.upto Rows.netSpoilsSpec).bare Rows.netSpoilsUptoRow = true := by
  simp only [joinedFacts, Bool.and_eq_true]
  exact ⟨⟨⟨⟨⟨⟨⟨⟨⟨⟨⟨⟨⟨⟨⟨⟨⟨⟨⟨⟨⟨⟨⟨⟨⟨⟨⟨⟨⟨⟨⟨closed1, laid_out⟩, maps_rowed⟩, by kernel_rfl⟩, by kernel_rfl⟩, rfl⟩, stops_none⟩, rfl⟩, knobs_none⟩, closed10⟩, closed11⟩, closed12⟩, closed13⟩, by kernel_rfl⟩, by kernel_rfl⟩, by kernel_rfl⟩, by kernel_rfl⟩, by kernel_rfl⟩, by kernel_rfl⟩, by kernel_rfl⟩, by kernel_rfl⟩, by kernel_rfl⟩, by rw [plain_keys]; rfl⟩, rfl⟩, stops_heard⟩, may_enter⟩, by rw [no_lift]; rfl⟩, by rw [make_is]; rfl⟩, by kernel_rfl⟩, by kernel_rfl⟩, by kernel_rfl⟩, by kernel_rfl⟩
theorem the_name : Try.prog.funcNamed Rows.netSpoilsUptoRow.func = some 5 := by kernel_rfl
theorem proved : Rows.NetSpoilsUptoSaid :=
  OpenClaim.holds_of_cond 5 Try.f5 rfl rfl rfl rfl rfl rfl rfl ⟨rfl, rfl, rfl, rfl, rfl⟩ rfl rfl rfl rfl rfl the_name Try.func5 closed
    (of_decide_eq_true (by kernel_rfl)) (by unfold Func.isWrapper; first | (rw [if_pos (by decide +kernel)]; kernel_rfl) | (rw [if_neg (by decide +kernel)]; exact ⟨rfl, rfl⟩))
    (fun os started H enc _ F => lifted os started H enc F)
end Go.Proofs.Ytofgpimoekhfaaa.netSpoils
