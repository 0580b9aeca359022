/- This file proves the card of the law TopScript, where what it reads is of bulk at Kf 1048576, and the library's variables are as the program's text lays them: what its walk tells, said as data. Conditions: the bulk; the variables. -/
import Derived.Test.YtiofgjolhbgkiaaGreatDoorCards
import Derived.Test.YtiofgjolhbgkiaaGreatDoorTie
import Derived.Test.YtiofgjolhbgkiaaGreatDoorKM1
import Derived.Test.YtiofgjolhbgkiaaGreatDoorKM3
import Derived.Test.YtiofgjolhbgkiaaGreatDoorKM5
import Derived.WalkKit
import Derived.ProofKit
import Derived.OpenShut
import Derived.Deep.DeepHandedRow
set_option linter.unusedVariables false
set_option linter.unusedSimpArgs false
namespace Go.Proofs.YtiofgjolhbgkiaaGreatDoor.topScript
open Go Go.ChangeShapes Go.WideShapes Go.ChangeAt Go.RowKit
set_option maxRecDepth 100000 in
theorem contract (H : Type) (enc : TypeId × Value → H) (W : World) (base : Nat) (args : Array Value) (ds gs : List (DataW H)) (before : List MemPlace)
  (hval : ∀ (j : Nat) t v, Tryz.f3.params[j]? = some t → args[j]? = some v → Value.okWide Tryz.prog W .any base t v)
  (hW : DataW.Whole enc Tryz.prog Tryz.f3.params.toList Rows.topScriptSpec.vars false W args.toList ds gs before) (hk : Rows.uptoSmall H (ds ++ gs) = true) (hL : laidMetH Tryz.prog Rows.topScriptUptoRow.laid W) (hsh : W.ShapedOpen Tryz.prog) :
  Calls Tryz.prog 3 args W fun e W' => ∃ v, e = .returned v ∧ Rows.topScriptSpec.post enc Tryz.prog Tryz.f3 false true false false W args v W' := by
 have hW' := hW
 obtain ⟨p, q, hA0, hV, rfl, hfz, hnd⟩ := hW
 obtain ⟨rfl, rfl⟩ := trodVars_none hV
 have hA : DataW.TrodAll enc Tryz.prog W 0 (fun _ => true) true Tryz.f3.params.toList args.toList ds p := hA0
 rw [Tryz.params3] at hA hval
 clear hA0
 obtain ⟨v0, vs0, d0, ds0, p0, q0, hargs, rfl, rfl, h0, r0⟩ := trodAll_cons hA
 obtain ⟨v1, vs1, d1, ds1, p1, q1, rfl, rfl, rfl, h1, r1⟩ := trodAll_cons r0
 obtain ⟨rfl, rfl, rfl⟩ := trodAll_nil r1
 obtain rfl : args = #[v0, v1] := by cases args; simp_all
 obtain ⟨x0, c0, rfl, g0, w0⟩ := T7 (α := Config) Tryz.underlying23 Xz (hval 0 23 v0 rfl rfl) h0 (Nz hk (d := d0) (by simp))
 obtain rfl : c0 = x0.cells.toArray := by rw [← g0]
 obtain ⟨x1, s1, l1⟩ := Abd (α := Step) Tryz.underlying24 Tryz.underlying29 rfl Xy (hval 1 24 v1 rfl rfl) h1 (Nz hk (d := d1) (by simp))
 have hst := St.begin W
 have hkeep : Vk W ∈ [Vk W] := List.Mem.head _
 replace hst := hst.learn hkeep s1
 replace hkeep := List.mem_cons_of_mem (sl v1 x1) hkeep
 replace hst := hst.learn hkeep (Yi hsh hL)
 replace hkeep := List.mem_cons_of_mem lbF hkeep
 refine (Lo hst (List.Mem.tail _ (List.Mem.head _)) (List.Mem.head _) (by omega) w0).mono fun e W' hpost => ?_
 obtain ⟨_, rfl, hend⟩ := hpost
 exact ⟨_, rfl, Tt kids full (by rw [Tryz.params3]; decide) rfl Tryz.underlying4 rfl ⟨rfl, rfl, rfl⟩ hW' (Yz hkeep hend)⟩
theorem Ym (os : Os) : laidMet Tryz.prog Rows.topScriptUptoRow.laid ((Aea os).forCall (fun _ _ => 0) ⟨#[], #[.agg #[.int .i64 0, .int .i64 0], .slice none 0 0], []⟩).memory :=
 laidMet_of_run' 8 (by kernel_rfl) (by kernel_rfl)
theorem reads (os : Os) {H : Type} (enc : TypeId × Value → H) : ∃ places, DataW.whole enc Tryz.prog ((Aea os).forCall (fun _ _ => 0) ⟨#[], #[.agg #[.int .i64 0, .int .i64 0], .slice none 0 0], []⟩).memory Tryz.f3.params.toList Rows.topScriptSpec.vars false (#[.agg #[.int .i64 0, .int .i64 0], .slice none 0 0] : Array Value).toList 8 = some ([.agg [.lit (.int .i64 0), .lit (.int .i64 0)], .nil], [], places) :=
 ⟨[], by kernel_rfl⟩
set_option maxRecDepth 100000 in
theorem lifted (os : Os) (started : os.Started) (H : Type) (enc : TypeId × Value → H) (F : Stop.Interp) :
  ReturnsInHanded {} Tryz.checked os 3 .any ((Rows.OpenSpec.upto Rows.topScriptSpec).preRow enc Tryz.prog Tryz.f3 Rows.topScriptUptoRow.domain false Rows.topScriptUptoRow.laid) (((Rows.OpenSpec.upto Rows.topScriptSpec).at F).post enc Tryz.prog Tryz.f3 false true false false) := by
 obtain ⟨places, hx⟩ := reads os enc
 refine returnsInHanded_of_row (C := Tryz.checked) (s := Rows.OpenSpec.upto Rows.topScriptSpec) own started (by kernel_rfl) Tryz.func3
  (witness_row_at (enc := enc) (C := Tryz.checked) false (Aea os) #[.agg #[.int .i64 0, .int .i64 0], .slice none 0 0] rfl (by kernel_rfl) (by kernel_rfl) (by kernel_rfl)
   (OpenSpec.preRow_of_cond 8 hx (by kernel_rfl) (fun k hk => by cases hk; kernel_rfl) (by kernel_rfl) (Ym os))) ?_
 intro W base args ds gs before hval hW _ hcond _ hL hsh _
 exact contract H enc W base args ds gs before hval hW (hcond _ rfl) hL hsh
theorem the_name : Tryz.prog.funcNamed Rows.topScriptUptoRow.func = some 3 := by kernel_rfl
set_option maxRecDepth 100000 in
theorem closed : joinedFacts Tryz.prog 3 Tryz.f3 (Rows.OpenSpec.upto Rows.topScriptSpec).bare Rows.topScriptUptoRow = true := by kernel_rfl
theorem said : Rows.TopScriptUptoSaid :=
 OpenClaim.holds_of_cond 3 Tryz.f3 rfl rfl rfl rfl rfl rfl rfl ⟨rfl, rfl, rfl, rfl, rfl⟩ rfl rfl rfl rfl rfl the_name Tryz.func3 closed
  (of_decide_eq_true (by kernel_rfl)) (by unfold Func.isWrapper; first | (rw [if_pos (by decide +kernel)]; kernel_rfl) | (rw [if_neg (by decide +kernel)]; exact ⟨rfl, rfl⟩))
  (fun os started H enc _ F => by rw [OpenClaim.pre_eq_preRow]; exact lifted os started H enc F)
theorem plain (f : FuncId) (fn : Func) (hf : Tryz.pinned.checked.prog.funcNamed Rows.topScriptUptoRow.func = some f) (hfn : Tryz.pinned.checked.prog.funcs[f]? = some fn) :
  true = Tryz.pinned.checked.prog.looks [] ∧ ∀ (j : Nat) t, fn.params[j]? = some t → Tryz.pinned.checked.prog.wantsStandIn t = false := by
 obtain rfl : f = 3 := Option.some.inj (the_name.symm.trans hf) |>.symm
 obtain rfl : fn = Tryz.f3 := (Option.some.inj (Tryz.func3.symm.trans hfn)).symm
 refine ⟨by kernel_rfl, fun j t ht => ?_⟩
 rw [Tryz.params3] at ht
 have hm : t ∈ ([23, 24] : List TypeId) := by
  have h2 := Array.mem_of_getElem? ht
  simpa using h2
 have hall : ∀ u ∈ ([23, 24] : List TypeId), Tryz.pinned.checked.prog.wantsStandIn u = false := by
  intro u hu
  simp only [List.mem_cons, List.not_mem_nil, or_false] at hu
  rcases hu with rfl | rfl <;> kernel_rfl
 exact hall t hm
theorem proved : Rows.TopScriptUptoCardSaid :=
 Claim7.holds_tied_plain_at .later [] _ _ _ _ said (fun _ h => by cases h) (by kernel_rfl) (fun _ h => by cases h) topScriptUpto_row_tie rfl ⟨rfl, rfl⟩ (by kernel_rfl) rfl plain (by kernel_rfl)
end Go.Proofs.YtiofgjolhbgkiaaGreatDoor.topScript
