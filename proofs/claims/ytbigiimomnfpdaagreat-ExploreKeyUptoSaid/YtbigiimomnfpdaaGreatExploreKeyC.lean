/- This file proves the law ExploreKey, where what it reads is of bulk at most 1048576: what its walk tells, said as data. Condition: the bulk. -/
import Derived.Test.YtbigiimomnfpdaaGreatKM1
import Derived.Test.YtbigiimomnfpdaaGreatKM6
import Derived.WalkKit
set_option linter.unusedVariables false
set_option linter.unusedSimpArgs false
namespace Go.Proofs.YtbigiimomnfpdaaGreat.exploreKey
open Go Go.ChangeShapes Go.WideShapes Go.ChangeAt Go.RowKit
set_option maxRecDepth 100000 in
theorem contract (H : Type) (enc : TypeId × Value → H) (W : World) (base : Nat) (args : Array Value) (ds gs : List (DataW H)) (before : List MemPlace)
  (hval : ∀ (j : Nat) t v, Tryz.f4.params[j]? = some t → args[j]? = some v → Value.okWide Tryz.prog W .any base t v)
  (hW : DataW.Whole enc Tryz.prog Tryz.f4.params.toList Rows.exploreKeySpec.vars false W args.toList ds gs before) (hk : Rows.uptoSmall H (ds ++ gs) = true) :
  Calls Tryz.prog 4 args W fun e W' => ∃ v, e = .returned v ∧ Rows.exploreKeySpec.post enc Tryz.prog Tryz.f4 false true false false W args v W' := by
 have hW' := hW
 obtain ⟨p, q, hA0, hV, rfl, hfz, hnd⟩ := hW
 obtain ⟨rfl, rfl⟩ := trodVars_none hV
 have hA : DataW.TrodAll enc Tryz.prog W 0 (fun _ => true) true Tryz.f4.params.toList args.toList ds p := hA0
 rw [Tryz.params4] at hA hval
 clear hA0
 obtain ⟨v0, vs0, d0, ds0, p0, q0, hargs, rfl, rfl, h0, r0⟩ := trodAll_cons hA
 obtain ⟨v1, vs1, d1, ds1, p1, q1, rfl, rfl, rfl, h1, r1⟩ := trodAll_cons r0
 obtain ⟨v2, vs2, d2, ds2, p2, q2, rfl, rfl, rfl, h2, r2⟩ := trodAll_cons r1
 obtain ⟨rfl, rfl, rfl⟩ := trodAll_nil r2
 obtain rfl : args = #[v0, v1, v2] := by cases args; simp_all
 obtain ⟨x0, c0, rfl, g0, w0⟩ := Vg (α := Config) Tryz.underlying23 Zm (hval 0 23 v0 rfl rfl) h0 (L6 hk (d := d0) (by simp))
 obtain rfl : c0 = x0.cells.toArray := by rw [← g0]
 obtain ⟨x1, s1, l1⟩ := Re (α := Step) Tryz.underlying24 Sy (hval 1 24 v1 rfl rfl) h1 (L6 hk (d := d1) (by simp))
 obtain ⟨x2, s2, l2⟩ := Re (α := Step) Tryz.underlying24 Sy (hval 2 24 v2 rfl rfl) h2 (L6 hk (d := d2) (by simp))
 have hst := St.begin W
 have hkeep : Wr W ∈ [Wr W] := List.Mem.head _
 replace hst := hst.learn hkeep s1
 replace hkeep := List.mem_cons_of_mem (sl v1 x1) hkeep
 replace hst := hst.learn hkeep s2
 replace hkeep := List.mem_cons_of_mem (sl v2 x2) hkeep
 refine (M3 hst (List.Mem.tail _ (List.Mem.head _)) (List.Mem.head _) w0).mono fun e W' hpost => ?_
 obtain ⟨_, rfl, hend⟩ := hpost
 exact ⟨_, rfl, U7 kids full (by rw [Tryz.params4]; decide) rfl Tryz.underlying4 rfl ⟨rfl, rfl, rfl⟩ hW' (Aal hkeep hend)⟩
set_option maxRecDepth 100000 in
theorem lifted (os : Os) (started : os.Started) (H : Type) (enc : TypeId × Value → H) (F : Stop.Interp) :
  ReturnsInHanded {} Tryz.checked os 4 .any ((Rows.OpenSpec.upto Rows.exploreKeySpec).pre6 enc Tryz.prog Tryz.f4 Rows.exploreKeyUptoRow.domain false) (((Rows.OpenSpec.upto Rows.exploreKeySpec).at F).post enc Tryz.prog Tryz.f4 false true false false) := by
 refine returnsInHanded_of_cond (C := Tryz.checked) (s := Rows.OpenSpec.upto Rows.exploreKeySpec) (k := Rows.uptoSmall) rfl own started (by kernel_rfl) Tryz.func4
  (OpenSpec.witness (enc := enc) (C := Tryz.checked) (s := Rows.OpenSpec.upto Rows.exploreKeySpec) (k := Rows.uptoSmall) rfl false ⟨#[], #[.agg #[.int .i64 0, .int .i64 0], .slice none 0 0, .slice none 0 0], []⟩ 8 (by kernel_rfl) (by kernel_rfl) (by kernel_rfl)
   (x := ([.agg [.lit (.int .i64 0), .lit (.int .i64 0)], .nil, .nil], [], [])) (by kernel_rfl) rfl (by kernel_rfl)) ?_
 intro W base args ds gs before hval hW _ hk _
 exact contract H enc W base args ds gs before hval hW hk
theorem closed1 : OpenClaim.wf (OpenSpec.ofChange (Rows.OpenSpec.upto Rows.exploreKeySpec).bare) Rows.exploreKeyUptoRow = true := by kernel_rfl
theorem closed10 : (Rows.exploreKeyUptoRow.inPlace == Tryz.prog.inPlace 4) = true := by kernel_rfl
theorem closed11 : (Rows.exploreKeyUptoRow.unfollowed == Tryz.prog.unfollowed 4) = true := by kernel_rfl
theorem closed12 : (Rows.exploreKeyUptoRow.recurses == Tryz.prog.recurses 4) = true := by kernel_rfl
theorem closed13 : (Rows.exploreKeyUptoRow.named == Tryz.prog.varsNamed 4) = true := by kernel_rfl
set_option maxRecDepth 100000 in
theorem closed : joinedFacts Tryz.prog 4 Tryz.f4 (Rows.OpenSpec.upto Rows.exploreKeySpec).bare Rows.exploreKeyUptoRow = true := by
 simp only [joinedFacts, Bool.and_eq_true]
 exact ⟨⟨⟨⟨⟨⟨⟨⟨⟨⟨⟨⟨⟨⟨⟨⟨⟨⟨⟨⟨⟨⟨⟨⟨⟨⟨⟨⟨⟨⟨⟨closed1, S7⟩, Ue⟩, by kernel_rfl⟩, by kernel_rfl⟩, rfl⟩, Tz⟩, rfl⟩, Ug⟩, closed10⟩, closed11⟩, closed12⟩, closed13⟩, by kernel_rfl⟩, by kernel_rfl⟩, by kernel_rfl⟩, by kernel_rfl⟩, by kernel_rfl⟩, by kernel_rfl⟩, by kernel_rfl⟩, by kernel_rfl⟩, by kernel_rfl⟩, by rw [Ua]; rfl⟩, rfl⟩, Rj⟩, Wg⟩, by rw [Aen]; rfl⟩, by rw [Aeu]; rfl⟩, by kernel_rfl⟩, by kernel_rfl⟩, by kernel_rfl⟩, by kernel_rfl⟩
theorem the_name : Tryz.prog.funcNamed Rows.exploreKeyUptoRow.func = some 4 := by kernel_rfl
theorem proved : Rows.ExploreKeyUptoSaid :=
 OpenClaim.holds_of_cond 4 Tryz.f4 rfl rfl rfl rfl rfl rfl rfl ⟨rfl, rfl, rfl, rfl, rfl⟩ rfl rfl rfl rfl rfl the_name Tryz.func4 closed
  (of_decide_eq_true (by kernel_rfl)) (by unfold Func.isWrapper; first | (rw [if_pos (by decide +kernel)]; kernel_rfl) | (rw [if_neg (by decide +kernel)]; exact ⟨rfl, rfl⟩))
  (fun os started H enc _ F => lifted os started H enc F)
end Go.Proofs.YtbigiimomnfpdaaGreat.exploreKey
