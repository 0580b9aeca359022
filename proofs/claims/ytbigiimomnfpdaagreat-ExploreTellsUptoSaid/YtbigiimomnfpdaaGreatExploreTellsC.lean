/- This file proves the law ExploreTells, where what it reads is of bulk at most 1048576: what its walk tells, said as data. Condition: the bulk. -/
import Derived.Test.YtbigiimomnfpdaaGreatTM1
import Derived.Test.YtbigiimomnfpdaaGreatTM6
import Derived.WalkKit
set_option linter.unusedVariables false
set_option linter.unusedSimpArgs false
namespace Go.Proofs.YtbigiimomnfpdaaGreat.exploreTells
open Go Go.ChangeShapes Go.WideShapes Go.ChangeAt Go.RowKit
set_option maxRecDepth 100000 in
theorem contract (H : Type) (enc : TypeId × Value → H) (W : World) (base : Nat) (args : Array Value) (ds gs : List (DataW H)) (before : List MemPlace)
  (hval : ∀ (j : Nat) t v, Tryz.f3.params[j]? = some t → args[j]? = some v → Value.okWide Tryz.prog W .any base t v)
  (hW : DataW.Whole enc Tryz.prog Tryz.f3.params.toList Rows.exploreTellsSpec.vars false W args.toList ds gs before) (hk : Rows.uptoSmall H (ds ++ gs) = true) :
  Calls Tryz.prog 3 args W fun e W' => ∃ v, e = .returned v ∧ Rows.exploreTellsSpec.post enc Tryz.prog Tryz.f3 false true false false W args v W' := by
 have hW' := hW
 obtain ⟨p, q, hA0, hV, rfl, hfz, hnd⟩ := hW
 obtain ⟨rfl, rfl⟩ := trodVars_none hV
 have hA : DataW.TrodAll enc Tryz.prog W 0 (fun _ => true) true Tryz.f3.params.toList args.toList ds p := hA0
 rw [Tryz.params3] at hA hval
 clear hA0
 obtain ⟨v0, vs0, d0, ds0, p0, q0, hargs, rfl, rfl, h0, r0⟩ := trodAll_cons hA
 obtain ⟨v1, vs1, d1, ds1, p1, q1, rfl, rfl, rfl, h1, r1⟩ := trodAll_cons r0
 obtain ⟨v2, vs2, d2, ds2, p2, q2, rfl, rfl, rfl, h2, r2⟩ := trodAll_cons r1
 obtain ⟨v3, vs3, d3, ds3, p3, q3, rfl, rfl, rfl, h3, r3⟩ := trodAll_cons r2
 obtain ⟨v4, vs4, d4, ds4, p4, q4, rfl, rfl, rfl, h4, r4⟩ := trodAll_cons r3
 obtain ⟨rfl, rfl, rfl⟩ := trodAll_nil r4
 obtain rfl : args = #[v0, v1, v2, v3, v4] := by cases args; simp_all
 obtain ⟨x0, c0, rfl, g0, w0⟩ := V4 (α := Config) Tryz.underlying23 Z6 (hval 0 23 v0 rfl rfl) h0 (Mb hk (d := d0) (by simp))
 obtain rfl : c0 = x0.cells.toArray := by rw [← g0]
 obtain ⟨x1, s1, l1⟩ := Rr (α := Step) Tryz.underlying24 Z5 (hval 1 24 v1 rfl rfl) h1 (Mb hk (d := d1) (by simp))
 obtain ⟨x2, s2, l2⟩ := Rr (α := Op) Tryz.underlying25 Z4 (hval 2 25 v2 rfl rfl) h2 (Mb hk (d := d2) (by simp))
 obtain ⟨x3, rfl⟩ := Adh Tryz.underlying4 (hval 3 4 v3 rfl rfl)
 obtain ⟨x4, rfl, w4⟩ := Ajp Tryz.underlying3 (hval 4 3 v4 rfl rfl) h4
 have hst := St.begin W
 have hkeep : Xe W ∈ [Xe W] := List.Mem.head _
 replace hst := hst.learn hkeep s1
 replace hkeep := List.mem_cons_of_mem (sl v1 x1) hkeep
 replace hst := hst.learn hkeep s2
 replace hkeep := List.mem_cons_of_mem (sl v2 x2) hkeep
 refine (Ky hst (List.Mem.tail _ (List.Mem.head _)) (List.Mem.head _) w0 w4 (by omega)).mono fun e W' hpost => ?_
 obtain ⟨_, rfl, hend⟩ := hpost
 exact ⟨_, rfl, Vv kids full (by rw [Tryz.params3]; decide) rfl Tryz.underlying4 rfl ⟨rfl, rfl, rfl⟩ hW' (Abg hkeep hend)⟩
set_option maxRecDepth 100000 in
theorem lifted (os : Os) (started : os.Started) (H : Type) (enc : TypeId × Value → H) (F : Stop.Interp) :
  ReturnsInHanded {} Tryz.checked os 3 .any ((Rows.OpenSpec.upto Rows.exploreTellsSpec).pre6 enc Tryz.prog Tryz.f3 Rows.exploreTellsUptoRow.domain false) (((Rows.OpenSpec.upto Rows.exploreTellsSpec).at F).post enc Tryz.prog Tryz.f3 false true false false) := by
 refine returnsInHanded_of_cond (C := Tryz.checked) (s := Rows.OpenSpec.upto Rows.exploreTellsSpec) (k := Rows.uptoSmall) rfl own started (by kernel_rfl) Tryz.func3
  (OpenSpec.witness (enc := enc) (C := Tryz.checked) (s := Rows.OpenSpec.upto Rows.exploreTellsSpec) (k := Rows.uptoSmall) rfl false ⟨#[], #[.agg #[.int .i64 0, .int .i64 0], .slice none 0 0, .slice none 0 0, .bool false, .int .i64 0], []⟩ 8 (by kernel_rfl) (by kernel_rfl) (by kernel_rfl)
   (x := ([.agg [.lit (.int .i64 0), .lit (.int .i64 0)], .nil, .nil, .lit (.bool false), .lit (.int .i64 0)], [], [])) (by kernel_rfl) rfl (by kernel_rfl)) ?_
 intro W base args ds gs before hval hW _ hk _
 exact contract H enc W base args ds gs before hval hW hk
theorem closed1 : OpenClaim.wf (OpenSpec.ofChange (Rows.OpenSpec.upto Rows.exploreTellsSpec).bare) Rows.exploreTellsUptoRow = true := by kernel_rfl
theorem closed10 : (Rows.exploreTellsUptoRow.inPlace == Tryz.prog.inPlace 3) = true := by kernel_rfl
theorem closed11 : (Rows.exploreTellsUptoRow.unfollowed == Tryz.prog.unfollowed 3) = true := by kernel_rfl
theorem closed12 : (Rows.exploreTellsUptoRow.recurses == Tryz.prog.recurses 3) = true := by kernel_rfl
theorem closed13 : (Rows.exploreTellsUptoRow.named == Tryz.prog.varsNamed 3) = true := by kernel_rfl
set_option maxRecDepth 100000 in
theorem closed : joinedFacts Tryz.prog 3 Tryz.f3 (Rows.OpenSpec.upto Rows.exploreTellsSpec).bare Rows.exploreTellsUptoRow = true := by
 simp only [joinedFacts, Bool.and_eq_true]
 exact ⟨⟨⟨⟨⟨⟨⟨⟨⟨⟨⟨⟨⟨⟨⟨⟨⟨⟨⟨⟨⟨⟨⟨⟨⟨⟨⟨⟨⟨⟨⟨closed1, Tq⟩, U1⟩, by kernel_rfl⟩, by kernel_rfl⟩, rfl⟩, Um⟩, rfl⟩, U3⟩, closed10⟩, closed11⟩, closed12⟩, closed13⟩, by kernel_rfl⟩, by kernel_rfl⟩, by kernel_rfl⟩, by kernel_rfl⟩, by kernel_rfl⟩, by kernel_rfl⟩, by kernel_rfl⟩, by kernel_rfl⟩, by kernel_rfl⟩, by rw [Ux]; rfl⟩, rfl⟩, Rv⟩, W3⟩, by rw [Afm]; rfl⟩, by rw [Aft]; rfl⟩, by kernel_rfl⟩, by kernel_rfl⟩, by kernel_rfl⟩, by kernel_rfl⟩
theorem the_name : Tryz.prog.funcNamed Rows.exploreTellsUptoRow.func = some 3 := by kernel_rfl
theorem proved : Rows.ExploreTellsUptoSaid :=
 OpenClaim.holds_of_cond 3 Tryz.f3 rfl rfl rfl rfl rfl rfl rfl ⟨rfl, rfl, rfl, rfl, rfl⟩ rfl rfl rfl rfl rfl the_name Tryz.func3 closed
  (of_decide_eq_true (by kernel_rfl)) (by unfold Func.isWrapper; first | (rw [if_pos (by decide +kernel)]; kernel_rfl) | (rw [if_neg (by decide +kernel)]; exact ⟨rfl, rfl⟩))
  (fun os started H enc _ F => lifted os started H enc F)
end Go.Proofs.YtbigiimomnfpdaaGreat.exploreTells
