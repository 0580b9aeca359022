/- This file proves the law RoundHome, where what it reads is of bulk at Hy 1048576: what its walk tells, said as data. Condition: the bulk. -/
import Derived.Test.YtehpekiedfpnkaaXM7
import Derived.WalkKit
set_option linter.unusedVariables false
set_option linter.unusedSimpArgs false
namespace Go.Proofs.Ytehpekiedfpnkaa.roundHome
open Go Go.ChangeShapes Go.WideShapes Go.ChangeAt Go.RowKit
set_option maxRecDepth 100000 in
theorem contract (H : Type) (enc : TypeId × Value → H) (W : World) (base : Nat) (args : Array Value) (ds gs : List (DataW H)) (before : List MemPlace)
  (hval : ∀ (j : Nat) t v, Try.f13.params[j]? = some t → args[j]? = some v → Value.okWide Try.prog W .any base t v)
  (hW : DataW.Whole enc Try.prog Try.f13.params.toList Rows.roundHomeSpec.vars false W args.toList ds gs before) (hk : Rows.uptoSmall H (ds ++ gs) = true) :
  Calls Try.prog 13 args W fun e W' => ∃ v, e = .returned v ∧ Rows.roundHomeSpec.post enc Try.prog Try.f13 false true false false W args v W' := by
 have hW' := hW
 obtain ⟨p, q, hA0, hV, rfl, hfz, hnd⟩ := hW
 obtain ⟨rfl, rfl⟩ := trodVars_none hV
 have hA : DataW.TrodAll enc Try.prog W 0 (fun _ => true) true Try.f13.params.toList args.toList ds p := hA0
 rw [Try.params13] at hA hval
 clear hA0
 obtain ⟨v0, vs0, d0, ds0, p0, q0, hargs, rfl, rfl, h0, r0⟩ := trodAll_cons hA
 obtain ⟨v1, vs1, d1, ds1, p1, q1, rfl, rfl, rfl, h1, r1⟩ := trodAll_cons r0
 obtain ⟨rfl, rfl, rfl⟩ := trodAll_nil r1
 obtain rfl : args = #[v0, v1] := by cases args; simp_all
 obtain ⟨x0, c0, rfl, g0, w0⟩ := W5 (α := Config) Try.underlying23 Abl (hval 0 23 v0 rfl rfl) h0 (Qr hk (d := d0) (by simp))
 obtain rfl : c0 = x0.cells.toArray := by rw [← g0]
 obtain ⟨x1, s1, l1⟩ := Aaa (α := Step) Try.underlying24 Abk (hval 1 24 v1 rfl rfl) h1 (Qr hk (d := d1) (by simp))
 have hst := St.begin W
 have hkeep : Yd W ∈ [Yd W] := List.Mem.head _
 replace hst := hst.learn hkeep s1
 replace hkeep := List.mem_cons_of_mem (sl v1 x1) hkeep
 refine (roundHome_walk hst (List.Mem.head _) w0).mono fun e W' hpost => ?_
 obtain ⟨_, rfl, hend⟩ := hpost
 exact ⟨_, rfl, Wy kids full (by rw [Try.params13]; decide) rfl Try.underlying4 rfl ⟨rfl, rfl, rfl⟩ hW' (Acr hkeep hend)⟩
set_option maxRecDepth 100000 in
theorem lifted (os : Os) (started : os.Started) (H : Type) (enc : TypeId × Value → H) (F : Stop.Interp) :
  ReturnsInHanded {} Try.checked os 13 .any ((Rows.OpenSpec.upto Rows.roundHomeSpec).pre6 enc Try.prog Try.f13 Rows.roundHomeUptoRow.domain false) (((Rows.OpenSpec.upto Rows.roundHomeSpec).at F).post enc Try.prog Try.f13 false true false false) := by
 refine returnsInHanded_of_cond (C := Try.checked) (s := Rows.OpenSpec.upto Rows.roundHomeSpec) (k := Rows.uptoSmall) rfl own started (by kernel_rfl) Try.func13
  (OpenSpec.witness (enc := enc) (C := Try.checked) (s := Rows.OpenSpec.upto Rows.roundHomeSpec) (k := Rows.uptoSmall) rfl false ⟨#[], #[.agg #[.int .i64 0, .int .i64 0], .slice none 0 0], []⟩ 8 (by kernel_rfl) (by kernel_rfl) (by kernel_rfl)
   (x := ([.agg [.lit (.int .i64 0), .lit (.int .i64 0)], .nil], [], [])) (by kernel_rfl) rfl (by kernel_rfl)) ?_
 intro W base args ds gs before hval hW _ hk _
 exact contract H enc W base args ds gs before hval hW hk
theorem closed1 : OpenClaim.wf (OpenSpec.ofChange (Rows.OpenSpec.upto Rows.roundHomeSpec).bare) Rows.roundHomeUptoRow = true := by kernel_rfl
theorem closed10 : (Rows.roundHomeUptoRow.inPlace == Try.prog.inPlace 13) = true := by kernel_rfl
theorem closed11 : (Rows.roundHomeUptoRow.unfollowed == Try.prog.unfollowed 13) = true := by kernel_rfl
theorem closed12 : (Rows.roundHomeUptoRow.recurses == Try.prog.recurses 13) = true := by kernel_rfl
theorem closed13 : (Rows.roundHomeUptoRow.named == Try.prog.varsNamed 13) = true := by kernel_rfl
set_option maxRecDepth 100000 in
theorem closed : joinedFacts Try.prog 13 Try.f13 (Rows.OpenSpec.upto Rows.roundHomeSpec).bare Rows.roundHomeUptoRow = true := by
 simp only [joinedFacts, Bool.and_eq_true]
 exact ⟨⟨⟨⟨⟨⟨⟨⟨⟨⟨⟨⟨⟨⟨⟨⟨⟨⟨⟨⟨⟨⟨⟨⟨⟨⟨⟨⟨⟨⟨⟨closed1, Um⟩, V2⟩, by kernel_rfl⟩, by kernel_rfl⟩, rfl⟩, Vi⟩, rfl⟩, V4⟩, closed10⟩, closed11⟩, closed12⟩, closed13⟩, by kernel_rfl⟩, by kernel_rfl⟩, by kernel_rfl⟩, by kernel_rfl⟩, by kernel_rfl⟩, by kernel_rfl⟩, by kernel_rfl⟩, by kernel_rfl⟩, by kernel_rfl⟩, by rw [Vz]; rfl⟩, rfl⟩, Sr⟩, X7⟩, by rw [Agx]; rfl⟩, by rw [Ahe]; rfl⟩, by kernel_rfl⟩, by kernel_rfl⟩, by kernel_rfl⟩, by kernel_rfl⟩
theorem the_name : Try.prog.funcNamed Rows.roundHomeUptoRow.func = some 13 := by kernel_rfl
theorem proved : Rows.RoundHomeUptoSaid :=
 OpenClaim.holds_of_cond 13 Try.f13 rfl rfl rfl rfl rfl rfl rfl ⟨rfl, rfl, rfl, rfl, rfl⟩ rfl rfl rfl rfl rfl the_name Try.func13 closed
  (of_decide_eq_true (by kernel_rfl)) (by unfold Func.isWrapper; first | (rw [if_pos (by decide +kernel)]; kernel_rfl) | (rw [if_neg (by decide +kernel)]; exact ⟨rfl, rfl⟩))
  (fun os started H enc _ F => lifted os started H enc F)
end Go.Proofs.Ytehpekiedfpnkaa.roundHome
