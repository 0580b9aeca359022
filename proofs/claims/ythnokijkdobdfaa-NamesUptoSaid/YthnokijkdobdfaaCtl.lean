/- This file proves the rules for the flow of control, for loops, for what a call hands back, and for integers. No conditions. -/
import Derived.Test.YthnokijkdobdfaaMem4
set_option linter.unusedVariables false
set_option linter.unusedSimpArgs false
namespace Go.Proofs.Ythnokijkdobdfaa
open Go

section
variable {P : Program} {n : Nat} {ops : Array Oper} {Q : Exit → Act → World → Prop} {L L' : List Chunk} {R R' : List Fact} {al : List (Nat × Value)}

theorem jc_skip (h : JX n Q .normal L R al) : JC P n .skip Q L R al := fun B w hs => wp_skip (h B w hs)
theorem jc_exit {id : Nat} (h : JX n Q (.exit id) L R al) : JC P n (.exit id) Q L R al := fun B w hs => wp_exit (h B w hs)
theorem jc_ret (h : JX n Q .ret L R al) : JC P n .ret Q L R al := fun B w hs => wp_ret (h B w hs)
theorem jc_seq {x y : Code} (h : JC P n x (Exit.then (y.wp P Q) Q) L R al) : JC P n (.seq x y) Q L R al := fun B w hs => wp_seq (h B w hs)
theorem jc_block {id : Nat} {c : Code} (h : JC P n c (Exit.inBlock id Q) L R al) : JC P n (.block id c) Q L R al := fun B w hs => wp_block (h B w hs)
theorem jc_region {id : Nat} {l : List Oper} (h : J P n l.toArray Q l L R al) : JC P n (.region id l.toArray false) Q L R al := fun B w hs => wp_region_lit (h B w hs)
theorem jc_condT {c : Operand} {x y : Code} (hc : ev n al c = some (.bool true)) (h : JC P n x Q L R al) : JC P n (.cond c x y) Q L R al := fun B w hs => wp_cond_true (ev_eval hc) (h B w hs)
theorem jc_condF {c : Operand} {x y : Code} (hc : ev n al c = some (.bool false)) (h : JC P n y Q L R al) : JC P n (.cond c x y) Q L R al := fun B w hs => wp_cond_false (ev_eval hc) (h B w hs)
/-- A test that is not decided yet. -/
theorem jc_cond {t : Nat} {x y : Code} {b : Bool} (hc : ev n al (.tmp t) = some (.bool b)) (hT : b = true → JC P n x Q L R ((t, .bool true) :: al)) (hF : b = false → JC P n y Q L R ((t, .bool false) :: al)) : JC P n (.cond (.tmp t) x y) Q L R al := by
  intro B w hs
  have hA : ∀ v : Bool, v = b → mkA n al B = mkA n ((t, .bool v) :: al) B := by
    intro v hv
    rw [← mkA_put]
    have hl := look_tmps (B := B) hc
    unfold Act.put
    cases hm : mkA n al B with
    | mk tm de =>
      rw [hm] at hl
      simp only [Act.mk.injEq, and_true]
      apply Array.ext_getElem?
      intro i
      by_cases hi : t = i
      · subst hi
        have : t < tm.size := (Array.getElem?_eq_some_iff.1 hl).1
        simp only [Array.getElem?_setIfInBounds_self, this, ite_true]
        rw [hl, hv]
      · rw [Array.getElem?_setIfInBounds_ne hi]
  cases b with
  | true => exact wp_cond_true (ev_eval hc) (by rw [hA true rfl]; exact hT rfl B w hs)
  | false => exact wp_cond_false (ev_eval hc) (by rw [hA false rfl]; exact hF rfl B w hs)
/-- The same inside a region: a guard that is not decided yet. -/
theorem j_cases {t : Nat} {b : Bool} {l : List Oper} (hc : ev n al (.tmp t) = some (.bool b)) (hT : b = true → J P n ops Q l L R ((t, .bool true) :: al)) (hF : b = false → J P n ops Q l L R ((t, .bool false) :: al)) : J P n ops Q l L R al := by
  intro B w hs
  have hA : ∀ v : Bool, v = b → mkA n al B = mkA n ((t, .bool v) :: al) B := by
    intro v hv
    rw [← mkA_put]
    have hl := look_tmps (B := B) hc
    unfold Act.put
    cases hm : mkA n al B with
    | mk tm de =>
      rw [hm] at hl
      simp only [Act.mk.injEq, and_true]
      apply Array.ext_getElem?
      intro i
      by_cases hi : t = i
      · subst hi
        have : t < tm.size := (Array.getElem?_eq_some_iff.1 hl).1
        simp only [Array.getElem?_setIfInBounds_self, this, ite_true]
        rw [hl, hv]
      · rw [Array.getElem?_setIfInBounds_ne hi]
  cases b with
  | true => rw [hA true rfl]; exact hT rfl B w hs
  | false => rw [hA false rfl]; exact hF rfl B w hs

/-! ### Exits -/
theorem jx_then {y : Code} (h : JC P n y Q L R al) : JX n (Exit.then (y.wp P Q) Q) .normal L R al := fun B w hs => h B w hs
theorem jx_thenExit {K : Act → World → Prop} {id : Nat} (h : JX n Q (.exit id) L R al) : JX n (Exit.then K Q) (.exit id) L R al := fun B w hs => h B w hs
theorem jx_thenRet {K : Act → World → Prop} (h : JX n Q .ret L R al) : JX n (Exit.then K Q) .ret L R al := fun B w hs => h B w hs
theorem jx_block {id : Nat} (h : JX n Q .normal L R al) : JX n (Exit.inBlock id Q) .normal L R al := fun B w hs => h B w hs
theorem jx_blockRet {id : Nat} (h : JX n Q .ret L R al) : JX n (Exit.inBlock id Q) .ret L R al := fun B w hs => h B w hs
theorem jx_blockHit {id : Nat} (h : JX n Q .normal L R al) : JX n (Exit.inBlock id Q) (.exit id) L R al := fun B w hs => by simpa [Exit.inBlock] using h B w hs
theorem jx_blockMiss {id id' : Nat} (hne : Nat.beq id' id = false) (h : JX n Q (.exit id') L R al) : JX n (Exit.inBlock id Q) (.exit id') L R al := fun B w hs => by
  have : id' ≠ id := by intro e; subst e; simp at hne
  simpa [Exit.inBlock, this] using h B w hs

/-! ### What a call hands back -/
theorem jx_body {γ : Type} {val : γ → Value} {Lf : γ → List Chunk} {Rf : γ → List Fact} {fn : Func} {e : Exit} (he : e = .normal ∨ e = .ret) {v : Value} (hr : ∀ B w, St L R w → (results fn (mkA n al B).tmps).run P w = .ok v w)
    (h : ∀ w, St L R w → ∃ g, v = val g ∧ St (Lf g) (Rf g) w) : JX n (bodyPost P fn (Post val Lf Rf)) e L R al := by
  intro B w hs
  obtain ⟨g, hv, hs'⟩ := h w hs
  rcases he with rfl | rfl
  · exact ⟨rfl, v, hr B w hs, g, by rw [hv], hs'⟩
  · exact ⟨rfl, v, hr B w hs, g, by rw [hv], hs'⟩
/-- Result variables that are temporaries. -/
def resTmps : List ResultVar → Option (List Nat)
  | [] => some []
  | .tmp t :: r => (resTmps r).map (t :: ·)
  | .cell _ _ :: _ => none
theorem res0 {fn : Func} (hf : fn.results = #[]) (tm : Array Value) (w : World) : (results fn tm).run P w = .ok (.tuple #[]) w := by simp [results, hf]
theorem res1 {fn : Func} {t : Nat} {v : Value} (hf : fn.results = #[.tmp t]) (hv : ev n al (.tmp t) = some v) (B : Nat → Value) (w : World) : (results fn (mkA n al B).tmps).run P w = .ok v w := by
  have h := look_tmps (B := B) hv
  simp [results, hf, h]
theorem res2 {fn : Func} {t u : Nat} {v1 v2 : Value} (hf : fn.results = #[.tmp t, .tmp u]) (h1 : ev n al (.tmp t) = some v1) (h2 : ev n al (.tmp u) = some v2) (B : Nat → Value) (w : World) : (results fn (mkA n al B).tmps).run P w = .ok (.tuple #[v1, v2]) w := by
  have e1 := look_tmps (B := B) h1
  have e2 := look_tmps (B := B) h2
  simp [results, hf, e1, e2]
theorem res3 {fn : Func} {t u s : Nat} {v1 v2 v3 : Value} (hf : fn.results = #[.tmp t, .tmp u, .tmp s]) (h1 : ev n al (.tmp t) = some v1) (h2 : ev n al (.tmp u) = some v2) (h3 : ev n al (.tmp s) = some v3) (B : Nat → Value) (w : World) : (results fn (mkA n al B).tmps).run P w = .ok (.tuple #[v1, v2, v3]) w := by
  have e1 := look_tmps (B := B) h1
  have e2 := look_tmps (B := B) h2
  have e3 := look_tmps (B := B) h3
  simp [results, hf, e1, e2, e3]
theorem run_cellResult {t : TypeId} {sz b : Nat} {cs : List Value} {w : World} (hT : ∀ w, (isAgg t).run P w = .ok true w) (hsz : ∀ w, (sizeOf t).run P w = .ok sz w) (hl : cs.length = sz) {L' : List Chunk} {T0 : TypeId} (hp : Pick L (blk b T0 cs) L') (hs : St L R w) :
    (loadVar t ⟨b, 0, none⟩).run P w = .ok (.agg cs.toArray) w := by
  obtain ⟨a, ha, hc⟩ := at_blkAll (R := R) hp w hs
  have : a = ⟨b, 0, none⟩ := by unfold bp at ha; simpa using ha.symm
  subst this
  have := run_loadN (P := P) (T := t) hT hsz hl hc
  simpa [Instr.loadAt, Instr.sureAddr] using this
theorem resC1 {fn : Func} {t : Nat} {ty : TypeId} {sz b : Nat} {cs : List Value} {T0 : TypeId} (hf : fn.results = #[.cell t ty]) (h1 : ev n al (.tmp t) = some (bp b 0)) (hT : ∀ w, (isAgg ty).run P w = .ok true w) (hsz : ∀ w, (sizeOf ty).run P w = .ok sz w) (hp : Pick L (blk b T0 cs) L') (hl : cs.length = sz) (B : Nat → Value) (w : World) (hs : St L R w) :
    (results fn (mkA n al B).tmps).run P w = .ok (.agg cs.toArray) w := by
  have e1 := look_tmps (B := B) h1
  have := run_cellResult (P := P) hT hsz hl hp hs
  simp [results, hf, e1, bp, asAddr, this]
theorem resC2 {fn : Func} {t u : Nat} {ty : TypeId} {sz b : Nat} {cs : List Value} {v2 : Value} {T0 : TypeId} (hf : fn.results = #[.cell t ty, .tmp u]) (h1 : ev n al (.tmp t) = some (bp b 0)) (h2 : ev n al (.tmp u) = some v2) (hT : ∀ w, (isAgg ty).run P w = .ok true w) (hsz : ∀ w, (sizeOf ty).run P w = .ok sz w) (hp : Pick L (blk b T0 cs) L') (hl : cs.length = sz) (B : Nat → Value) (w : World) (hs : St L R w) :
    (results fn (mkA n al B).tmps).run P w = .ok (.tuple #[.agg cs.toArray, v2]) w := by
  have e1 := look_tmps (B := B) h1
  have e2 := look_tmps (B := B) h2
  have := run_cellResult (P := P) hT hsz hl hp hs
  simp [results, hf, e1, e2, bp, asAddr, this]
theorem resC3 {fn : Func} {t u s : Nat} {ty : TypeId} {sz b : Nat} {cs : List Value} {v2 v3 : Value} {T0 : TypeId} (hf : fn.results = #[.cell t ty, .tmp u, .tmp s]) (h1 : ev n al (.tmp t) = some (bp b 0)) (h2 : ev n al (.tmp u) = some v2) (h3 : ev n al (.tmp s) = some v3) (hT : ∀ w, (isAgg ty).run P w = .ok true w) (hsz : ∀ w, (sizeOf ty).run P w = .ok sz w) (hp : Pick L (blk b T0 cs) L') (hl : cs.length = sz) (B : Nat → Value) (w : World) (hs : St L R w) :
    (results fn (mkA n al B).tmps).run P w = .ok (.tuple #[.agg cs.toArray, v2, v3]) w := by
  have e1 := look_tmps (B := B) h1
  have e2 := look_tmps (B := B) h2
  have e3 := look_tmps (B := B) h3
  have := run_cellResult (P := P) hT hsz hl hp hs
  simp [results, hf, e1, e2, e3, bp, asAddr, this]
theorem resC4 {fn : Func} {t u s r : Nat} {ty : TypeId} {sz b : Nat} {cs : List Value} {v2 v3 v4 : Value} {T0 : TypeId} (hf : fn.results = #[.cell t ty, .tmp u, .tmp s, .tmp r]) (h1 : ev n al (.tmp t) = some (bp b 0)) (h2 : ev n al (.tmp u) = some v2) (h3 : ev n al (.tmp s) = some v3) (h4 : ev n al (.tmp r) = some v4) (hT : ∀ w, (isAgg ty).run P w = .ok true w) (hsz : ∀ w, (sizeOf ty).run P w = .ok sz w) (hp : Pick L (blk b T0 cs) L') (hl : cs.length = sz) (B : Nat → Value) (w : World) (hs : St L R w) :
    (results fn (mkA n al B).tmps).run P w = .ok (.tuple #[.agg cs.toArray, v2, v3, v4]) w := by
  have e1 := look_tmps (B := B) h1
  have e2 := look_tmps (B := B) h2
  have e3 := look_tmps (B := B) h3
  have e4 := look_tmps (B := B) h4
  have := run_cellResult (P := P) hT hsz hl hp hs
  simp [results, hf, e1, e2, e3, e4, bp, asAddr, this]

/-- A call is entered. -/
theorem calls_of {γ : Type} {val : γ → Value} {Lf : γ → List Chunk} {Rf : γ → List Fact} {f : FuncId} {fn : Func} {c : Code} {vs : List Value} {w : World} {al : List (Nat × Value)} {n : Nat} (hf : P.funcs[f]? = some fn) (hb : fn.body = some c) (hn : fn.ntmps = n) (hlen : Nat.ble vs.length n = true) (hal : ∀ t v, look al t = some v → vs[t]? = some v)
    (h : JC P n c (bodyPost P fn (Post val Lf Rf)) L R al) (hs : St L R w) : Calls P f vs.toArray w (Post val Lf Rf) := by
  refine calls_of_wp hf hb ?_
  have hle : vs.length ≤ n := Nat.le_of_ble_eq_true hlen
  have : ({ tmps := vs.toArray ++ Array.replicate (fn.ntmps - vs.toArray.size) undef, defers := [] } : Act) = mkA n al (fun t => (vs.toArray ++ Array.replicate (n - vs.length) undef).getD t undef) := by
    unfold mkA
    simp only [Act.mk.injEq, and_true]
    rw [hn]
    apply Array.ext
    · simp; omega
    · intro i h1 h2
      rw [Array.getElem_ofFn]
      cases hl : look al i with
      | none => simp at h1 ⊢; rw [Array.getElem?_eq_getElem (by simp; omega)]; simp
      | some v =>
        have hv := hal i v hl
        have hi : i < vs.length := (List.getElem?_eq_some_iff.1 hv).1
        rw [Array.getElem_append_left (by simpa using hi)]
        have := (List.getElem?_eq_some_iff.1 hv).2
        simpa using this
  rw [this]
  exact h _ w hs
/-- The frame at the beginning. -/
def argsAl (vs : List Value) : List (Nat × Value) := go 0 vs
where go : Nat → List Value → List (Nat × Value)
  | _, [] => []
  | i, v :: r => (i, v) :: go (i + 1) r
theorem argsAl_look : ∀ (vs : List Value) (i t : Nat) (v : Value), look (argsAl.go i vs) t = some v → i ≤ t ∧ vs[t - i]? = some v
  | [], i, t, v, h => by simp [argsAl.go, look] at h
  | u :: r, i, t, v, h => by
    simp only [argsAl.go, look] at h
    cases hb : Nat.beq i t with
    | true =>
      rw [hb] at h
      have : i = t := Nat.eq_of_beq_eq_true hb
      subst this
      simpa using h
    | false =>
      rw [hb] at h
      have hne : i ≠ t := by intro e; subst e; simp at hb
      obtain ⟨h1, h2⟩ := argsAl_look r (i + 1) t v h
      refine ⟨by omega, ?_⟩
      rw [show t - i = (t - (i + 1)) + 1 by omega]
      simpa using h2
theorem calls_args {γ : Type} {val : γ → Value} {Lf : γ → List Chunk} {Rf : γ → List Fact} {f : FuncId} {fn : Func} {c : Code} {vs : List Value} {w : World} {n : Nat} (hf : P.funcs[f]? = some fn) (hb : fn.body = some c) (hn : fn.ntmps = n) (hlen : Nat.ble vs.length n = true)
    (hs : St L R w) (h : JC P n c (bodyPost P fn (Post val Lf Rf)) L R (argsAl vs)) : Calls P f vs.toArray w (Post val Lf Rf) :=
  calls_of hf hb hn hlen (fun t v hl => by have := argsAl_look vs 0 t v hl; simpa using this.2) h hs

/-! ### Loops -/
def alsub (al : List (Nat × Value)) (n : Nat) : List (Nat × Value) → Prop
  | [] => True
  | (t, v) :: r => ev n al (.tmp t) = some v ∧ alsub al n r
theorem alsub_look {al al' : List (Nat × Value)} {n t : Nat} {v : Value} (h : alsub al n al') (hl : look al' t = some v) : ev n al (.tmp t) = some v := by
  induction al' with
  | nil => simp [look] at hl
  | cons p r ih =>
    obtain ⟨d, u⟩ := p
    simp only [look] at hl
    cases hb : Nat.beq d t with
    | true =>
      rw [hb] at hl
      have : d = t := Nat.eq_of_beq_eq_true hb
      subst this
      have : u = v := by simpa using hl
      subst this
      exact h.1
    | false => rw [hb] at hl; exact ih h.2 hl
theorem mkA_sub {al al' : List (Nat × Value)} {n : Nat} (h : alsub al n al') (B : Nat → Value) : ∃ B', mkA n al B = mkA n al' B' := by
  refine ⟨fun t => (look al t).getD (B t), ?_⟩
  unfold mkA
  simp only [Act.mk.injEq, and_true]
  congr 1
  funext i
  cases hl : look al' i with
  | none => simp
  | some v =>
    have := alsub_look h hl
    simp only [ev] at this
    have hb : Nat.blt i n = true := blt_iff.2 i.2
    rw [hb] at this
    have : look al i = some v := this
    simp [this]

/-- What a loop's round must reach. -/
def Head {γ : Type} (S : γ → Prop) (Lf : γ → List Chunk) (Rf : γ → List Fact) (af : γ → List (Nat × Value)) (n : Nat) (a : Act) (w : World) (g : γ) : Prop := S g ∧ ∃ B, a = mkA n (af g) B ∧ St (Lf g) (Rf g) w
theorem jc_loop {γ : Type} (S : γ → Prop) (Lf : γ → List Chunk) (Rf : γ → List Fact) (af : γ → List (Nat × Value)) (μ : γ → Nat) {c : Code} (g0 : γ) (h0 : S g0) (hal : alsub al n (af g0)) (hst : ∀ w, St L R w → St (Lf g0) (Rf g0) w)
    (round : ∀ g, S g → JC P n c (Exit.then (fun a w => ∃ g', μ g' < μ g ∧ Head S Lf Rf af n a w g') Q) (Lf g) (Rf g) (af g)) : JC P n (.loop c) Q L R al := by
  have least : ∀ k a w, (∃ g, Head S Lf Rf af n a w g ∧ μ g = k) → ∃ m, (∃ g, Head S Lf Rf af n a w g ∧ μ g = m) ∧ ∀ g, Head S Lf Rf af n a w g → m ≤ μ g := by
    intro k
    induction k using Nat.strongRecOn with
    | _ k ih =>
      intro a w h
      by_cases hmin : ∀ g, Head S Lf Rf af n a w g → k ≤ μ g
      · exact ⟨k, h, hmin⟩
      · have : ∃ g, Head S Lf Rf af n a w g ∧ ¬ k ≤ μ g := by
          apply Classical.byContradiction
          intro hno
          exact hmin fun g hg => Classical.byContradiction fun hk => hno ⟨g, hg, hk⟩
        obtain ⟨g, hg, hk⟩ := this
        exact ih (μ g) (by omega) a w ⟨g, hg, rfl⟩
  let M : Act → World → Nat := fun a w => Classical.epsilon fun m => (∃ g, Head S Lf Rf af n a w g ∧ μ g = m) ∧ ∀ g, Head S Lf Rf af n a w g → m ≤ μ g
  have hM : ∀ a w g, Head S Lf Rf af n a w g → (∃ g, Head S Lf Rf af n a w g ∧ μ g = M a w) ∧ ∀ g, Head S Lf Rf af n a w g → M a w ≤ μ g := fun a w g hg =>
    Classical.epsilon_spec (p := fun m => (∃ g, Head S Lf Rf af n a w g ∧ μ g = m) ∧ ∀ g, Head S Lf Rf af n a w g → m ≤ μ g) (least (μ g) a w ⟨g, hg, rfl⟩)
  intro B w hs
  obtain ⟨B', hB⟩ := mkA_sub hal B
  rw [hB]
  refine wp_loop (fun a w => ∃ g, Head S Lf Rf af n a w g) M ⟨g0, h0, B', rfl, hst w hs⟩ ?_
  rintro a w ⟨g1, hg1⟩
  obtain ⟨⟨g, ⟨hS, B1, rfl, hs1⟩, hμ⟩, _⟩ := hM a w g1 hg1
  refine wp_mono (round g hS B1 w hs1) ?_
  intro e a' w' hq
  cases e with
  | normal =>
    obtain ⟨g', hlt, hh⟩ := hq
    exact ⟨⟨g', hh⟩, by have := (hM a' w' g' hh).2 g' hh; omega⟩
  | exit id => exact hq
  | goto l => exact hq
  | ret => exact hq
  | panic c => exact hq
  | outgrown => exact hq
/-- The end of a round. -/
theorem jx_head {γ : Type} {S : γ → Prop} {Lf : γ → List Chunk} {Rf : γ → List Fact} {af : γ → List (Nat × Value)} {μ : γ → Nat} {m : Nat} (g' : γ) (hS : S g') (hμ : μ g' < m) (hal : alsub al n (af g')) (hst : ∀ w, St L R w → St (Lf g') (Rf g') w) :
    JX n (Exit.then (fun a w => ∃ g', μ g' < m ∧ Head S Lf Rf af n a w g') Q) .normal L R al := by
  intro B w hs
  obtain ⟨B', hB⟩ := mkA_sub hal B
  exact ⟨g', hμ, hS, B', hB, hst w hs⟩
/-- A point where ways meet again. -/
theorem jc_meet {γ : Type} (S : γ → Prop) (Lf : γ → List Chunk) (Rf : γ → List Fact) (af : γ → List (Nat × Value)) {x y : Code} (hx : JC P n x (Exit.then (fun a w => ∃ g, Head S Lf Rf af n a w g) Q) L R al) (hy : ∀ g, S g → JC P n y Q (Lf g) (Rf g) (af g)) : JC P n (.seq x y) Q L R al := by
  intro B w hs
  refine wp_seq (wp_mono (hx B w hs) ?_)
  intro e a' w' hq
  cases e with
  | normal => obtain ⟨g, hS, B1, rfl, hs1⟩ := hq; exact hy g hS B1 w' hs1
  | exit id => exact hq
  | goto l => exact hq
  | ret => exact hq
  | panic c => exact hq
  | outgrown => exact hq
theorem jx_meet {γ : Type} {S : γ → Prop} {Lf : γ → List Chunk} {Rf : γ → List Fact} {af : γ → List (Nat × Value)} (g : γ) (hS : S g) (hal : alsub al n (af g)) (hst : ∀ w, St L R w → St (Lf g) (Rf g) w) :
    JX n (Exit.then (fun a w => ∃ g, Head S Lf Rf af n a w g) Q) .normal L R al := by
  intro B w hs
  obtain ⟨B', hB⟩ := mkA_sub hal B
  exact ⟨g, hS, B', hB, hst w hs⟩
/-- Slots that are not needed any more. -/
theorem jc_forget {c : Code} (al' : List (Nat × Value)) (hal : alsub al n al') (k : JC P n c Q L R al') : JC P n c Q L R al := by
  intro B w hs
  obtain ⟨B', hB⟩ := mkA_sub hal B
  rw [hB]; exact k B' w hs

/-! ### Integers -/
theorem b_add {T : TypeId} {a b : Int} (h1 : -9223372036854775808 ≤ a + b) (h2 : a + b ≤ 9223372036854775807) (w : World) : (binOp .add T (vi a) (vi b)).run P w = .ok (vi (a + b)) w := by
  show Result.ok (Value.int .i64 (IntKind.i64.wrap (a + b))) w = _
  rw [IntKind.wrap_i64]; congr 2; omega
theorem b_sub {T : TypeId} {a b : Int} (h1 : -9223372036854775808 ≤ a - b) (h2 : a - b ≤ 9223372036854775807) (w : World) : (binOp .sub T (vi a) (vi b)).run P w = .ok (vi (a - b)) w := by
  show Result.ok (Value.int .i64 (IntKind.i64.wrap (a - b))) w = _
  rw [IntKind.wrap_i64]; congr 2; omega
theorem b_mul {T : TypeId} {a b : Int} (h1 : -9223372036854775808 ≤ a * b) (h2 : a * b ≤ 9223372036854775807) (w : World) : (binOp .mul T (vi a) (vi b)).run P w = .ok (vi (a * b)) w := by
  show Result.ok (Value.int .i64 (IntKind.i64.wrap (a * b))) w = _
  rw [IntKind.wrap_i64]; congr 2; omega
theorem b_eql {T : TypeId} {k : IntKind} {a b : Int} (w : World) : (binOp .eql T (.int k a) (.int k b)).run P w = .ok (.bool (a == b)) w := by simp [binOp, Op.intCmp]
theorem b_neq {T : TypeId} {k : IntKind} {a b : Int} (w : World) : (binOp .neq T (.int k a) (.int k b)).run P w = .ok (.bool (a != b)) w := by simp [binOp, Op.intCmp]
theorem b_lss {T : TypeId} {k : IntKind} {a b : Int} (w : World) : (binOp .lss T (.int k a) (.int k b)).run P w = .ok (.bool (decide (a < b))) w := by simp [binOp, Op.intCmp]
theorem b_leq {T : TypeId} {k : IntKind} {a b : Int} (w : World) : (binOp .leq T (.int k a) (.int k b)).run P w = .ok (.bool (decide (a ≤ b))) w := by simp [binOp, Op.intCmp]
theorem b_gtr {T : TypeId} {k : IntKind} {a b : Int} (w : World) : (binOp .gtr T (.int k a) (.int k b)).run P w = .ok (.bool (decide (b < a))) w := by simp [binOp, Op.intCmp]
theorem b_geq {T : TypeId} {k : IntKind} {a b : Int} (w : World) : (binOp .geq T (.int k a) (.int k b)).run P w = .ok (.bool (decide (b ≤ a))) w := by simp [binOp, Op.intCmp]
theorem b_addw {T : TypeId} {a b : Int} (w : World) : (binOp .add T (vi a) (vi b)).run P w = .ok (vi (IntKind.i64.wrap (a + b))) w := rfl
theorem b_subw {T : TypeId} {a b : Int} (w : World) : (binOp .sub T (vi a) (vi b)).run P w = .ok (vi (IntKind.i64.wrap (a - b))) w := rfl
theorem b_mulw {T : TypeId} {a b : Int} (w : World) : (binOp .mul T (vi a) (vi b)).run P w = .ok (vi (IntKind.i64.wrap (a * b))) w := rfl
theorem wrap64_mod (a : Int) : (IntKind.i64.wrap a) % 256 = a % 256 := by rw [IntKind.wrap_i64]; omega
theorem b_and255 {T : TypeId} {a : Int} (w : World) : (binOp .and T (vi a) (vi 255)).run P w = .ok (vi (a % 256)) w := by
  show Result.ok (Value.int .i64 (IntKind.i64.wrap ((BitVec.ofInt 64 a &&& BitVec.ofInt 64 255).toNat : Int))) w = _
  have h : (BitVec.ofInt 64 a &&& BitVec.ofInt 64 255).toNat = (a % 256).toNat := by
    rw [BitVec.toNat_and]
    have h1 : (BitVec.ofInt 64 255).toNat = 2 ^ 8 - 1 := by rw [BitVec.toNat_ofInt]; rfl
    rw [h1, Nat.and_two_pow_sub_one_eq_mod, BitVec.toNat_ofInt]
    omega
  rw [h, IntKind.wrap_i64]
  have : ((((a % 256).toNat : Nat) : Int) + 9223372036854775808) % 18446744073709551616 - 9223372036854775808 = a % 256 := by omega
  rw [this]
theorem b_rem {T : TypeId} {a b : Int} (hb : b ≠ 0) (h1 : -9223372036854775808 ≤ a.tmod b) (h2 : a.tmod b ≤ 9223372036854775807) (w : World) : (binOp .rem T (vi a) (vi b)).run P w = .ok (vi (a.tmod b)) w := by
  have : (Op.intDiv .rem .i64 a b).run P w = .ok (vi (a.tmod b)) w := by
    simp [Op.intDiv, hb]
    try rw [IntKind.wrap_i64]
    try omega
  exact this
theorem b_quo {T : TypeId} {a b : Int} (hb : b ≠ 0) (h1 : -9223372036854775808 ≤ a.tdiv b) (h2 : a.tdiv b ≤ 9223372036854775807) (w : World) : (binOp .quo T (vi a) (vi b)).run P w = .ok (vi (a.tdiv b)) w := by
  have : (Op.intDiv .quo .i64 a b).run P w = .ok (vi (a.tdiv b)) w := by
    simp [Op.intDiv, hb]
    try rw [IntKind.wrap_i64]
    try omega
  exact this

/-! ### Rows of integers -/
theorem at_int {v : Value} {xs : List Int} {i : Nat} {e : Int} (hm : sl v xs ∈ R) (hi : xs[i]? = some e) : CellsAt L R (ep v 1 i 0) [vi e] := at_sl1 hm hi (fun cs m hr => by rw [hr.1]; rfl)
theorem at_introw {T : TypeId} {v : Value} {xs : List Int} {i : Nat} {e : Int} (hp : Pick L (row T v xs) L') (hi : xs[i]? = some e) : CellsAt L R (ep v 1 i 0) [vi e] := at_row1 hp hi (fun cs m hr => by rw [hr.1]; rfl)
theorem r_storeInt {rest : List Oper} {x y : Operand} {T ty T' : TypeId} {pos : String} {aft : Array Edge} {v : Value} {xs : List Int} {i : Nat} {e c : Int} (hsz : ∀ w, (sizeOf T).run P w = .ok 1 w) (hx : ev n al x = some (ep v 1 i 0)) (hy : ev n al y = some (vi c))
    (hp : Pick L (row T' v xs) L') (hi : xs[i]? = some e) (hin : In64 c)
    (k : J P n ops Q rest (row T' v (xs.set i c) :: L') R al) : J P n ops Q (⟨none, .store T x y, ty, pos, aft, none⟩ :: rest) L R al :=
  r_storeRow (α := Int) (f := 0) (cs := [vi c]) (e := e) (e' := c) hsz hx hy rfl rfl (by intro u hu; cases List.mem_singleton.1 hu; rfl) hp hi (fun ds m hr => by rw [hr.1]; exact Nat.le_refl _) (fun j _ ds hr => by rw [hr.1]; exact ⟨rfl, hin⟩) k
end
end Go.Proofs.Ythnokijkdobdfaa
