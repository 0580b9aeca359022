/- This file proves where the cells of plain structs in slices lie. No conditions. -/
import Derived.Test.YthnokijkdobdfaaBool
set_option linter.unusedVariables false
set_option linter.unusedSimpArgs false
namespace Go.Proofs.Ythnokijkdobdfaa
open Go
section
variable {L L' : List Chunk} {R : List Fact} {T : TypeId} {v : Value} {i f : Nat} {c : Value}
theorem at_Config {xs : List Config} {e : Config} (hm : sl v xs ∈ R) (hi : xs[i]? = some e) : CellsAt L R (ep v 2 i 0) e.cells := at_slN (α := Config) (f := 0) hm hi (fun cs m hr k c hk => by rw [hr.1, Nat.zero_add]; exact hk)
theorem at_Configrow {xs : List Config} {e : Config} (hp : Pick L (row T v xs) L') (hi : xs[i]? = some e) : CellsAt L R (ep v 2 i 0) e.cells := at_rowN (α := Config) (f := 0) hp hi (fun cs m hr k c hk => by rw [hr.1, Nat.zero_add]; exact hk)
theorem at_Configf {xs : List Config} {e : Config} (hm : sl v xs ∈ R) (hi : xs[i]? = some e) (hc : e.cells[f]? = some c) : CellsAt L R (ep v 2 i f) [c] := at_sl1 (α := Config) hm hi (fun cs m hr => by rw [hr.1]; exact hc)
theorem at_Configfrow {xs : List Config} {e : Config} (hp : Pick L (row T v xs) L') (hi : xs[i]? = some e) (hc : e.cells[f]? = some c) : CellsAt L R (ep v 2 i f) [c] := at_row1 (α := Config) hp hi (fun cs m hr => by rw [hr.1]; exact hc)
theorem wf_Config {xs : List Config} {e : Config} {w : World} (hm : sl v xs ∈ R) (hs : St L R w) (hi : xs[i]? = some e) : e.wf := by obtain ⟨cs, m, hr⟩ := sl_rd hm hi hs; exact hr.2
theorem at_Msg {xs : List Msg} {e : Msg} (hm : sl v xs ∈ R) (hi : xs[i]? = some e) : CellsAt L R (ep v 8 i 0) e.cells := at_slN (α := Msg) (f := 0) hm hi (fun cs m hr k c hk => by rw [hr.1, Nat.zero_add]; exact hk)
theorem at_Msgrow {xs : List Msg} {e : Msg} (hp : Pick L (row T v xs) L') (hi : xs[i]? = some e) : CellsAt L R (ep v 8 i 0) e.cells := at_rowN (α := Msg) (f := 0) hp hi (fun cs m hr k c hk => by rw [hr.1, Nat.zero_add]; exact hk)
theorem at_Msgf {xs : List Msg} {e : Msg} (hm : sl v xs ∈ R) (hi : xs[i]? = some e) (hc : e.cells[f]? = some c) : CellsAt L R (ep v 8 i f) [c] := at_sl1 (α := Msg) hm hi (fun cs m hr => by rw [hr.1]; exact hc)
theorem at_Msgfrow {xs : List Msg} {e : Msg} (hp : Pick L (row T v xs) L') (hi : xs[i]? = some e) (hc : e.cells[f]? = some c) : CellsAt L R (ep v 8 i f) [c] := at_row1 (α := Msg) hp hi (fun cs m hr => by rw [hr.1]; exact hc)
theorem wf_Msg {xs : List Msg} {e : Msg} {w : World} (hm : sl v xs ∈ R) (hs : St L R w) (hi : xs[i]? = some e) : e.wf := by obtain ⟨cs, m, hr⟩ := sl_rd hm hi hs; exact hr.2
theorem at_Line {xs : List Line} {e : Line} (hm : sl v xs ∈ R) (hi : xs[i]? = some e) : CellsAt L R (ep v 7 i 0) e.cells := at_slN (α := Line) (f := 0) hm hi (fun cs m hr k c hk => by rw [hr.1, Nat.zero_add]; exact hk)
theorem at_Linerow {xs : List Line} {e : Line} (hp : Pick L (row T v xs) L') (hi : xs[i]? = some e) : CellsAt L R (ep v 7 i 0) e.cells := at_rowN (α := Line) (f := 0) hp hi (fun cs m hr k c hk => by rw [hr.1, Nat.zero_add]; exact hk)
theorem at_Linef {xs : List Line} {e : Line} (hm : sl v xs ∈ R) (hi : xs[i]? = some e) (hc : e.cells[f]? = some c) : CellsAt L R (ep v 7 i f) [c] := at_sl1 (α := Line) hm hi (fun cs m hr => by rw [hr.1]; exact hc)
theorem at_Linefrow {xs : List Line} {e : Line} (hp : Pick L (row T v xs) L') (hi : xs[i]? = some e) (hc : e.cells[f]? = some c) : CellsAt L R (ep v 7 i f) [c] := at_row1 (α := Line) hp hi (fun cs m hr => by rw [hr.1]; exact hc)
theorem wf_Line {xs : List Line} {e : Line} {w : World} (hm : sl v xs ∈ R) (hs : St L R w) (hi : xs[i]? = some e) : e.wf := by obtain ⟨cs, m, hr⟩ := sl_rd hm hi hs; exact hr.2
theorem at_Op {xs : List Op} {e : Op} (hm : sl v xs ∈ R) (hi : xs[i]? = some e) : CellsAt L R (ep v 3 i 0) e.cells := at_slN (α := Op) (f := 0) hm hi (fun cs m hr k c hk => by rw [hr.1, Nat.zero_add]; exact hk)
theorem at_Oprow {xs : List Op} {e : Op} (hp : Pick L (row T v xs) L') (hi : xs[i]? = some e) : CellsAt L R (ep v 3 i 0) e.cells := at_rowN (α := Op) (f := 0) hp hi (fun cs m hr k c hk => by rw [hr.1, Nat.zero_add]; exact hk)
theorem at_Opf {xs : List Op} {e : Op} (hm : sl v xs ∈ R) (hi : xs[i]? = some e) (hc : e.cells[f]? = some c) : CellsAt L R (ep v 3 i f) [c] := at_sl1 (α := Op) hm hi (fun cs m hr => by rw [hr.1]; exact hc)
theorem at_Opfrow {xs : List Op} {e : Op} (hp : Pick L (row T v xs) L') (hi : xs[i]? = some e) (hc : e.cells[f]? = some c) : CellsAt L R (ep v 3 i f) [c] := at_row1 (α := Op) hp hi (fun cs m hr => by rw [hr.1]; exact hc)
theorem wf_Op {xs : List Op} {e : Op} {w : World} (hm : sl v xs ∈ R) (hs : St L R w) (hi : xs[i]? = some e) : e.wf := by obtain ⟨cs, m, hr⟩ := sl_rd hm hi hs; exact hr.2
theorem at_Done {xs : List Done} {e : Done} (hm : sl v xs ∈ R) (hi : xs[i]? = some e) : CellsAt L R (ep v 5 i 0) e.cells := at_slN (α := Done) (f := 0) hm hi (fun cs m hr k c hk => by rw [hr.1, Nat.zero_add]; exact hk)
theorem at_Donerow {xs : List Done} {e : Done} (hp : Pick L (row T v xs) L') (hi : xs[i]? = some e) : CellsAt L R (ep v 5 i 0) e.cells := at_rowN (α := Done) (f := 0) hp hi (fun cs m hr k c hk => by rw [hr.1, Nat.zero_add]; exact hk)
theorem at_Donef {xs : List Done} {e : Done} (hm : sl v xs ∈ R) (hi : xs[i]? = some e) (hc : e.cells[f]? = some c) : CellsAt L R (ep v 5 i f) [c] := at_sl1 (α := Done) hm hi (fun cs m hr => by rw [hr.1]; exact hc)
theorem at_Donefrow {xs : List Done} {e : Done} (hp : Pick L (row T v xs) L') (hi : xs[i]? = some e) (hc : e.cells[f]? = some c) : CellsAt L R (ep v 5 i f) [c] := at_row1 (α := Done) hp hi (fun cs m hr => by rw [hr.1]; exact hc)
theorem wf_Done {xs : List Done} {e : Done} {w : World} (hm : sl v xs ∈ R) (hs : St L R w) (hi : xs[i]? = some e) : e.wf := by obtain ⟨cs, m, hr⟩ := sl_rd hm hi hs; exact hr.2
theorem at_Step {xs : List Step} {e : Step} (hm : sl v xs ∈ R) (hi : xs[i]? = some e) : CellsAt L R (ep v 7 i 0) e.cells := at_slN (α := Step) (f := 0) hm hi (fun cs m hr k c hk => by rw [hr.1, Nat.zero_add]; exact hk)
theorem at_Steprow {xs : List Step} {e : Step} (hp : Pick L (row T v xs) L') (hi : xs[i]? = some e) : CellsAt L R (ep v 7 i 0) e.cells := at_rowN (α := Step) (f := 0) hp hi (fun cs m hr k c hk => by rw [hr.1, Nat.zero_add]; exact hk)
theorem at_Stepf {xs : List Step} {e : Step} (hm : sl v xs ∈ R) (hi : xs[i]? = some e) (hc : e.cells[f]? = some c) : CellsAt L R (ep v 7 i f) [c] := at_sl1 (α := Step) hm hi (fun cs m hr => by rw [hr.1]; exact hc)
theorem at_Stepfrow {xs : List Step} {e : Step} (hp : Pick L (row T v xs) L') (hi : xs[i]? = some e) (hc : e.cells[f]? = some c) : CellsAt L R (ep v 7 i f) [c] := at_row1 (α := Step) hp hi (fun cs m hr => by rw [hr.1]; exact hc)
theorem wf_Step {xs : List Step} {e : Step} {w : World} (hm : sl v xs ∈ R) (hs : St L R w) (hi : xs[i]? = some e) : e.wf := by obtain ⟨cs, m, hr⟩ := sl_rd hm hi hs; exact hr.2
theorem at_Answer {xs : List Answer} {e : Answer} (hm : sl v xs ∈ R) (hi : xs[i]? = some e) : CellsAt L R (ep v 2 i 0) e.cells := at_slN (α := Answer) (f := 0) hm hi (fun cs m hr k c hk => by rw [hr.1, Nat.zero_add]; exact hk)
theorem at_Answerrow {xs : List Answer} {e : Answer} (hp : Pick L (row T v xs) L') (hi : xs[i]? = some e) : CellsAt L R (ep v 2 i 0) e.cells := at_rowN (α := Answer) (f := 0) hp hi (fun cs m hr k c hk => by rw [hr.1, Nat.zero_add]; exact hk)
theorem at_Answerf {xs : List Answer} {e : Answer} (hm : sl v xs ∈ R) (hi : xs[i]? = some e) (hc : e.cells[f]? = some c) : CellsAt L R (ep v 2 i f) [c] := at_sl1 (α := Answer) hm hi (fun cs m hr => by rw [hr.1]; exact hc)
theorem at_Answerfrow {xs : List Answer} {e : Answer} (hp : Pick L (row T v xs) L') (hi : xs[i]? = some e) (hc : e.cells[f]? = some c) : CellsAt L R (ep v 2 i f) [c] := at_row1 (α := Answer) hp hi (fun cs m hr => by rw [hr.1]; exact hc)
theorem wf_Answer {xs : List Answer} {e : Answer} {w : World} (hm : sl v xs ∈ R) (hs : St L R w) (hi : xs[i]? = some e) : e.wf := by obtain ⟨cs, m, hr⟩ := sl_rd hm hi hs; exact hr.2
theorem at_Seen {xs : List Seen} {e : Seen} (hm : sl v xs ∈ R) (hi : xs[i]? = some e) : CellsAt L R (ep v 3 i 0) e.cells := at_slN (α := Seen) (f := 0) hm hi (fun cs m hr k c hk => by rw [hr.1, Nat.zero_add]; exact hk)
theorem at_Seenrow {xs : List Seen} {e : Seen} (hp : Pick L (row T v xs) L') (hi : xs[i]? = some e) : CellsAt L R (ep v 3 i 0) e.cells := at_rowN (α := Seen) (f := 0) hp hi (fun cs m hr k c hk => by rw [hr.1, Nat.zero_add]; exact hk)
theorem at_Seenf {xs : List Seen} {e : Seen} (hm : sl v xs ∈ R) (hi : xs[i]? = some e) (hc : e.cells[f]? = some c) : CellsAt L R (ep v 3 i f) [c] := at_sl1 (α := Seen) hm hi (fun cs m hr => by rw [hr.1]; exact hc)
theorem at_Seenfrow {xs : List Seen} {e : Seen} (hp : Pick L (row T v xs) L') (hi : xs[i]? = some e) (hc : e.cells[f]? = some c) : CellsAt L R (ep v 3 i f) [c] := at_row1 (α := Seen) hp hi (fun cs m hr => by rw [hr.1]; exact hc)
theorem wf_Seen {xs : List Seen} {e : Seen} {w : World} (hm : sl v xs ∈ R) (hs : St L R w) (hi : xs[i]? = some e) : e.wf := by obtain ⟨cs, m, hr⟩ := sl_rd hm hi hs; exact hr.2
end
end Go.Proofs.Ythnokijkdobdfaa
