/- No formula without a model gets one by a clause more. The law SolveFewer answers true at every input of the stated bulk, and leaves its arguments as they were. No other condition. -/
import Derived.Test.YtafeehlpmdligaaQRow
import Derived.Test.YtafeehlpmdligaaQLaw8
namespace Go.Proofs.Ytafeehlpmdligaa
open Go.RowKit Go.ChangeShapes Go.WideShapes Go.ChangeAt M
set_option linter.unusedVariables false
set_option linter.unusedSimpArgs false
set_option maxRecDepth 100000 in
theorem solveFewer_pure (xs : List D) (hx : AllQ [fun x => ∃ n cs, x = cnf_ (n, cs) ∧ IntOk .i64 n ∧ SlB (SlB (IntOk .i64)) cs, fun x => ∃ l, x = ints l ∧ SlB (IntOk .i64) l] xs) : PureC Try.prog 8 (xs.map V.d) (.d (.bool true)) := by
  obtain ⟨_, _, rfl, ⟨n0, cs0, rfl, hn0, hc0⟩, ⟨l1, rfl, hl1⟩⟩ := all2 hx
  exact solveFewer_law n0 cs0 hn0 hc0.len (fun c h => (hc0.all c h).len) (fun c h => (hc0.all c h).all) l1 hl1.len hl1.all
set_option maxRecDepth 100000 in
theorem solveFewer_lifted (os : Os) (started : os.Started) (H : Type) (enc : TypeId × Value → H) (F : Stop.Interp) :
    ReturnsInHanded {} Try.checked os 8 .any ((Rows.OpenSpec.upto Rows.solveFewerSpec).pre6 enc Try.prog Try.f8 Rows.solveFewerUptoRow.domain false) (((Rows.OpenSpec.upto Rows.solveFewerSpec).at F).post enc Try.prog Try.f8 false true false false) := by
  refine returnsInHanded_of_cond (C := Try.checked) (s := Rows.OpenSpec.upto Rows.solveFewerSpec) (k := Rows.uptoSmall) rfl own started (by kernel_rfl) Try.func8
    (OpenSpec.witness (enc := enc) (C := Try.checked) (s := Rows.OpenSpec.upto Rows.solveFewerSpec) (k := Rows.uptoSmall) rfl false ⟨#[], #[.agg #[.int .i64 0, .slice none 0 0], .slice none 0 0], []⟩ 8 (by kernel_rfl) (by kernel_rfl) (by kernel_rfl)
      (x := ([.agg [.lit (.int .i64 0), .nil], .nil], [], [])) (by kernel_rfl) rfl (by kernel_rfl)) ?_
  intro W base args ds gs before hval hW _ hk _
  refine upto_contract 8 Try.f8 Rows.solveFewerSpec [fun x => ∃ n cs, x = cnf_ (n, cs) ∧ IntOk .i64 n ∧ SlB (SlB (IntOk .i64)) cs, fun x => ∃ l, x = ints l ∧ SlB (IntOk .i64) l] (OpenVs.cons openV_cnf (OpenVs.cons openV_ints OpenVs.nil)) (by decide +kernel) rfl rfl ?_ solveFewer_pure hval hW hk
  intro H ds hlen
  match ds, hlen with
  | [d0, d1], _ => rfl
theorem solveFewer_holds : Rows.SolveFewerUptoSaid :=
  OpenClaim.holds_of_cond 8 Try.f8 rfl rfl rfl rfl rfl rfl rfl ⟨rfl, rfl, rfl, rfl, rfl⟩ rfl rfl rfl rfl rfl (by kernel_rfl) Try.func8 (by kernel_rfl)
    (of_decide_eq_true (by kernel_rfl)) (by unfold Func.isWrapper; first | (rw [if_pos (by decide +kernel)]; kernel_rfl) | (rw [if_neg (by decide +kernel)]; exact ⟨rfl, rfl⟩))
    (fun os started H enc _ F => solveFewer_lifted os started H enc F)
#print axioms solveFewer_holds
end Go.Proofs.Ytafeehlpmdligaa
