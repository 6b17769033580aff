/- With more budget a decided answer stays as it is. The law SolveMore answers true at every input of the stated bulk, and leaves its arguments as they were. No other condition. -/
import Derived.Test.YtafeehlpmdligaaQRow
import Derived.Test.YtafeehlpmdligaaQLaw9
namespace Go.Proofs.Ytafeehlpmdligaa
open Go.RowKit Go.ChangeShapes Go.WideShapes Go.ChangeAt M
set_option linter.unusedVariables false
set_option linter.unusedSimpArgs false
set_option maxRecDepth 100000 in
theorem solveMore_pure (xs : List D) (hx : AllQ [fun x => ∃ n cs, x = cnf_ (n, cs) ∧ IntOk .i64 n ∧ SlB (SlB (IntOk .i64)) cs, fun x => ∃ n, x = .int .i64 n ∧ IntOk .i64 n, fun x => ∃ n, x = .int .i64 n ∧ IntOk .i64 n] xs) : PureC Try.prog 9 (xs.map V.d) (.d (.bool true)) := by
  obtain ⟨_, _, _, rfl, ⟨n0, cs0, rfl, hn0, hc0⟩, ⟨k1, rfl, hk1⟩, ⟨k2, rfl, hk2⟩⟩ := all3 hx
  exact solveMore_law n0 cs0 hn0 hc0.len (fun c h => (hc0.all c h).len) (fun c h => (hc0.all c h).all) k1 hk1 k2 hk2
set_option maxRecDepth 100000 in
theorem solveMore_lifted (os : Os) (started : os.Started) (H : Type) (enc : TypeId × Value → H) (F : Stop.Interp) :
    ReturnsInHanded {} Try.checked os 9 .any ((Rows.OpenSpec.upto Rows.solveMoreSpec).pre6 enc Try.prog Try.f9 Rows.solveMoreUptoRow.domain false) (((Rows.OpenSpec.upto Rows.solveMoreSpec).at F).post enc Try.prog Try.f9 false true false false) := by
  refine returnsInHanded_of_cond (C := Try.checked) (s := Rows.OpenSpec.upto Rows.solveMoreSpec) (k := Rows.uptoSmall) rfl own started (by kernel_rfl) Try.func9
    (OpenSpec.witness (enc := enc) (C := Try.checked) (s := Rows.OpenSpec.upto Rows.solveMoreSpec) (k := Rows.uptoSmall) rfl false ⟨#[], #[.agg #[.int .i64 0, .slice none 0 0], .int .i64 0, .int .i64 0], []⟩ 8 (by kernel_rfl) (by kernel_rfl) (by kernel_rfl)
      (x := ([.agg [.lit (.int .i64 0), .nil], .lit (.int .i64 0), .lit (.int .i64 0)], [], [])) (by kernel_rfl) rfl (by kernel_rfl)) ?_
  intro W base args ds gs before hval hW _ hk _
  refine upto_contract 9 Try.f9 Rows.solveMoreSpec [fun x => ∃ n cs, x = cnf_ (n, cs) ∧ IntOk .i64 n ∧ SlB (SlB (IntOk .i64)) cs, fun x => ∃ n, x = .int .i64 n ∧ IntOk .i64 n, fun x => ∃ n, x = .int .i64 n ∧ IntOk .i64 n] (OpenVs.cons openV_cnf (OpenVs.cons openV_int (OpenVs.cons openV_int OpenVs.nil))) (by decide +kernel) rfl rfl ?_ solveMore_pure hval hW hk
  intro H ds hlen
  match ds, hlen with
  | [d0, d1, d2], _ => rfl
theorem solveMore_holds : Rows.SolveMoreUptoSaid :=
  OpenClaim.holds_of_cond 9 Try.f9 rfl rfl rfl rfl rfl rfl rfl ⟨rfl, rfl, rfl, rfl, rfl⟩ rfl rfl rfl rfl rfl (by kernel_rfl) Try.func9 (by kernel_rfl)
    (of_decide_eq_true (by kernel_rfl)) (by unfold Func.isWrapper; first | (rw [if_pos (by decide +kernel)]; kernel_rfl) | (rw [if_neg (by decide +kernel)]; exact ⟨rfl, rfl⟩))
    (fun os started H enc _ F => solveMore_lifted os started H enc F)
#print axioms solveMore_holds
end Go.Proofs.Ytafeehlpmdligaa
