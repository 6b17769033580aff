/- The order of clauses and literals in the formula changes nothing in what is proved. The law ProofTurned answers true at every input of the stated bulk, and leaves its arguments as they were. No other condition. -/
import Derived.Test.YtafeehlpmdligaaRow
import Derived.Test.YtafeehlpmdligaaLaw4
namespace Go.Proofs.Ytafeehlpmdligaa
open Go.RowKit Go.ChangeShapes Go.WideShapes Go.ChangeAt M
set_option linter.unusedVariables false
set_option linter.unusedSimpArgs false
set_option maxRecDepth 100000 in
theorem proofTurned_pure (xs : List D) (hx : AllQ [fun x => ∃ n cs, x = cnf_ (n, cs) ∧ IntOk .i64 n ∧ SlB (SlB (IntOk .i64)) cs, fun x => ∃ l, x = cls l ∧ SlB (SlB (IntOk .i64)) l] xs) : PureC Try.prog 4 (xs.map V.d) (.d (.bool true)) := by
  obtain ⟨_, _, rfl, ⟨n0, cs0, rfl, hn0, hc0⟩, ⟨xs1, rfl, hx1⟩⟩ := all2 hx
  exact proofTurned_law n0 cs0 hn0 hc0.len (fun c h => (hc0.all c h).len) (fun c h => (hc0.all c h).all) xs1 hx1.len (fun c h => (hx1.all c h).len) (fun c h => (hx1.all c h).all)
set_option maxRecDepth 100000 in
theorem proofTurned_lifted (os : Os) (started : os.Started) (H : Type) (enc : TypeId × Value → H) (F : Stop.Interp) :
    ReturnsInHanded {} Try.checked os 4 .any ((Rows.OpenSpec.upto Rows.proofTurnedSpec).pre6 enc Try.prog Try.f4 Rows.proofTurnedUptoRow.domain false) (((Rows.OpenSpec.upto Rows.proofTurnedSpec).at F).post enc Try.prog Try.f4 false true false false) := by
  refine returnsInHanded_of_cond (C := Try.checked) (s := Rows.OpenSpec.upto Rows.proofTurnedSpec) (k := Rows.uptoSmall) rfl own started (by kernel_rfl) Try.func4
    (OpenSpec.witness (enc := enc) (C := Try.checked) (s := Rows.OpenSpec.upto Rows.proofTurnedSpec) (k := Rows.uptoSmall) rfl false ⟨#[], #[.agg #[.int .i64 0, .slice none 0 0], .slice none 0 0], []⟩ 8 (by kernel_rfl) (by kernel_rfl) (by kernel_rfl)
      (x := ([.agg [.lit (.int .i64 0), .nil], .nil], [], [])) (by kernel_rfl) rfl (by kernel_rfl)) ?_
  intro W base args ds gs before hval hW _ hk _
  refine upto_contract 4 Try.f4 Rows.proofTurnedSpec [fun x => ∃ n cs, x = cnf_ (n, cs) ∧ IntOk .i64 n ∧ SlB (SlB (IntOk .i64)) cs, fun x => ∃ l, x = cls l ∧ SlB (SlB (IntOk .i64)) l] (OpenVs.cons openV_cnf (OpenVs.cons openV_cls OpenVs.nil)) (by decide +kernel) rfl rfl ?_ proofTurned_pure hval hW hk
  intro H ds hlen
  match ds, hlen with
  | [d0, d1], _ => rfl
theorem proofTurned_holds : Rows.ProofTurnedUptoSaid :=
  OpenClaim.holds_of_cond 4 Try.f4 rfl rfl rfl rfl rfl rfl rfl ⟨rfl, rfl, rfl, rfl, rfl⟩ rfl rfl rfl rfl rfl (by kernel_rfl) Try.func4 (by kernel_rfl)
    (of_decide_eq_true (by kernel_rfl)) (by unfold Func.isWrapper; first | (rw [if_pos (by decide +kernel)]; kernel_rfl) | (rw [if_neg (by decide +kernel)]; exact ⟨rfl, rfl⟩))
    (fun os started H enc _ F => proofTurned_lifted os started H enc F)
#print axioms proofTurned_holds
end Go.Proofs.Ytafeehlpmdligaa
