/- Whether a list of clauses is a proof, and which clause fails first, is told as the document says. The law ProofChecks answers true at every input of the stated bulk, and leaves its arguments as they were. No other condition. -/
import Derived.Test.YtafeehlpmdligaaRow
import Derived.Test.YtafeehlpmdligaaLaw3
namespace Go.Proofs.Ytafeehlpmdligaa
open Go.RowKit Go.ChangeShapes Go.WideShapes Go.ChangeAt M
set_option linter.unusedVariables false
set_option linter.unusedSimpArgs false
set_option maxRecDepth 100000 in
theorem proofChecks_pure (xs : List D) (hx : AllQ [fun x => ∃ n cs, x = cnf_ (n, cs) ∧ IntOk .i64 n ∧ SlB (SlB (IntOk .i64)) cs, fun x => ∃ l, x = cls l ∧ SlB (SlB (IntOk .i64)) l] xs) : PureC Try.prog 3 (xs.map V.d) (.d (.bool true)) := by
  obtain ⟨_, _, rfl, ⟨n0, cs0, rfl, hn0, hc0⟩, ⟨xs1, rfl, hx1⟩⟩ := all2 hx
  exact proofChecks_law n0 cs0 hn0 hc0.len (fun c h => (hc0.all c h).len) (fun c h => (hc0.all c h).all) xs1 hx1.len (fun c h => (hx1.all c h).len) (fun c h => (hx1.all c h).all)
set_option maxRecDepth 100000 in
theorem proofChecks_lifted (os : Os) (started : os.Started) (H : Type) (enc : TypeId × Value → H) (F : Stop.Interp) :
    ReturnsInHanded {} Try.checked os 3 .any ((Rows.OpenSpec.upto Rows.proofChecksSpec).pre6 enc Try.prog Try.f3 Rows.proofChecksUptoRow.domain false) (((Rows.OpenSpec.upto Rows.proofChecksSpec).at F).post enc Try.prog Try.f3 false true false false) := by
  refine returnsInHanded_of_cond (C := Try.checked) (s := Rows.OpenSpec.upto Rows.proofChecksSpec) (k := Rows.uptoSmall) rfl own started (by kernel_rfl) Try.func3
    (OpenSpec.witness (enc := enc) (C := Try.checked) (s := Rows.OpenSpec.upto Rows.proofChecksSpec) (k := Rows.uptoSmall) rfl false ⟨#[], #[.agg #[.int .i64 0, .slice none 0 0], .slice none 0 0], []⟩ 8 (by kernel_rfl) (by kernel_rfl) (by kernel_rfl)
      (x := ([.agg [.lit (.int .i64 0), .nil], .nil], [], [])) (by kernel_rfl) rfl (by kernel_rfl)) ?_
  intro W base args ds gs before hval hW _ hk _
  refine upto_contract 3 Try.f3 Rows.proofChecksSpec [fun x => ∃ n cs, x = cnf_ (n, cs) ∧ IntOk .i64 n ∧ SlB (SlB (IntOk .i64)) cs, fun x => ∃ l, x = cls l ∧ SlB (SlB (IntOk .i64)) l] (OpenVs.cons openV_cnf (OpenVs.cons openV_cls OpenVs.nil)) (by decide +kernel) rfl rfl ?_ proofChecks_pure hval hW hk
  intro H ds hlen
  match ds, hlen with
  | [d0, d1], _ => rfl
theorem proofChecks_holds : Rows.ProofChecksUptoSaid :=
  OpenClaim.holds_of_cond 3 Try.f3 rfl rfl rfl rfl rfl rfl rfl ⟨rfl, rfl, rfl, rfl, rfl⟩ rfl rfl rfl rfl rfl (by kernel_rfl) Try.func3 (by kernel_rfl)
    (of_decide_eq_true (by kernel_rfl)) (by unfold Func.isWrapper; first | (rw [if_pos (by decide +kernel)]; kernel_rfl) | (rw [if_neg (by decide +kernel)]; exact ⟨rfl, rfl⟩))
    (fun os started H enc _ F => proofChecks_lifted os started H enc F)
#print axioms proofChecks_holds
end Go.Proofs.Ytafeehlpmdligaa
