/- Whether a clause follows at once, and a trimmed list, is told as the document says. The law ProofPlain answers true at every input of the stated bulk, and leaves its arguments as they were. No other condition. -/
import Derived.Test.YtafeehlpmdligaaRow
import Derived.Test.YtafeehlpmdligaaLaw7
namespace Go.Proofs.Ytafeehlpmdligaa
open Go.RowKit Go.ChangeShapes Go.WideShapes Go.ChangeAt M
set_option linter.unusedVariables false
set_option linter.unusedSimpArgs false
set_option maxRecDepth 100000 in
theorem proofPlain_pure (xs : List D) (hx : AllQ [fun x => ∃ n cs, x = cnf_ (n, cs) ∧ IntOk .i64 n ∧ SlB (SlB (IntOk .i64)) cs, fun x => ∃ l, x = cls l ∧ SlB (SlB (IntOk .i64)) l, fun x => ∃ l, x = ints l ∧ SlB (IntOk .i64) l] xs) : PureC Try.prog 7 (xs.map V.d) (.d (.bool true)) := by
  obtain ⟨_, _, _, rfl, ⟨n0, cs0, rfl, hn0, hc0⟩, ⟨xs1, rfl, hx1⟩, ⟨l2, rfl, hl2⟩⟩ := all3 hx
  exact proofPlain_law n0 cs0 hn0 hc0.len (fun c h => (hc0.all c h).len) (fun c h => (hc0.all c h).all) xs1 hx1.len (fun c h => (hx1.all c h).len) (fun c h => (hx1.all c h).all) l2 hl2.len hl2.all
set_option maxRecDepth 100000 in
theorem proofPlain_lifted (os : Os) (started : os.Started) (H : Type) (enc : TypeId × Value → H) (F : Stop.Interp) :
    ReturnsInHanded {} Try.checked os 7 .any ((Rows.OpenSpec.upto Rows.proofPlainSpec).pre6 enc Try.prog Try.f7 Rows.proofPlainUptoRow.domain false) (((Rows.OpenSpec.upto Rows.proofPlainSpec).at F).post enc Try.prog Try.f7 false true false false) := by
  refine returnsInHanded_of_cond (C := Try.checked) (s := Rows.OpenSpec.upto Rows.proofPlainSpec) (k := Rows.uptoSmall) rfl own started (by kernel_rfl) Try.func7
    (OpenSpec.witness (enc := enc) (C := Try.checked) (s := Rows.OpenSpec.upto Rows.proofPlainSpec) (k := Rows.uptoSmall) rfl false ⟨#[], #[.agg #[.int .i64 0, .slice none 0 0], .slice none 0 0, .slice none 0 0], []⟩ 8 (by kernel_rfl) (by kernel_rfl) (by kernel_rfl)
      (x := ([.agg [.lit (.int .i64 0), .nil], .nil, .nil], [], [])) (by kernel_rfl) rfl (by kernel_rfl)) ?_
  intro W base args ds gs before hval hW _ hk _
  refine upto_contract 7 Try.f7 Rows.proofPlainSpec [fun x => ∃ n cs, x = cnf_ (n, cs) ∧ IntOk .i64 n ∧ SlB (SlB (IntOk .i64)) cs, fun x => ∃ l, x = cls l ∧ SlB (SlB (IntOk .i64)) l, fun x => ∃ l, x = ints l ∧ SlB (IntOk .i64) l] (OpenVs.cons openV_cnf (OpenVs.cons openV_cls (OpenVs.cons openV_ints OpenVs.nil))) (by decide +kernel) rfl rfl ?_ proofPlain_pure hval hW hk
  intro H ds hlen
  match ds, hlen with
  | [d0, d1, d2], _ => rfl
theorem proofPlain_holds : Rows.ProofPlainUptoSaid :=
  OpenClaim.holds_of_cond 7 Try.f7 rfl rfl rfl rfl rfl rfl rfl ⟨rfl, rfl, rfl, rfl, rfl⟩ rfl rfl rfl rfl rfl (by kernel_rfl) Try.func7 (by kernel_rfl)
    (of_decide_eq_true (by kernel_rfl)) (by unfold Func.isWrapper; first | (rw [if_pos (by decide +kernel)]; kernel_rfl) | (rw [if_neg (by decide +kernel)]; exact ⟨rfl, rfl⟩))
    (fun os started H enc _ F => proofPlain_lifted os started H enc F)
#print axioms proofPlain_holds
end Go.Proofs.Ytafeehlpmdligaa
