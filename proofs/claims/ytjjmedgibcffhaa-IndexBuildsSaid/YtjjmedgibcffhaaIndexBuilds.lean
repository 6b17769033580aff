/- A history is built of any events, or refused at its first bad one, as the document says. The law IndexBuilds answers true at every input, and leaves its argument as it was. No condition. -/
import Derived.Test.YtjjmedgibcffhaaRows
import Derived.Test.YtjjmedgibcffhaaZb1
namespace Go.Proofs.Ytjjmedgibcffhaa
open Go.RowKit Go.MapKept Go.ChangeShapes Go.WideShapes Go.ChangeAt
set_option linter.unusedVariables false
set_option maxRecDepth 100000 in
theorem indexBuilds_lifted (os : Os) (started : os.Started) (H : Type) (enc : TypeId × Value → H) :
    ReturnsInHanded {} Try.checked os 9 .any (Rows.indexBuildsSpec.pre6 enc Try.prog Try.f9 Rows.indexBuildsRow.domain false) (Rows.indexBuildsSpec.post enc Try.prog Try.f9 false true false false) := by
  refine returnsInHanded_of_change_sized (C := Try.checked) own started (by kernel_rfl) Try.func9
    (ChangeSpec.witness6 (enc := enc) (C := Try.checked) false ⟨#[], #[.slice none 0 0], []⟩ 7 (by kernel_rfl) (by kernel_rfl) (by kernel_rfl) (by kernel_rfl)) ?_
  intro W base args ds gs before hval hW _ hz _
  exact evs_contract 9 Try.f9 Rows.indexBuildsSpec Try.func9 rfl rfl rfl (fun _ _ => rfl) law9 hval hW hz

theorem indexBuilds_holds : Rows.IndexBuildsSaid :=
  OpenClaim.holds_of_wide 9 Try.f9 rfl rfl rfl rfl rfl rfl rfl ⟨rfl, rfl, rfl, rfl, rfl⟩ rfl rfl rfl rfl rfl (by kernel_rfl) Try.func9 (by kernel_rfl)
    (of_decide_eq_true (by kernel_rfl)) (by unfold Func.isWrapper; first | (rw [if_pos (by decide +kernel)]; kernel_rfl) | (rw [if_neg (by decide +kernel)]; exact ⟨rfl, rfl⟩))
    (fun os started H enc _ => indexBuilds_lifted os started H enc)
#print axioms indexBuilds_holds
end Go.Proofs.Ytjjmedgibcffhaa
