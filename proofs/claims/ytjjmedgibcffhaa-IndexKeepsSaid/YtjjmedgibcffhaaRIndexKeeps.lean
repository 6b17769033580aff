/- No two answers share memory, and the events stay. The law IndexKeeps answers true at every input, and leaves its argument as it was. No condition. -/
import Derived.Test.YtjjmedgibcffhaaRows
import Derived.Test.YtjjmedgibcffhaaRRw
import Derived.Test.YtjjmedgibcffhaaRIx35
namespace Go.Proofs.Ytjjmedgibcffhaa
open Go.RowKit Go.MapKept Go.ChangeShapes Go.WideShapes Go.ChangeAt
set_option linter.unusedVariables false
set_option maxRecDepth 100000 in
theorem indexKeeps_lifted (os : Os) (started : os.Started) (H : Type) (enc : TypeId × Value → H) :
    ReturnsInHanded {} Try.checked os 12 .any (Rows.indexKeepsSpec.pre6 enc Try.prog Try.f12 Rows.indexKeepsRow.domain false) (Rows.indexKeepsSpec.post enc Try.prog Try.f12 false true false false) := by
  refine returnsInHanded_of_change_sized (C := Try.checked) own started (by kernel_rfl) Try.func12
    (ChangeSpec.witness6 (enc := enc) (C := Try.checked) false ⟨#[], #[.slice none 0 0], []⟩ 7 (by kernel_rfl) (by kernel_rfl) (by kernel_rfl) (by kernel_rfl)) ?_
  intro W base args ds gs before hval hW _ hz _
  exact evs_contract 12 Try.f12 Rows.indexKeepsSpec Try.func12 rfl rfl rfl (fun _ _ => rfl) law12 hval hW hz

theorem indexKeeps_holds : Rows.IndexKeepsSaid :=
  OpenClaim.holds_of_wide 12 Try.f12 rfl rfl rfl rfl rfl rfl rfl ⟨rfl, rfl, rfl, rfl, rfl⟩ rfl rfl rfl rfl rfl (by kernel_rfl) Try.func12 (by kernel_rfl)
    (of_decide_eq_true (by kernel_rfl)) (by unfold Func.isWrapper; first | (rw [if_pos (by decide +kernel)]; kernel_rfl) | (rw [if_neg (by decide +kernel)]; exact ⟨rfl, rfl⟩))
    (fun os started H enc _ => indexKeeps_lifted os started H enc)
#print axioms indexKeeps_holds
end Go.Proofs.Ytjjmedgibcffhaa
