/- What is built is sound, with a transaction for each beginning and only keys that are named. The law IndexSound answers true at every input, and leaves its argument as it was. No condition. -/
import Derived.Test.YtjjmedgibcffhaaRows
import Derived.Test.YtjjmedgibcffhaaZd11
namespace Go.Proofs.Ytjjmedgibcffhaa
open Go.RowKit Go.MapKept Go.ChangeShapes Go.WideShapes Go.ChangeAt
set_option linter.unusedVariables false
set_option maxRecDepth 100000 in
theorem indexSound_lifted (os : Os) (started : os.Started) (H : Type) (enc : TypeId × Value → H) :
    ReturnsInHanded {} Try.checked os 11 .any (Rows.indexSoundSpec.pre6 enc Try.prog Try.f11 Rows.indexSoundRow.domain false) (Rows.indexSoundSpec.post enc Try.prog Try.f11 false true false false) := by
  refine returnsInHanded_of_change_sized (C := Try.checked) own started (by kernel_rfl) Try.func11
    (ChangeSpec.witness6 (enc := enc) (C := Try.checked) false ⟨#[], #[.slice none 0 0], []⟩ 7 (by kernel_rfl) (by kernel_rfl) (by kernel_rfl) (by kernel_rfl)) ?_
  intro W base args ds gs before hval hW _ hz _
  exact evs_contract 11 Try.f11 Rows.indexSoundSpec Try.func11 rfl rfl rfl (fun _ _ => rfl) law11 hval hW hz

theorem indexSound_holds : Rows.IndexSoundSaid :=
  OpenClaim.holds_of_wide 11 Try.f11 rfl rfl rfl rfl rfl rfl rfl ⟨rfl, rfl, rfl, rfl, rfl⟩ rfl rfl rfl rfl rfl (by kernel_rfl) Try.func11 (by kernel_rfl)
    (of_decide_eq_true (by kernel_rfl)) (by unfold Func.isWrapper; first | (rw [if_pos (by decide +kernel)]; kernel_rfl) | (rw [if_neg (by decide +kernel)]; exact ⟨rfl, rfl⟩))
    (fun os started H enc _ => indexSound_lifted os started H enc)
#print axioms indexSound_holds
end Go.Proofs.Ytjjmedgibcffhaa
