/- Each event is in just one pair, and the pairs of a process follow one another. The law PairOnce answers true at every input, and leaves its arguments as they were. No condition. -/
import Derived.Test.YtjjmedgibcffhaaK5
import Derived.Test.YtjjmedgibcffhaaLawOnce
namespace Go.Proofs.Ytjjmedgibcffhaa
open Go.RowKit Go.MapKept Go.ChangeShapes Go.WideShapes Go.ChangeAt
set_option linter.unusedVariables false

set_option maxRecDepth 100000 in
theorem pairOnce_lifted (os : Os) (started : os.Started) (H : Type) (enc : TypeId × Value → H) :
    ReturnsInHanded {} Try.checked os 4 .any (Rows.pairOnceSpec.pre6 enc Try.prog Try.f4 Rows.pairOnceRow.domain false) (Rows.pairOnceSpec.post enc Try.prog Try.f4 false true false false) := by
  refine returnsInHanded_of_change_sized (C := Try.checked) own started (by kernel_rfl) Try.func4
    (ChangeSpec.witness6 (enc := enc) (C := Try.checked) false ⟨#[], #[.slice none 0 0], []⟩ 8 (by kernel_rfl) (by kernel_rfl) (by kernel_rfl) (by kernel_rfl)) ?_
  intro W base args ds gs before hval hW _ hz _
  exact events_contract 4 Try.f4 Rows.pairOnceSpec Try.func4 rfl rfl rfl (fun _ _ => rfl)
    (fun xs w A c h1 h2 h3 => once_calls xs _ w A c h1 (fun b hb => hb)) hval hW hz

theorem pairOnce_holds : Rows.PairOnceSaid :=
  OpenClaim.holds_of_wide 4 Try.f4 rfl rfl rfl rfl rfl rfl rfl ⟨rfl, rfl, rfl, rfl, rfl⟩ rfl rfl rfl rfl rfl (by kernel_rfl) Try.func4 (by kernel_rfl)
    (of_decide_eq_true (by kernel_rfl)) (by unfold Func.isWrapper; first | (rw [if_pos (by decide +kernel)]; kernel_rfl) | (rw [if_neg (by decide +kernel)]; exact ⟨rfl, rfl⟩))
    (fun os started H enc _ => pairOnce_lifted os started H enc)
#print axioms pairOnce_holds
end Go.Proofs.Ytjjmedgibcffhaa
