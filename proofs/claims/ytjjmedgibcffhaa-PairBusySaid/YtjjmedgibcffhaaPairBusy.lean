/- Busy are just the processes whose last pair has no end. The law PairBusy answers true at every input, and leaves its arguments as they were. No condition. -/
import Derived.Test.YtjjmedgibcffhaaK5
import Derived.Test.YtjjmedgibcffhaaLawBusy
namespace Go.Proofs.Ytjjmedgibcffhaa
open Go.RowKit Go.MapKept Go.ChangeShapes Go.WideShapes Go.ChangeAt
set_option linter.unusedVariables false

set_option maxRecDepth 100000 in
theorem pairBusy_lifted (os : Os) (started : os.Started) (H : Type) (enc : TypeId × Value → H) :
    ReturnsInHanded {} Try.checked os 8 .any (Rows.pairBusySpec.pre6 enc Try.prog Try.f8 Rows.pairBusyRow.domain false) (Rows.pairBusySpec.post enc Try.prog Try.f8 false true false false) := by
  refine returnsInHanded_of_change_sized (C := Try.checked) own started (by kernel_rfl) Try.func8
    (ChangeSpec.witness6 (enc := enc) (C := Try.checked) false ⟨#[], #[.slice none 0 0], []⟩ 8 (by kernel_rfl) (by kernel_rfl) (by kernel_rfl) (by kernel_rfl)) ?_
  intro W base args ds gs before hval hW _ hz _
  exact events_contract 8 Try.f8 Rows.pairBusySpec Try.func8 rfl rfl rfl (fun _ _ => rfl)
    (fun xs w A c h1 h2 h3 => lawBusy_calls xs _ w A c h1 (fun b hb => hb)) hval hW hz

theorem pairBusy_holds : Rows.PairBusySaid :=
  OpenClaim.holds_of_wide 8 Try.f8 rfl rfl rfl rfl rfl rfl rfl ⟨rfl, rfl, rfl, rfl, rfl⟩ rfl rfl rfl rfl rfl (by kernel_rfl) Try.func8 (by kernel_rfl)
    (of_decide_eq_true (by kernel_rfl)) (by unfold Func.isWrapper; first | (rw [if_pos (by decide +kernel)]; kernel_rfl) | (rw [if_neg (by decide +kernel)]; exact ⟨rfl, rfl⟩))
    (fun os started H enc _ => pairBusy_lifted os started H enc)
#print axioms pairBusy_holds
end Go.Proofs.Ytjjmedgibcffhaa
