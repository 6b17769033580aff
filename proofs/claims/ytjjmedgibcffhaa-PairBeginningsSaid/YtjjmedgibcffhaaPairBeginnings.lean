/- What can be paired can be paired up to any event, and the first fault is the same. The law PairBeginnings answers true at every input, and leaves its arguments as they were. No condition. -/
import Derived.Test.YtjjmedgibcffhaaK5
import Derived.Test.YtjjmedgibcffhaaLawBegin
namespace Go.Proofs.Ytjjmedgibcffhaa
open Go.RowKit Go.MapKept Go.ChangeShapes Go.WideShapes Go.ChangeAt
set_option linter.unusedVariables false

set_option maxRecDepth 100000 in
theorem pairBeginnings_lifted (os : Os) (started : os.Started) (H : Type) (enc : TypeId × Value → H) :
    ReturnsInHanded {} Try.checked os 5 .any (Rows.pairBeginningsSpec.pre6 enc Try.prog Try.f5 Rows.pairBeginningsRow.domain false) (Rows.pairBeginningsSpec.post enc Try.prog Try.f5 false true false false) := by
  refine returnsInHanded_of_change_sized (C := Try.checked) own started (by kernel_rfl) Try.func5
    (ChangeSpec.witness6 (enc := enc) (C := Try.checked) false ⟨#[], #[.slice none 0 0, .int .i64 0], []⟩ 8 (by kernel_rfl) (by kernel_rfl) (by kernel_rfl) (by kernel_rfl)) ?_
  intro W base args ds gs before hval hW _ hz _
  exact events_int_contract 5 Try.f5 Rows.pairBeginningsSpec 3 Try.underlying3 (by decide +kernel) Try.func5 rfl rfl rfl (fun _ _ _ => rfl)
    (fun xs k w A c h1 h2 h3 h4 => begin_calls xs k _ w A c h1 h2 (fun b hb => hb) h4) hval hW hz

theorem pairBeginnings_holds : Rows.PairBeginningsSaid :=
  OpenClaim.holds_of_wide 5 Try.f5 rfl rfl rfl rfl rfl rfl rfl ⟨rfl, rfl, rfl, rfl, rfl⟩ rfl rfl rfl rfl rfl (by kernel_rfl) Try.func5 (by kernel_rfl)
    (of_decide_eq_true (by kernel_rfl)) (by unfold Func.isWrapper; first | (rw [if_pos (by decide +kernel)]; kernel_rfl) | (rw [if_neg (by decide +kernel)]; exact ⟨rfl, rfl⟩))
    (fun os started H enc _ => pairBeginnings_lifted os started H enc)
#print axioms pairBeginnings_holds
end Go.Proofs.Ytjjmedgibcffhaa
