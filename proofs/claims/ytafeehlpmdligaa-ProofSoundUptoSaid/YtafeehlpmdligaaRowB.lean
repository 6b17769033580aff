/- Lists of truth values that come in. -/
import Derived.Test.YtafeehlpmdligaaRow
import Derived.Test.YtafeehlpmdligaaModel
namespace Go.Proofs.Ytafeehlpmdligaa
open Go.RowKit Go.ChangeShapes Go.WideShapes Go.ChangeAt M
set_option linter.unusedSimpArgs false
set_option linter.unusedVariables false
set_option maxRecDepth 100000 in
theorem opensB_bools : OpensB bools (SlB fun _ => True) Try.prog 36 := by
  intro H enc w base spare held fuel cs x h hz
  exact opensB_sl (sz := 1) Try.underlying36 (opensB_bool Try.underlying4) (by kernel_rfl) (by decide) (fun _ => rfl) h hz
set_option maxRecDepth 100000 in
theorem openV_bools : OpenV 36 (fun x => ∃ l, x = bools l ∧ SlB (fun _ => True) l) := openV_of opensB_bools (cells_slice Try.underlying36) (fun _ => rfl)
end Go.Proofs.Ytafeehlpmdligaa
