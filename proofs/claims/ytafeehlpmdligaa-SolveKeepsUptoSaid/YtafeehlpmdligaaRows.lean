/-
  No cell of these rows narrows 'for every input' (looked for: loops, veiled, ifaces, maps, wideKeys, modest, calm, conditions, laid).
  DERIVED. THE GIVEN ROWS OF THIS SEAT. 11 by the template 'for every input the law returns true; each argument reads behind the call as it read before'; 0 by the template 'total and deterministic' (their statements: YtafeehlpmdligaaTotals.lean).
  GIVEN WITH THE SEED: the statements are not yours to turn. If you find one false, say at which input.
  Laid BY PROGRAM, IN A SANDBOX (cutbox-rows.mjs): the forced cells as the released guide's own fill.sh prints them over the translation eef0884b240f462d… (all of the seat's roots in one cut). By AI agents, Wed Nov 11 2026. No macro, syntax, notation, axiom, sorry.
-/
import Derived.Test.YtafeehlpmdligaaChecked
import GoSem.Claim
import GoSem.ClaimJoined
import GoSem.ClaimMapViews
import Derived.JoinedTies
import Derived.KernelRfl
namespace Go.Proofs.Ytafeehlpmdligaa
/- THE CELL 'sum', in the pinned program and in every row, IS THE sha256 OF THE DUMP (.gsa) THAT YtafeehlpmdligaaProg.lean LOADS. Nothing in Lean hashes anything: it is a label: what it is worth is what the hold of that sum in a sandbox is worth. -/
noncomputable def Try.pinned : Pinned := { name := "ytafeehlpmdligaa", sum := "eef0884b240f462d381a33dc788ab51f59f4fd661121abe06e8e475b69101a86", checked := Try.checked }
namespace Rows
def none {H : Type} : Left H := { results := [], args := [] }

/-- 'assizelaw16.ProofChecks': WHATEVER THE INPUT: true; the input reads as it did. -/
def proofChecksSpec : ChangeSpec := { name := "proofChecks", fn := fun _ => fun
  | [d1, d2] => { results := [.lit (.bool true)], args := [d1, d2] }
  | _ => none }
def proofChecksRow : OpenClaim := { program := "ytafeehlpmdligaa", sum := "eef0884b240f462d381a33dc788ab51f59f4fd661121abe06e8e475b69101a86", func := "assize/assizelaw16.ProofChecks", spec := "proofChecks", unfollowed := true, recurses := true, apart := false }
def ProofChecksSaid : Prop := proofChecksRow.holds Try.pinned (OpenSpec.ofChange proofChecksSpec)

/-- ITS FALSE NEIGHBOUR: 'it returns false'. Refute it at one input. -/
def proofChecksWrong : ChangeSpec := { name := "proofChecks", fn := fun _ => fun
  | [d1, d2] => { results := [.lit (.bool false)], args := [d1, d2] }
  | _ => none }
def ProofChecksWrongFalsely : Prop := proofChecksRow.holds Try.pinned (OpenSpec.ofChange proofChecksWrong)

/-- 'assizelaw16.ProofTurned': WHATEVER THE INPUT: true; the input reads as it did. -/
def proofTurnedSpec : ChangeSpec := { name := "proofTurned", fn := fun _ => fun
  | [d1, d2] => { results := [.lit (.bool true)], args := [d1, d2] }
  | _ => none }
def proofTurnedRow : OpenClaim := { program := "ytafeehlpmdligaa", sum := "eef0884b240f462d381a33dc788ab51f59f4fd661121abe06e8e475b69101a86", func := "assize/assizelaw16.ProofTurned", spec := "proofTurned", unfollowed := true, recurses := true, apart := false }
def ProofTurnedSaid : Prop := proofTurnedRow.holds Try.pinned (OpenSpec.ofChange proofTurnedSpec)

/-- ITS FALSE NEIGHBOUR: 'it returns false'. Refute it at one input. -/
def proofTurnedWrong : ChangeSpec := { name := "proofTurned", fn := fun _ => fun
  | [d1, d2] => { results := [.lit (.bool false)], args := [d1, d2] }
  | _ => none }
def ProofTurnedWrongFalsely : Prop := proofTurnedRow.holds Try.pinned (OpenSpec.ofChange proofTurnedWrong)

/-- 'assizelaw16.ProofSound': WHATEVER THE INPUT: true; the input reads as it did. -/
def proofSoundSpec : ChangeSpec := { name := "proofSound", fn := fun _ => fun
  | [d1, d2, d3] => { results := [.lit (.bool true)], args := [d1, d2, d3] }
  | _ => none }
def proofSoundRow : OpenClaim := { program := "ytafeehlpmdligaa", sum := "eef0884b240f462d381a33dc788ab51f59f4fd661121abe06e8e475b69101a86", func := "assize/assizelaw16.ProofSound", spec := "proofSound", unfollowed := true, recurses := true, apart := false }
def ProofSoundSaid : Prop := proofSoundRow.holds Try.pinned (OpenSpec.ofChange proofSoundSpec)

/-- ITS FALSE NEIGHBOUR: 'it returns false'. Refute it at one input. -/
def proofSoundWrong : ChangeSpec := { name := "proofSound", fn := fun _ => fun
  | [d1, d2, d3] => { results := [.lit (.bool false)], args := [d1, d2, d3] }
  | _ => none }
def ProofSoundWrongFalsely : Prop := proofSoundRow.holds Try.pinned (OpenSpec.ofChange proofSoundWrong)

/-- 'assizelaw16.ProofMore': WHATEVER THE INPUT: true; the input reads as it did. -/
def proofMoreSpec : ChangeSpec := { name := "proofMore", fn := fun _ => fun
  | [d1, d2, d3] => { results := [.lit (.bool true)], args := [d1, d2, d3] }
  | _ => none }
def proofMoreRow : OpenClaim := { program := "ytafeehlpmdligaa", sum := "eef0884b240f462d381a33dc788ab51f59f4fd661121abe06e8e475b69101a86", func := "assize/assizelaw16.ProofMore", spec := "proofMore", unfollowed := true, recurses := true, apart := false }
def ProofMoreSaid : Prop := proofMoreRow.holds Try.pinned (OpenSpec.ofChange proofMoreSpec)

/-- ITS FALSE NEIGHBOUR: 'it returns false'. Refute it at one input. -/
def proofMoreWrong : ChangeSpec := { name := "proofMore", fn := fun _ => fun
  | [d1, d2, d3] => { results := [.lit (.bool false)], args := [d1, d2, d3] }
  | _ => none }
def ProofMoreWrongFalsely : Prop := proofMoreRow.holds Try.pinned (OpenSpec.ofChange proofMoreWrong)

/-- 'assizelaw16.ProofPlain': WHATEVER THE INPUT: true; the input reads as it did. -/
def proofPlainSpec : ChangeSpec := { name := "proofPlain", fn := fun _ => fun
  | [d1, d2, d3] => { results := [.lit (.bool true)], args := [d1, d2, d3] }
  | _ => none }
def proofPlainRow : OpenClaim := { program := "ytafeehlpmdligaa", sum := "eef0884b240f462d381a33dc788ab51f59f4fd661121abe06e8e475b69101a86", func := "assize/assizelaw16.ProofPlain", spec := "proofPlain", unfollowed := true, recurses := true, apart := false }
def ProofPlainSaid : Prop := proofPlainRow.holds Try.pinned (OpenSpec.ofChange proofPlainSpec)

/-- ITS FALSE NEIGHBOUR: 'it returns false'. Refute it at one input. -/
def proofPlainWrong : ChangeSpec := { name := "proofPlain", fn := fun _ => fun
  | [d1, d2, d3] => { results := [.lit (.bool false)], args := [d1, d2, d3] }
  | _ => none }
def ProofPlainWrongFalsely : Prop := proofPlainRow.holds Try.pinned (OpenSpec.ofChange proofPlainWrong)

/-- 'assizelaw17.SolveFewer': WHATEVER THE INPUT: true; the input reads as it did. -/
def solveFewerSpec : ChangeSpec := { name := "solveFewer", fn := fun _ => fun
  | [d1, d2] => { results := [.lit (.bool true)], args := [d1, d2] }
  | _ => none }
def solveFewerRow : OpenClaim := { program := "ytafeehlpmdligaa", sum := "eef0884b240f462d381a33dc788ab51f59f4fd661121abe06e8e475b69101a86", func := "assize/assizelaw17.SolveFewer", spec := "solveFewer", unfollowed := true, recurses := true, apart := false }
def SolveFewerSaid : Prop := solveFewerRow.holds Try.pinned (OpenSpec.ofChange solveFewerSpec)

/-- ITS FALSE NEIGHBOUR: 'it returns false'. Refute it at one input. -/
def solveFewerWrong : ChangeSpec := { name := "solveFewer", fn := fun _ => fun
  | [d1, d2] => { results := [.lit (.bool false)], args := [d1, d2] }
  | _ => none }
def SolveFewerWrongFalsely : Prop := solveFewerRow.holds Try.pinned (OpenSpec.ofChange solveFewerWrong)

/-- 'assizelaw17.SolveMore': WHATEVER THE INPUT: true; the input reads as it did. -/
def solveMoreSpec : ChangeSpec := { name := "solveMore", fn := fun _ => fun
  | [d1, d2, d3] => { results := [.lit (.bool true)], args := [d1, d2, d3] }
  | _ => none }
def solveMoreRow : OpenClaim := { program := "ytafeehlpmdligaa", sum := "eef0884b240f462d381a33dc788ab51f59f4fd661121abe06e8e475b69101a86", func := "assize/assizelaw17.SolveMore", spec := "solveMore", unfollowed := true, recurses := true, apart := false }
def SolveMoreSaid : Prop := solveMoreRow.holds Try.pinned (OpenSpec.ofChange solveMoreSpec)

/-- ITS FALSE NEIGHBOUR: 'it returns false'. Refute it at one input. -/
def solveMoreWrong : ChangeSpec := { name := "solveMore", fn := fun _ => fun
  | [d1, d2, d3] => { results := [.lit (.bool false)], args := [d1, d2, d3] }
  | _ => none }
def SolveMoreWrongFalsely : Prop := solveMoreRow.holds Try.pinned (OpenSpec.ofChange solveMoreWrong)

/-- 'assizelaw17.SolveCounts': WHATEVER THE INPUT: true; the input reads as it did. -/
def solveCountsSpec : ChangeSpec := { name := "solveCounts", fn := fun _ => fun
  | [d1, d2] => { results := [.lit (.bool true)], args := [d1, d2] }
  | _ => none }
def solveCountsRow : OpenClaim := { program := "ytafeehlpmdligaa", sum := "eef0884b240f462d381a33dc788ab51f59f4fd661121abe06e8e475b69101a86", func := "assize/assizelaw17.SolveCounts", spec := "solveCounts", unfollowed := true, recurses := true, apart := false }
def SolveCountsSaid : Prop := solveCountsRow.holds Try.pinned (OpenSpec.ofChange solveCountsSpec)

/-- ITS FALSE NEIGHBOUR: 'it returns false'. Refute it at one input. -/
def solveCountsWrong : ChangeSpec := { name := "solveCounts", fn := fun _ => fun
  | [d1, d2] => { results := [.lit (.bool false)], args := [d1, d2] }
  | _ => none }
def SolveCountsWrongFalsely : Prop := solveCountsRow.holds Try.pinned (OpenSpec.ofChange solveCountsWrong)

/-- 'assizelaw17.SolveRight': WHATEVER THE INPUT: true; the input reads as it did. -/
def solveRightSpec : ChangeSpec := { name := "solveRight", fn := fun _ => fun
  | [d1, d2] => { results := [.lit (.bool true)], args := [d1, d2] }
  | _ => none }
def solveRightRow : OpenClaim := { program := "ytafeehlpmdligaa", sum := "eef0884b240f462d381a33dc788ab51f59f4fd661121abe06e8e475b69101a86", func := "assize/assizelaw17.SolveRight", spec := "solveRight", unfollowed := true, recurses := true, apart := false }
def SolveRightSaid : Prop := solveRightRow.holds Try.pinned (OpenSpec.ofChange solveRightSpec)

/-- ITS FALSE NEIGHBOUR: 'it returns false'. Refute it at one input. -/
def solveRightWrong : ChangeSpec := { name := "solveRight", fn := fun _ => fun
  | [d1, d2] => { results := [.lit (.bool false)], args := [d1, d2] }
  | _ => none }
def SolveRightWrongFalsely : Prop := solveRightRow.holds Try.pinned (OpenSpec.ofChange solveRightWrong)

/-- 'assizelaw17.SolveDecides': WHATEVER THE INPUT: true; the input reads as it did. -/
def solveDecidesSpec : ChangeSpec := { name := "solveDecides", fn := fun _ => fun
  | [d] => { results := [.lit (.bool true)], args := [d] }
  | _ => none }
def solveDecidesRow : OpenClaim := { program := "ytafeehlpmdligaa", sum := "eef0884b240f462d381a33dc788ab51f59f4fd661121abe06e8e475b69101a86", func := "assize/assizelaw17.SolveDecides", spec := "solveDecides", unfollowed := true, recurses := true, apart := false }
def SolveDecidesSaid : Prop := solveDecidesRow.holds Try.pinned (OpenSpec.ofChange solveDecidesSpec)

/-- ITS FALSE NEIGHBOUR: 'it returns false'. Refute it at one input. -/
def solveDecidesWrong : ChangeSpec := { name := "solveDecides", fn := fun _ => fun
  | [d] => { results := [.lit (.bool false)], args := [d] }
  | _ => none }
def SolveDecidesWrongFalsely : Prop := solveDecidesRow.holds Try.pinned (OpenSpec.ofChange solveDecidesWrong)

/-- 'assizelaw17.SolveKeeps': WHATEVER THE INPUT: true; the input reads as it did. -/
def solveKeepsSpec : ChangeSpec := { name := "solveKeeps", fn := fun _ => fun
  | [d] => { results := [.lit (.bool true)], args := [d] }
  | _ => none }
def solveKeepsRow : OpenClaim := { program := "ytafeehlpmdligaa", sum := "eef0884b240f462d381a33dc788ab51f59f4fd661121abe06e8e475b69101a86", func := "assize/assizelaw17.SolveKeeps", spec := "solveKeeps", unfollowed := true, recurses := true, apart := false }
def SolveKeepsSaid : Prop := solveKeepsRow.holds Try.pinned (OpenSpec.ofChange solveKeepsSpec)

/-- ITS FALSE NEIGHBOUR: 'it returns false'. Refute it at one input. -/
def solveKeepsWrong : ChangeSpec := { name := "solveKeeps", fn := fun _ => fun
  | [d] => { results := [.lit (.bool false)], args := [d] }
  | _ => none }
def SolveKeepsWrongFalsely : Prop := solveKeepsRow.holds Try.pinned (OpenSpec.ofChange solveKeepsWrong)

/- THE SECOND FORM. 'bulk': how many values and letters a reading holds, each counted each time it is reached (what is shared counts as often as it is met; a slice's spare places count too). A statement '..UptoSaid' is the law's where the arguments, and the package variables that the reading takes, are together of bulk at most 1048576: NARROWER than '..Said'. Prove '..Said' where nothing that the law and all that it calls make is longer than what came in: it says more and counts as full. Else prove '..UptoSaid'. A law counts once. -/
mutual
def uptoBulk {H : Type} : DataW H → Nat
  | .lit (.string bytes) => bytes.length + 1
  | .lit _ => 1
  | .nil => 1
  | .ptr d => uptoBulk d + 1
  | .slice elems spare => uptoBulkAll elems + uptoBulkAll spare + 1
  | .agg parts => uptoBulkAll parts + 1
  | .iface _ d => uptoBulk d + 1
  | .map entries => uptoBulkEntries entries + 1
  | .held _ => 1
def uptoBulkAll {H : Type} : List (DataW H) → Nat
  | [] => 0
  | d :: r => uptoBulk d + uptoBulkAll r
def uptoBulkEntries {H : Type} : List (Lit × DataW H) → Nat
  | [] => 0
  | x :: r => uptoBulkEntry x + uptoBulkEntries r
def uptoBulkEntry {H : Type} : Lit × DataW H → Nat
  | (.string bytes, d) => bytes.length + uptoBulk d + 1
  | (_, d) => uptoBulk d + 1
 end
def uptoSmall : (H : Type) → List (DataW H) → Bool := fun _ ds => decide (uptoBulkAll ds ≤ 1048576)
def OpenSpec.upto (s : _root_.Go.ChangeSpec) : _root_.Go.OpenSpec := { _root_.Go.OpenSpec.ofChange s with cond := some uptoSmall }

/-- 'assizelaw16.ProofChecks', WHERE WHAT IT READS IS OF BULK AT MOST 1048576: true; the input reads as it did. -/
def proofChecksUptoRow : OpenClaim := { program := "ytafeehlpmdligaa", sum := "eef0884b240f462d381a33dc788ab51f59f4fd661121abe06e8e475b69101a86", func := "assize/assizelaw16.ProofChecks", spec := "proofChecks", unfollowed := true, recurses := true, apart := false, narrowed := true }
def ProofChecksUptoSaid : Prop := proofChecksUptoRow.holds Try.pinned (OpenSpec.upto proofChecksSpec)

/-- 'assizelaw16.ProofTurned', WHERE WHAT IT READS IS OF BULK AT MOST 1048576: true; the input reads as it did. -/
def proofTurnedUptoRow : OpenClaim := { program := "ytafeehlpmdligaa", sum := "eef0884b240f462d381a33dc788ab51f59f4fd661121abe06e8e475b69101a86", func := "assize/assizelaw16.ProofTurned", spec := "proofTurned", unfollowed := true, recurses := true, apart := false, narrowed := true }
def ProofTurnedUptoSaid : Prop := proofTurnedUptoRow.holds Try.pinned (OpenSpec.upto proofTurnedSpec)

/-- 'assizelaw16.ProofSound', WHERE WHAT IT READS IS OF BULK AT MOST 1048576: true; the input reads as it did. -/
def proofSoundUptoRow : OpenClaim := { program := "ytafeehlpmdligaa", sum := "eef0884b240f462d381a33dc788ab51f59f4fd661121abe06e8e475b69101a86", func := "assize/assizelaw16.ProofSound", spec := "proofSound", unfollowed := true, recurses := true, apart := false, narrowed := true }
def ProofSoundUptoSaid : Prop := proofSoundUptoRow.holds Try.pinned (OpenSpec.upto proofSoundSpec)

/-- 'assizelaw16.ProofMore', WHERE WHAT IT READS IS OF BULK AT MOST 1048576: true; the input reads as it did. -/
def proofMoreUptoRow : OpenClaim := { program := "ytafeehlpmdligaa", sum := "eef0884b240f462d381a33dc788ab51f59f4fd661121abe06e8e475b69101a86", func := "assize/assizelaw16.ProofMore", spec := "proofMore", unfollowed := true, recurses := true, apart := false, narrowed := true }
def ProofMoreUptoSaid : Prop := proofMoreUptoRow.holds Try.pinned (OpenSpec.upto proofMoreSpec)

/-- 'assizelaw16.ProofPlain', WHERE WHAT IT READS IS OF BULK AT MOST 1048576: true; the input reads as it did. -/
def proofPlainUptoRow : OpenClaim := { program := "ytafeehlpmdligaa", sum := "eef0884b240f462d381a33dc788ab51f59f4fd661121abe06e8e475b69101a86", func := "assize/assizelaw16.ProofPlain", spec := "proofPlain", unfollowed := true, recurses := true, apart := false, narrowed := true }
def ProofPlainUptoSaid : Prop := proofPlainUptoRow.holds Try.pinned (OpenSpec.upto proofPlainSpec)

/-- 'assizelaw17.SolveFewer', WHERE WHAT IT READS IS OF BULK AT MOST 1048576: true; the input reads as it did. -/
def solveFewerUptoRow : OpenClaim := { program := "ytafeehlpmdligaa", sum := "eef0884b240f462d381a33dc788ab51f59f4fd661121abe06e8e475b69101a86", func := "assize/assizelaw17.SolveFewer", spec := "solveFewer", unfollowed := true, recurses := true, apart := false, narrowed := true }
def SolveFewerUptoSaid : Prop := solveFewerUptoRow.holds Try.pinned (OpenSpec.upto solveFewerSpec)

/-- 'assizelaw17.SolveMore', WHERE WHAT IT READS IS OF BULK AT MOST 1048576: true; the input reads as it did. -/
def solveMoreUptoRow : OpenClaim := { program := "ytafeehlpmdligaa", sum := "eef0884b240f462d381a33dc788ab51f59f4fd661121abe06e8e475b69101a86", func := "assize/assizelaw17.SolveMore", spec := "solveMore", unfollowed := true, recurses := true, apart := false, narrowed := true }
def SolveMoreUptoSaid : Prop := solveMoreUptoRow.holds Try.pinned (OpenSpec.upto solveMoreSpec)

/-- 'assizelaw17.SolveCounts', WHERE WHAT IT READS IS OF BULK AT MOST 1048576: true; the input reads as it did. -/
def solveCountsUptoRow : OpenClaim := { program := "ytafeehlpmdligaa", sum := "eef0884b240f462d381a33dc788ab51f59f4fd661121abe06e8e475b69101a86", func := "assize/assizelaw17.SolveCounts", spec := "solveCounts", unfollowed := true, recurses := true, apart := false, narrowed := true }
def SolveCountsUptoSaid : Prop := solveCountsUptoRow.holds Try.pinned (OpenSpec.upto solveCountsSpec)

/-- 'assizelaw17.SolveRight', WHERE WHAT IT READS IS OF BULK AT MOST 1048576: true; the input reads as it did. -/
def solveRightUptoRow : OpenClaim := { program := "ytafeehlpmdligaa", sum := "eef0884b240f462d381a33dc788ab51f59f4fd661121abe06e8e475b69101a86", func := "assize/assizelaw17.SolveRight", spec := "solveRight", unfollowed := true, recurses := true, apart := false, narrowed := true }
def SolveRightUptoSaid : Prop := solveRightUptoRow.holds Try.pinned (OpenSpec.upto solveRightSpec)

/-- 'assizelaw17.SolveDecides', WHERE WHAT IT READS IS OF BULK AT MOST 1048576: true; the input reads as it did. -/
def solveDecidesUptoRow : OpenClaim := { program := "ytafeehlpmdligaa", sum := "eef0884b240f462d381a33dc788ab51f59f4fd661121abe06e8e475b69101a86", func := "assize/assizelaw17.SolveDecides", spec := "solveDecides", unfollowed := true, recurses := true, apart := false, narrowed := true }
def SolveDecidesUptoSaid : Prop := solveDecidesUptoRow.holds Try.pinned (OpenSpec.upto solveDecidesSpec)

/-- 'assizelaw17.SolveKeeps', WHERE WHAT IT READS IS OF BULK AT MOST 1048576: true; the input reads as it did. -/
def solveKeepsUptoRow : OpenClaim := { program := "ytafeehlpmdligaa", sum := "eef0884b240f462d381a33dc788ab51f59f4fd661121abe06e8e475b69101a86", func := "assize/assizelaw17.SolveKeeps", spec := "solveKeeps", unfollowed := true, recurses := true, apart := false, narrowed := true }
def SolveKeepsUptoSaid : Prop := solveKeepsUptoRow.holds Try.pinned (OpenSpec.upto solveKeepsSpec)

end Rows
end Go.Proofs.Ytafeehlpmdligaa
