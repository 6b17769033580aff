/-
  No cell of these rows narrows 'for every input' (looked for: loops, veiled, ifaces, maps, wideKeys, modest, calm, conditions, laid).
  DERIVED. THE GIVEN ROWS OF THIS SEAT. 13 by the template 'for every input the law returns true; each argument reads behind the call as it read before'; 0 by the template 'total and deterministic' (their statements: YtjjmedgibcffhaaTotals.lean).
  GIVEN WITH THE SEED: the statements are not yours to turn. If you find one false, say at which input.
  Laid BY PROGRAM, IN A SANDBOX (cutbox-rows.mjs): the forced cells as the released guide's own fill.sh prints them over the translation 98b937786a167019… (all of the seat's roots in one cut). By AI agents, Wed Nov 11 2026. No macro, syntax, notation, axiom, sorry.
-/
import Derived.Test.YtjjmedgibcffhaaChecked
import GoSem.Claim
import GoSem.ClaimJoined
import GoSem.ClaimMapViews
import Derived.JoinedTies
import Derived.KernelRfl
namespace Go.Proofs.Ytjjmedgibcffhaa
/- THE CELL 'sum', in the pinned program and in every row, IS THE sha256 OF THE DUMP (.gsa) THAT YtjjmedgibcffhaaProg.lean LOADS. Nothing in Lean hashes anything: it is a label: what it is worth is what the hold of that sum in a sandbox is worth. -/
noncomputable def Try.pinned : Pinned := { name := "ytjjmedgibcffhaa", sum := "98b937786a167019572612c394e3ede9408384d46c95aa912946345e612ee409", checked := Try.checked }
namespace Rows
def none {H : Type} : Left H := { results := [], args := [] }

/-- 'assizelaw04.PairMatches': WHATEVER THE INPUT: true; the input reads as it did. -/
def pairMatchesSpec : ChangeSpec := { name := "pairMatches", fn := fun _ => fun
  | [d1, d2] => { results := [.lit (.bool true)], args := [d1, d2] }
  | _ => none }
def pairMatchesRow : OpenClaim := { program := "ytjjmedgibcffhaa", sum := "98b937786a167019572612c394e3ede9408384d46c95aa912946345e612ee409", func := "assize/assizelaw04.PairMatches", spec := "pairMatches", unfollowed := true, recurses := true, plainKeys := false, apart := false }
def PairMatchesSaid : Prop := pairMatchesRow.holds Try.pinned (OpenSpec.ofChange pairMatchesSpec)

/-- ITS FALSE NEIGHBOUR: 'it returns false'. Refute it at one input. -/
def pairMatchesWrong : ChangeSpec := { name := "pairMatches", fn := fun _ => fun
  | [d1, d2] => { results := [.lit (.bool false)], args := [d1, d2] }
  | _ => none }
def PairMatchesWrongFalsely : Prop := pairMatchesRow.holds Try.pinned (OpenSpec.ofChange pairMatchesWrong)

/-- 'assizelaw04.PairOnce': WHATEVER THE INPUT: true; the input reads as it did. -/
def pairOnceSpec : ChangeSpec := { name := "pairOnce", fn := fun _ => fun
  | [d] => { results := [.lit (.bool true)], args := [d] }
  | _ => none }
def pairOnceRow : OpenClaim := { program := "ytjjmedgibcffhaa", sum := "98b937786a167019572612c394e3ede9408384d46c95aa912946345e612ee409", func := "assize/assizelaw04.PairOnce", spec := "pairOnce", unfollowed := true, recurses := true, plainKeys := false, apart := false }
def PairOnceSaid : Prop := pairOnceRow.holds Try.pinned (OpenSpec.ofChange pairOnceSpec)

/-- ITS FALSE NEIGHBOUR: 'it returns false'. Refute it at one input. -/
def pairOnceWrong : ChangeSpec := { name := "pairOnce", fn := fun _ => fun
  | [d] => { results := [.lit (.bool false)], args := [d] }
  | _ => none }
def PairOnceWrongFalsely : Prop := pairOnceRow.holds Try.pinned (OpenSpec.ofChange pairOnceWrong)

/-- 'assizelaw04.PairBeginnings': WHATEVER THE INPUT: true; the input reads as it did. -/
def pairBeginningsSpec : ChangeSpec := { name := "pairBeginnings", fn := fun _ => fun
  | [d1, d2] => { results := [.lit (.bool true)], args := [d1, d2] }
  | _ => none }
def pairBeginningsRow : OpenClaim := { program := "ytjjmedgibcffhaa", sum := "98b937786a167019572612c394e3ede9408384d46c95aa912946345e612ee409", func := "assize/assizelaw04.PairBeginnings", spec := "pairBeginnings", unfollowed := true, recurses := true, plainKeys := false, apart := false }
def PairBeginningsSaid : Prop := pairBeginningsRow.holds Try.pinned (OpenSpec.ofChange pairBeginningsSpec)

/-- ITS FALSE NEIGHBOUR: 'it returns false'. Refute it at one input. -/
def pairBeginningsWrong : ChangeSpec := { name := "pairBeginnings", fn := fun _ => fun
  | [d1, d2] => { results := [.lit (.bool false)], args := [d1, d2] }
  | _ => none }
def PairBeginningsWrongFalsely : Prop := pairBeginningsRow.holds Try.pinned (OpenSpec.ofChange pairBeginningsWrong)

/-- 'assizelaw04.PairApart': WHATEVER THE INPUT: true; the input reads as it did. -/
def pairApartSpec : ChangeSpec := { name := "pairApart", fn := fun _ => fun
  | [d1, d2] => { results := [.lit (.bool true)], args := [d1, d2] }
  | _ => none }
def pairApartRow : OpenClaim := { program := "ytjjmedgibcffhaa", sum := "98b937786a167019572612c394e3ede9408384d46c95aa912946345e612ee409", func := "assize/assizelaw04.PairApart", spec := "pairApart", unfollowed := true, recurses := true, plainKeys := false, apart := false }
def PairApartSaid : Prop := pairApartRow.holds Try.pinned (OpenSpec.ofChange pairApartSpec)

/-- ITS FALSE NEIGHBOUR: 'it returns false'. Refute it at one input. -/
def pairApartWrong : ChangeSpec := { name := "pairApart", fn := fun _ => fun
  | [d1, d2] => { results := [.lit (.bool false)], args := [d1, d2] }
  | _ => none }
def PairApartWrongFalsely : Prop := pairApartRow.holds Try.pinned (OpenSpec.ofChange pairApartWrong)

/-- 'assizelaw04.PairPairs': WHATEVER THE INPUT: true; the input reads as it did. -/
def pairPairsSpec : ChangeSpec := { name := "pairPairs", fn := fun _ => fun
  | [d] => { results := [.lit (.bool true)], args := [d] }
  | _ => none }
def pairPairsRow : OpenClaim := { program := "ytjjmedgibcffhaa", sum := "98b937786a167019572612c394e3ede9408384d46c95aa912946345e612ee409", func := "assize/assizelaw04.PairPairs", spec := "pairPairs", unfollowed := true, recurses := true, plainKeys := false, apart := false }
def PairPairsSaid : Prop := pairPairsRow.holds Try.pinned (OpenSpec.ofChange pairPairsSpec)

/-- ITS FALSE NEIGHBOUR: 'it returns false'. Refute it at one input. -/
def pairPairsWrong : ChangeSpec := { name := "pairPairs", fn := fun _ => fun
  | [d] => { results := [.lit (.bool false)], args := [d] }
  | _ => none }
def PairPairsWrongFalsely : Prop := pairPairsRow.holds Try.pinned (OpenSpec.ofChange pairPairsWrong)

/-- 'assizelaw04.PairBusy': WHATEVER THE INPUT: true; the input reads as it did. -/
def pairBusySpec : ChangeSpec := { name := "pairBusy", fn := fun _ => fun
  | [d] => { results := [.lit (.bool true)], args := [d] }
  | _ => none }
def pairBusyRow : OpenClaim := { program := "ytjjmedgibcffhaa", sum := "98b937786a167019572612c394e3ede9408384d46c95aa912946345e612ee409", func := "assize/assizelaw04.PairBusy", spec := "pairBusy", unfollowed := true, recurses := true, plainKeys := false, apart := false }
def PairBusySaid : Prop := pairBusyRow.holds Try.pinned (OpenSpec.ofChange pairBusySpec)

/-- ITS FALSE NEIGHBOUR: 'it returns false'. Refute it at one input. -/
def pairBusyWrong : ChangeSpec := { name := "pairBusy", fn := fun _ => fun
  | [d] => { results := [.lit (.bool false)], args := [d] }
  | _ => none }
def PairBusyWrongFalsely : Prop := pairBusyRow.holds Try.pinned (OpenSpec.ofChange pairBusyWrong)

/-- 'assizelaw05.IndexBuilds': WHATEVER THE INPUT: true; the input reads as it did. -/
def indexBuildsSpec : ChangeSpec := { name := "indexBuilds", fn := fun _ => fun
  | [d] => { results := [.lit (.bool true)], args := [d] }
  | _ => none }
def indexBuildsRow : OpenClaim := { program := "ytjjmedgibcffhaa", sum := "98b937786a167019572612c394e3ede9408384d46c95aa912946345e612ee409", func := "assize/assizelaw05.IndexBuilds", spec := "indexBuilds", unfollowed := true, recurses := true, plainKeys := false, apart := false }
def IndexBuildsSaid : Prop := indexBuildsRow.holds Try.pinned (OpenSpec.ofChange indexBuildsSpec)

/-- ITS FALSE NEIGHBOUR: 'it returns false'. Refute it at one input. -/
def indexBuildsWrong : ChangeSpec := { name := "indexBuilds", fn := fun _ => fun
  | [d] => { results := [.lit (.bool false)], args := [d] }
  | _ => none }
def IndexBuildsWrongFalsely : Prop := indexBuildsRow.holds Try.pinned (OpenSpec.ofChange indexBuildsWrong)

/-- 'assizelaw05.IndexChecks': WHATEVER THE INPUT: true; the input reads as it did. -/
def indexChecksSpec : ChangeSpec := { name := "indexChecks", fn := fun _ => fun
  | [d] => { results := [.lit (.bool true)], args := [d] }
  | _ => none }
def indexChecksRow : OpenClaim := { program := "ytjjmedgibcffhaa", sum := "98b937786a167019572612c394e3ede9408384d46c95aa912946345e612ee409", func := "assize/assizelaw05.IndexChecks", spec := "indexChecks", unfollowed := true, recurses := true, plainKeys := false, apart := false }
def IndexChecksSaid : Prop := indexChecksRow.holds Try.pinned (OpenSpec.ofChange indexChecksSpec)

/-- ITS FALSE NEIGHBOUR: 'it returns false'. Refute it at one input. -/
def indexChecksWrong : ChangeSpec := { name := "indexChecks", fn := fun _ => fun
  | [d] => { results := [.lit (.bool false)], args := [d] }
  | _ => none }
def IndexChecksWrongFalsely : Prop := indexChecksRow.holds Try.pinned (OpenSpec.ofChange indexChecksWrong)

/-- 'assizelaw05.IndexSound': WHATEVER THE INPUT: true; the input reads as it did. -/
def indexSoundSpec : ChangeSpec := { name := "indexSound", fn := fun _ => fun
  | [d] => { results := [.lit (.bool true)], args := [d] }
  | _ => none }
def indexSoundRow : OpenClaim := { program := "ytjjmedgibcffhaa", sum := "98b937786a167019572612c394e3ede9408384d46c95aa912946345e612ee409", func := "assize/assizelaw05.IndexSound", spec := "indexSound", unfollowed := true, recurses := true, plainKeys := false, apart := false }
def IndexSoundSaid : Prop := indexSoundRow.holds Try.pinned (OpenSpec.ofChange indexSoundSpec)

/-- ITS FALSE NEIGHBOUR: 'it returns false'. Refute it at one input. -/
def indexSoundWrong : ChangeSpec := { name := "indexSound", fn := fun _ => fun
  | [d] => { results := [.lit (.bool false)], args := [d] }
  | _ => none }
def IndexSoundWrongFalsely : Prop := indexSoundRow.holds Try.pinned (OpenSpec.ofChange indexSoundWrong)

/-- 'assizelaw05.IndexKeeps': WHATEVER THE INPUT: true; the input reads as it did. -/
def indexKeepsSpec : ChangeSpec := { name := "indexKeeps", fn := fun _ => fun
  | [d] => { results := [.lit (.bool true)], args := [d] }
  | _ => none }
def indexKeepsRow : OpenClaim := { program := "ytjjmedgibcffhaa", sum := "98b937786a167019572612c394e3ede9408384d46c95aa912946345e612ee409", func := "assize/assizelaw05.IndexKeeps", spec := "indexKeeps", unfollowed := true, recurses := true, plainKeys := false, apart := false }
def IndexKeepsSaid : Prop := indexKeepsRow.holds Try.pinned (OpenSpec.ofChange indexKeepsSpec)

/-- ITS FALSE NEIGHBOUR: 'it returns false'. Refute it at one input. -/
def indexKeepsWrong : ChangeSpec := { name := "indexKeeps", fn := fun _ => fun
  | [d] => { results := [.lit (.bool false)], args := [d] }
  | _ => none }
def IndexKeepsWrongFalsely : Prop := indexKeepsRow.holds Try.pinned (OpenSpec.ofChange indexKeepsWrong)

/-- 'assizelaw05.IndexBeginnings': WHATEVER THE INPUT: true; the input reads as it did. -/
def indexBeginningsSpec : ChangeSpec := { name := "indexBeginnings", fn := fun _ => fun
  | [d1, d2] => { results := [.lit (.bool true)], args := [d1, d2] }
  | _ => none }
def indexBeginningsRow : OpenClaim := { program := "ytjjmedgibcffhaa", sum := "98b937786a167019572612c394e3ede9408384d46c95aa912946345e612ee409", func := "assize/assizelaw05.IndexBeginnings", spec := "indexBeginnings", unfollowed := true, recurses := true, plainKeys := false, apart := false }
def IndexBeginningsSaid : Prop := indexBeginningsRow.holds Try.pinned (OpenSpec.ofChange indexBeginningsSpec)

/-- ITS FALSE NEIGHBOUR: 'it returns false'. Refute it at one input. -/
def indexBeginningsWrong : ChangeSpec := { name := "indexBeginnings", fn := fun _ => fun
  | [d1, d2] => { results := [.lit (.bool false)], args := [d1, d2] }
  | _ => none }
def IndexBeginningsWrongFalsely : Prop := indexBeginningsRow.holds Try.pinned (OpenSpec.ofChange indexBeginningsWrong)

/-- 'assizelaw05.IndexTells': WHATEVER THE INPUT: true; the input reads as it did. -/
def indexTellsSpec : ChangeSpec := { name := "indexTells", fn := fun _ => fun
  | [d1, d2, d3] => { results := [.lit (.bool true)], args := [d1, d2, d3] }
  | _ => none }
def indexTellsRow : OpenClaim := { program := "ytjjmedgibcffhaa", sum := "98b937786a167019572612c394e3ede9408384d46c95aa912946345e612ee409", func := "assize/assizelaw05.IndexTells", spec := "indexTells", unfollowed := true, recurses := true, plainKeys := false, apart := false }
def IndexTellsSaid : Prop := indexTellsRow.holds Try.pinned (OpenSpec.ofChange indexTellsSpec)

/-- ITS FALSE NEIGHBOUR: 'it returns false'. Refute it at one input. -/
def indexTellsWrong : ChangeSpec := { name := "indexTells", fn := fun _ => fun
  | [d1, d2, d3] => { results := [.lit (.bool false)], args := [d1, d2, d3] }
  | _ => none }
def IndexTellsWrongFalsely : Prop := indexTellsRow.holds Try.pinned (OpenSpec.ofChange indexTellsWrong)

/-- 'assizelaw05.IndexWriters': WHATEVER THE INPUT: true; the input reads as it did. -/
def indexWritersSpec : ChangeSpec := { name := "indexWriters", fn := fun _ => fun
  | [d1, d2] => { results := [.lit (.bool true)], args := [d1, d2] }
  | _ => none }
def indexWritersRow : OpenClaim := { program := "ytjjmedgibcffhaa", sum := "98b937786a167019572612c394e3ede9408384d46c95aa912946345e612ee409", func := "assize/assizelaw05.IndexWriters", spec := "indexWriters", unfollowed := true, recurses := true, plainKeys := false, apart := false }
def IndexWritersSaid : Prop := indexWritersRow.holds Try.pinned (OpenSpec.ofChange indexWritersSpec)

/-- ITS FALSE NEIGHBOUR: 'it returns false'. Refute it at one input. -/
def indexWritersWrong : ChangeSpec := { name := "indexWriters", fn := fun _ => fun
  | [d1, d2] => { results := [.lit (.bool false)], args := [d1, d2] }
  | _ => none }
def IndexWritersWrongFalsely : Prop := indexWritersRow.holds Try.pinned (OpenSpec.ofChange indexWritersWrong)

/- THE SECOND FORM. 'bulk': how many values and letters a reading holds, each counted each time it is reached (what is shared counts as often as it is met; a slice's spare places count too). A statement '..UptoSaid' is the law's where the arguments, and the package variables that the reading takes, are together of bulk at most 1048576: NARROWER than '..Said'. Prove '..Said' where nothing that the law and all that it calls make is longer than what came in: it says more and counts as full. Else prove '..UptoSaid'. A law counts once. -/
mutual
def uptoBulk {H : Type} : DataW H → Nat
  | .lit (.string bytes) => bytes.length + 1
  | .lit _ => 1
  | .nil => 1
  | .ptr d => uptoBulk d + 1
  | .slice elems spare => uptoBulkAll elems + uptoBulkAll spare + 1
  | .agg parts => uptoBulkAll parts + 1
  | .iface _ d => uptoBulk d + 1
  | .map entries => uptoBulkEntries entries + 1
  | .held _ => 1
def uptoBulkAll {H : Type} : List (DataW H) → Nat
  | [] => 0
  | d :: r => uptoBulk d + uptoBulkAll r
def uptoBulkEntries {H : Type} : List (Lit × DataW H) → Nat
  | [] => 0
  | x :: r => uptoBulkEntry x + uptoBulkEntries r
def uptoBulkEntry {H : Type} : Lit × DataW H → Nat
  | (.string bytes, d) => bytes.length + uptoBulk d + 1
  | (_, d) => uptoBulk d + 1
 end
def uptoSmall : (H : Type) → List (DataW H) → Bool := fun _ ds => decide (uptoBulkAll ds ≤ 1048576)
def OpenSpec.upto (s : _root_.Go.ChangeSpec) : _root_.Go.OpenSpec := { _root_.Go.OpenSpec.ofChange s with cond := some uptoSmall }

/-- 'assizelaw04.PairMatches', WHERE WHAT IT READS IS OF BULK AT MOST 1048576: true; the input reads as it did. -/
def pairMatchesUptoRow : OpenClaim := { program := "ytjjmedgibcffhaa", sum := "98b937786a167019572612c394e3ede9408384d46c95aa912946345e612ee409", func := "assize/assizelaw04.PairMatches", spec := "pairMatches", unfollowed := true, recurses := true, plainKeys := false, apart := false, narrowed := true }
def PairMatchesUptoSaid : Prop := pairMatchesUptoRow.holds Try.pinned (OpenSpec.upto pairMatchesSpec)

/-- 'assizelaw04.PairOnce', WHERE WHAT IT READS IS OF BULK AT MOST 1048576: true; the input reads as it did. -/
def pairOnceUptoRow : OpenClaim := { program := "ytjjmedgibcffhaa", sum := "98b937786a167019572612c394e3ede9408384d46c95aa912946345e612ee409", func := "assize/assizelaw04.PairOnce", spec := "pairOnce", unfollowed := true, recurses := true, plainKeys := false, apart := false, narrowed := true }
def PairOnceUptoSaid : Prop := pairOnceUptoRow.holds Try.pinned (OpenSpec.upto pairOnceSpec)

/-- 'assizelaw04.PairBeginnings', WHERE WHAT IT READS IS OF BULK AT MOST 1048576: true; the input reads as it did. -/
def pairBeginningsUptoRow : OpenClaim := { program := "ytjjmedgibcffhaa", sum := "98b937786a167019572612c394e3ede9408384d46c95aa912946345e612ee409", func := "assize/assizelaw04.PairBeginnings", spec := "pairBeginnings", unfollowed := true, recurses := true, plainKeys := false, apart := false, narrowed := true }
def PairBeginningsUptoSaid : Prop := pairBeginningsUptoRow.holds Try.pinned (OpenSpec.upto pairBeginningsSpec)

/-- 'assizelaw04.PairApart', WHERE WHAT IT READS IS OF BULK AT MOST 1048576: true; the input reads as it did. -/
def pairApartUptoRow : OpenClaim := { program := "ytjjmedgibcffhaa", sum := "98b937786a167019572612c394e3ede9408384d46c95aa912946345e612ee409", func := "assize/assizelaw04.PairApart", spec := "pairApart", unfollowed := true, recurses := true, plainKeys := false, apart := false, narrowed := true }
def PairApartUptoSaid : Prop := pairApartUptoRow.holds Try.pinned (OpenSpec.upto pairApartSpec)

/-- 'assizelaw04.PairPairs', WHERE WHAT IT READS IS OF BULK AT MOST 1048576: true; the input reads as it did. -/
def pairPairsUptoRow : OpenClaim := { program := "ytjjmedgibcffhaa", sum := "98b937786a167019572612c394e3ede9408384d46c95aa912946345e612ee409", func := "assize/assizelaw04.PairPairs", spec := "pairPairs", unfollowed := true, recurses := true, plainKeys := false, apart := false, narrowed := true }
def PairPairsUptoSaid : Prop := pairPairsUptoRow.holds Try.pinned (OpenSpec.upto pairPairsSpec)

/-- 'assizelaw04.PairBusy', WHERE WHAT IT READS IS OF BULK AT MOST 1048576: true; the input reads as it did. -/
def pairBusyUptoRow : OpenClaim := { program := "ytjjmedgibcffhaa", sum := "98b937786a167019572612c394e3ede9408384d46c95aa912946345e612ee409", func := "assize/assizelaw04.PairBusy", spec := "pairBusy", unfollowed := true, recurses := true, plainKeys := false, apart := false, narrowed := true }
def PairBusyUptoSaid : Prop := pairBusyUptoRow.holds Try.pinned (OpenSpec.upto pairBusySpec)

/-- 'assizelaw05.IndexBuilds', WHERE WHAT IT READS IS OF BULK AT MOST 1048576: true; the input reads as it did. -/
def indexBuildsUptoRow : OpenClaim := { program := "ytjjmedgibcffhaa", sum := "98b937786a167019572612c394e3ede9408384d46c95aa912946345e612ee409", func := "assize/assizelaw05.IndexBuilds", spec := "indexBuilds", unfollowed := true, recurses := true, plainKeys := false, apart := false, narrowed := true }
def IndexBuildsUptoSaid : Prop := indexBuildsUptoRow.holds Try.pinned (OpenSpec.upto indexBuildsSpec)

/-- 'assizelaw05.IndexChecks', WHERE WHAT IT READS IS OF BULK AT MOST 1048576: true; the input reads as it did. -/
def indexChecksUptoRow : OpenClaim := { program := "ytjjmedgibcffhaa", sum := "98b937786a167019572612c394e3ede9408384d46c95aa912946345e612ee409", func := "assize/assizelaw05.IndexChecks", spec := "indexChecks", unfollowed := true, recurses := true, plainKeys := false, apart := false, narrowed := true }
def IndexChecksUptoSaid : Prop := indexChecksUptoRow.holds Try.pinned (OpenSpec.upto indexChecksSpec)

/-- 'assizelaw05.IndexSound', WHERE WHAT IT READS IS OF BULK AT MOST 1048576: true; the input reads as it did. -/
def indexSoundUptoRow : OpenClaim := { program := "ytjjmedgibcffhaa", sum := "98b937786a167019572612c394e3ede9408384d46c95aa912946345e612ee409", func := "assize/assizelaw05.IndexSound", spec := "indexSound", unfollowed := true, recurses := true, plainKeys := false, apart := false, narrowed := true }
def IndexSoundUptoSaid : Prop := indexSoundUptoRow.holds Try.pinned (OpenSpec.upto indexSoundSpec)

/-- 'assizelaw05.IndexKeeps', WHERE WHAT IT READS IS OF BULK AT MOST 1048576: true; the input reads as it did. -/
def indexKeepsUptoRow : OpenClaim := { program := "ytjjmedgibcffhaa", sum := "98b937786a167019572612c394e3ede9408384d46c95aa912946345e612ee409", func := "assize/assizelaw05.IndexKeeps", spec := "indexKeeps", unfollowed := true, recurses := true, plainKeys := false, apart := false, narrowed := true }
def IndexKeepsUptoSaid : Prop := indexKeepsUptoRow.holds Try.pinned (OpenSpec.upto indexKeepsSpec)

/-- 'assizelaw05.IndexBeginnings', WHERE WHAT IT READS IS OF BULK AT MOST 1048576: true; the input reads as it did. -/
def indexBeginningsUptoRow : OpenClaim := { program := "ytjjmedgibcffhaa", sum := "98b937786a167019572612c394e3ede9408384d46c95aa912946345e612ee409", func := "assize/assizelaw05.IndexBeginnings", spec := "indexBeginnings", unfollowed := true, recurses := true, plainKeys := false, apart := false, narrowed := true }
def IndexBeginningsUptoSaid : Prop := indexBeginningsUptoRow.holds Try.pinned (OpenSpec.upto indexBeginningsSpec)

/-- 'assizelaw05.IndexTells', WHERE WHAT IT READS IS OF BULK AT MOST 1048576: true; the input reads as it did. -/
def indexTellsUptoRow : OpenClaim := { program := "ytjjmedgibcffhaa", sum := "98b937786a167019572612c394e3ede9408384d46c95aa912946345e612ee409", func := "assize/assizelaw05.IndexTells", spec := "indexTells", unfollowed := true, recurses := true, plainKeys := false, apart := false, narrowed := true }
def IndexTellsUptoSaid : Prop := indexTellsUptoRow.holds Try.pinned (OpenSpec.upto indexTellsSpec)

/-- 'assizelaw05.IndexWriters', WHERE WHAT IT READS IS OF BULK AT MOST 1048576: true; the input reads as it did. -/
def indexWritersUptoRow : OpenClaim := { program := "ytjjmedgibcffhaa", sum := "98b937786a167019572612c394e3ede9408384d46c95aa912946345e612ee409", func := "assize/assizelaw05.IndexWriters", spec := "indexWriters", unfollowed := true, recurses := true, plainKeys := false, apart := false, narrowed := true }
def IndexWritersUptoSaid : Prop := indexWritersUptoRow.holds Try.pinned (OpenSpec.upto indexWritersSpec)

end Rows
end Go.Proofs.Ytjjmedgibcffhaa
