/- Whether two events match is told as the document says, either way round, and every event matches itself: the law PairMatches answers true at any two events, and leaves them as they were. No condition. -/
import Derived.Test.YtjjmedgibcffhaaK5
import Derived.Test.YtjjmedgibcffhaaLawMatches
namespace Go.Proofs.Ytjjmedgibcffhaa
open Go.RowKit Go.MapKept Go.ChangeShapes Go.WideShapes Go.ChangeAt
set_option linter.unusedSimpArgs false
set_option linter.unusedVariables false

theorem agg3_of_cells {v : Value} {a b c : Value} (h : v.cells.toList = [a, b, c]) : v = .agg #[a, b, c] := by
  unfold Value.cells at h
  split at h
  · rename_i cs
    congr
    apply Array.toList_inj.1
    exact h
  · simp at h

set_option maxRecDepth 100000 in
theorem pairMatches_lifted (os : Os) (started : os.Started) (H : Type) (enc : TypeId × Value → H) :
    ReturnsInHanded {} Try.checked os 3 .any (Rows.pairMatchesSpec.pre6 enc Try.prog Try.f3 Rows.pairMatchesRow.domain false) (Rows.pairMatchesSpec.post enc Try.prog Try.f3 false true false false) := by
  refine returnsInHanded_of_change_sized (C := Try.checked) own started (by kernel_rfl) Try.func3
    (ChangeSpec.witness6 (enc := enc) (C := Try.checked) false ⟨#[], #[.agg #[.int .i64 0, .int .i64 0, .slice none 0 0], .agg #[.int .i64 0, .int .i64 0, .slice none 0 0]], []⟩ 8 (by kernel_rfl) (by kernel_rfl) (by kernel_rfl) (by kernel_rfl)) ?_
  intro W base args ds gs before hval hW _ hz _
  have hW' := hW
  obtain ⟨p, q, hA0, hV, rfl, hfz, hnd⟩ := hW
  have hA : DataW.TrodAll enc Try.prog W 0 (fun _ => true) true Try.f3.params.toList args.toList ds p := hA0
  have hz' : (DataW.weightsEach Try.prog (Try.f3.params.toList ++ []) (ds ++ gs)).all (· ≤ reachBytes) = true := hz
  rw [Try.params3] at hA hz'
  obtain ⟨v0, v1, d0, d1, p0, p1, rfl, rfl, rfl, h0, h1⟩ := trodAll_two hA
  obtain ⟨rfl, rfl⟩ := trodVars_none hV
  obtain ⟨_, h0⟩ := h0
  obtain ⟨_, h1⟩ := h1
  have hall : ∀ n ∈ DataW.weightsEach Try.prog [24, 24] [d0, d1], n ≤ reachBytes := by
    intro n hn
    have := List.all_eq_true.1 hz' n (by simpa using hn)
    simpa using this
  simp only [DataW.weightsEach, List.append_nil, List.mem_append] at hall
  obtain ⟨x, hx, _⟩ := opens_event h0 (fun n hn => hall n (.inl hn))
  obtain ⟨y, hy, _⟩ := opens_event h1 (fun n hn => hall n (.inr hn))
  have hx' := hx
  have hy' := hy
  obtain ⟨A, c, e0, _⟩ := hx'
  obtain ⟨A', c', e1, _⟩ := hy'
  obtain rfl := agg3_of_cells e0
  obtain rfl := agg3_of_cells e1
  refine (matches_calls x y (fun b => b < W.heap.size) W _ _ hx hy (fun b hb => hb)).mono fun e W' ⟨he, hb⟩ => ?_
  exact ⟨_, he, law_post hW' rfl rfl (by decide +kernel) rfl hb⟩

theorem pairMatches_holds : Rows.PairMatchesSaid :=
  OpenClaim.holds_of_wide 3 Try.f3 rfl rfl rfl rfl rfl rfl rfl ⟨rfl, rfl, rfl, rfl, rfl⟩ rfl rfl rfl rfl rfl (by kernel_rfl) Try.func3 (by kernel_rfl)
    (of_decide_eq_true (by kernel_rfl)) (by unfold Func.isWrapper; first | (rw [if_pos (by decide +kernel)]; kernel_rfl) | (rw [if_neg (by decide +kernel)]; exact ⟨rfl, rfl⟩))
    (fun os started H enc _ => pairMatches_lifted os started H enc)
#print axioms pairMatches_holds
end Go.Proofs.Ytjjmedgibcffhaa
