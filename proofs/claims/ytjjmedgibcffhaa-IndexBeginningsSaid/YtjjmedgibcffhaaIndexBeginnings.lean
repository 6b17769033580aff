/- The history of the first events is the beginning of the history of all. The law IndexBeginnings answers true at every input, and leaves its arguments as they were. No condition. -/
import Derived.Test.YtjjmedgibcffhaaRows
import Derived.Test.YtjjmedgibcffhaaZe11
namespace Go.Proofs.Ytjjmedgibcffhaa
open Go.RowKit Go.MapKept Go.ChangeShapes Go.WideShapes Go.ChangeAt M
set_option linter.unusedSimpArgs false
set_option linter.unusedVariables false
set_option maxRecDepth 100000 in
theorem indexBeginnings_lifted (os : Os) (started : os.Started) (H : Type) (enc : TypeId × Value → H) :
    ReturnsInHanded {} Try.checked os 13 .any (Rows.indexBeginningsSpec.pre6 enc Try.prog Try.f13 Rows.indexBeginningsRow.domain false) (Rows.indexBeginningsSpec.post enc Try.prog Try.f13 false true false false) := by
  refine returnsInHanded_of_change_sized (C := Try.checked) own started (by kernel_rfl) Try.func13
    (ChangeSpec.witness6 (enc := enc) (C := Try.checked) false ⟨#[], #[.slice none 0 0, .int .i64 0], []⟩ 8 (by kernel_rfl) (by kernel_rfl) (by kernel_rfl) (by kernel_rfl)) ?_
  intro W base args ds gs before hval hW _ hz _
  have hW' := hW
  obtain ⟨p, q, hA0, hV, rfl, hfz, hnd⟩ := hW
  have hA : DataW.TrodAll enc Try.prog W 0 (fun _ => true) true Try.f13.params.toList args.toList ds p := hA0
  have hz' : (DataW.weightsEach Try.prog (Try.f13.params.toList ++ []) (ds ++ gs)).all (· ≤ reachBytes) = true := hz
  have hval' : ∀ (j : Nat) t v, Try.f13.params[j]? = some t → #[args].size = 1 → args[j]? = some v → Value.okWide Try.prog W .any base t v := fun j t v h1 _ h2 => hval j t v h1 h2
  rw [Try.params13] at hA hz' hval'
  obtain ⟨v0, v1, d0, d1, p0, p1, rfl, rfl, rfl, h0, h1⟩ := trodAll_two hA
  obtain ⟨rfl, rfl⟩ := trodVars_none hV
  have hall : ∀ n ∈ DataW.weightsEach Try.prog [27, 3] [d0, d1], n ≤ reachBytes := by
    intro n hn
    have := List.all_eq_true.1 hz' n (by simpa using hn)
    simpa using this
  simp only [DataW.weightsEach, List.append_nil, List.mem_append] at hall
  obtain ⟨x, hx, hok⟩ := open_evs (hval' 0 27 v0 rfl rfl rfl) h0 (fun n hn => hall n (.inl hn))
  obtain ⟨k, rfl, _, _, hk⟩ := open_int Try.underlying3 (hval' 1 3 v1 rfl rfl rfl) h1
  refine (pure_calls (vals := #[v0, .int .i64 k]) (law13 x hok k) rfl fun j y hy => ?_).mono fun e W' ⟨he, hb⟩ => ?_
  · match j, hy with
    | 0, hy => simp at hy; subst hy; exact .d hx
    | 1, hy => simp at hy; subst hy; exact .d (.int _ _)
    | j + 2, hy => simp at hy
  · exact ⟨_, he, law_post hW' rfl rfl (by decide +kernel) rfl hb⟩
theorem indexBeginnings_holds : Rows.IndexBeginningsSaid :=
  OpenClaim.holds_of_wide 13 Try.f13 rfl rfl rfl rfl rfl rfl rfl ⟨rfl, rfl, rfl, rfl, rfl⟩ rfl rfl rfl rfl rfl (by kernel_rfl) Try.func13 (by kernel_rfl)
    (of_decide_eq_true (by kernel_rfl)) (by unfold Func.isWrapper; first | (rw [if_pos (by decide +kernel)]; kernel_rfl) | (rw [if_neg (by decide +kernel)]; exact ⟨rfl, rfl⟩))
    (fun os started H enc _ => indexBeginnings_lifted os started H enc)
#print axioms indexBeginnings_holds
end Go.Proofs.Ytjjmedgibcffhaa
