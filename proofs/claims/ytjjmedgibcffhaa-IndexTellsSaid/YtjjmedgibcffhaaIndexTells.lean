/- Types, writers and what was written are told as the document says. The law IndexTells answers true at every input, and leaves its arguments as they were. No condition. -/
import Derived.Test.YtjjmedgibcffhaaRows
import Derived.Test.YtjjmedgibcffhaaZt1
namespace Go.Proofs.Ytjjmedgibcffhaa
open Go.RowKit Go.MapKept Go.ChangeShapes Go.WideShapes Go.ChangeAt M
set_option linter.unusedSimpArgs false
set_option linter.unusedVariables false
set_option maxRecDepth 100000 in
theorem indexTells_lifted (os : Os) (started : os.Started) (H : Type) (enc : TypeId × Value → H) :
    ReturnsInHanded {} Try.checked os 14 .any (Rows.indexTellsSpec.pre6 enc Try.prog Try.f14 Rows.indexTellsRow.domain false) (Rows.indexTellsSpec.post enc Try.prog Try.f14 false true false false) := by
  refine returnsInHanded_of_change_sized (C := Try.checked) own started (by kernel_rfl) Try.func14
    (ChangeSpec.witness6 (enc := enc) (C := Try.checked) false ⟨#[], #[.agg #[.slice none 0 0, .slice none 0 0], .int .i64 0, .int .i64 0], []⟩ 9 (by kernel_rfl) (by kernel_rfl) (by kernel_rfl) (by kernel_rfl)) ?_
  intro W base args ds gs before hval hW _ hz _
  have hW' := hW
  obtain ⟨p, q, hA0, hV, rfl, hfz, hnd⟩ := hW
  have hA : DataW.TrodAll enc Try.prog W 0 (fun _ => true) true Try.f14.params.toList args.toList ds p := hA0
  have hz' : (DataW.weightsEach Try.prog (Try.f14.params.toList ++ []) (ds ++ gs)).all (· ≤ reachBytes) = true := hz
  have hval' : ∀ (j : Nat) t v, Try.f14.params[j]? = some t → #[args].size = 1 → args[j]? = some v → Value.okWide Try.prog W .any base t v := fun j t v h1 _ h2 => hval j t v h1 h2
  rw [Try.params14] at hA hz' hval'
  obtain ⟨v0, v1, v2, d0, d1, d2, p0, p1, p2, rfl, rfl, rfl, h0, h1, h2⟩ := trodAll_three hA
  obtain ⟨rfl, rfl⟩ := trodVars_none hV
  have hall : ∀ n ∈ DataW.weightsEach Try.prog [53, 3, 3] [d0, d1, d2], n ≤ reachBytes := by
    intro n hn
    have := List.all_eq_true.1 hz' n (by simpa using hn)
    simpa using this
  simp only [DataW.weightsEach, List.append_nil, List.mem_append] at hall
  obtain ⟨x, hx, hok⟩ := open_hist h0 (fun n hn => hall n (.inl hn))
  obtain ⟨k, rfl, _, _, hk⟩ := open_int Try.underlying3 (hval' 1 3 v1 rfl rfl rfl) h1
  obtain ⟨t, rfl, _, _, ht⟩ := open_int Try.underlying3 (hval' 2 3 v2 rfl rfl rfl) h2
  refine (pure_calls (vals := #[v0, .int .i64 k, .int .i64 t]) (law14 x hok k t) rfl fun j y hy => ?_).mono fun e W' ⟨he, hb⟩ => ?_
  · match j, hy with
    | 0, hy => simp at hy; subst hy; exact .d hx
    | 1, hy => simp at hy; subst hy; exact .d (.int _ _)
    | 2, hy => simp at hy; subst hy; exact .d (.int _ _)
    | j + 3, hy => simp at hy
  · exact ⟨_, he, law_post hW' rfl rfl (by decide +kernel) rfl hb⟩
theorem indexTells_holds : Rows.IndexTellsSaid :=
  OpenClaim.holds_of_wide 14 Try.f14 rfl rfl rfl rfl rfl rfl rfl ⟨rfl, rfl, rfl, rfl, rfl⟩ rfl rfl rfl rfl rfl (by kernel_rfl) Try.func14 (by kernel_rfl)
    (of_decide_eq_true (by kernel_rfl)) (by unfold Func.isWrapper; first | (rw [if_pos (by decide +kernel)]; kernel_rfl) | (rw [if_neg (by decide +kernel)]; exact ⟨rfl, rfl⟩))
    (fun os started H enc _ => indexTells_lifted os started H enc)
#print axioms indexTells_holds
end Go.Proofs.Ytjjmedgibcffhaa
