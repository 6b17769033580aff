/- A proof stays one when it is trimmed, and when the formula gets a clause more: plain law. -/
import Derived.Test.YtafeehlpmdligaaTrim
namespace Go.Proofs.Ytafeehlpmdligaa
set_option linter.unusedSimpArgs false
set_option linter.unusedVariables false
theorem trimL_take : ∀ xs : List (List Int), ∃ k, k ≤ xs.length ∧ trimL xs = xs.take k
  | [] => ⟨0, by simp, rfl⟩
  | c :: r => by
    by_cases hc : c = []
    · exact ⟨1, by simp, by simp [trimL, hc]⟩
    · obtain ⟨k, hk, he⟩ := trimL_take r
      exact ⟨k + 1, by simpa using hk, by rw [trimL, if_neg hc, he, List.take_succ_cons]⟩
theorem trimL_last : ∀ xs : List (List Int), [] ∈ xs → (trimL xs).getLast? = some []
  | [], h => by simp at h
  | c :: r, h => by
    by_cases hc : c = []
    · simp [trimL, hc]
    · have hr : [] ∈ r := by
        rcases List.mem_cons.1 h with e | e
        · exact absurd e.symm hc
        · exact e
      have ih := trimL_last r hr
      rw [trimL, if_neg hc, List.getLast?_cons, ih]
      rfl
theorem firstGo_take : ∀ (xs cs : List (List Int)) (i k : Nat), firstGo cs i xs = -1 → firstGo cs i (xs.take k) = -1
  | [], cs, i, k, h => by simpa using h
  | x :: xs, cs, i, 0, h => by simp [firstGo]
  | x :: xs, cs, i, k + 1, h => by
    simp only [firstGo] at h
    simp only [List.take_succ_cons, firstGo]
    cases hf : followsB cs x with
    | true => rw [hf] at h; exact firstGo_take xs _ _ k h
    | false => rw [hf] at h; simp only [cond_false] at h; omega
theorem soundGo_take {n : Int} : ∀ (xs : List (List Int)) (k : Nat), soundGo n xs = 0 → soundGo n (xs.take k) = 0
  | [], k, h => by simpa using h
  | x :: xs, 0, h => by simp [soundGo]
  | x :: xs, k + 1, h => by
    unfold soundGo at h
    rw [List.take_succ_cons]
    unfold soundGo
    split at h
    · omega
    · rename_i h1
      split at h
      · rename_i h2
        rw [if_neg h1, if_pos h2]
        exact soundGo_take xs k h
      · omega
theorem soundP_take {n : Int} {cs xs : List (List Int)} (k : Nat) (h : soundP n cs xs = 0) : soundP n cs (xs.take k) = 0 := by
  unfold soundP at h ⊢
  split at h
  · rename_i hc
    rw [if_pos hc]
    split at h
    · omega
    · rw [if_neg (by rw [List.length_take]; omega)]
      exact soundGo_take xs k h
  · omega
theorem proofB_iff {n : Int} {cs xs : List (List Int)} : proofB n cs xs = true ↔ soundP n cs xs = 0 ∧ firstGo cs 0 xs = -1 ∧ xs.getLast? = some [] := by
  unfold proofB firstN
  rw [decide_eq_true_eq]
  constructor
  · rintro ⟨h1, h2, h3⟩
    rw [if_pos h1] at h2
    exact ⟨h1, h2, h3⟩
  · rintro ⟨h1, h2, h3⟩
    exact ⟨h1, by rw [if_pos h1]; exact h2, h3⟩
theorem proofB_trim {n : Int} {cs xs : List (List Int)} (h : proofB n cs xs = true) : proofB n cs (trimL xs) = true ∧ soundP n cs (trimL xs) = 0 ∧ (trimL xs).length ≤ xs.length := by
  obtain ⟨h1, h2, h3⟩ := proofB_iff.1 h
  obtain ⟨k, hk, he⟩ := trimL_take xs
  have hm : [] ∈ xs := List.mem_of_getLast? h3
  have hl := trimL_last xs hm
  rw [he] at hl ⊢
  exact ⟨proofB_iff.2 ⟨soundP_take k h1, firstGo_take xs cs 0 k h2, hl⟩, soundP_take k h1, by rw [List.length_take]; omega⟩
theorem followsB_more {cs ds : List (List Int)} {x : List Int} (h : ∀ c ∈ cs, c ∈ ds) (hf : followsB cs x = true) : followsB ds x = true := by
  refine followsB_true.2 ?_
  rintro ⟨T, hT⟩
  exact followsB_true.1 hf ⟨T, hT.apart, hT.has, fun c hc => hT.units c (h c hc)⟩
theorem firstGo_more : ∀ (xs cs ds : List (List Int)) (i : Nat), (∀ c ∈ cs, c ∈ ds) → firstGo cs i xs = -1 → firstGo ds i xs = -1
  | [], _, _, _, _, h => h
  | x :: xs, cs, ds, i, hs, h => by
    simp only [firstGo] at h ⊢
    cases hf : followsB cs x with
    | true =>
      rw [hf] at h
      rw [followsB_more hs hf]
      refine firstGo_more xs (cs ++ [x]) (ds ++ [x]) (i + 1) (fun c hc => ?_) h
      rcases List.mem_append.1 hc with hc | hc
      · exact List.mem_append_left _ (hs c hc)
      · exact List.mem_append_right _ hc
    | false => rw [hf] at h; simp only [cond_false] at h; omega
theorem proofB_more {n : Int} {cs xs : List (List Int)} {m : List Int} (h : proofB n cs xs = true) (hs : soundP n (m :: cs) xs = 0) : proofB n (m :: cs) xs = true := by
  obtain ⟨h1, h2, h3⟩ := proofB_iff.1 h
  exact proofB_iff.2 ⟨hs, firstGo_more xs cs (m :: cs) 0 (fun c hc => by simp [hc]) h2, h3⟩
end Go.Proofs.Ytafeehlpmdligaa
