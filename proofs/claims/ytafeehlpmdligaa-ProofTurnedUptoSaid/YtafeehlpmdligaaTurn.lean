/- The order of clauses and literals changes nothing: plain law. -/
import Derived.Test.YtafeehlpmdligaaFirst
namespace Go.Proofs.Ytafeehlpmdligaa
set_option linter.unusedSimpArgs false
set_option linter.unusedVariables false
theorem looked_turn {P K : Int → Bool} {c d : List Int} (h : ∀ l, l ∈ c ↔ l ∈ d) (hc : ∀ l ∈ c, l ≠ 0) (hL : Looked P K c) : Looked P K d := by
  have hd : ∀ l ∈ d, l ≠ 0 := fun l hl => hc l ((h l).2 hl)
  rcases hL with hn | ⟨u, hu, hs, hk⟩
  · obtain ⟨a, ha, b, hb, r⟩ := (scan_none P c hc).1 hn
    exact .inl ((scan_none P d hd).2 ⟨a, (h a).1 ha, b, (h b).1 hb, r⟩)
  · obtain ⟨a, b, r⟩ := (scan_some P u hu c hc).1 hs
    exact .inr ⟨u, hu, (scan_some P u hu d hd).2 ⟨(h u).1 a, b, fun l hl => r l ((h l).2 hl)⟩, hk⟩
/-- The same clauses, but for the order. -/
def SameC (cs ds : List (List Int)) : Prop := (∀ d ∈ ds, ∃ c ∈ cs, ∀ l, l ∈ c ↔ l ∈ d) ∧ ∀ c ∈ cs, ∃ d ∈ ds, ∀ l, l ∈ c ↔ l ∈ d
theorem closed_turn {cs ds : List (List Int)} {g : List Int} {T : Int → Bool} (h : SameC cs ds) (h0 : ∀ c ∈ cs, ∀ l ∈ c, l ≠ 0) (hT : Closed cs g T) : Closed ds g T :=
  ⟨hT.apart, hT.has, fun d hd => by
    obtain ⟨c, hc, hl⟩ := h.1 d hd
    exact looked_turn hl (h0 c hc) (hT.units c hc)⟩
theorem SameC.symm {cs ds : List (List Int)} (h : SameC cs ds) : SameC ds cs :=
  ⟨fun c hc => by obtain ⟨d, hd, hl⟩ := h.2 c hc; exact ⟨d, hd, fun l => (hl l).symm⟩, fun d hd => by obtain ⟨c, hc, hl⟩ := h.1 d hd; exact ⟨c, hc, fun l => (hl l).symm⟩⟩
theorem SameC.snoc {cs ds : List (List Int)} (h : SameC cs ds) (x : List Int) : SameC (cs ++ [x]) (ds ++ [x]) := by
  constructor
  · intro d hd
    rcases List.mem_append.1 hd with hd | hd
    · obtain ⟨c, hc, hl⟩ := h.1 d hd
      exact ⟨c, by simp [hc], hl⟩
    · exact ⟨d, by simp [List.mem_singleton.1 hd], fun _ => Iff.rfl⟩
  · intro d hd
    rcases List.mem_append.1 hd with hd | hd
    · obtain ⟨c, hc, hl⟩ := h.2 d hd
      exact ⟨c, by simp [hc], hl⟩
    · exact ⟨d, by simp [List.mem_singleton.1 hd], fun _ => Iff.rfl⟩
theorem followsB_turn {cs ds : List (List Int)} {x : List Int} (h : SameC cs ds) (h0 : ∀ c ∈ cs, ∀ l ∈ c, l ≠ 0) : followsB cs x = followsB ds x := by
  have h0' : ∀ c ∈ ds, ∀ l ∈ c, l ≠ 0 := fun d hd l hl => by
    obtain ⟨c, hc, hi⟩ := h.1 d hd
    exact h0 c hc l ((hi l).2 hl)
  cases e : followsB ds x with
  | true =>
    refine followsB_true.2 ?_
    rintro ⟨T, hT⟩
    exact followsB_true.1 e ⟨T, closed_turn h h0 hT⟩
  | false =>
    obtain ⟨T, hT⟩ := followsB_false.1 e
    exact followsB_false.2 ⟨T, closed_turn h.symm h0' hT⟩
theorem firstGo_turn : ∀ (xs cs ds : List (List Int)) (i : Nat), SameC cs ds → (∀ c ∈ cs, ∀ l ∈ c, l ≠ 0) → (∀ c ∈ xs, ∀ l ∈ c, l ≠ 0) → firstGo cs i xs = firstGo ds i xs
  | [], _, _, _, _, _, _ => rfl
  | x :: xs, cs, ds, i, h, h0, hx => by
    simp only [firstGo]
    rw [followsB_turn h h0, firstGo_turn xs (cs ++ [x]) (ds ++ [x]) (i + 1) (h.snoc x) (fun c hc => by
      rcases List.mem_append.1 hc with hc | hc
      · exact h0 c hc
      · rw [List.mem_singleton] at hc; subst hc; exact hx c (by simp)) (fun c hc => hx c (by simp [hc]))]
def turned (cs : List (List Int)) : List (List Int) := cs.reverse.map List.reverse
theorem turned_same (cs : List (List Int)) : SameC cs (turned cs) := by
  constructor
  · intro d hd
    obtain ⟨c, hc, rfl⟩ := List.mem_map.1 hd
    exact ⟨c, by simpa using hc, fun l => by simp⟩
  · intro c hc
    exact ⟨c.reverse, List.mem_map.2 ⟨c, by simpa using hc, rfl⟩, fun l => by simp⟩
theorem checkF_turned (n : Int) (cs : List (List Int)) : checkF n (turned cs) = checkF n cs := by
  have h1 : (turned cs).length = cs.length := by simp [turned]
  have h2 : (turned cs).all (clauseOk n) = cs.all (clauseOk n) := by
    rw [turned, List.all_map, List.all_reverse]
    congr 1
    funext c
    simp [clauseOk, List.all_reverse]
  unfold checkF
  rw [h1, h2]
theorem soundP_turned (n : Int) (cs xs : List (List Int)) : soundP n (turned cs) xs = soundP n cs xs := by
  unfold soundP
  rw [checkF_turned]
theorem firstN_turned (n : Int) (cs xs : List (List Int)) : firstN n (turned cs) xs = firstN n cs xs := by
  unfold firstN
  rw [soundP_turned]
  split
  · rename_i h
    have hok := sound_ok h
    have hl := hok.lits
    exact (firstGo_turn xs cs (turned cs) 0 (turned_same cs) (fun c hc l hl' => (hl c (List.mem_append_left _ hc) l hl').1) (fun c hc l hl' => (hl c (List.mem_append_right _ hc) l hl').1)).symm
  · rfl
theorem mass_reverse (cs : List (List Int)) : mass cs.reverse = mass cs := by
  induction cs with
  | nil => rfl
  | cons c r ih => rw [List.reverse_cons, mass_append, ih]; simp [mass]; omega
theorem mass_turned (cs : List (List Int)) : mass (turned cs) = mass cs := by
  rw [← mass_reverse cs]
  unfold turned
  generalize cs.reverse = ds
  induction ds with
  | nil => rfl
  | cons c r ih => simp [mass, ih]
end Go.Proofs.Ytafeehlpmdligaa
