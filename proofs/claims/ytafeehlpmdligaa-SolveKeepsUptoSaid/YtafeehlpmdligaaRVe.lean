/- How many models: counted by words, counted by halves. -/
import Derived.Test.YtafeehlpmdligaaRModel
import Derived.Test.YtafeehlpmdligaaRVb
namespace Go.Proofs.Ytafeehlpmdligaa
open Go.RowKit M
set_option linter.unusedSimpArgs false
set_option linter.unusedVariables false
def openC (ms : List Bool) (v : Nat) (c : List Int) : Bool := c.any fun l => decide (v ≤ l.natAbs) || litT ms l
def modelsF (cs : List (List Int)) : Nat → List Bool → Nat → Int → Int
  | 0, ms, v, most => if most ≤ 0 then 0 else if cs.all (openC ms v) then 1 else 0
  | k + 1, ms, v, most => if most ≤ 0 then 0 else if cs.all (openC ms v) then
      modelsF cs k (ms.set v false) (v + 1) most + modelsF cs k (ms.set v true) (v + 1) (most - modelsF cs k (ms.set v false) (v + 1) most)
    else 0
def cntM (cs : List (List Int)) : Nat → List Bool → Nat → Nat
  | 0, ms, _ => if cs.all (holdsM ms) then 1 else 0
  | k + 1, ms, v => cntM cs k (ms.set v false) (v + 1) + cntM cs k (ms.set v true) (v + 1)
theorem getD_setB (ms : List Bool) (v u : Nat) (x : Bool) : (ms.set v x).getD u false = if v = u ∧ v < ms.length then x else ms.getD u false := by
  simp only [List.getD_eq_getElem?_getD, List.getElem?_set]
  split
  · rename_i h
    subst h
    split
    · rename_i h2; rw [if_pos ⟨rfl, h2⟩]; rfl
    · rename_i h2
      rw [if_neg (fun h => h2 h.2), List.getElem?_eq_none (by omega)]
  · rename_i h
    rw [if_neg (fun h2 => h h2.1)]
theorem open_end {ms : List Bool} {v : Nat} {c : List Int} (h : ∀ l ∈ c, l.natAbs < v) : openC ms v c = holdsM ms c := by
  unfold openC holdsM
  induction c with
  | nil => rfl
  | cons l r ih =>
    rw [List.any_cons, List.any_cons, ih fun x hx => h x (by simp [hx])]
    have := h l (by simp)
    rw [decide_eq_false (by omega), Bool.false_or]
theorem shut_set {ms : List Bool} {v : Nat} {c : List Int} (x : Bool) (h : openC ms v c = false) : openC (ms.set v x) (v + 1) c = false := by
  unfold openC at h ⊢
  rw [List.any_eq_false] at h ⊢
  intro l hl
  have h1 := h l hl
  simp only [Bool.or_eq_true, decide_eq_true_eq, not_or] at h1 ⊢
  refine ⟨by omega, ?_⟩
  unfold litT at h1 ⊢
  rw [getD_setB, if_neg (by omega)]
  exact h1.2
theorem shut_none {cs : List (List Int)} {c : List Int} (hc : c ∈ cs) : ∀ (k : Nat) {ms : List Bool} {v : Nat}, openC ms v c = false → cntM cs k ms v = 0
  | 0, ms, v, h => by
    have : cs.all (holdsM ms) = false := by
      rw [List.all_eq_false]
      refine ⟨c, hc, ?_⟩
      unfold openC at h
      unfold holdsM
      rw [List.any_eq_false] at h
      intro h2
      obtain ⟨l, hl, h3⟩ := List.any_eq_true.1 h2
      exact h l hl (by simp [h3])
    simp [cntM, this]
  | k + 1, ms, v, h => by
    rw [cntM, shut_none hc k (shut_set false h), shut_none hc k (shut_set true h)]
theorem modelsF_min {cs : List (List Int)} : ∀ (k : Nat) {ms : List Bool} {v : Nat} {most : Int}, (∀ c ∈ cs, ∀ l ∈ c, l.natAbs < v + k) → modelsF cs k ms v most = min (max most 0) (cntM cs k ms v : Nat)
  | 0, ms, v, most, h => by
    rw [modelsF, cntM]
    have : cs.all (openC ms v) = cs.all (holdsM ms) := by
      rw [Bool.eq_iff_iff, List.all_eq_true, List.all_eq_true]
      constructor
      · intro h2 c hc; rw [← open_end (h c hc)]; exact h2 c hc
      · intro h2 c hc
        have h3 : openC ms v c = holdsM ms c := open_end (h c hc)
        rw [h3]; exact h2 c hc
    rw [this]
    split
    · omega
    · split <;> simp <;> omega
  | k + 1, ms, v, most, h => by
    rw [modelsF]
    have h' : ∀ c ∈ cs, ∀ l ∈ c, l.natAbs < v + 1 + k := fun c hc l hl => by have := h c hc l hl; omega
    split
    · omega
    · rename_i hm
      split
      · rw [modelsF_min k h', modelsF_min k h', cntM]
        omega
      · rename_i h2
        have h2' : cs.all (openC ms v) = false := by simpa using h2
        obtain ⟨c, hc, hco⟩ := List.all_eq_false.1 h2'
        rw [shut_none hc (k + 1) (by simpa using hco)]
        omega
theorem cnt_pos {cs : List (List Int)} : ∀ (k : Nat) {ms : List Bool} {v : Nat}, v + k = ms.length → (0 < cntM cs k ms v ↔ ∃ m : List Bool, m.length = ms.length ∧ (∀ u, u < v → m.getD u false = ms.getD u false) ∧ cs.all (holdsM m) = true)
  | 0, ms, v, hv => by
    rw [cntM]
    constructor
    · intro h
      refine ⟨ms, rfl, fun _ _ => rfl, ?_⟩
      by_cases h2 : cs.all (holdsM ms) = true
      · exact h2
      · rw [if_neg h2] at h; omega
    · rintro ⟨m, h1, h2, h3⟩
      have : m = ms := List.ext_getElem h1 fun i hi hj => by
        have := h2 i (by omega)
        simpa [hi, hj] using this
      rw [this] at h3
      rw [if_pos h3]; omega
  | k + 1, ms, v, hv => by
    rw [cntM]
    have i0 := cnt_pos (cs := cs) k (ms := ms.set v false) (v := v + 1) (by simp; omega)
    have i1 := cnt_pos (cs := cs) k (ms := ms.set v true) (v := v + 1) (by simp; omega)
    constructor
    · intro h
      rcases Nat.eq_zero_or_pos (cntM cs k (ms.set v false) (v + 1)) with h0 | h0
      · obtain ⟨m, m1, m2, m3⟩ := i1.1 (by omega)
        refine ⟨m, by simpa using m1, fun u hu => ?_, m3⟩
        rw [m2 u (by omega), getD_setB, if_neg (by omega)]
      · obtain ⟨m, m1, m2, m3⟩ := i0.1 h0
        refine ⟨m, by simpa using m1, fun u hu => ?_, m3⟩
        rw [m2 u (by omega), getD_setB, if_neg (by omega)]
    · rintro ⟨m, m1, m2, m3⟩
      have key : ∀ x, m.getD v false = x → ∃ m' : List Bool, m'.length = (ms.set v x).length ∧ (∀ u, u < v + 1 → m'.getD u false = (ms.set v x).getD u false) ∧ cs.all (holdsM m') = true := by
        intro x hx
        refine ⟨m, by simpa using m1, fun u hu => ?_, m3⟩
        rw [getD_setB]
        split
        · rename_i h; rw [← h.1, hx]
        · rename_i h
          exact m2 u (by have : ¬ u = v := fun e => h ⟨e.symm, by omega⟩; omega)
      cases hx : m.getD v false with
      | false => have := i0.2 (key false hx); omega
      | true => have := i1.2 (key true hx); omega
theorem models_one {n : Nat} {cs : List (List Int)} (hl : litsOk n cs) : modelsF cs n (List.replicate (n + 1) false) 1 1 = 1 ↔ ∃ m : List Bool, m.length = n + 1 ∧ m.getD 0 false = false ∧ cs.all (holdsM m) = true := by
  rw [modelsF_min n fun c hc l hl' => by have := (hl c hc l hl').2; omega]
  have := cnt_pos (cs := cs) n (ms := List.replicate (n + 1) false) (v := 1) (by simp; omega)
  simp only [List.length_replicate] at this
  have e : (∃ m : List Bool, m.length = n + 1 ∧ (∀ u, u < 1 → m.getD u false = (List.replicate (n + 1) false).getD u false) ∧ cs.all (holdsM m) = true) ↔ ∃ m : List Bool, m.length = n + 1 ∧ m.getD 0 false = false ∧ cs.all (holdsM m) = true := by
    constructor
    · rintro ⟨m, h1, h2, h3⟩
      refine ⟨m, h1, ?_, h3⟩
      rw [h2 0 (by omega)]; rfl
    · rintro ⟨m, h1, h2, h3⟩
      refine ⟨m, h1, fun u hu => ?_, h3⟩
      obtain rfl : u = 0 := by omega
      rw [h2]; rfl
  rw [← e, ← this]
  omega
/-- What is refuted has no model. -/
theorem refuted_none {n : Nat} {orig : List (List Int)} {b : Nat} {a : AnsD} (h : RightA n orig b a) (hc : a.code = 1) (hl : litsOk n orig) {m : List Bool} (hm : ∀ c ∈ orig, holdsM m c = true) : False := by
  obtain ⟨_, h2, h3, h4, _⟩ := h.one hc
  have hall : ∀ k i (hi : i < a.proof.length), i < k → holdsM m a.proof[i] = true := by
    intro k
    induction k with
    | zero => intro i hi h; omega
    | succ k ih =>
      intro i hi hik
      refine follows_sound (cs := orig ++ a.proof.take i) (fun c hc l hl' => ?_) (fun l hl' => (h4 _ (List.getElem_mem hi) l hl').1) (fun c hc => ?_) (followsB_true.2 (h3 i hi))
      · rcases List.mem_append.1 hc with hc | hc
        · exact (hl c hc l hl').1
        · exact (h4 c (List.mem_of_mem_take hc) l hl').1
      · rcases List.mem_append.1 hc with hc | hc
        · exact hm c hc
        · obtain ⟨j, hj, rfl⟩ := List.mem_take_iff_getElem.1 hc
          exact ih j (by omega) (by omega)
  rw [List.getLast?_eq_getElem?] at h2
  obtain ⟨h5, h6⟩ := List.getElem?_eq_some_iff.1 h2
  have := hall _ _ h5 (Nat.lt_succ_self _)
  rw [h6] at this
  cases this
/-- What is found, and whether there is a model. -/
theorem answer_one {n : Nat} {cs : List (List Int)} {b : Nat} {a : AnsD} (hl : litsOk n cs) (h : RightA n cs b a) (h3 : a.code ≠ 3) : modelsF cs n (List.replicate (n + 1) false) 1 1 = (if a.code = 2 then 1 else 0) := by
  have hm := models_one hl
  have h01 : modelsF cs n (List.replicate (n + 1) false) 1 1 = 0 ∨ modelsF cs n (List.replicate (n + 1) false) 1 1 = 1 := by
    rw [modelsF_min n fun c hc l hl' => by have := (hl c hc l hl').2; omega]
    omega
  by_cases hc : a.code = 2
  · rw [if_pos hc]
    obtain ⟨_, m1, m2, m3⟩ := h.two hc
    exact hm.2 ⟨_, m2, m3, m1⟩
  · rw [if_neg hc]
    rcases h01 with h0 | h1
    · exact h0
    · exfalso
      obtain ⟨m, _, _, m3⟩ := hm.1 h1
      have hc1 : a.code = 1 := by
        rcases h.code with h | h | h
        · exact h
        · exact absurd h hc
        · exact absurd h h3
      exact refuted_none h hc1 hl fun c hc => List.all_eq_true.1 m3 c hc
end Go.Proofs.Ytafeehlpmdligaa
