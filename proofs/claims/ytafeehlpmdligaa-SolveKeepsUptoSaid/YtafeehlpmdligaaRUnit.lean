/- Plain law of unit propagation: what is in every closed set, and when a set is closed. No program in sight. -/
import Derived.Test.YtafeehlpmdligaaRLook65n
namespace Go.Proofs.Ytafeehlpmdligaa
set_option linter.unusedSimpArgs false
set_option linter.unusedVariables false
theorem scan_left (s : Int → Bool) (left : Int) (h : left ≠ 0) : ∀ c : List Int, scan s left c = if c.all (fun l => s (-l) || l == left) then some left else none
  | [] => by simp [scan]
  | l :: r => by
    rw [scan]
    have ih := scan_left s left h r
    by_cases h1 : s (-l) = true
    · simp [h1, ih]
    · by_cases h2 : l = left
      · simp [h2, ih]
      · simp [h1, h2, h]
theorem scan_cons (s : Int → Bool) (l : Int) (r : List Int) (hl : l ≠ 0) : scan s 0 (l :: r) = if s (-l) = true then scan s 0 r else if r.all (fun x => s (-x) || x == l) then some l else none := by
  rw [scan]
  by_cases h1 : s (-l) = true
  · simp [h1]
  · simp [h1, hl, scan_left s l hl]
theorem scan_zero (s : Int → Bool) : ∀ c : List Int, (∀ l ∈ c, l ≠ 0) → (scan s 0 c = some 0 ↔ ∀ l ∈ c, s (-l) = true)
  | [], _ => by simp [scan]
  | l :: r, h => by
    have hl := h l (by simp)
    have ih := scan_zero s r (fun x hx => h x (by simp [hx]))
    rw [scan_cons s l r hl]
    by_cases h1 : s (-l) = true
    · simp [h1, ih]
    · rw [if_neg h1]
      split
      · simp [h1, hl]
      · simp [h1]
theorem scan_some (s : Int → Bool) (u : Int) (hu : u ≠ 0) : ∀ c : List Int, (∀ l ∈ c, l ≠ 0) → (scan s 0 c = some u ↔ u ∈ c ∧ s (-u) = false ∧ ∀ l ∈ c, s (-l) = true ∨ l = u)
  | [], _ => by simp [scan]; intro h; exact absurd h.symm hu
  | l :: r, h => by
    have hl := h l (by simp)
    have ih := scan_some s u hu r (fun x hx => h x (by simp [hx]))
    rw [scan_cons s l r hl]
    by_cases h1 : s (-l) = true
    · rw [if_pos h1, ih]
      constructor
      · rintro ⟨a, b, c⟩
        exact ⟨by simp [a], b, by intro x hx; rcases List.mem_cons.1 hx with rfl | hx; exact .inl h1; exact c x hx⟩
      · rintro ⟨a, b, c⟩
        refine ⟨?_, b, fun x hx => c x (by simp [hx])⟩
        rcases List.mem_cons.1 a with rfl | a
        · rw [h1] at b; cases b
        · exact a
    · rw [if_neg h1]
      have h1' : s (-l) = false := by simpa using h1
      split
      · rename_i hall
        simp only [List.all_eq_true, Bool.or_eq_true, beq_iff_eq] at hall
        constructor
        · intro e
          injection e with e
          subst e
          exact ⟨by simp, h1', by intro x hx; rcases List.mem_cons.1 hx with rfl | hx; exact .inr rfl; exact hall x hx⟩
        · rintro ⟨a, b, c⟩
          rcases c l (by simp) with e | e
          · exact absurd e h1
          · rw [e]
      · rename_i hall
        simp only [List.all_eq_true, Bool.or_eq_true, beq_iff_eq] at hall
        constructor
        · intro e; cases e
        · rintro ⟨a, b, c⟩
          rcases c l (by simp) with e | e
          · exact absurd e h1
          · subst e
            exact absurd (fun x hx => c x (by simp [hx])) hall
theorem scan_none (s : Int → Bool) (c : List Int) (h : ∀ l ∈ c, l ≠ 0) : scan s 0 c = none ↔ ∃ a ∈ c, ∃ b ∈ c, a ≠ b ∧ s (-a) = false ∧ s (-b) = false := by
  constructor
  · intro hn
    by_cases h0 : ∀ l ∈ c, s (-l) = true
    · rw [(scan_zero s c h).2 h0] at hn; cases hn
    · have ⟨a, ha, hsa⟩ : ∃ a ∈ c, s (-a) = false := by
        apply Classical.byContradiction
        intro hx
        exact h0 fun l hl => by
          cases e : s (-l) with
          | true => rfl
          | false => exact absurd ⟨l, hl, e⟩ hx
      by_cases h1 : ∀ l ∈ c, s (-l) = true ∨ l = a
      · rw [(scan_some s a (h a ha) c h).2 ⟨ha, hsa, h1⟩] at hn; cases hn
      · have ⟨b, hb, hsb, hne⟩ : ∃ b ∈ c, s (-b) = false ∧ b ≠ a := by
          apply Classical.byContradiction
          intro hx
          exact h1 fun l hl => by
            cases e : s (-l) with
            | true => exact .inl rfl
            | false => exact .inr (Classical.byContradiction fun hne => hx ⟨l, hl, e, hne⟩)
        exact ⟨b, hb, a, ha, hne, hsb, hsa⟩
  · rintro ⟨a, ha, b, hb, hne, hsa, hsb⟩
    cases hs : scan s 0 c with
    | none => rfl
    | some u =>
      by_cases hu : u = 0
      · subst hu
        rw [(scan_zero s c h).1 hs a ha] at hsa; cases hsa
      · have := ((scan_some s u hu c h).1 hs).2.2
        have ea : a = u := by rcases this a ha with e | e; rw [e] at hsa; cases hsa; exact e
        have eb : b = u := by rcases this b hb with e | e; rw [e] at hsb; cases hsb; exact e
        exact absurd (ea.trans eb.symm) hne
/-- A set of literals that nothing follows from that is not in it, and that holds g. -/
structure Closed (cs : List (List Int)) (g : List Int) (T : Int → Bool) : Prop where
  apart : ∀ l, T l = true → T (-l) = false
  has : ∀ l ∈ g, T l = true
  units : ∀ c ∈ cs, scan T 0 c = none ∨ ∃ u, u ≠ 0 ∧ scan T 0 c = some u ∧ T u = true
/-- A clause follows at once: no closed set holds its literals' negatives. -/
def Follows (cs : List (List Int)) (c : List Int) : Prop := ¬ ∃ T, Closed cs (c.map (- ·)) T
noncomputable def followsB (cs : List (List Int)) (c : List Int) : Bool := @decide (Follows cs c) (Classical.propDecidable _)
theorem followsB_true {cs : List (List Int)} {c : List Int} : followsB cs c = true ↔ Follows cs c := by
  unfold followsB
  exact @decide_eq_true_iff _ (Classical.propDecidable _)
theorem followsB_false {cs : List (List Int)} {c : List Int} : followsB cs c = false ↔ ∃ T, Closed cs (c.map (- ·)) T := by
  unfold followsB
  rw [@decide_eq_false_iff_not _ (Classical.propDecidable _)]
  exact Classical.not_not
def SubS (K T : Int → Bool) : Prop := ∀ l, K l = true → T l = true
theorem Closed.unit {cs : List (List Int)} {g : List Int} {K T : Int → Bool} (hT : Closed cs g T) (hK : SubS K T) {c : List Int} (hc : c ∈ cs) (h0 : ∀ l ∈ c, l ≠ 0) {u : Int} (hu : u ≠ 0) (hs : scan K 0 c = some u) : T u = true := by
  obtain ⟨h1, h2, h3⟩ := (scan_some K u hu c h0).1 hs
  rcases hT.units c hc with hn | ⟨v, hv, h4, h5⟩
  · obtain ⟨a, ha, b, hb, hne, hsa, hsb⟩ := (scan_none T c h0).1 hn
    have ea : a = u := by rcases h3 a ha with e | e; rw [hK _ e] at hsa; cases hsa; exact e
    have eb : b = u := by rcases h3 b hb with e | e; rw [hK _ e] at hsb; cases hsb; exact e
    exact absurd (ea.trans eb.symm) hne
  · obtain ⟨h6, h7, h8⟩ := (scan_some T v hv c h0).1 h4
    have : v = u := by rcases h3 v h6 with e | e; rw [hK _ e] at h7; cases h7; exact e
    rw [← this]; exact h5
theorem Closed.notNone {cs : List (List Int)} {g : List Int} {K T : Int → Bool} (hT : Closed cs g T) (hK : SubS K T) {c : List Int} (hc : c ∈ cs) (h0 : ∀ l ∈ c, l ≠ 0) (hs : scan K 0 c = some 0) : False := by
  have h1 := (scan_zero K c h0).1 hs
  rcases hT.units c hc with hn | ⟨v, hv, h4, h5⟩
  · obtain ⟨a, ha, b, hb, hne, hsa, hsb⟩ := (scan_none T c h0).1 hn
    rw [hK _ (h1 a ha)] at hsa; cases hsa
  · obtain ⟨h6, h7, h8⟩ := (scan_some T v hv c h0).1 h4
    rw [hK _ (h1 v h6)] at h7; cases h7
/-- What a clause says at a larger set. -/
theorem scan_sub {P K : Int → Bool} (hPK : SubS P K) {c : List Int} (h0 : ∀ l ∈ c, l ≠ 0) {u : Int} (hs : scan P 0 c = some u) : scan K 0 c = some u ∨ scan K 0 c = some 0 := by
  by_cases hu : u = 0
  · subst hu
    exact .inl ((scan_zero K c h0).2 fun l hl => hPK _ ((scan_zero P c h0).1 hs l hl))
  · obtain ⟨h1, h2, h3⟩ := (scan_some P u hu c h0).1 hs
    cases hk : K (-u) with
    | false => exact .inl ((scan_some K u hu c h0).2 ⟨h1, hk, fun l hl => (h3 l hl).imp_left (hPK _)⟩)
    | true => exact .inr ((scan_zero K c h0).2 fun l hl => by rcases h3 l hl with e | e; exact hPK _ e; rw [e]; exact hk)
theorem scan_congr {P Q : Int → Bool} : ∀ (left : Int) (c : List Int), (∀ l ∈ c, P (-l) = Q (-l)) → scan P left c = scan Q left c
  | left, [], _ => rfl
  | left, l :: r, h => by
    rw [scan, scan, h l (by simp), scan_congr left r (fun x hx => h x (by simp [hx])), scan_congr l r (fun x hx => h x (by simp [hx]))]
/-- A queue worked through: what is done with P, and known as K. -/
def Done (cs : List (List Int)) (P K : Int → Bool) : Prop := ∀ c ∈ cs, scan P 0 c = none ∨ ∃ u, u ≠ 0 ∧ scan P 0 c = some u ∧ K u = true
end Go.Proofs.Ytafeehlpmdligaa
