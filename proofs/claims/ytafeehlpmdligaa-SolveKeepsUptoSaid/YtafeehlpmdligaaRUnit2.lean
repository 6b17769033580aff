/- Plain law of unit propagation, on: the queue's invariants. -/
import Derived.Test.YtafeehlpmdligaaRStep
namespace Go.Proofs.Ytafeehlpmdligaa
set_option linter.unusedSimpArgs false
set_option linter.unusedVariables false
theorem nodup_le : ∀ (l m : List Int), l.Nodup → (∀ x ∈ l, x ∈ m) → l.length ≤ m.length
  | [], m, _, _ => Nat.zero_le _
  | a :: r, m, hn, hs => by
    have ha : a ∈ m := hs a (by simp)
    have hn' := List.nodup_cons.1 hn
    have ih := nodup_le r (m.erase a) hn'.2 fun x hx => (List.mem_erase_of_ne (fun e : x = a => hn'.1 (by rw [← e]; exact hx))).2 (hs x (by simp [hx]))
    have := List.length_erase_of_mem ha
    have h0 : 0 < m.length := List.length_pos_of_mem ha
    simp only [List.length_cons]
    omega
/-- All numbers from -n to n. -/
def span (n : Nat) : List Int := (List.range (2 * n + 1)).map fun i : Nat => (i : Int) - (n : Int)
theorem mem_span {n : Nat} {x : Int} (h1 : -(n : Int) ≤ x) (h2 : x ≤ n) : x ∈ span n := by
  simp only [span, List.mem_map, List.mem_range]
  exact ⟨(x + n).toNat, by omega, by omega⟩
theorem span_len (n : Nat) : (span n).length = 2 * n + 1 := by simp [span]
theorem nodup_span {l : List Int} {n : Nat} (hn : l.Nodup) (h : ∀ x ∈ l, -(n : Int) ≤ x ∧ x ≤ n) : l.length ≤ 2 * n + 1 := by
  rw [← span_len n]
  exact nodup_le l _ hn fun x hx => mem_span (h x hx).1 (h x hx).2
/-- What a looked-at clause says at the smaller set P'. -/
def Looked (P K : Int → Bool) (c : List Int) : Prop := scan P 0 c = none ∨ ∃ u, u ≠ 0 ∧ scan P 0 c = some u ∧ K u = true
theorem Looked.mono {P K K' : Int → Bool} {c : List Int} (h : Looked P K c) (hk : SubS K K') : Looked P K' c :=
  h.imp_right fun ⟨u, h1, h2, h3⟩ => ⟨u, h1, h2, hk u h3⟩
/-- What is known: worked through (P) or on the queue (q). -/
structure Kn (cs : List (List Int)) (g : List Int) (K : Int → Bool) (P q : List Int) : Prop where
  mem : ∀ l, K l = true ↔ l ∈ P ++ q
  nodup : (P ++ q).Nodup
  range : ∀ l ∈ P ++ q, -4096 ≤ l ∧ l ≤ 4096
  apart : ∀ l, K l = true → K (-l) = false
  sub : ∀ T, Closed cs g T → SubS K T
theorem Kn.len {cs : List (List Int)} {g : List Int} {K : Int → Bool} {P q : List Int} (h : Kn cs g K P q) : P.length + q.length ≤ 8193 := by
  have := nodup_span (n := 4096) h.nodup (fun x hx => h.range x hx)
  simpa using this
theorem Kn.start (cs : List (List Int)) (g : List Int) : Kn cs g (fun _ => false) [] [] := ⟨by simp, by simp, by simp, by simp, fun T _ l h => by simp at h⟩
theorem Kn.take {cs : List (List Int)} {g : List Int} {K : Int → Bool} {P q : List Int} (h : Kn cs g K P q) {l : Int} (hl0 : l ≠ 0) (hl : -4096 ≤ l ∧ l ≤ 4096) (hT : ∀ T, Closed cs g T → T l = true) :
    match takeStep K q l with
    | none => ¬ ∃ T, Closed cs g T
    | some (K', q') => Kn cs g K' P q' ∧ SubS K K' ∧ K' l = true := by
  unfold takeStep
  by_cases h1 : K (-l) = true
  · simp only [if_pos h1]
    rintro ⟨T, hc⟩
    have e1 := h.sub T hc _ h1
    have e2 := hc.apart l (hT T hc)
    rw [e1] at e2; cases e2
  · simp only [if_neg h1]
    by_cases h2 : K l = true
    · simp only [if_pos h2]
      exact ⟨h, fun _ h => h, h2⟩
    · simp only [if_neg h2]
      refine ⟨⟨?_, ?_, ?_, ?_, ?_⟩, fun x hx => by simp [setP, hx], by simp [setP]⟩
      · intro x
        simp only [setP, Bool.or_eq_true, beq_iff_eq, h.mem, List.mem_append, List.mem_singleton]
        constructor
        · rintro (e | e | e)
          · exact .inr (.inr e)
          · exact .inl e
          · exact .inr (.inl e)
        · rintro (e | e | e)
          · exact .inr (.inl e)
          · exact .inr (.inr e)
          · exact .inl e
      · rw [← List.append_assoc, List.nodup_append]
        refine ⟨h.nodup, by simp, ?_⟩
        intro a ha b hb
        rw [List.mem_singleton] at hb
        subst hb
        rintro rfl
        exact h2 ((h.mem a).2 ha)
      · intro x hx
        rw [← List.append_assoc, List.mem_append] at hx
        rcases hx with hx | hx
        · exact h.range x hx
        · rw [List.mem_singleton] at hx; subst hx; exact hl
      · intro x hx
        simp only [setP, Bool.or_eq_true, beq_iff_eq] at hx
        have h1' : K (-l) = false := by simpa using h1
        rcases hx with rfl | hx
        · simp [setP, h1']; omega
        · simp only [setP, Bool.or_eq_false_iff, beq_eq_false_iff_ne]
          refine ⟨?_, h.apart x hx⟩
          intro e
          have : x = -l := by omega
          subst this
          exact h1 hx
      · intro T hc x hx
        simp only [setP, Bool.or_eq_true, beq_iff_eq] at hx
        rcases hx with rfl | hx
        · exact hT T hc
        · exact h.sub T hc x hx
theorem Kn.look {cs : List (List Int)} {g : List Int} {K : Int → Bool} {P q : List Int} (h : Kn cs g K P q) {c : List Int} (hc : c ∈ cs) (h0 : ∀ l ∈ c, l ≠ 0 ∧ -4096 ≤ l ∧ l ≤ 4096) :
    match lookStep K q c with
    | none => ¬ ∃ T, Closed cs g T
    | some (K', q') => Kn cs g K' P q' ∧ SubS K K' ∧ ∀ P', SubS P' K → Looked P' K' c := by
  have h0' : ∀ l ∈ c, l ≠ 0 := fun l hl => (h0 l hl).1
  unfold lookStep
  cases hs : scan K 0 c with
  | none =>
    refine ⟨h, fun _ h => h, fun P' hP => ?_⟩
    cases hp : scan P' 0 c with
    | none => exact .inl hp
    | some v => rcases scan_sub hP h0' hp with e | e <;> rw [hs] at e <;> cases e
  | some u =>
    by_cases hu : u = 0
    · subst hu
      simp only [if_true]
      rintro ⟨T, hT⟩
      exact hT.notNone (h.sub T hT) hc h0' hs
    · simp only [if_neg hu]
      have hmem := (scan_some K u hu c h0').1 hs
      have := h.take (l := u) hu (h0 u hmem.1).2 (fun T hT => hT.unit (h.sub T hT) hc h0' hu hs)
      cases ht : takeStep K q u with
      | none => rw [ht] at this; exact this
      | some r =>
        obtain ⟨K', q'⟩ := r
        rw [ht] at this
        refine ⟨this.1, this.2.1, fun P' hP => ?_⟩
        cases hp : scan P' 0 c with
        | none => exact .inl hp
        | some v =>
          rcases scan_sub hP h0' hp with e | e
          · rw [hs] at e
            injection e with e
            subst e
            exact .inr ⟨u, hu, hp, this.2.2⟩
          · rw [hs] at e
            injection e with e
            exact absurd e hu
def memB (P : List Int) : Int → Bool := fun l => decide (l ∈ P)
/-- At the end a set is closed. -/
theorem Kn.closed {cs : List (List Int)} {g : List Int} {K : Int → Bool} {P : List Int} (h : Kn cs g K P []) (hg : ∀ l ∈ g, K l = true) (hd : ∀ c ∈ cs, Looked (memB P) K c) : Closed cs g K := by
  have hK : memB P = K := by
    funext l
    have := h.mem l
    rw [List.append_nil] at this
    cases hk : K l with
    | true => simp [memB, this.1 hk]
    | false => simp only [memB, decide_eq_false_iff_not]; intro hm; rw [this.2 hm] at hk; cases hk
  refine ⟨h.apart, hg, fun c hc => ?_⟩
  have := hd c hc
  rw [hK] at this
  exact this
/-- Clauses without the literal say the same. -/
theorem Looked.next {P : List Int} {K : Int → Bool} {c : List Int} {l : Int} (h : Looked (memB P) K c) (hn : -l ∉ c) : Looked (memB (P ++ [l])) K c := by
  have e : scan (memB P) 0 c = scan (memB (P ++ [l])) 0 c := by
    refine scan_congr 0 c fun x hx => ?_
    have : ¬ -x = l := fun e => hn (by rw [← e]; simpa using hx)
    simp [memB, this]
  unfold Looked
  rw [← e]
  exact h
/-- A clause of equal literals, or none. -/
def isSingle : List Int → Bool
  | [] => true
  | a :: r => !((a :: r).any fun l => decide (l ≠ a))
theorem not_single {c : List Int} (h : isSingle c = false) (h0 : ∀ l ∈ c, l ≠ 0) (K : Int → Bool) : Looked (memB []) K c := by
  cases c with
  | nil => simp [isSingle] at h
  | cons a r =>
    simp only [isSingle, Bool.not_eq_false', List.any_eq_true, decide_eq_true_eq] at h
    obtain ⟨b, hb, hne⟩ := h
    exact .inl ((scan_none _ _ h0).2 ⟨b, hb, a, by simp, hne, by simp [memB], by simp [memB]⟩)
end Go.Proofs.Ytafeehlpmdligaa
