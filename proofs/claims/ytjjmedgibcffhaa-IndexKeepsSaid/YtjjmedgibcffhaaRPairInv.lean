/- What holds of the pairs of a list of events: plain lemmas. -/
import Derived.Test.YtjjmedgibcffhaaRPairsR
namespace Go.Proofs.Ytjjmedgibcffhaa
open Go.RowKit Go.MapKept
set_option linter.unusedSimpArgs false
set_option linter.unusedVariables false

def ev (l : List EventD) (i : Nat) : EventD := l.getD i ⟨0, 0, []⟩
theorem ev_eq {l : List EventD} {i : Nat} (h : i < l.length) : ev l i = l[i] := by simp [ev, List.getD_eq_getElem?_getD, List.getElem?_eq_getElem h]

structure FInv (l : List EventD) (j : Nat) (ps : List PairD) (op : Int → Option Nat) : Prop where
  frm : ∀ (k : Nat) (h : k < ps.length), ps[k].from_ < j ∧ (ev l ps[k].from_).kind = 0
  to_ : ∀ (k : Nat) (h : k < ps.length), (ps[k].to_ = -1 ∧ ps[k].status = 3) ∨ ∃ t : Nat, ps[k].to_ = (t : Int) ∧ ps[k].from_ < t ∧ t < j ∧ (ev l t).kind = ps[k].status ∧ ps[k].status ≠ 0 ∧ (ev l t).proc = (ev l ps[k].from_).proc ∧ matchB (ev l ps[k].from_) (ev l t) = true
  inc : ∀ (k k' : Nat) (h : k < ps.length) (h' : k' < ps.length), k < k' → ps[k].from_ < ps[k'].from_
  tos : ∀ (k k' : Nat) (h : k < ps.length) (h' : k' < ps.length), k ≠ k' → ps[k].to_ = ps[k'].to_ → ps[k].to_ = -1
  all : ∀ i, i < j → ∃ (k : Nat) (h : k < ps.length), ps[k].from_ = i ∨ ps[k].to_ = (i : Int)
  opn : ∀ (q : Int) (k : Nat), op q = some k ↔ ∃ h : k < ps.length, ps[k].to_ = -1 ∧ (ev l ps[k].from_).proc = q
  seq : ∀ (k k' : Nat) (h : k < ps.length) (h' : k' < ps.length), k < k' → (ev l ps[k].from_).proc = (ev l ps[k'].from_).proc → 0 ≤ ps[k].to_ ∧ ps[k].to_ < (ps[k'].from_ : Int)

theorem FInv.zero (l : List EventD) : FInv l 0 [] (fun _ => none) :=
  ⟨by simp, by simp, by simp, by simp, by simp, by simp, by simp⟩

theorem pairStep_push {l : List EventD} {j : Nat} {e : EventD} {ps ps' : List PairD} {op op' : Int → Option Nat} (h : op e.proc = none) (hs : pairStep l j e ps op = some (ps', op')) :
    e.kind = 0 ∧ ps' = ps ++ [⟨j, -1, 3⟩] ∧ op' = upd op e.proc (some ps.length) := by
  unfold pairStep at hs
  rw [h] at hs
  simp only at hs
  split at hs
  · rename_i hk
    simp only [Option.some.injEq, Prod.mk.injEq] at hs
    exact ⟨hk, hs.1.symm, hs.2.symm⟩
  · cases hs
theorem pairStep_set {l : List EventD} {j k : Nat} {e : EventD} {ps ps' : List PairD} {op op' : Int → Option Nat} (h : op e.proc = some k) (hs : pairStep l j e ps op = some (ps', op')) :
    e.kind ≠ 0 ∧ ∃ (hk : k < ps.length) (hf : ps[k].from_ < l.length), matchB l[ps[k].from_] e = true ∧ ps' = ps.set k ⟨ps[k].from_, j, e.kind⟩ ∧ op' = upd op e.proc none := by
  unfold pairStep at hs
  rw [h] at hs
  simp only at hs
  split at hs
  · cases hs
  · rename_i hk
    refine ⟨hk, ?_⟩
    split at hs
    · cases hs
    · rename_i p hp
      obtain ⟨hkl, rfl⟩ := List.getElem?_eq_some_iff.1 hp
      split at hs
      · cases hs
      · rename_i b hb
        obtain ⟨hfl, rfl⟩ := List.getElem?_eq_some_iff.1 hb
        split at hs
        · rename_i hm
          simp only [Option.some.injEq, Prod.mk.injEq] at hs
          exact ⟨hkl, hfl, hm, hs.1.symm, hs.2.symm⟩
        · cases hs

theorem FInv.push {l : List EventD} {j : Nat} {ps : List PairD} {op : Int → Option Nat} (h : FInv l j ps op) (hj : j < l.length) (ho : op (ev l j).proc = none) (hk : (ev l j).kind = 0) :
    FInv l (j + 1) (ps ++ [⟨j, -1, 3⟩]) (upd op (ev l j).proc (some ps.length)) := by
  have hlen : (ps ++ [(⟨j, -1, 3⟩ : PairD)]).length = ps.length + 1 := by simp
  have old : ∀ (k : Nat) (hk : k < ps.length), (ps ++ [(⟨j, -1, 3⟩ : PairD)])[k]'(by simp; omega) = ps[k] := fun k hk => List.getElem_append_left hk
  have new : (ps ++ [(⟨j, -1, 3⟩ : PairD)])[ps.length]'(by simp) = ⟨j, -1, 3⟩ := by simp
  have cas : ∀ k, k < (ps ++ [(⟨j, -1, 3⟩ : PairD)]).length → k < ps.length ∨ k = ps.length := fun k hk => by simp at hk; omega
  constructor
  · intro k hk'
    rcases cas k hk' with h1 | rfl
    · rw [old k h1]; have := h.frm k h1; exact ⟨by omega, this.2⟩
    · rw [new]; exact ⟨by simp, hk⟩
  · intro k hk'
    rcases cas k hk' with h1 | rfl
    · rw [old k h1]
      rcases h.to_ k h1 with h2 | ⟨t, a, b, c, d⟩
      · exact .inl h2
      · exact .inr ⟨t, a, b, by omega, d⟩
    · rw [new]; exact .inl ⟨rfl, rfl⟩
  · intro k k' h1 h2 hlt
    rcases cas k' h2 with h3 | rfl
    · rw [old k (by omega), old k' h3]; exact h.inc k k' _ _ hlt
    · rw [old k (by omega), new]; exact (h.frm k (by omega)).1
  · intro k k' h1 h2 hne he
    rcases cas k h1 with h3 | rfl
    · rw [old k h3] at he ⊢
      rcases cas k' h2 with h4 | rfl
      · rw [old k' h4] at he; exact h.tos k k' _ _ hne he
      · rw [new] at he; exact he
    · rw [new]
  · intro i hi
    rcases Nat.lt_or_ge i j with h1 | h1
    · obtain ⟨k, hk', h2⟩ := h.all i h1
      exact ⟨k, by simp; omega, by rw [old k hk']; exact h2⟩
    · exact ⟨ps.length, by simp, by rw [new]; left; show j = i; omega⟩
  · intro q k
    by_cases hq : q = (ev l j).proc
    · subst hq
      rw [upd_same]
      constructor
      · intro e
        injection e with e
        subst e
        exact ⟨by simp, by rw [new], by rw [new]⟩
      · rintro ⟨hk', h1, h2⟩
        rcases cas k hk' with h3 | rfl
        · rw [old k h3] at h1 h2
          have := (h.opn (ev l j).proc k).2 ⟨h3, h1, h2⟩
          rw [ho] at this
          cases this
        · rfl
    · rw [upd_ne _ _ hq, h.opn]
      constructor
      · rintro ⟨hk', h1, h2⟩
        exact ⟨by simp; omega, by rw [old k hk']; exact h1, by rw [old k hk']; exact h2⟩
      · rintro ⟨hk', h1, h2⟩
        rcases cas k hk' with h3 | rfl
        · rw [old k h3] at h1 h2; exact ⟨h3, h1, h2⟩
        · rw [new] at h2; exact absurd h2.symm hq
  · intro k k' h1 h2 hlt hp
    rcases cas k' h2 with h3 | rfl
    · rw [old k (by omega), old k' h3] at hp ⊢; exact h.seq k k' _ _ hlt hp
    · rw [old k (by omega), new] at hp ⊢
      rcases h.to_ k (by omega) with ⟨h4, _⟩ | ⟨t, a, b, c, _⟩
      · have := (h.opn _ k).2 ⟨by omega, h4, hp⟩
        rw [ho] at this
        cases this
      · rw [a]; exact ⟨by omega, by show (t : Int) < (j : Int); omega⟩

theorem FInv.set {l : List EventD} {j k : Nat} {ps : List PairD} {op : Int → Option Nat} (h : FInv l j ps op) (hj : j < l.length) (ho : op (ev l j).proc = some k) (hk : (ev l j).kind ≠ 0) (hkp : k < ps.length) (hm : matchB (ev l ps[k].from_) (ev l j) = true) :
    FInv l (j + 1) (ps.set k ⟨ps[k].from_, j, (ev l j).kind⟩) (upd op (ev l j).proc none) := by
  obtain ⟨_, hto, hpr⟩ := (h.opn _ k).1 ho
  have hlen : (ps.set k ⟨ps[k].from_, j, (ev l j).kind⟩).length = ps.length := by simp
  have old : ∀ (i : Nat) (hi : i < ps.length), i ≠ k → (ps.set k ⟨ps[k].from_, j, (ev l j).kind⟩)[i]'(by simpa using hi) = ps[i] := fun i hi hne => by rw [List.getElem_set, if_neg (fun e => hne e.symm)]
  have new : (ps.set k ⟨ps[k].from_, j, (ev l j).kind⟩)[k]'(by simpa using hkp) = ⟨ps[k].from_, j, (ev l j).kind⟩ := by simp
  have fr : ∀ (i : Nat) (hi : i < ps.length), ((ps.set k ⟨ps[k].from_, j, (ev l j).kind⟩)[i]'(by simpa using hi)).from_ = ps[i].from_ := fun i hi => by
    by_cases e : i = k
    · subst e; rw [new]
    · rw [old i hi e]
  have tlt : ∀ (i : Nat) (hi : i < ps.length), ps[i].to_ < (j : Int) := fun i hi => by
    rcases h.to_ i hi with ⟨a, _⟩ | ⟨t, a, b, c, _⟩ <;> rw [a] <;> omega
  constructor
  · intro i hi
    have hi' : i < ps.length := by simpa using hi
    rw [fr i hi']
    have := h.frm i hi'
    exact ⟨by omega, this.2⟩
  · intro i hi
    have hi' : i < ps.length := by simpa using hi
    by_cases e : i = k
    · subst e
      rw [new]
      exact .inr ⟨j, rfl, (h.frm i hi').1, by omega, rfl, hk, hpr.symm, hm⟩
    · rw [old i hi' e]
      rcases h.to_ i hi' with h2 | ⟨t, a, b, c, d⟩
      · exact .inl h2
      · exact .inr ⟨t, a, b, by omega, d⟩
  · intro i i' h1 h2 hlt
    rw [fr i (by simpa using h1), fr i' (by simpa using h2)]
    exact h.inc i i' _ _ hlt
  · intro i i' h1 h2 hne he
    have h1' : i < ps.length := by simpa using h1
    have h2' : i' < ps.length := by simpa using h2
    by_cases e : i = k
    · subst e
      rw [new, old i' h2' (fun e => hne e.symm)] at he
      have := tlt i' h2'
      have he' : (j : Int) = ps[i'].to_ := he
      omega
    · rw [old i h1' e] at he ⊢
      by_cases e' : i' = k
      · subst e'
        rw [new] at he
        have := tlt i h1'
        have he' : ps[i].to_ = (j : Int) := he
        omega
      · rw [old i' h2' e'] at he
        exact h.tos i i' _ _ hne he
  · intro i hi
    rcases Nat.lt_or_ge i j with h1 | h1
    · obtain ⟨k', hk', h2⟩ := h.all i h1
      refine ⟨k', by simpa using hk', ?_⟩
      rcases h2 with h2 | h2
      · left; rw [fr k' hk']; exact h2
      · by_cases e : k' = k
        · subst e; rw [hto] at h2; omega
        · right; rw [old k' hk' e]; exact h2
    · exact ⟨k, by simpa using hkp, by rw [new]; right; show (j : Int) = i; omega⟩
  · intro q i
    by_cases hq : q = (ev l j).proc
    · subst hq
      rw [upd_same]
      constructor
      · intro e; cases e
      · rintro ⟨hi, h1, h2⟩
        have hi' : i < ps.length := by simpa using hi
        by_cases e : i = k
        · subst e; rw [new] at h1; have h1' : (j : Int) = -1 := h1; omega
        · rw [old i hi' e] at h1 h2
          have := (h.opn (ev l j).proc i).2 ⟨hi', h1, h2⟩
          rw [ho] at this
          injection this with this
          exact absurd this.symm e
    · rw [upd_ne _ _ hq, h.opn]
      constructor
      · rintro ⟨hi, h1, h2⟩
        have e : i ≠ k := by rintro rfl; exact hq (h2.symm.trans hpr)
        exact ⟨by simpa using hi, by rw [old i hi e]; exact h1, by rw [old i hi e]; exact h2⟩
      · rintro ⟨hi, h1, h2⟩
        have hi' : i < ps.length := by simpa using hi
        by_cases e : i = k
        · subst e; rw [new] at h1; have h1' : (j : Int) = -1 := h1; omega
        · rw [old i hi' e] at h1 h2
          exact ⟨hi', h1, h2⟩
  · intro i i' h1 h2 hlt hp
    have h1' : i < ps.length := by simpa using h1
    have h2' : i' < ps.length := by simpa using h2
    rw [fr i h1', fr i' h2'] at hp
    rw [fr i' h2']
    have hs := h.seq i i' h1' h2' hlt hp
    by_cases e : i = k
    · subst e
      rw [hto] at hs
      omega
    · rw [old i h1' e]
      exact hs

theorem pairsSt_finv (l : List EventD) : ∀ j ps op, pairsSt l j = .ok (ps, op) → j ≤ l.length → FInv l j ps op := by
  intro j
  induction j with
  | zero =>
    intro ps op h _
    simp only [pairsSt, Except.ok.injEq, Prod.mk.injEq] at h
    obtain ⟨rfl, rfl⟩ := h
    exact FInv.zero l
  | succ j ih =>
    intro ps' op' h hj
    have hjl : j < l.length := by omega
    cases hst : pairsSt l j with
    | error e => simp only [pairsSt, hst] at h; cases h
    | ok s =>
      obtain ⟨ps, op⟩ := s
      have hi := ih ps op hst (by omega)
      rw [pairsSt_succ hst hjl] at h
      cases hs : pairStep l j l[j] ps op with
      | none => rw [hs] at h; cases h
      | some s' =>
        rw [hs] at h
        injection h with h
        subst h
        have e := ev_eq hjl
        cases ho : op l[j].proc with
        | none =>
          obtain ⟨h1, rfl, rfl⟩ := pairStep_push ho hs
          rw [← e] at ho h1 ⊢
          exact hi.push hjl ho h1
        | some k =>
          obtain ⟨h1, hk, hf, hm, rfl, rfl⟩ := pairStep_set ho hs
          rw [← ev_eq hf] at hm
          rw [← e] at ho h1 hm ⊢
          exact hi.set hjl ho h1 hk hm
theorem pairsF_finv {l : List EventD} {ps : List PairD} (h : pairsF l = .ok ps) : ∃ op, FInv l l.length ps op := by
  obtain ⟨_, op, hst⟩ := pairsF_ok h
  exact ⟨op, pairsSt_finv l _ _ _ hst (Nat.le_refl _)⟩
end Go.Proofs.Ytjjmedgibcffhaa
