/- The solver as a pure model: its state, what each method does, what holds of it. -/
import Derived.Test.YtafeehlpmdligaaRUnit2
import Derived.Test.YtafeehlpmdligaaRCkPure
namespace Go.Proofs.Ytafeehlpmdligaa
open Go.RowKit M
set_option linter.unusedSimpArgs false
set_option linter.unusedVariables false
structure Sv where
  n : Nat
  cs : List (List Int)
  val : List Int
  rea : List Nat
  dep : List Nat
  tr : List Int
  lv : List Nat
  dn : Nat
  pf : List (List Int)
/-- 1, -1 or 0 of a literal. -/
def truV (val : List Int) (l : Int) : Int := if l < 0 then -(val.getD l.natAbs 0) else val.getD l.natAbs 0
/-- The one literal that is left (0: none); none: it is true, or two are left. -/
def scanV (val : List Int) : Int → List Int → Option Int
  | left, [] => some left
  | left, l :: r => if truV val l = 1 then none else if truV val l = 0 then (if left ≠ 0 ∧ left ≠ l then none else scanV val l r) else scanV val left r
def sideOf (l : Int) : Int := if l < 0 then -1 else 1
def Sv.put (s : Sv) (l : Int) (why : Nat) : Sv := { s with val := s.val.set l.natAbs (sideOf l), rea := s.rea.set l.natAbs why, dep := s.dep.set l.natAbs s.lv.length, tr := s.tr ++ [l] }
/-- A clause is looked at: false: all its literals are false. -/
def Sv.look (s : Sv) (m : Nat) : Bool × Sv := match scanV s.val 0 (s.cs.getD m []) with
  | none => (true, s)
  | some u => if u = 0 then (false, s) else (true, s.put u (m + 1))
def Sv.looks (s : Sv) : List Nat → Sv × Option Nat
  | [] => (s, none)
  | m :: r => if (s.look m).1 then (s.look m).2.looks r else ((s.look m).2, some m)
def Sv.round (s : Sv) : Sv × Option Nat := ({ s with dn := s.dn + 1 } : Sv).looks (ocs s.cs (s.tr.getD s.dn 0))
/-- follow, with so many rounds at most. -/
def Sv.followN : Nat → Sv → Option (Sv × Option Nat)
  | 0, _ => none
  | k + 1, s => if s.dn < s.tr.length then match s.round with
      | (s', none) => Sv.followN k s'
      | (s', some m) => some (s', some m)
    else some (s, none)
def Sv.follow (s : Sv) : Sv × Option Nat := ((s.followN (s.n + 2)).getD (s, none))
def Sv.begin (s : Sv) : Sv × Option Nat := match s.looks (List.range s.cs.length) with
  | (s', some m) => (s', some m)
  | (s', none) => s'.follow
/-- What blame has come to: what was seen, what is to be done, what was decided. -/
structure Bl where
  seen : List Nat
  todo : List Int
  out : List Int
def Sv.blameStep (s : Sv) (b : Bl) : Bl := match b.todo.getLast? with
  | none => b
  | some l => if l.natAbs ∈ b.seen ∨ s.dep.getD l.natAbs 0 = 0 then { b with todo := b.todo.dropLast }
    else if s.rea.getD l.natAbs 0 = 0 then ⟨l.natAbs :: b.seen, b.todo.dropLast, b.out ++ [-(l.natAbs : Int) * s.val.getD l.natAbs 0]⟩
    else ⟨l.natAbs :: b.seen, b.todo.dropLast ++ s.cs.getD (s.rea.getD l.natAbs 0 - 1) [], b.out⟩
def Sv.blameN (s : Sv) : Nat → Bl → Option Bl
  | 0, _ => none
  | k + 1, b => if b.todo = [] then some b else s.blameN k (s.blameStep b)
def Sv.longest (s : Sv) : Nat := s.cs.foldl (fun a c => max a c.length) 0
def Sv.blameFuel (s : Sv) (m : Nat) : Nat := s.n * (s.longest + 1) + (s.cs.getD m []).length + 1
/-- The deepest first. -/
def deeper (dep : List Nat) (a b : Int) : Bool := decide (dep.getD b.natAbs 0 < dep.getD a.natAbs 0)
def insD (dep : List Nat) (x : Int) : List Int → List Int
  | [] => [x]
  | y :: r => if deeper dep x y then x :: y :: r else y :: insD dep x r
def sortD (dep : List Nat) : List Int → List Int
  | [] => []
  | x :: r => insD dep x (sortD dep r)
def Sv.blame (s : Sv) (m : Nat) : List Int := sortD s.dep (((s.blameN (s.blameFuel m) ⟨[], s.cs.getD m [], []⟩).getD ⟨[], [], []⟩).out)
def Sv.unset (s : Sv) (l : Int) : Sv := { s with val := s.val.set l.natAbs 0, rea := s.rea.set l.natAbs 0 }
def Sv.back (s : Sv) (level : Nat) : Sv :=
  let to := s.lv.getD level 0
  let s1 := (s.tr.drop to).foldl Sv.unset s
  { s1 with tr := s.tr.take to, lv := s.lv.take level, dn := min s.dn to }
/-- How far to go back. -/
def Sv.level (s : Sv) : List Int → Nat
  | [] => 0
  | y :: _ => s.dep.getD y.natAbs 0
def Sv.learn (s : Sv) (m : Nat) : Bool × Sv :=
  let c := s.blame m
  let s1 : Sv := { s with pf := s.pf ++ [c] }
  match c with
  | [] => (false, s1)
  | x :: r =>
    let s2 := s1.back (s.level r)
    (true, ({ s2 with cs := s2.cs ++ [c] } : Sv).put x (s2.cs.length + 1))
/-- The first variable of which nothing is known. -/
def Sv.free (s : Sv) : Option Nat := ((List.range s.n).find? fun v => s.val.getD (v + 1) 0 == 0).map (· + 1)
def Sv.decide (s : Sv) : Option Sv := s.free.map fun v : Nat => ({ s with lv := s.lv ++ [s.tr.length] } : Sv).put (v : Int) 0
def Sv.model (s : Sv) : List Bool := s.val.map fun x => Decidable.decide (0 < x)
structure AnsD where
  code : Int
  model : List Bool
  proof : List (List Int)
  steps : Int
def Sv.start (n : Nat) (cs : List (List Int)) : Sv := ⟨n, cs, List.replicate (n + 1) 0, List.replicate (n + 1) 0, List.replicate (n + 1) 0, [], [], 0, []⟩
/-- One turn of the search: an answer, or the next state. -/
def turnS (budget : Nat) (s : Sv) (wrong : Option Nat) (steps : Nat) : AnsD ⊕ (Sv × Option Nat × Nat) :=
  if steps = budget ∧ (wrong.isSome = true ∨ (0 : Int) ∈ s.val.drop 1) then .inl ⟨3, [], [], steps⟩
  else match wrong with
    | some m => if (s.learn m).1 then .inr ((s.learn m).2.follow.1, (s.learn m).2.follow.2, steps + 1) else .inl ⟨1, [], (s.learn m).2.pf, steps + 1⟩
    | none => match s.decide with
      | some s' => .inr (s'.follow.1, s'.follow.2, steps + 1)
      | none => .inl ⟨2, s.model, [], steps⟩
def runS (budget : Nat) : Nat → Sv → Option Nat → Nat → Option AnsD
  | 0, _, _, _ => none
  | k + 1, s, wrong, steps => match turnS budget s wrong steps with
    | .inl a => some a
    | .inr (s', w', t') => runS budget k s' w' t'
def searchF (n : Nat) (cs : List (List Int)) (budget : Nat) : AnsD := (runS budget (budget + 1) (Sv.start n cs).begin.1 (Sv.start n cs).begin.2 0).getD ⟨0, [], [], 0⟩
end Go.Proofs.Ytafeehlpmdligaa
/- The solver's state stays in order. -/
namespace Go.Proofs.Ytafeehlpmdligaa
open Go.RowKit M
set_option linter.unusedSimpArgs false
set_option linter.unusedVariables false
theorem getD_set' {α : Type} (l : List α) (k j : Nat) (x d : α) : (l.set k x).getD j d = if j = k ∧ k < l.length then x else l.getD j d := by
  simp only [List.getD_eq_getElem?_getD, List.getElem?_set]
  by_cases h : k = j
  · subst h
    by_cases hl : k < l.length
    · simp [hl]
    · simp [hl]
  · rw [if_neg h, if_neg (fun e => h e.1.symm)]
theorem truV_neg (val : List Int) {l : Int} (h : l ≠ 0) : truV val (-l) = -truV val l := by
  unfold truV
  rw [Int.natAbs_neg]
  by_cases h1 : l < 0
  · rw [if_pos h1, if_neg (by omega)]; omega
  · rw [if_neg h1, if_pos (by omega)]
theorem truV_set {val : List Int} {l x : Int} (hl : l ≠ 0) (hx : x ≠ 0) (hlen : l.natAbs < val.length) : truV (val.set l.natAbs (sideOf l)) x = if x = l then 1 else if x = -l then -1 else truV val x := by
  have hg : (val.set l.natAbs (sideOf l)).getD x.natAbs 0 = if x.natAbs = l.natAbs then sideOf l else val.getD x.natAbs 0 := by
    rw [getD_set']
    by_cases h : x.natAbs = l.natAbs
    · rw [if_pos ⟨h, hlen⟩, if_pos h]
    · rw [if_neg (fun e => h e.1), if_neg h]
  unfold truV
  rw [hg]
  unfold sideOf
  by_cases h1 : x = l
  · subst h1
    rw [if_pos rfl, if_pos rfl]
    by_cases h : x < 0
    · rw [if_pos h, if_pos h]; rfl
    · rw [if_neg h, if_neg h]
  · rw [if_neg h1]
    by_cases h2 : x = -l
    · subst h2
      rw [Int.natAbs_neg, if_pos rfl, if_pos rfl]
      by_cases h : l < 0
      · rw [if_pos h, if_neg (by omega)]
      · rw [if_neg h, if_pos (by omega)]
    · have : ¬ x.natAbs = l.natAbs := by omega
      rw [if_neg h2, if_neg this]
theorem truV_unset {val : List Int} {l x : Int} (hlen : l.natAbs < val.length) : truV (val.set l.natAbs 0) x = if x.natAbs = l.natAbs then 0 else truV val x := by
  have hg : (val.set l.natAbs 0).getD x.natAbs 0 = if x.natAbs = l.natAbs then 0 else val.getD x.natAbs 0 := by
    rw [getD_set']
    by_cases h : x.natAbs = l.natAbs
    · rw [if_pos ⟨h, hlen⟩, if_pos h]
    · rw [if_neg (fun e => h e.1), if_neg h]
  unfold truV
  rw [hg]
  by_cases h1 : x.natAbs = l.natAbs
  · rw [if_pos h1, if_pos h1]; simp
  · rw [if_neg h1, if_neg h1]
/-- What always holds of the solver. -/
structure Sv.Wf (s : Sv) : Prop where
  vlen : s.val.length = s.n + 1
  rlen : s.rea.length = s.n + 1
  dlen : s.dep.length = s.n + 1
  lit : ∀ c ∈ s.cs, ∀ l ∈ c, l ≠ 0 ∧ l.natAbs ≤ s.n
  trl : ∀ l ∈ s.tr, l ≠ 0 ∧ l.natAbs ≤ s.n
  nodup : (s.tr.map Int.natAbs).Nodup
  tval : ∀ l : Int, l ≠ 0 → l.natAbs ≤ s.n → (truV s.val l = 1 ↔ l ∈ s.tr)
  tri : ∀ v, s.val.getD v 0 = 0 ∨ s.val.getD v 0 = 1 ∨ s.val.getD v 0 = -1
  zero : s.val.getD 0 0 = 0
  lvs : s.lv.Pairwise (· < ·)
  lvl : ∀ t ∈ s.lv, t < s.tr.length
  dnl : s.dn ≤ s.tr.length
  dpt : ∀ (p : Nat) (h : p < s.tr.length), s.dep.getD s.tr[p].natAbs 0 = (s.lv.filter (· ≤ p)).length
  dec : ∀ (p : Nat) (h : p < s.tr.length), s.rea.getD s.tr[p].natAbs 0 = 0 ↔ p ∈ s.lv
  why : ∀ (p : Nat) (h : p < s.tr.length) (m : Nat), s.rea.getD s.tr[p].natAbs 0 = m + 1 → m < s.cs.length ∧ s.tr[p] ∈ s.cs.getD m [] ∧ ∀ l ∈ s.cs.getD m [], l = s.tr[p] ∨ -l ∈ s.tr.take p
theorem truV_tri {val : List Int} (h : ∀ v, val.getD v 0 = 0 ∨ val.getD v 0 = 1 ∨ val.getD v 0 = -1) (l : Int) : truV val l = 0 ∨ truV val l = 1 ∨ truV val l = -1 := by
  unfold truV
  have := h l.natAbs
  split <;> omega
theorem Sv.Wf.true_iff {s : Sv} (h : s.Wf) {l : Int} (h0 : l ≠ 0) (hn : l.natAbs ≤ s.n) : truV s.val l = 1 ↔ l ∈ s.tr := h.tval l h0 hn
theorem Sv.Wf.false_iff {s : Sv} (h : s.Wf) {l : Int} (h0 : l ≠ 0) (hn : l.natAbs ≤ s.n) : truV s.val l = -1 ↔ -l ∈ s.tr := by
  rw [← h.tval (-l) (by omega) (by rw [Int.natAbs_neg]; exact hn), truV_neg _ h0]
  omega
theorem Sv.Wf.free_iff {s : Sv} (h : s.Wf) {l : Int} (h0 : l ≠ 0) (hn : l.natAbs ≤ s.n) : truV s.val l = 0 ↔ l ∉ s.tr ∧ -l ∉ s.tr := by
  rw [← h.true_iff h0 hn, ← h.false_iff h0 hn]
  have := truV_tri h.tri l
  omega
/-- A literal stands just once, and its negative not at all. -/
theorem Sv.Wf.apart {s : Sv} (h : s.Wf) {l : Int} (hl : l ∈ s.tr) : -l ∉ s.tr := by
  obtain ⟨h0, hn⟩ := h.trl l hl
  intro hm
  have h1 := (h.true_iff h0 hn).2 hl
  have h2 := (h.false_iff h0 hn).2 hm
  omega
theorem Sv.Wf.abs_inj {s : Sv} (h : s.Wf) {p q : Nat} (hp : p < s.tr.length) (hq : q < s.tr.length) (e : s.tr[p].natAbs = s.tr[q].natAbs) : p = q := by
  have := List.pairwise_iff_getElem.1 h.nodup
  rcases Nat.lt_trichotomy p q with h1 | h1 | h1
  · exact absurd (by rw [List.getElem_map, List.getElem_map]; exact e) (this p q (by simpa using hp) (by simpa using hq) h1)
  · exact h1
  · exact absurd (by rw [List.getElem_map, List.getElem_map]; exact e.symm) (this q p (by simpa using hq) (by simpa using hp) h1)
theorem Sv.Wf.not_abs {s : Sv} (h : s.Wf) {l : Int} (h1 : l ∉ s.tr) (h2 : -l ∉ s.tr) : l.natAbs ∉ s.tr.map Int.natAbs := by
  intro hm
  obtain ⟨x, hx, e⟩ := List.mem_map.1 hm
  rcases Int.natAbs_eq_natAbs_iff.1 e with rfl | rfl
  · exact h1 hx
  · exact h2 hx
theorem getD_snoc_lt {α : Type} {l : List α} {a d : α} {i : Nat} (h : i < l.length) : (l ++ [a]).getD i d = l.getD i d := by
  simp only [List.getD_eq_getElem?_getD, List.getElem?_append, if_pos h]
/-- A literal is put. -/
theorem Sv.Wf.push {s : Sv} (h : s.Wf) {l : Int} (h0 : l ≠ 0) (hn : l.natAbs ≤ s.n) (hf : l ∉ s.tr) (hf' : -l ∉ s.tr) (lv' : List Nat) (w : Nat)
    (hw : (lv' = s.lv ++ [s.tr.length] ∧ w = 0) ∨ (lv' = s.lv ∧ ∃ m, w = m + 1 ∧ m < s.cs.length ∧ l ∈ s.cs.getD m [] ∧ ∀ x ∈ s.cs.getD m [], x = l ∨ -x ∈ s.tr)) :
    (({ s with lv := lv' } : Sv).put l w).Wf := by
  have habs := h.not_abs hf hf'
  have hlen : l.natAbs < s.val.length := by rw [h.vlen]; omega
  have old : ∀ (p : Nat) (hp : p < s.tr.length) (hp' : p < (s.tr ++ [l]).length), (s.tr ++ [l])[p] = s.tr[p] := fun p hp _ => List.getElem_append_left hp
  have new : ∀ (hp' : s.tr.length < (s.tr ++ [l]).length), (s.tr ++ [l])[s.tr.length] = l := fun _ => by simp
  have nab : ∀ (p : Nat) (hp : p < s.tr.length), s.tr[p].natAbs ≠ l.natAbs := fun p hp e => habs (by rw [← e]; exact List.mem_map_of_mem (List.getElem_mem _))
  have cas : ∀ p, p < (s.tr ++ [l]).length → p < s.tr.length ∨ p = s.tr.length := fun p hp => by simp at hp; omega
  have hmem : ∀ t, t ∈ lv' → t ≤ s.tr.length := fun t ht => by
    rcases hw with ⟨rfl, _⟩ | ⟨rfl, _⟩
    · rw [List.mem_append, List.mem_singleton] at ht
      rcases ht with ht | rfl
      · exact Nat.le_of_lt (h.lvl t ht)
      · exact Nat.le_refl _
    · exact Nat.le_of_lt (h.lvl t ht)
  have hfil : ∀ p, p < s.tr.length → lv'.filter (· ≤ p) = s.lv.filter (· ≤ p) := fun p hp => by
    rcases hw with ⟨rfl, _⟩ | ⟨rfl, _⟩
    · rw [List.filter_append]
      have : ¬ s.tr.length ≤ p := by omega
      simp [this]
    · rfl
  have hlvm : ∀ p, p < s.tr.length → (p ∈ lv' ↔ p ∈ s.lv) := fun p hp => by
    rcases hw with ⟨rfl, _⟩ | ⟨rfl, _⟩
    · rw [List.mem_append, List.mem_singleton]
      constructor
      · rintro (h | h)
        · exact h
        · omega
      · exact .inl
    · exact Iff.rfl
  constructor
  · show (s.val.set _ _).length = _
    rw [List.length_set]; exact h.vlen
  · show (s.rea.set _ _).length = _
    rw [List.length_set]; exact h.rlen
  · show (s.dep.set _ _).length = _
    rw [List.length_set]; exact h.dlen
  · exact h.lit
  · intro x hx
    rcases List.mem_append.1 hx with hx | hx
    · exact h.trl x hx
    · rw [List.mem_singleton] at hx; subst hx; exact ⟨h0, hn⟩
  · show ((s.tr ++ [l]).map Int.natAbs).Nodup
    rw [List.map_append, List.nodup_append]
    refine ⟨h.nodup, by simp, ?_⟩
    intro a ha b hb e
    simp only [List.map_cons, List.map_nil, List.mem_singleton] at hb
    subst hb e
    exact habs ha
  · intro x hx hxn
    show truV (s.val.set l.natAbs (sideOf l)) x = 1 ↔ x ∈ s.tr ++ [l]
    rw [truV_set h0 hx hlen, List.mem_append, List.mem_singleton]
    by_cases e1 : x = l
    · simp [e1]
    · rw [if_neg e1]
      by_cases e2 : x = -l
      · subst e2
        rw [if_pos rfl]
        constructor
        · intro h; omega
        · rintro (h | h)
          · exact absurd h hf'
          · exact absurd h e1
      · rw [if_neg e2, h.tval x hx hxn]
        constructor
        · exact .inl
        · rintro (h | h)
          · exact h
          · exact absurd h e1
  · intro v
    show (s.val.set l.natAbs (sideOf l)).getD v 0 = 0 ∨ _
    simp only [Sv.put, getD_set']
    split
    · unfold sideOf; split <;> omega
    · exact h.tri v
  · show (s.val.set l.natAbs (sideOf l)).getD 0 0 = 0
    rw [getD_set', if_neg (fun e => by have := e.1; omega)]
    exact h.zero
  · show lv'.Pairwise (· < ·)
    rcases hw with ⟨rfl, _⟩ | ⟨rfl, _⟩
    · rw [List.pairwise_append]
      exact ⟨h.lvs, by simp, fun a ha b hb => by rw [List.mem_singleton] at hb; subst hb; exact h.lvl a ha⟩
    · exact h.lvs
  · intro t ht
    have := hmem t ht
    show t < (s.tr ++ [l]).length
    simp; omega
  · show s.dn ≤ (s.tr ++ [l]).length
    have := h.dnl
    simp; omega
  · intro p hp
    have hp : p < (s.tr ++ [l]).length := hp
    show (s.dep.set l.natAbs lv'.length).getD (s.tr ++ [l])[p].natAbs 0 = (lv'.filter (· ≤ p)).length
    rcases cas p hp with h1 | rfl
    · rw [old p h1, getD_set', if_neg (fun e => nab p h1 e.1), hfil p h1]
      exact h.dpt p h1
    · rw [new, getD_set', if_pos ⟨rfl, by rw [h.dlen]; omega⟩]
      congr 1
      rw [List.filter_eq_self.2]
      intro a ha
      simpa using hmem a ha
  · intro p hp
    have hp : p < (s.tr ++ [l]).length := hp
    show (s.rea.set l.natAbs w).getD (s.tr ++ [l])[p].natAbs 0 = 0 ↔ p ∈ lv'
    rcases cas p hp with h1 | rfl
    · rw [old p h1, getD_set', if_neg (fun e => nab p h1 e.1), hlvm p h1]
      exact h.dec p h1
    · rw [new, getD_set', if_pos ⟨rfl, by rw [h.rlen]; omega⟩]
      rcases hw with ⟨rfl, rfl⟩ | ⟨rfl, m, rfl, _⟩
      · simp
      · constructor
        · intro h; omega
        · intro h1; have := h.lvl _ h1; omega
  · intro p hp m
    have hp : p < (s.tr ++ [l]).length := hp
    show (s.rea.set l.natAbs w).getD (s.tr ++ [l])[p].natAbs 0 = m + 1 → m < s.cs.length ∧ (s.tr ++ [l])[p] ∈ s.cs.getD m [] ∧ ∀ x ∈ s.cs.getD m [], x = (s.tr ++ [l])[p] ∨ -x ∈ (s.tr ++ [l]).take p
    rcases cas p hp with h1 | rfl
    · rw [old p h1, getD_set', if_neg (fun e => nab p h1 e.1), List.take_append_of_le_length (by omega)]
      exact h.why p h1 m
    · rw [new, getD_set', if_pos ⟨rfl, by rw [h.rlen]; omega⟩]
      rw [List.take_append_of_le_length (Nat.le_refl _), List.take_length]
      rcases hw with ⟨rfl, rfl⟩ | ⟨rfl, m', rfl, h2, h3, h4⟩
      · intro h; omega
      · intro h5
        obtain rfl : m' = m := by omega
        exact ⟨h2, h3, h4⟩
end Go.Proofs.Ytafeehlpmdligaa
/- The solver goes back; a clause is looked at. -/
namespace Go.Proofs.Ytafeehlpmdligaa
open Go.RowKit M
set_option linter.unusedSimpArgs false
set_option linter.unusedVariables false
theorem getD_set0 (l : List Int) (k j : Nat) : (l.set k 0).getD j 0 = if j = k then 0 else l.getD j 0 := by
  rw [getD_set']
  by_cases h : j = k
  · rw [if_pos h]
    by_cases hl : k < l.length
    · rw [if_pos ⟨h, hl⟩]
    · rw [if_neg (fun e => hl e.2), List.getD_eq_getElem?_getD, List.getElem?_eq_none (by omega)]; rfl
  · rw [if_neg h, if_neg (fun e => h e.1)]
theorem getD_set0n (l : List Nat) (k j : Nat) : (l.set k 0).getD j 0 = if j = k then 0 else l.getD j 0 := by
  rw [getD_set']
  by_cases h : j = k
  · rw [if_pos h]
    by_cases hl : k < l.length
    · rw [if_pos ⟨h, hl⟩]
    · rw [if_neg (fun e => hl e.2), List.getD_eq_getElem?_getD, List.getElem?_eq_none (by omega)]; rfl
  · rw [if_neg h, if_neg (fun e => h e.1)]
theorem unset_fold : ∀ (L : List Int) (s : Sv), (L.foldl Sv.unset s).n = s.n ∧ (L.foldl Sv.unset s).cs = s.cs ∧ (L.foldl Sv.unset s).dep = s.dep ∧ (L.foldl Sv.unset s).pf = s.pf ∧ (L.foldl Sv.unset s).val.length = s.val.length ∧ (L.foldl Sv.unset s).rea.length = s.rea.length ∧
    (∀ v, (L.foldl Sv.unset s).val.getD v 0 = if v ∈ L.map Int.natAbs then 0 else s.val.getD v 0) ∧ ∀ v, (L.foldl Sv.unset s).rea.getD v 0 = if v ∈ L.map Int.natAbs then 0 else s.rea.getD v 0
  | [], s => by simp
  | l :: L, s => by
    obtain ⟨h1, h2, h3, h4, h5, h6, h7, h8⟩ := unset_fold L (s.unset l)
    rw [List.foldl_cons]
    refine ⟨h1, h2, h3, h4, by rw [h5]; simp [Sv.unset], by rw [h6]; simp [Sv.unset], fun v => ?_, fun v => ?_⟩
    · rw [h7]
      simp only [Sv.unset, getD_set0, List.map_cons, List.mem_cons]
      by_cases e : v ∈ L.map Int.natAbs
      · simp [e]
      · by_cases e2 : v = l.natAbs <;> simp [e, e2]
    · rw [h8]
      simp only [Sv.unset, getD_set0n, List.map_cons, List.mem_cons]
      by_cases e : v ∈ L.map Int.natAbs
      · simp [e]
      · by_cases e2 : v = l.natAbs <;> simp [e, e2]
theorem Sv.Wf.back {s : Sv} (h : s.Wf) {k : Nat} (hk : k < s.lv.length) : (s.back k).Wf := by
  obtain ⟨to, hto⟩ : ∃ to, to = s.lv[k] := ⟨_, rfl⟩
  have hg : s.lv.getD k 0 = to := by rw [hto]; simp [hk]
  obtain ⟨f1, f2, f3, f4, f5, f6, f7, f8⟩ := unset_fold (s.tr.drop to) s
  have hlt : to < s.tr.length := h.lvl _ (hto ▸ List.getElem_mem _)
  have hpw := List.pairwise_iff_getElem.1 h.lvs
  have htake : ∀ t ∈ s.lv.take k, t < to := fun t ht => by
    obtain ⟨i, hi, rfl⟩ := List.mem_take_iff_getElem.1 ht
    rw [hto]
    exact hpw i k (by omega) hk (by omega)
  have hdrop : ∀ t ∈ s.lv.drop k, to ≤ t := fun t ht => by
    obtain ⟨i, hi, rfl⟩ := List.mem_drop_iff_getElem.1 ht
    rw [hto]
    rcases Nat.eq_zero_or_pos i with rfl | hp
    · simp
    · exact Nat.le_of_lt (hpw k (k + i) hk (by omega) (by omega))
  have hlen : (s.tr.take to).length = to := by rw [List.length_take]; omega
  have hget : ∀ (p : Nat) (hp : p < (s.tr.take to).length), (s.tr.take to)[p] = s.tr[p]'(by omega) := fun p hp => by rw [List.getElem_take]
  have hnd : ∀ (p : Nat) (hp : p < to), (s.tr[p]'(by omega)).natAbs ∉ (s.tr.drop to).map Int.natAbs := by
    intro p hp hm
    obtain ⟨x, hx, e⟩ := List.mem_map.1 hm
    obtain ⟨i, hi, rfl⟩ := List.mem_drop_iff_getElem.1 hx
    have := h.abs_inj (by omega) (by omega) e
    omega
  have hfil : ∀ p, p < to → (s.lv.take k).filter (· ≤ p) = s.lv.filter (· ≤ p) := fun p hp => by
    conv => rhs; rw [← List.take_append_drop k s.lv]
    rw [List.filter_append]
    have : (s.lv.drop k).filter (· ≤ p) = [] := by
      rw [List.filter_eq_nil_iff]
      intro a ha
      have := hdrop a ha
      simp; omega
    rw [this, List.append_nil]
  have hmem : ∀ p, p < to → (p ∈ s.lv.take k ↔ p ∈ s.lv) := fun p hp => by
    conv => rhs; rw [← List.take_append_drop k s.lv]
    rw [List.mem_append]
    constructor
    · exact .inl
    · rintro (h | h)
      · exact h
      · have := hdrop p h; omega
  obtain ⟨s1, hs1⟩ : ∃ s1, s1 = (s.tr.drop to).foldl Sv.unset s := ⟨_, rfl⟩
  rw [← hs1] at f1 f2 f3 f4 f5 f6 f7 f8
  have hbk : s.back k = ⟨s1.n, s1.cs, s1.val, s1.rea, s1.dep, s.tr.take to, s.lv.take k, min s.dn to, s1.pf⟩ := by
    unfold Sv.back
    rw [hg, hs1]
  rw [hbk]
  constructor
  · show s1.val.length = s1.n + 1
    rw [f5, f1]; exact h.vlen
  · show s1.rea.length = s1.n + 1
    rw [f6, f1]; exact h.rlen
  · show s1.dep.length = s1.n + 1
    rw [f3, f1]; exact h.dlen
  · show ∀ c ∈ s1.cs, ∀ l ∈ c, l ≠ 0 ∧ l.natAbs ≤ s1.n
    rw [f2, f1]; exact h.lit
  · show ∀ l ∈ s.tr.take to, l ≠ 0 ∧ l.natAbs ≤ s1.n
    rw [f1]
    exact fun l hl => h.trl l (List.mem_of_mem_take hl)
  · show ((s.tr.take to).map Int.natAbs).Nodup
    rw [List.map_take]
    exact h.nodup.sublist (List.take_sublist _ _)
  · show ∀ l : Int, l ≠ 0 → l.natAbs ≤ s1.n → (truV s1.val l = 1 ↔ l ∈ s.tr.take to)
    rw [f1]
    intro l h0 hn
    have e : truV s1.val l = if l.natAbs ∈ (s.tr.drop to).map Int.natAbs then 0 else truV s.val l := by
      unfold truV
      rw [f7]
      by_cases hm : l.natAbs ∈ (s.tr.drop to).map Int.natAbs
      · simp only [if_pos hm]; simp
      · simp only [if_neg hm]
    rw [e]
    by_cases hm : l.natAbs ∈ (s.tr.drop to).map Int.natAbs
    · rw [if_pos hm]
      constructor
      · intro h; omega
      · intro hl
        obtain ⟨p, hp, rfl⟩ := List.mem_take_iff_getElem.1 hl
        exact absurd hm (hnd p (by omega))
    · rw [if_neg hm, h.tval l h0 hn]
      constructor
      · intro hl
        rw [← List.take_append_drop to s.tr, List.mem_append] at hl
        rcases hl with hl | hl
        · exact hl
        · exact absurd (List.mem_map_of_mem hl) hm
      · exact List.mem_of_mem_take
  · show ∀ v, s1.val.getD v 0 = 0 ∨ s1.val.getD v 0 = 1 ∨ s1.val.getD v 0 = -1
    intro v
    rw [f7]
    split
    · exact .inl rfl
    · exact h.tri v
  · show s1.val.getD 0 0 = 0
    rw [f7]
    split
    · rfl
    · exact h.zero
  · exact h.lvs.sublist (List.take_sublist _ _)
  · intro t ht
    show t < (s.tr.take to).length
    rw [hlen]; exact htake t ht
  · show min s.dn to ≤ (s.tr.take to).length
    rw [hlen]; omega
  · intro p hp
    have hp : p < (s.tr.take to).length := hp
    have hp' : p < to := by have : p < (s.tr.take to).length := hp; omega
    show s1.dep.getD (s.tr.take to)[p].natAbs 0 = ((s.lv.take k).filter (· ≤ p)).length
    rw [f3, hget p hp, hfil p hp']
    exact h.dpt p (by omega)
  · intro p hp
    have hp : p < (s.tr.take to).length := hp
    have hp' : p < to := by have : p < (s.tr.take to).length := hp; omega
    show s1.rea.getD (s.tr.take to)[p].natAbs 0 = 0 ↔ p ∈ s.lv.take k
    rw [hget p hp, f8, if_neg (hnd p hp'), hmem p hp']
    exact h.dec p (by omega)
  · intro p hp m
    have hp : p < (s.tr.take to).length := hp
    have hp' : p < to := by have : p < (s.tr.take to).length := hp; omega
    show s1.rea.getD (s.tr.take to)[p].natAbs 0 = m + 1 → m < s1.cs.length ∧ (s.tr.take to)[p] ∈ s1.cs.getD m [] ∧ ∀ l ∈ s1.cs.getD m [], l = (s.tr.take to)[p] ∨ -l ∈ (s.tr.take to).take p
    rw [hget p hp, f8, if_neg (hnd p hp'), f2, List.take_take, Nat.min_eq_left (by omega)]
    exact h.why p (by omega) m
theorem Sv.Wf.add {s : Sv} (h : s.Wf) {c : List Int} (hc : ∀ l ∈ c, l ≠ 0 ∧ l.natAbs ≤ s.n) (pf : List (List Int)) : ({ s with cs := s.cs ++ [c], pf := pf } : Sv).Wf := by
  refine ⟨h.vlen, h.rlen, h.dlen, fun d hd => ?_, h.trl, h.nodup, h.tval, h.tri, h.zero, h.lvs, h.lvl, h.dnl, h.dpt, h.dec, fun p hp m hm => ?_⟩
  · rcases List.mem_append.1 hd with hd | hd
    · exact h.lit d hd
    · rw [List.mem_singleton] at hd; subst hd; exact hc
  · obtain ⟨h1, h2, h3⟩ := h.why p hp m hm
    have e : (s.cs ++ [c]).getD m [] = s.cs.getD m [] := getD_snoc_lt h1
    refine ⟨by show m < (s.cs ++ [c]).length; simp; omega, ?_, ?_⟩
    · show _ ∈ (s.cs ++ [c]).getD m []
      rw [e]; exact h2
    · show ∀ l ∈ (s.cs ++ [c]).getD m [], _
      rw [e]; exact h3
/-- What a scan tells. -/
theorem scanV_some {val : List Int} : ∀ {c : List Int} {left u : Int}, (∀ l ∈ c, l ≠ 0) → scanV val left c = some u → (left ≠ 0 → u = left) ∧ (u = left ∨ u ∈ c ∧ truV val u = 0) ∧ ∀ l ∈ c, truV val l ≠ 1 ∧ (truV val l = 0 → l = u)
  | [], left, u, _, h => by
    simp only [scanV, Option.some.injEq] at h
    subst h
    exact ⟨fun _ => rfl, .inl rfl, by simp⟩
  | l :: r, left, u, h0, h => by
    have hl0 := h0 l (by simp)
    rw [scanV] at h
    by_cases h1 : truV val l = 1
    · rw [if_pos h1] at h; cases h
    · rw [if_neg h1] at h
      by_cases h2 : truV val l = 0
      · rw [if_pos h2] at h
        by_cases h3 : left ≠ 0 ∧ left ≠ l
        · rw [if_pos h3] at h; cases h
        · rw [if_neg h3] at h
          obtain ⟨a, b, c⟩ := scanV_some (fun x hx => h0 x (by simp [hx])) h
          have hu := a hl0
          refine ⟨fun hl => by rw [hu]; exact Decidable.byContradiction fun e => h3 ⟨hl, fun e2 => e e2.symm⟩, .inr ⟨by rw [hu]; simp, by rw [hu]; exact h2⟩, fun x hx => ?_⟩
          rcases List.mem_cons.1 hx with rfl | hx
          · exact ⟨h1, fun _ => hu.symm⟩
          · exact c x hx
      · rw [if_neg h2] at h
        obtain ⟨a, b, c⟩ := scanV_some (fun x hx => h0 x (by simp [hx])) h
        refine ⟨a, b.imp_right fun ⟨x, y⟩ => ⟨by simp [x], y⟩, fun x hx => ?_⟩
        rcases List.mem_cons.1 hx with rfl | hx
        · exact ⟨h1, fun e => absurd e h2⟩
        · exact c x hx
theorem scanV_none {val : List Int} : ∀ {c : List Int} {left : Int}, (∀ l ∈ c, l ≠ 0) → scanV val left c = none → (∃ l ∈ c, truV val l = 1) ∨ (left ≠ 0 ∧ ∃ b ∈ c, b ≠ left ∧ truV val b = 0) ∨ ∃ a ∈ c, ∃ b ∈ c, a ≠ b ∧ truV val a = 0 ∧ truV val b = 0
  | [], left, _, h => by cases h
  | l :: r, left, h0, h => by
    have hl0 := h0 l (by simp)
    rw [scanV] at h
    by_cases h1 : truV val l = 1
    · exact .inl ⟨l, by simp, h1⟩
    · rw [if_neg h1] at h
      by_cases h2 : truV val l = 0
      · rw [if_pos h2] at h
        by_cases h3 : left ≠ 0 ∧ left ≠ l
        · exact .inr (.inl ⟨h3.1, l, by simp, fun e => h3.2 e.symm, h2⟩)
        · rw [if_neg h3] at h
          rcases scanV_none (fun x hx => h0 x (by simp [hx])) h with ⟨x, hx, hx1⟩ | ⟨_, b, hb, hne, hb0⟩ | ⟨a, ha, b, hb, hr⟩
          · exact .inl ⟨x, by simp [hx], hx1⟩
          · exact .inr (.inr ⟨l, by simp, b, by simp [hb], fun e => hne e.symm, h2, hb0⟩)
          · exact .inr (.inr ⟨a, by simp [ha], b, by simp [hb], hr⟩)
      · rw [if_neg h2] at h
        rcases scanV_none (fun x hx => h0 x (by simp [hx])) h with ⟨x, hx, hx1⟩ | ⟨hl, b, hb, hne, hb0⟩ | ⟨a, ha, b, hb, hr⟩
        · exact .inl ⟨x, by simp [hx], hx1⟩
        · exact .inr (.inl ⟨hl, b, by simp [hb], hne, hb0⟩)
        · exact .inr (.inr ⟨a, by simp [ha], b, by simp [hb], hr⟩)
end Go.Proofs.Ytafeehlpmdligaa
/- What is blamed follows at once. -/
namespace Go.Proofs.Ytafeehlpmdligaa
open Go.RowKit M
set_option linter.unusedSimpArgs false
set_option linter.unusedVariables false
theorem Sv.Wf.lit_of {s : Sv} (h : s.Wf) {l : Int} (hl : l ∈ s.tr) : (l.natAbs : Int) * s.val.getD l.natAbs 0 = l := by
  obtain ⟨h0, hn⟩ := h.trl l hl
  have h1 := (h.true_iff h0 hn).2 hl
  unfold truV at h1
  split at h1
  · have : s.val.getD l.natAbs 0 = -1 := by omega
    rw [this]; omega
  · rw [h1]; omega
/-- A literal's variable has a value. -/
def Sv.has (s : Sv) (l : Int) : Prop := l ∈ s.tr ∨ -l ∈ s.tr
theorem Sv.has_abs {s : Sv} {l : Int} : s.has l ↔ l.natAbs ∈ s.tr.map Int.natAbs := by
  unfold Sv.has
  rw [List.mem_map]
  constructor
  · rintro (h | h)
    · exact ⟨_, h, rfl⟩
    · exact ⟨_, h, Int.natAbs_neg _⟩
  · rintro ⟨x, hx, e⟩
    rcases Int.natAbs_eq_natAbs_iff.1 e with rfl | rfl
    · exact .inl hx
    · exact .inr (by simpa using hx)
def Han (s : Sv) (b : Bl) (l : Int) : Prop := l ∈ b.todo ∨ l.natAbs ∈ b.seen ∨ s.dep.getD l.natAbs 0 = 0
structure BlOk (s : Sv) (m : Nat) (b : Bl) : Prop where
  todo : ∀ l ∈ b.todo, l ≠ 0 ∧ s.has l
  nodup : b.seen.Nodup
  seen : ∀ v ∈ b.seen, v ∈ s.tr.map Int.natAbs ∧ s.dep.getD v 0 ≠ 0
  cov : ∀ l ∈ s.cs.getD m [], Han s b l
  covr : ∀ v ∈ b.seen, s.rea.getD v 0 ≠ 0 → ∀ l ∈ s.cs.getD (s.rea.getD v 0 - 1) [], Han s b l
  out : ∀ x, x ∈ b.out ↔ ∃ v ∈ b.seen, s.rea.getD v 0 = 0 ∧ x = -(v : Int) * s.val.getD v 0
  outn : (b.out.map Int.natAbs).Nodup
/-- A clause all of whose literals are false. -/
structure Conflict (s : Sv) (m : Nat) : Prop where
  lt : m < s.cs.length
  all : ∀ l ∈ s.cs.getD m [], -l ∈ s.tr
theorem getD_mem {α : Type} {l : List α} {i : Nat} {d : α} (h : i < l.length) : l.getD i d ∈ l := by
  simp [List.getD_eq_getElem?_getD, h]
theorem Sv.Wf.clause {s : Sv} (h : s.Wf) (m : Nat) : ∀ l ∈ s.cs.getD m [], l ≠ 0 ∧ l.natAbs ≤ s.n := by
  intro l hl
  by_cases hm : m < s.cs.length
  · exact h.lit _ (getD_mem hm) l hl
  · rw [List.getD_eq_getElem?_getD, List.getElem?_eq_none (by omega)] at hl
    simp at hl
theorem BlOk.start {s : Sv} (h : s.Wf) {m : Nat} (hc : Conflict s m) : BlOk s m ⟨[], s.cs.getD m [], []⟩ :=
  ⟨fun l hl => ⟨(h.clause m l hl).1, .inr (hc.all l hl)⟩, by simp, by simp, fun l hl => .inl hl, by simp, by simp, by simp⟩
theorem mem_dropLast_or {α : Type} {l : List α} {a x : α} (h : l.getLast? = some a) (hx : x ∈ l) : x ∈ l.dropLast ∨ x = a := by
  have hne : l ≠ [] := by rintro rfl; cases h
  rw [← List.dropLast_concat_getLast hne, List.mem_append, List.mem_singleton] at hx
  rw [List.getLast?_eq_some_getLast hne] at h
  injection h with h
  rw [← h]
  exact hx
theorem Sv.Wf.pos_of {s : Sv} (h : s.Wf) {v : Nat} (hv : v ∈ s.tr.map Int.natAbs) : ∃ (p : Nat) (hp : p < s.tr.length), s.tr[p].natAbs = v := by
  obtain ⟨x, hx, e⟩ := List.mem_map.1 hv
  obtain ⟨p, hp, rfl⟩ := List.getElem_of_mem hx
  exact ⟨p, hp, e⟩
theorem Sv.Wf.v_le {s : Sv} (h : s.Wf) {v : Nat} (hv : v ∈ s.tr.map Int.natAbs) : 1 ≤ v ∧ v ≤ s.n := by
  obtain ⟨x, hx, e⟩ := List.mem_map.1 hv
  have := h.trl x hx
  omega
theorem BlOk.step {s : Sv} (h : s.Wf) {m : Nat} {b : Bl} (hb : BlOk s m b) (hne : b.todo ≠ []) : BlOk s m (s.blameStep b) := by
  obtain ⟨l, hl⟩ : ∃ l, b.todo.getLast? = some l := ⟨_, List.getLast?_eq_some_getLast hne⟩
  have hlm : l ∈ b.todo := List.mem_of_getLast? hl
  obtain ⟨hl0, hlh⟩ := hb.todo l hlm
  have hdl : ∀ x, x ∈ b.todo.dropLast → x ∈ b.todo := fun x hx => List.dropLast_subset _ hx
  unfold Sv.blameStep
  rw [hl]
  simp only
  by_cases h1 : l.natAbs ∈ b.seen ∨ s.dep.getD l.natAbs 0 = 0
  · rw [if_pos h1]
    have han : ∀ x, Han s b x → Han s { b with todo := b.todo.dropLast } x := fun x hx => by
      rcases hx with hx | hx | hx
      · rcases mem_dropLast_or hl hx with hx | rfl
        · exact .inl hx
        · rcases h1 with h1 | h1
          · exact .inr (.inl h1)
          · exact .inr (.inr h1)
      · exact .inr (.inl hx)
      · exact .inr (.inr hx)
    exact ⟨fun x hx => hb.todo x (hdl x hx), hb.nodup, hb.seen, fun x hx => han x (hb.cov x hx), fun v hv hr x hx => han x (hb.covr v hv hr x hx), hb.out, hb.outn⟩
  · rw [if_neg h1]
    have h2 : l.natAbs ∉ b.seen := fun e => h1 (.inl e)
    have h3 : s.dep.getD l.natAbs 0 ≠ 0 := fun e => h1 (.inr e)
    have hlv := Sv.has_abs.1 hlh
    have hseen : ∀ v ∈ l.natAbs :: b.seen, v ∈ s.tr.map Int.natAbs ∧ s.dep.getD v 0 ≠ 0 := fun v hv => by
      rcases List.mem_cons.1 hv with rfl | hv
      · exact ⟨hlv, h3⟩
      · exact hb.seen v hv
    have hnd : (l.natAbs :: b.seen).Nodup := List.nodup_cons.2 ⟨h2, hb.nodup⟩
    by_cases h4 : s.rea.getD l.natAbs 0 = 0
    · rw [if_pos h4]
      have han : ∀ x, Han s b x → Han s ⟨l.natAbs :: b.seen, b.todo.dropLast, b.out ++ [-(l.natAbs : Int) * s.val.getD l.natAbs 0]⟩ x := fun x hx => by
        rcases hx with hx | hx | hx
        · rcases mem_dropLast_or hl hx with hx | rfl
          · exact .inl hx
          · exact .inr (.inl (by simp))
        · exact .inr (.inl (by simp [hx]))
        · exact .inr (.inr hx)
      refine ⟨fun x hx => hb.todo x (hdl x hx), hnd, hseen, fun x hx => han x (hb.cov x hx), fun v hv hr x hx => ?_, fun x => ?_, ?_⟩
      · rcases List.mem_cons.1 hv with rfl | hv
        · exact absurd h4 hr
        · exact han x (hb.covr v hv hr x hx)
      · simp only [List.mem_append, List.mem_singleton, hb.out, List.mem_cons, or_and_right, exists_or, exists_eq_left]
        constructor
        · rintro (h | h)
          · exact .inr h
          · exact .inl ⟨h4, by simpa using h⟩
        · rintro (h | h)
          · exact .inr (by simpa using h.2)
          · exact .inl h
      · rw [List.map_append, List.nodup_append]
        refine ⟨hb.outn, by simp, ?_⟩
        intro a ha c hc e
        simp only [List.map_cons, List.map_nil, List.mem_singleton] at hc
        subst hc e
        obtain ⟨x, hx, e⟩ := List.mem_map.1 ha
        obtain ⟨v, hv, _, rfl⟩ := (hb.out x).1 hx
        have abs1 : ∀ v, v ∈ s.tr.map Int.natAbs → (-(v : Int) * s.val.getD v 0).natAbs = v := fun v hv => by
          obtain ⟨p, hp, rfl⟩ := h.pos_of hv
          rw [Int.neg_mul, h.lit_of (List.getElem_mem hp), Int.natAbs_neg]
        rw [abs1 v (hb.seen v hv).1, abs1 _ hlv] at e
        subst e
        exact h2 hv
    · rw [if_neg h4]
      have han : ∀ x, Han s b x → Han s ⟨l.natAbs :: b.seen, b.todo.dropLast ++ s.cs.getD (s.rea.getD l.natAbs 0 - 1) [], b.out⟩ x := fun x hx => by
        rcases hx with hx | hx | hx
        · rcases mem_dropLast_or hl hx with hx | rfl
          · exact .inl (List.mem_append_left _ hx)
          · exact .inr (.inl (by simp))
        · exact .inr (.inl (by simp [hx]))
        · exact .inr (.inr hx)
      refine ⟨fun x hx => ?_, hnd, hseen, fun x hx => han x (hb.cov x hx), fun v hv hr x hx => ?_, fun x => ?_, hb.outn⟩
      · rcases List.mem_append.1 hx with hx | hx
        · exact hb.todo x (hdl x hx)
        · refine ⟨(h.clause _ x hx).1, ?_⟩
          obtain ⟨p, hp, e⟩ := h.pos_of hlv
          obtain ⟨q, hq⟩ : ∃ q, s.rea.getD l.natAbs 0 = q + 1 := ⟨_, (Nat.succ_pred_eq_of_ne_zero h4).symm⟩
          rw [hq, Nat.add_sub_cancel] at hx
          rcases (h.why p hp q (by rw [e]; exact hq)).2.2 x hx with rfl | h5
          · exact .inl (List.getElem_mem _)
          · exact .inr (List.mem_of_mem_take h5)
      · rcases List.mem_cons.1 hv with rfl | hv
        · exact .inl (List.mem_append_right _ hx)
        · exact han x (hb.covr v hv hr x hx)
      · simp only [hb.out, List.mem_cons, or_and_right, exists_or, exists_eq_left]
        constructor
        · exact .inr
        · rintro (h | h)
          · exact absurd h.1 h4
          · exact h
theorem foldl_max : ∀ (cs : List (List Int)) (a : Nat), a ≤ cs.foldl (fun a c => max a c.length) a ∧ ∀ c ∈ cs, c.length ≤ cs.foldl (fun a c => max a c.length) a
  | [], a => by simp
  | d :: cs, a => by
    obtain ⟨h1, h2⟩ := foldl_max cs (max a d.length)
    rw [List.foldl_cons]
    refine ⟨by omega, fun c hc => ?_⟩
    rcases List.mem_cons.1 hc with rfl | hc
    · omega
    · exact h2 c hc
theorem Sv.longest_le (s : Sv) (m : Nat) : (s.cs.getD m []).length ≤ s.longest := by
  by_cases hm : m < s.cs.length
  · exact (foldl_max s.cs 0).2 _ (getD_mem hm)
  · rw [List.getD_eq_getElem?_getD, List.getElem?_eq_none (by omega)]
    simp
theorem nodup_le_n : ∀ (n : Nat) (l : List Nat), l.Nodup → (∀ v ∈ l, 1 ≤ v ∧ v ≤ n) → l.length ≤ n := by
  intro n l hn h
  have := nodup_le (l.map fun v : Nat => (v : Int)) ((List.range n).map fun i : Nat => (i : Int) + 1) (by
    unfold List.Nodup
    rw [List.pairwise_map]
    exact hn.imp fun a b => a (by omega)) (fun x hx => by
    obtain ⟨v, hv, rfl⟩ := List.mem_map.1 hx
    have := h v hv
    exact List.mem_map.2 ⟨v - 1, by simp; omega, by omega⟩)
  simpa using this
theorem BlOk.len {s : Sv} (h : s.Wf) {m : Nat} {b : Bl} (hb : BlOk s m b) : b.seen.length ≤ s.n := nodup_le_n s.n b.seen hb.nodup fun v hv => h.v_le (hb.seen v hv).1
theorem blameN_some {s : Sv} (h : s.Wf) {m : Nat} : ∀ (k : Nat) (b : Bl), BlOk s m b → (s.n - b.seen.length) * (s.longest + 1) + b.todo.length < k → ∃ b', s.blameN k b = some b' ∧ BlOk s m b' ∧ b'.todo = []
  | 0, b, _, hk => by omega
  | k + 1, b, hb, hk => by
    rw [Sv.blameN]
    by_cases ht : b.todo = []
    · rw [if_pos ht]
      exact ⟨b, rfl, hb, ht⟩
    · rw [if_neg ht]
      refine blameN_some h k _ (hb.step h ht) ?_
      have hb' := (hb.step h ht).len h
      obtain ⟨l, hl⟩ : ∃ l, b.todo.getLast? = some l := ⟨_, List.getLast?_eq_some_getLast ht⟩
      have hlen : 0 < b.todo.length := List.length_pos_iff.2 ht
      revert hb'
      unfold Sv.blameStep
      rw [hl]
      simp only
      split
      · intro _
        simp only [List.length_dropLast]
        omega
      · split
        · intro hb'
          simp only [List.length_cons] at hb'
          simp only [List.length_dropLast, List.length_cons]
          have : (s.n - (b.seen.length + 1)) * (s.longest + 1) ≤ (s.n - b.seen.length) * (s.longest + 1) := Nat.mul_le_mul_right _ (by omega)
          omega
        · intro hb'
          simp only [List.length_cons] at hb'
          simp only [List.length_append, List.length_dropLast, List.length_cons]
          have hL := s.longest_le (s.rea.getD l.natAbs 0 - 1)
          have : (s.n - b.seen.length) * (s.longest + 1) = (s.n - (b.seen.length + 1)) * (s.longest + 1) + (s.longest + 1) := by
            rw [← Nat.succ_mul]
            congr 1
            omega
          omega
theorem blame_end {s : Sv} (h : s.Wf) {m : Nat} (hc : Conflict s m) : ∃ b, s.blameN (s.blameFuel m) ⟨[], s.cs.getD m [], []⟩ = some b ∧ BlOk s m b ∧ b.todo = [] := by
  refine blameN_some h _ _ (BlOk.start h hc) ?_
  unfold Sv.blameFuel
  simp
theorem insD_perm (dep : List Nat) (x : Int) : ∀ l, (insD dep x l).Perm (x :: l)
  | [] => List.Perm.refl _
  | y :: r => by
    rw [insD]
    split
    · exact List.Perm.refl _
    · exact ((insD_perm dep x r).cons y).trans (List.Perm.swap x y r)
theorem sortD_perm (dep : List Nat) : ∀ l, (sortD dep l).Perm l
  | [] => List.Perm.refl _
  | x :: r => (insD_perm dep x _).trans ((sortD_perm dep r).cons x)
theorem insD_sorted {dep : List Nat} {x : Int} : ∀ {l : List Int}, l.Pairwise (fun a b => dep.getD b.natAbs 0 ≤ dep.getD a.natAbs 0) → (insD dep x l).Pairwise fun a b => dep.getD b.natAbs 0 ≤ dep.getD a.natAbs 0
  | [], _ => by simp [insD]
  | y :: r, h => by
    obtain ⟨h1, h2⟩ := List.pairwise_cons.1 h
    rw [insD]
    by_cases hd : deeper dep x y = true
    · rw [if_pos hd]
      have hd' : dep.getD y.natAbs 0 < dep.getD x.natAbs 0 := by simpa [deeper] using hd
      refine List.pairwise_cons.2 ⟨fun z hz => ?_, h⟩
      rcases List.mem_cons.1 hz with rfl | hz
      · omega
      · have := h1 z hz; omega
    · rw [if_neg hd]
      have hd' : ¬ dep.getD y.natAbs 0 < dep.getD x.natAbs 0 := by simpa [deeper] using hd
      refine List.pairwise_cons.2 ⟨fun z hz => ?_, insD_sorted h2⟩
      rcases List.mem_cons.1 ((insD_perm dep x r).mem_iff.1 hz) with rfl | hz
      · omega
      · exact h1 z hz
theorem sortD_sorted (dep : List Nat) : ∀ l, (sortD dep l).Pairwise fun a b => dep.getD b.natAbs 0 ≤ dep.getD a.natAbs 0
  | [] => by simp [sortD]
  | x :: r => insD_sorted (sortD_sorted dep r)
/-- What is blamed: the negatives of decisions. -/
structure Blamed (s : Sv) (m : Nat) (c : List Int) (seen : List Nat) : Prop where
  dec : ∀ x ∈ c, ∃ (p : Nat) (hp : p < s.tr.length), p ∈ s.lv ∧ x = -s.tr[p]
  sorted : c.Pairwise fun a b => s.dep.getD b.natAbs 0 ≤ s.dep.getD a.natAbs 0
  nodup : (c.map Int.natAbs).Nodup
  cov : ∀ l ∈ s.cs.getD m [], l.natAbs ∈ seen ∨ s.dep.getD l.natAbs 0 = 0
  covr : ∀ v ∈ seen, s.rea.getD v 0 ≠ 0 → ∀ l ∈ s.cs.getD (s.rea.getD v 0 - 1) [], l.natAbs ∈ seen ∨ s.dep.getD l.natAbs 0 = 0
  out : ∀ (p : Nat) (hp : p < s.tr.length), s.tr[p].natAbs ∈ seen → p ∈ s.lv → -s.tr[p] ∈ c
theorem blamed {s : Sv} (h : s.Wf) {m : Nat} (hc : Conflict s m) : ∃ seen, Blamed s m (s.blame m) seen := by
  obtain ⟨b, h1, h2, h3⟩ := blame_end h hc
  have hperm : (s.blame m).Perm b.out := by
    unfold Sv.blame
    rw [h1]
    exact sortD_perm _ _
  have hlit : ∀ (p : Nat) (hp : p < s.tr.length), -((s.tr[p].natAbs : Nat) : Int) * s.val.getD s.tr[p].natAbs 0 = -s.tr[p] := fun p hp => by rw [Int.neg_mul, h.lit_of (List.getElem_mem hp)]
  have han : ∀ l, Han s b l → l.natAbs ∈ b.seen ∨ s.dep.getD l.natAbs 0 = 0 := fun l hl => by
    rcases hl with hl | hl
    · rw [h3] at hl; cases hl
    · exact hl
  refine ⟨b.seen, fun x hx => ?_, ?_, (hperm.map _).nodup_iff.2 h2.outn, fun l hl => han l (h2.cov l hl), fun v hv hr l hl => han l (h2.covr v hv hr l hl), fun p hp hs hl => ?_⟩
  · obtain ⟨v, hv, hr, rfl⟩ := (h2.out x).1 (hperm.mem_iff.1 hx)
    obtain ⟨p, hp, rfl⟩ := h.pos_of (h2.seen v hv).1
    exact ⟨p, hp, (h.dec p hp).1 hr, hlit p hp⟩
  · unfold Sv.blame
    exact sortD_sorted _ _
  · exact hperm.mem_iff.2 ((h2.out _).2 ⟨_, hs, (h.dec p hp).2 hl, (hlit p hp).symm⟩)
/-- A clause but for one literal false makes it hold in a closed set. -/
theorem Closed.one {cs : List (List Int)} {g : List Int} {T : Int → Bool} (hT : Closed cs g T) {d : List Int} (hd : d ∈ cs) (h0 : ∀ l ∈ d, l ≠ 0) {u : Int} (h : ∀ x ∈ d, x = u ∨ T (-x) = true) : T u = true := by
  rcases hT.units d hd with hn | ⟨v, hv, hs, hTv⟩
  · obtain ⟨a, ha, b, hb, hne, hsa, hsb⟩ := (scan_none T d h0).1 hn
    have ea : a = u := by rcases h a ha with e | e; exact e; rw [hsa] at e; cases e
    have eb : b = u := by rcases h b hb with e | e; exact e; rw [hsb] at e; cases e
    exact absurd (ea.trans eb.symm) hne
  · obtain ⟨h1, h2, h3⟩ := (scan_some T v hv d h0).1 hs
    rcases h v h1 with e | e
    · rw [← e]; exact hTv
    · rw [h2] at e; cases e
theorem filter_le_mono {l : List Nat} {p q : Nat} (h : p ≤ q) : (l.filter (· ≤ p)).length ≤ (l.filter (· ≤ q)).length := by
  induction l with
  | nil => simp
  | cons a l ih =>
    simp only [List.filter_cons]
    by_cases h1 : a ≤ p
    · have h2 : a ≤ q := by omega
      simp [h1, h2, ih]
    · by_cases h2 : a ≤ q
      · simp [h1, h2]; omega
      · simp [h1, h2, ih]
theorem blame_follows {s : Sv} (h : s.Wf) {m : Nat} (hc : Conflict s m) : Follows s.cs (s.blame m) := by
  obtain ⟨seen, hB⟩ := blamed h hc
  rintro ⟨T, hT⟩
  have claim : ∀ p (hp : p < s.tr.length), (s.tr[p].natAbs ∈ seen ∨ s.dep.getD s.tr[p].natAbs 0 = 0) → T s.tr[p] = true := by
    intro p
    induction p using Nat.strongRecOn with
    | ind p ih =>
      intro hp hs
      cases hr : s.rea.getD s.tr[p].natAbs 0 with
      | zero =>
        have hlv := (h.dec p hp).1 hr
        have hd : s.dep.getD s.tr[p].natAbs 0 ≠ 0 := by
          rw [h.dpt p hp]
          have : p ∈ s.lv.filter (· ≤ p) := by simp [hlv]
          exact Nat.ne_of_gt (List.length_pos_of_mem this)
        rcases hs with hs | hs
        · have := hB.out p hp hs hlv
          exact hT.has _ (List.mem_map.2 ⟨_, this, by omega⟩)
        · exact absurd hs hd
      | succ q =>
        obtain ⟨h1, h2, h3⟩ := h.why p hp q hr
        refine hT.one (getD_mem h1) (fun l hl => (h.clause q l hl).1) fun x hx => ?_
        rcases h3 x hx with e | e
        · exact .inl e
        · right
          obtain ⟨i, hi, e2⟩ := List.mem_take_iff_getElem.1 e
          have hip : i < p := by omega
          have := ih i hip (by omega)
          rw [e2] at this
          refine this ?_
          rw [Int.natAbs_neg]
          rcases hs with hs | hs
          · have := hB.covr _ hs (by rw [hr]; omega) x (by rw [hr]; exact hx)
            exact this
          · right
            have e3 : x.natAbs = s.tr[i].natAbs := by rw [e2, Int.natAbs_neg]
            rw [e3, h.dpt i (by omega)]
            rw [h.dpt p hp] at hs
            have := filter_le_mono (l := s.lv) (Nat.le_of_lt hip)
            omega
  have hall : ∀ l ∈ s.cs.getD m [], T (-l) = true := fun l hl => by
    obtain ⟨p, hp, e⟩ := List.getElem_of_mem (hc.all l hl)
    have := claim p hp (by rw [e, Int.natAbs_neg]; exact hB.cov l hl)
    rw [e] at this
    exact this
  have hz := (scan_zero T _ (fun l hl => (h.clause m l hl).1)).2 hall
  rcases hT.units _ (getD_mem hc.lt) with hn | ⟨u, hu, hs, _⟩
  · rw [hz] at hn; cases hn
  · rw [hz] at hs
    injection hs with hs
    exact hu hs.symm
end Go.Proofs.Ytafeehlpmdligaa
/- What follows; the search keeps its order. -/
namespace Go.Proofs.Ytafeehlpmdligaa
open Go.RowKit M
set_option linter.unusedSimpArgs false
set_option linter.unusedVariables false
/-- Nothing follows from this clause at P that K does not hold. -/
def Fine (P K : List Int) (c : List Int) : Prop := (∃ l ∈ c, l ∈ K) ∨ ∃ a ∈ c, ∃ b ∈ c, a ≠ b ∧ -a ∉ P ∧ -b ∉ P
theorem Fine.mono {P K K' : List Int} {c : List Int} (h : Fine P K c) (hk : ∀ x ∈ K, x ∈ K') : Fine P K' c := h.imp_left fun ⟨l, h1, h2⟩ => ⟨l, h1, hk l h2⟩
theorem Fine.next {P K : List Int} {c : List Int} {l : Int} (h : Fine P K c) (hn : -l ∉ c) : Fine (P ++ [l]) K c := by
  rcases h with h | ⟨a, ha, b, hb, hne, h1, h2⟩
  · exact .inl h
  · have key : ∀ x ∈ c, -x ∉ P → -x ∉ P ++ [l] := fun x hx hp hm => by
      rw [List.mem_append, List.mem_singleton] at hm
      rcases hm with hm | hm
      · exact hp hm
      · exact hn (by rw [← hm]; simpa using hx)
    exact .inr ⟨a, ha, b, hb, hne, key a ha h1, key b hb h2⟩
/-- Only the trail (and what hangs on it) has grown. -/
structure Sv.Le (s s' : Sv) : Prop where
  n : s'.n = s.n
  cs : s'.cs = s.cs
  lv : s'.lv = s.lv
  pf : s'.pf = s.pf
  dn : s.dn ≤ s'.dn
  tr : ∃ ex, s'.tr = s.tr ++ ex
theorem Sv.Le.refl (s : Sv) : s.Le s := ⟨rfl, rfl, rfl, rfl, Nat.le_refl _, [], by simp⟩
theorem Sv.Le.trans {a b c : Sv} (h : a.Le b) (k : b.Le c) : a.Le c := by
  obtain ⟨x, hx⟩ := h.tr
  obtain ⟨y, hy⟩ := k.tr
  exact ⟨k.n.trans h.n, k.cs.trans h.cs, k.lv.trans h.lv, k.pf.trans h.pf, Nat.le_trans h.dn k.dn, x ++ y, by rw [hy, hx, List.append_assoc]⟩
theorem Sv.Le.mem {s s' : Sv} (h : s.Le s') : ∀ x ∈ s.tr, x ∈ s'.tr := fun x hx => by
  obtain ⟨y, hy⟩ := h.tr
  rw [hy]; exact List.mem_append_left _ hx
theorem Sv.Le.take {s s' : Sv} (h : s.Le s') {t : Nat} (ht : t ≤ s.tr.length) : s'.tr.take t = s.tr.take t := by
  obtain ⟨y, hy⟩ := h.tr
  rw [hy, List.take_append_of_le_length ht]
theorem look_spec {s : Sv} (h : s.Wf) {m : Nat} (hm : m < s.cs.length) :
    ((s.look m).1 = true ∧ (s.look m).2.Wf ∧ s.Le (s.look m).2 ∧ (s.look m).2.dn = s.dn ∧ ∀ P : List Int, (∀ x ∈ P, x ∈ s.tr) → Fine P (s.look m).2.tr (s.cs.getD m [])) ∨ ((s.look m).1 = false ∧ (s.look m).2 = s ∧ Conflict s m) := by
  have h0 := h.clause m
  unfold Sv.look
  cases hs : scanV s.val 0 (s.cs.getD m []) with
  | none =>
    refine .inl ⟨rfl, h, Sv.Le.refl s, rfl, fun P hP => ?_⟩
    rcases scanV_none (fun l hl => (h0 l hl).1) hs with ⟨l, hl, h1⟩ | ⟨h1, _⟩ | ⟨a, ha, b, hb, hne, h1, h2⟩
    · exact .inl ⟨l, hl, (h.true_iff (h0 l hl).1 (h0 l hl).2).1 h1⟩
    · exact absurd rfl h1
    · exact .inr ⟨a, ha, b, hb, hne, fun e => ((h.free_iff (h0 a ha).1 (h0 a ha).2).1 h1).2 (hP _ e), fun e => ((h.free_iff (h0 b hb).1 (h0 b hb).2).1 h2).2 (hP _ e)⟩
  | some u =>
    obtain ⟨_, h2, h3⟩ := scanV_some (fun l hl => (h0 l hl).1) hs
    simp only
    by_cases hu : u = 0
    · rw [if_pos hu]
      refine .inr ⟨rfl, rfl, hm, fun l hl => ?_⟩
      obtain ⟨h4, h5⟩ := h3 l hl
      refine (h.false_iff (h0 l hl).1 (h0 l hl).2).1 ?_
      have := truV_tri h.tri l
      have h6 : truV s.val l ≠ 0 := fun e => (h0 l hl).1 ((h5 e).trans hu)
      omega
    · rw [if_neg hu]
      rcases h2 with h2 | ⟨h2, h4⟩
      · exact absurd h2 hu
      · obtain ⟨f1, f2⟩ := (h.free_iff (h0 u h2).1 (h0 u h2).2).1 h4
        refine .inl ⟨rfl, ?_, ⟨rfl, rfl, rfl, rfl, Nat.le_refl _, [u], rfl⟩, rfl, fun P hP => .inl ⟨u, h2, by simp [Sv.put]⟩⟩
        have := h.push (h0 u h2).1 (h0 u h2).2 f1 f2 s.lv (m + 1) (.inr ⟨rfl, m, rfl, hm, h2, fun x hx => ?_⟩)
        · exact this
        · by_cases hxu : x = u
          · exact .inl hxu
          · right
            obtain ⟨h5, h6⟩ := h3 x hx
            refine (h.false_iff (h0 x hx).1 (h0 x hx).2).1 ?_
            have := truV_tri h.tri x
            have h7 : truV s.val x ≠ 0 := fun e => hxu (h6 e)
            omega
theorem looks_spec : ∀ (L : List Nat) {s : Sv}, s.Wf → (∀ m ∈ L, m < s.cs.length) → (s.looks L).1.Wf ∧ s.Le (s.looks L).1 ∧ (s.looks L).1.dn = s.dn ∧ match (s.looks L).2 with
    | none => ∀ m ∈ L, ∀ P : List Int, (∀ x ∈ P, x ∈ s.tr) → Fine P (s.looks L).1.tr (s.cs.getD m [])
    | some m => Conflict (s.looks L).1 m
  | [], s, h, _ => ⟨h, Sv.Le.refl s, rfl, by simp [Sv.looks]⟩
  | m :: r, s, h, hL => by
    have hm := hL m (by simp)
    rw [Sv.looks]
    rcases look_spec h hm with ⟨h1, h2, h3, h4, h5⟩ | ⟨h1, h2, h3⟩
    · rw [h1, if_pos rfl]
      obtain ⟨i1, i2, i3, i4⟩ := looks_spec r h2 (fun q hq => by rw [h3.cs]; exact hL q (by simp [hq]))
      refine ⟨i1, h3.trans i2, by rw [i3, h4], ?_⟩
      revert i4
      cases ((s.look m).2.looks r).2 with
      | some q => exact fun i4 => i4
      | none =>
        intro i4 q hq P hP
        rcases List.mem_cons.1 hq with rfl | hq
        · exact (h5 P hP).mono i2.mem
        · have := i4 q hq P (fun x hx => h3.mem x (hP x hx))
          rw [h3.cs] at this
          exact this
    · rw [h1, if_neg (by simp), h2]
      exact ⟨h, Sv.Le.refl s, rfl, h3⟩
/-- All clauses are fine with what has been worked through. -/
def Sv.Cur (s : Sv) : Prop := ∀ m, m < s.cs.length → Fine (s.tr.take s.dn) s.tr (s.cs.getD m [])
theorem round_spec {s : Sv} (h : s.Wf) (hc : s.Cur) (hd : s.dn < s.tr.length) : s.round.1.Wf ∧ s.Le s.round.1 ∧ s.round.1.dn = s.dn + 1 ∧ match s.round.2 with
    | none => s.round.1.Cur
    | some m => Conflict s.round.1 m := by
  have h1 : ({ s with dn := s.dn + 1 } : Sv).Wf := ⟨h.vlen, h.rlen, h.dlen, h.lit, h.trl, h.nodup, h.tval, h.tri, h.zero, h.lvs, h.lvl, hd, h.dpt, h.dec, h.why⟩
  obtain ⟨l, hl⟩ : ∃ l, l = s.tr[s.dn] := ⟨_, rfl⟩
  have hg : s.tr.getD s.dn 0 = l := by rw [hl]; simp [hd]
  have hmo : ∀ m, m ∈ ocs s.cs l ↔ ∃ c, s.cs[m]? = some c ∧ -l ∈ c := fun m => mem_ocs s.cs
  have hlt : ∀ m ∈ ocs s.cs l, m < s.cs.length := fun m hm => by
    obtain ⟨c, hc, _⟩ := (hmo m).1 hm
    exact (List.getElem?_eq_some_iff.1 hc).1
  obtain ⟨i1, i2, i3, i4⟩ := looks_spec (ocs s.cs l) h1 hlt
  have e : s.round = ({ s with dn := s.dn + 1 } : Sv).looks (ocs s.cs l) := by rw [Sv.round, hg]
  rw [e]
  have hle : s.Le (({ s with dn := s.dn + 1 } : Sv).looks (ocs s.cs l)).1 := ⟨i2.n, i2.cs, i2.lv, i2.pf, by rw [i3]; exact Nat.le_succ _, i2.tr⟩
  refine ⟨i1, hle, i3, ?_⟩
  revert i4
  cases (({ s with dn := s.dn + 1 } : Sv).looks (ocs s.cs l)).2 with
  | some m => exact fun i4 => i4
  | none =>
    intro i4 m hm
    rw [hle.cs] at hm
    rw [i3, hle.cs]
    show Fine ((({ s with dn := s.dn + 1 } : Sv).looks (ocs s.cs l)).1.tr.take (s.dn + 1)) _ _
    rw [hle.take (by omega), List.take_add_one, List.getElem?_eq_getElem hd, ← hl]
    by_cases hn : -l ∈ s.cs.getD m []
    · refine i4 m ((hmo m).2 ⟨s.cs.getD m [], by simp [List.getD_eq_getElem?_getD, hm], hn⟩) _ fun x hx => ?_
      rcases List.mem_append.1 hx with hx | hx
      · exact List.mem_of_mem_take hx
      · simp at hx
        subst hx
        rw [hl]
        exact List.getElem_mem _
    · exact ((hc m hm).mono hle.mem).next hn
theorem Sv.Wf.tr_len {s : Sv} (h : s.Wf) : s.tr.length ≤ s.n := by
  have := nodup_le_n s.n (s.tr.map Int.natAbs) h.nodup fun v hv => h.v_le hv
  simpa using this
theorem followN_spec : ∀ (k : Nat) {s : Sv}, s.Wf → s.Cur → s.n < s.dn + k → ∃ r, s.followN k = some r ∧ r.1.Wf ∧ s.Le r.1 ∧ match r.2 with
    | none => r.1.dn = r.1.tr.length ∧ r.1.Cur
    | some m => Conflict r.1 m ∧ s.dn < r.1.dn
  | 0, s, h, hc, hk => by
    have := h.tr_len
    have := h.dnl
    omega
  | k + 1, s, h, hc, hk => by
    rw [Sv.followN]
    by_cases hd : s.dn < s.tr.length
    · rw [if_pos hd]
      obtain ⟨i1, i2, i3, i4⟩ := round_spec h hc hd
      generalize hr : s.round = q at i1 i2 i3 i4 ⊢
      obtain ⟨s', w⟩ := q
      simp only at i1 i2 i3 i4 ⊢
      cases w with
      | some m => exact ⟨_, rfl, i1, i2, i4, by simp only; omega⟩
      | none =>
        simp only at i4 ⊢
        obtain ⟨r, j1, j2, j3, j4⟩ := followN_spec k i1 i4 (by rw [i2.n, i3]; omega)
        refine ⟨r, j1, j2, i2.trans j3, ?_⟩
        revert j4
        cases r.2 with
        | none => exact fun j4 => j4
        | some m => exact fun j4 => ⟨j4.1, by omega⟩
    · rw [if_neg hd]
      exact ⟨_, rfl, h, Sv.Le.refl s, by have := h.dnl; simp only; omega, hc⟩
theorem follow_spec {s : Sv} (h : s.Wf) (hc : s.Cur) : s.followN (s.n + 2) = some s.follow ∧ s.follow.1.Wf ∧ s.Le s.follow.1 ∧ match s.follow.2 with
    | none => s.follow.1.dn = s.follow.1.tr.length ∧ s.follow.1.Cur
    | some m => Conflict s.follow.1 m ∧ s.dn < s.follow.1.dn := by
  obtain ⟨r, h1, h2⟩ := followN_spec (s.n + 2) h hc (by omega)
  have : s.follow = r := by rw [Sv.follow, h1]; rfl
  rw [this]
  exact ⟨h1, h2⟩
/-- What holds between two turns of the search. -/
structure Srch (orig : List (List Int)) (s : Sv) (w : Option Nat) (steps : Nat) : Prop where
  wf : s.Wf
  cs : s.cs = orig ++ s.pf
  lvf : ∀ t ∈ s.lv, ∀ m, m < s.cs.length → Fine (s.tr.take t) (s.tr.take t) (s.cs.getD m [])
  now : match w with
    | none => s.dn = s.tr.length ∧ s.Cur
    | some m => Conflict s m ∧ ∀ t ∈ s.lv, t < s.dn
  prf : ∀ i (h : i < s.pf.length), Follows (orig ++ s.pf.take i) s.pf[i]
  pfl : ∀ c ∈ s.pf, c.length ≤ s.n
  pfs : s.pf.length ≤ steps
theorem Srch.follow {orig : List (List Int)} {s : Sv} {steps : Nat} (h : s.Wf) (hc : s.Cur) (hcs : s.cs = orig ++ s.pf) (hlv : ∀ t ∈ s.lv, ∀ m, m < s.cs.length → Fine (s.tr.take t) (s.tr.take t) (s.cs.getD m [])) (hdn : ∀ t ∈ s.lv, t ≤ s.dn)
    (hprf : ∀ i (h : i < s.pf.length), Follows (orig ++ s.pf.take i) s.pf[i]) (hpl : ∀ c ∈ s.pf, c.length ≤ s.n) (hps : s.pf.length ≤ steps) : Srch orig s.follow.1 s.follow.2 steps := by
  obtain ⟨_, i1, i2, i3⟩ := follow_spec h hc
  have e1 := i2.pf
  have e2 := i2.cs
  refine ⟨i1, by rw [e1, e2]; exact hcs, fun t ht m hm => ?_, ?_, ?_, by rw [e1, i2.n]; exact hpl, by rw [e1]; exact hps⟩
  · rw [i2.lv] at ht
    rw [e2] at hm ⊢
    rw [i2.take (Nat.le_of_lt (h.lvl t ht))]
    exact hlv t ht m hm
  · revert i3
    cases s.follow.2 with
    | none => exact fun i3 => i3
    | some m =>
      intro i3
      refine ⟨i3.1, fun t ht => ?_⟩
      rw [i2.lv] at ht
      have := hdn t ht
      omega
  · intro i hi
    have hi' : i < s.pf.length := by rw [← e1]; exact hi
    have e3 : s.follow.1.pf[i] = s.pf[i] := by congr 1
    rw [e3, e1]
    exact hprf i hi'
end Go.Proofs.Ytafeehlpmdligaa
