/- The checker's state as data: its clauses, where each literal's negative stands, and the clauses of one literal. -/
import Derived.Test.YtafeehlpmdligaaRLook65c
import Derived.Test.YtafeehlpmdligaaRLight
namespace Go.Proofs.Ytafeehlpmdligaa
open Go.RowKit M
set_option linter.unusedSimpArgs false
set_option linter.unusedVariables false
def nlit (n : Nat) : V := .d (.int .i64 n)
def ocPut (oc : Int → List Nat) (n : Nat) (x : Int) : Int → List Nat := fun k => if k = -x then oc k ++ [n] else oc k
def ocAdd (oc : Int → List Nat) (n : Nat) (c : List Int) : Int → List Nat := c.foldl (fun oc x => ocPut oc n x) oc
def ocFrom : Nat → List (List Int) → (Int → List Nat) → Int → List Nat
  | _, [], oc => oc
  | n, c :: cs, oc => ocFrom (n + 1) cs (ocAdd oc n c)
def ocs (cs : List (List Int)) : Int → List Nat := ocFrom 0 cs fun _ => []
theorem ocFrom_snoc (c : List Int) : ∀ (cs : List (List Int)) (n : Nat) (oc : Int → List Nat), ocFrom n (cs ++ [c]) oc = ocAdd (ocFrom n cs oc) (n + cs.length) c
  | [], n, oc => rfl
  | d :: cs, n, oc => by
    simp only [List.cons_append, ocFrom, ocFrom_snoc c cs (n + 1), List.length_cons]
    rw [show n + 1 + cs.length = n + (cs.length + 1) by omega]
theorem ocs_snoc (cs : List (List Int)) (c : List Int) : ocs (cs ++ [c]) = ocAdd (ocs cs) cs.length c := by
  unfold ocs
  rw [ocFrom_snoc, Nat.zero_add]
theorem mem_ocAdd {m n : Nat} {l : Int} : ∀ (c : List Int) (oc : Int → List Nat), m ∈ ocAdd oc n c l ↔ m ∈ oc l ∨ m = n ∧ -l ∈ c
  | [], oc => by simp [ocAdd]
  | x :: c, oc => by
    have ih := mem_ocAdd (m := m) (n := n) (l := l) c (ocPut oc n x)
    simp only [ocAdd, List.foldl_cons] at ih ⊢
    rw [ih]
    unfold ocPut
    by_cases h : l = -x
    · have hx : -l = x := by omega
      simp only [if_pos h, List.mem_append, List.mem_singleton, List.mem_cons, List.not_mem_nil, or_false, hx, true_or, and_true]
      constructor
      · rintro ((e | e) | e)
        · exact .inl e
        · exact .inr e
        · exact .inr e.1
      · rintro (e | e)
        · exact .inl (.inl e)
        · exact .inl (.inr e)
    · have hx : ¬ -l = x := by omega
      simp [h, hx]
theorem len_ocAdd {n : Nat} {l : Int} : ∀ (c : List Int) (oc : Int → List Nat), (ocAdd oc n c l).length ≤ (oc l).length + c.length
  | [], oc => by simp [ocAdd]
  | x :: c, oc => by
    have ih := len_ocAdd (n := n) (l := l) c (ocPut oc n x)
    simp only [ocAdd, List.foldl_cons, List.length_cons] at ih ⊢
    have : (ocPut oc n x l).length ≤ (oc l).length + 1 := by unfold ocPut; split <;> simp
    omega
theorem snocInd {α : Type} {p : List α → Prop} (h0 : p []) (h1 : ∀ l a, p l → p (l ++ [a])) (l : List α) : p l := by
  have : ∀ r : List α, p r.reverse := by
    intro r
    induction r with
    | nil => exact h0
    | cons a r ih => rw [List.reverse_cons]; exact h1 _ _ ih
  have := this l.reverse
  rwa [List.reverse_reverse] at this
theorem mem_ocs {m : Nat} {l : Int} (cs : List (List Int)) : m ∈ ocs cs l ↔ ∃ c, cs[m]? = some c ∧ -l ∈ c := by
  induction cs using snocInd with
  | h0 => simp [ocs, ocFrom]
  | h1 cs d ih =>
    rw [ocs_snoc, mem_ocAdd, ih]
    constructor
    · rintro (⟨c, h1, h2⟩ | ⟨rfl, h2⟩)
      · exact ⟨c, by rw [List.getElem?_append_left (List.getElem?_eq_some_iff.1 h1).1]; exact h1, h2⟩
      · exact ⟨d, by simp, h2⟩
    · rintro ⟨c, h1, h2⟩
      rcases Nat.lt_or_ge m cs.length with hm | hm
      · exact .inl ⟨c, by rw [List.getElem?_append_left hm] at h1; exact h1, h2⟩
      · rw [List.getElem?_append_right hm] at h1
        have : m - cs.length = 0 := by
          have := (List.getElem?_eq_some_iff.1 h1).1
          simp at this
          omega
        rw [this] at h1
        simp at h1
        exact .inr ⟨by omega, by rw [h1]; exact h2⟩
theorem len_ocs {l : Int} (cs : List (List Int)) : (ocs cs l).length ≤ mass cs := by
  induction cs using snocInd with
  | h0 => simp [ocs, ocFrom]
  | h1 cs d ih =>
    rw [ocs_snoc, mass_append]
    have := len_ocAdd (n := cs.length) (l := l) d (ocs cs)
    simp only [mass]
    omega
theorem len_mass (cs : List (List Int)) : cs.length ≤ mass cs := by
  induction cs with
  | nil => simp [mass]
  | cons c r ih => simp only [mass, List.length_cons]; omega
def singles (cs : List (List Int)) : List Nat := (List.range cs.length).filter fun n => isSingle (cs.getD n [])
theorem singles_snoc (cs : List (List Int)) (c : List Int) : singles (cs ++ [c]) = singles cs ++ if isSingle c then [cs.length] else [] := by
  unfold singles
  rw [List.length_append, List.length_singleton, List.range_succ, List.filter_append]
  congr 1
  · refine List.filter_congr fun n hn => ?_
    rw [List.mem_range] at hn
    simp [List.getElem?_append_left hn]
  · simp [List.filter_cons]
theorem singles_len (cs : List (List Int)) : (singles cs).length ≤ cs.length := by
  unfold singles
  have := List.length_filter_le (fun n => isSingle (cs.getD n [])) (List.range cs.length)
  simpa using this
theorem mem_singles {cs : List (List Int)} {n : Nat} : n ∈ singles cs ↔ ∃ c, cs[n]? = some c ∧ isSingle c = true := by
  unfold singles
  rw [List.mem_filter, List.mem_range]
  constructor
  · rintro ⟨h1, h2⟩
    exact ⟨cs[n], by simp [h1], by simpa [h1] using h2⟩
  · rintro ⟨c, h1, h2⟩
    obtain ⟨h3, h4⟩ := List.getElem?_eq_some_iff.1 h1
    exact ⟨h3, by simp [h3, h4, h2]⟩
/-- Where literals' negatives stand, as a map of rows. -/
structure AtE (H0 : Nat → Option Blk) (na : Nat) (am : D → Option V) (nr : Int → Nat) (oc : Int → List Nat) (G : Nat → Option Blk) : Prop where
  map : G na = some (.map (.int .i64) am)
  none : ∀ l, oc l = [] → am (.int .i64 l) = none
  some : ∀ l, oc l ≠ [] → am (.int .i64 l) = some (.ms (nr l) 1 0 (oc l).length) ∧ G (nr l) = some (.row 1 ((oc l).map nlit)) ∧ H0 (nr l) = Option.none
  inj : ∀ l l', oc l ≠ [] → oc l' ≠ [] → nr l = nr l' → l = l'
theorem AtE.same {H0 G G' : Nat → Option Blk} {na : Nat} {am : D → Option V} {nr : Int → Nat} {oc : Int → List Nat} (h : AtE H0 na am nr oc G) (hg : ∀ m, m = na ∨ (∃ l, oc l ≠ [] ∧ m = nr l) → G' m = G m) : AtE H0 na am nr oc G' :=
  ⟨by rw [hg na (.inl rfl)]; exact h.map, h.none, fun l hl => by obtain ⟨a, b, c⟩ := h.some l hl; exact ⟨a, by rw [hg _ (.inr ⟨l, hl, rfl⟩)]; exact b, c⟩, h.inj⟩
/-- A number is put into a row: the row lies at x now. -/
theorem AtE.put {H0 G G' : Nat → Option Blk} {na x n : Nat} {am : D → Option V} {nr : Int → Nat} {oc : Int → List Nat} (h : AtE H0 na am nr oc G) (l : Int)
    (h1 : G' na = Option.some (.map (.int .i64) (updD am (.int .i64 l) (Option.some (.ms x 1 0 ((oc l).length + 1))))))
    (h2 : G' x = Option.some (.row 1 ((oc l ++ [n]).map nlit))) (h3 : H0 x = Option.none) (h4 : ∀ l, oc l ≠ [] → nr l ≠ x) (h5 : ∀ k, k ≠ l → oc k ≠ [] → G' (nr k) = G (nr k)) :
    AtE H0 na (updD am (.int .i64 l) (Option.some (.ms x 1 0 ((oc l).length + 1)))) (fun k => if k = l then x else nr k) (ocPut oc n (-l)) G' := by
  have e : ∀ k, ocPut oc n (-l) k = if k = l then oc k ++ [n] else oc k := fun k => by simp [ocPut]
  refine ⟨h1, ?_, ?_, ?_⟩
  · intro k hk
    rw [e] at hk
    by_cases hkl : k = l
    · rw [if_pos hkl] at hk; simp at hk
    · rw [if_neg hkl] at hk
      simp [updD, hkl, h.none k hk]
  · intro k hk
    rw [e] at hk ⊢
    by_cases hkl : k = l
    · subst hkl
      simp only [if_pos]
      exact ⟨by simp [updD], h2, h3⟩
    · rw [if_neg hkl] at hk
      simp only [if_neg hkl]
      obtain ⟨a, b, c⟩ := h.some k hk
      exact ⟨by simp [updD, hkl, a], by rw [h5 k hkl hk]; exact b, c⟩
  · intro k k' hk hk' he
    rw [e] at hk hk'
    by_cases hkl : k = l
    · by_cases hkl' : k' = l
      · rw [hkl, hkl']
      · rw [if_neg hkl'] at hk'
        simp only [if_pos hkl, if_neg hkl'] at he
        exact absurd he.symm (h4 k' hk')
    · rw [if_neg hkl] at hk
      by_cases hkl' : k' = l
      · simp only [if_neg hkl, if_pos hkl'] at he
        exact absurd he (h4 k hk)
      · rw [if_neg hkl'] at hk'
        simp only [if_neg hkl, if_neg hkl'] at he
        exact h.inj k k' hk hk' he
/-- The checker. -/
structure CkE (H0 : Nat → Option Blk) (ck : Nat) (cs : List (List Int)) (G : Nat → Option Blk) (nc na ns : Nat) (am : D → Option V) (nr : Int → Nat) (oc : Int → List Nat) (sg : List Nat) : Prop where
  keep : ∀ m k, H0 m = some k → G m = some k
  own : H0 ck = none
  onc : H0 nc = none
  ona : H0 na = none
  ons : H0 ns = none
  box : G ck = some (.box [.ms nc 1 0 cs.length, .map na, .ms ns 1 0 sg.length])
  rows : G nc = some (.row 1 (cs.map fun c => .d (ints c)))
  single : G ns = some (.row 1 (sg.map nlit))
  ne : nc ≠ ns
  at_ : AtE H0 na am nr oc G
  apart : ∀ l, oc l ≠ [] → nr l ≠ nc ∧ nr l ≠ ns
theorem CkE.row_ne {H0 : Nat → Option Blk} {ck : Nat} {cs : List (List Int)} {G : Nat → Option Blk} {nc na ns : Nat} {am : D → Option V} {nr : Int → Nat} {oc : Int → List Nat} {sg : List Nat} (h : CkE H0 ck cs G nc na ns am nr oc sg) :
    ck ≠ nc ∧ ck ≠ na ∧ ck ≠ ns ∧ nc ≠ na ∧ ns ≠ na ∧ ∀ l, oc l ≠ [] → nr l ≠ ck ∧ nr l ≠ na := by
  have a := h.box
  have b := h.rows
  have c := h.single
  have d := h.at_.map
  refine ⟨?_, ?_, ?_, ?_, ?_, fun l hl => ⟨?_, ?_⟩⟩
  · rintro rfl; rw [a] at b; cases b
  · rintro rfl; rw [a] at d; cases d
  · rintro rfl; rw [a] at c; cases c
  · rintro rfl; rw [b] at d; cases d
  · rintro rfl; rw [c] at d; cases d
  · have e := (h.at_.some l hl).2.1
    intro e2; rw [e2, a] at e; cases e
  · have e := (h.at_.some l hl).2.1
    intro e2; rw [e2, d] at e; cases e
theorem CkE.put {H0 : Nat → Option Blk} {ck : Nat} {cs : List (List Int)} {G G' : Nat → Option Blk} {nc na ns : Nat} {am : D → Option V} {nr : Int → Nat} {oc : Int → List Nat} {sg : List Nat} (h : CkE H0 ck cs G nc na ns am nr oc sg) (l : Int) (x n : Nat)
    (hx : ∀ k, G x ≠ some k) (h1 : G' na = some (.map (.int .i64) (updD am (.int .i64 l) (some (.ms x 1 0 ((oc l).length + 1)))))) (h2 : G' x = some (.row 1 ((oc l ++ [n]).map nlit)))
    (h5 : ∀ m, m ≠ na → m ≠ x → (oc l ≠ [] → m ≠ nr l) → G' m = G m) :
    CkE H0 ck cs G' nc na ns (updD am (.int .i64 l) (some (.ms x 1 0 ((oc l).length + 1)))) (fun k => if k = l then x else nr k) (ocPut oc n (-l)) sg := by
  obtain ⟨r1, r2, r3, r4, r5, r6⟩ := h.row_ne
  have old : ∀ m k, G m = some k → m ≠ na → (oc l ≠ [] → m ≠ nr l) → G' m = some k := fun m k hm h3 h4 => by
    rw [h5 m h3 (by rintro rfl; exact hx k hm) h4]; exact hm
  have hx0 : H0 x = none := by
    cases e : H0 x with
    | none => rfl
    | some k => exact absurd (h.keep _ _ e) (hx k)
  refine ⟨fun m k hm => old m k (h.keep m k hm) (by rintro rfl; rw [h.ona] at hm; cases hm) (fun ho => by rintro rfl; rw [(h.at_.some l ho).2.2] at hm; cases hm), h.own, h.onc, h.ona, h.ons,
    old _ _ h.box r2 fun ho => Ne.symm (r6 l ho).1, old _ _ h.rows r4 fun ho => Ne.symm (h.apart l ho).1, old _ _ h.single r5 fun ho => Ne.symm (h.apart l ho).2, h.ne,
    h.at_.put l h1 h2 hx0 (fun k hk => by intro e; exact hx _ (e ▸ (h.at_.some k hk).2.1)) (fun k hk ho => h5 _ (r6 k ho).2 (by intro e; exact hx _ (e ▸ (h.at_.some k ho).2.1)) (fun hol e => hk (h.at_.inj k l ho hol e))), ?_⟩
  intro k hk
  have e : ocPut oc n (-l) k = if k = l then oc k ++ [n] else oc k := by simp [ocPut]
  rw [e] at hk
  by_cases hkl : k = l
  · simp only [if_pos hkl]
    exact ⟨by rintro rfl; exact hx _ h.rows, by rintro rfl; exact hx _ h.single⟩
  · simp only [if_neg hkl] at hk ⊢
    exact h.apart k hk
theorem CkE.sing {H0 : Nat → Option Blk} {ck : Nat} {cs : List (List Int)} {G G' : Nat → Option Blk} {nc na ns : Nat} {am : D → Option V} {nr : Int → Nat} {oc : Int → List Nat} {sg : List Nat} (h : CkE H0 ck cs G nc na ns am nr oc sg) (x n : Nat)
    (hx : ∀ k, G x ≠ some k) (h1 : G' ck = some (.box [.ms nc 1 0 cs.length, .map na, .ms x 1 0 (sg.length + 1)])) (h2 : G' x = some (.row 1 ((sg ++ [n]).map nlit)))
    (h5 : ∀ m, m ≠ ck → m ≠ x → m ≠ ns → G' m = G m) : CkE H0 ck cs G' nc na x am nr oc (sg ++ [n]) := by
  obtain ⟨r1, r2, r3, r4, r5, r6⟩ := h.row_ne
  have old : ∀ m k, G m = some k → m ≠ ck → m ≠ ns → G' m = some k := fun m k hm h3 h4 => by
    rw [h5 m h3 (by rintro rfl; exact hx k hm) h4]; exact hm
  have hx0 : H0 x = none := by
    cases e : H0 x with
    | none => rfl
    | some k => exact absurd (h.keep _ _ e) (hx k)
  refine ⟨fun m k hm => old m k (h.keep m k hm) (by rintro rfl; rw [h.own] at hm; cases hm) (by rintro rfl; rw [h.ons] at hm; cases hm), h.own, h.onc, h.ona, hx0, by rw [h1]; simp, old _ _ h.rows (Ne.symm r1) h.ne, h2, by rintro rfl; exact hx _ h.rows, ?_, ?_⟩
  · refine h.at_.same fun m hm => ?_
    rcases hm with rfl | ⟨l, ho, rfl⟩
    · rw [old _ _ h.at_.map (Ne.symm r2) (Ne.symm r5)]; exact h.at_.map.symm
    · rw [old _ _ (h.at_.some l ho).2.1 (r6 l ho).1 (h.apart l ho).2]; exact (h.at_.some l ho).2.1.symm
  · intro l ho
    exact ⟨(h.apart l ho).1, fun e => hx _ (e ▸ (h.at_.some l ho).2.1)⟩
def CkS (H0 : Nat → Option Blk) (ck : Nat) (cs : List (List Int)) (G : Nat → Option Blk) : Prop := ∃ nc na ns am nr, CkE H0 ck cs G nc na ns am nr (ocs cs) (singles cs)
end Go.Proofs.Ytafeehlpmdligaa
