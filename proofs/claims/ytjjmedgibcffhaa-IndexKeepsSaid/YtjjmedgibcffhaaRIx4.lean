/- The book of keys: one pure model for both sides, and how the ledger of the program holds it. -/
import Derived.Test.YtjjmedgibcffhaaRMd
import Derived.Test.YtjjmedgibcffhaaRIx1
namespace Go.Proofs.Ytjjmedgibcffhaa
open Go.RowKit M
set_option linter.unusedSimpArgs false
set_option linter.unusedVariables false
theorem cutP {P : Program} {n : Nat} {x y : Code} {Q : Exit → Fr → St → Prop} {fr : Fr} {S : St} (Mid : Fr → St → Prop) (h1 : WpM P n x (thenM Mid Q) fr S) (h2 : ∀ fr S, Mid fr S → WpM P n y Q fr S) : WpM P n (.seq x y) Q fr S := by
  refine WpM.seq (h1.mono fun e fr S h => ?_)
  cases e <;> first | exact h2 _ _ h | exact h
theorem wpMid {P : Program} {n : Nat} {x : Code} {K : Fr → St → Prop} {Q : Exit → Fr → St → Prop} {fr : Fr} {S : St} (Mid : Fr → St → Prop) (h1 : WpM P n x (thenM Mid Q) fr S) (h2 : ∀ fr S, Mid fr S → K fr S) : WpM P n x (thenM K Q) fr S := by
  refine h1.mono fun e fr S h => ?_
  cases e <;> first | exact h2 _ _ h | exact h
structure Bk where
  keys : List ByteArray
  types : List Int
  wrote : List (List Int)
  incs : List (List Int)
def Bk.empty : Bk := ⟨[], [], [], []⟩
structure Bk.Wf (b : Bk) (n : Nat) : Prop where
  keys : b.keys.length ≤ 32
  types : b.types.length = b.keys.length
  wrote : b.wrote.length = b.keys.length
  incs : b.incs.length = b.keys.length
  wlen : ∀ k, (b.wrote.getD k []).length ≤ n
  ilen : ∀ k, (b.incs.getD k []).length ≤ 8
def Bk.push (b : Bk) (c : CallD) : Bk := ⟨b.keys ++ [c.key], b.types ++ [tyOf c.kind], b.wrote ++ [[]], b.incs ++ [[]]⟩
def addB (b : Bk) (c : CallD) : Option (Bk × Nat) := match findN b.keys c.key with
  | some k => some (b, k)
  | none => if b.keys.length = 32 then none else some (b.push c, b.keys.length)
def incNext (l : List Int) (who : Int) : List Int := if l.getLast? = some who then l else l ++ [who]
def putB (b : Bk) (k : Nat) (c : CallD) (who : Int) : Except Int Bk :=
  if b.types.getD k 0 ≠ tyOf c.kind then .error 50
  else if c.kind = 2 ∨ c.kind = 3 then
    if c.arg ∈ b.wrote.getD k [] then .error 3 else .ok { b with wrote := b.wrote.set k (b.wrote.getD k [] ++ [c.arg]) }
  else if c.kind = 4 then
    if 8 < (incNext (b.incs.getD k []) who).length then .error 51 else .ok { b with incs := b.incs.set k (incNext (b.incs.getD k []) who) }
  else .ok b
/-- A call is entered: the new book, or an error. -/
def enterB (b : Bk) (c : CallD) (who : Int) : Except Int Bk := match addB b c with
  | none => .error 2
  | some (b, k) => putB b k c who
theorem Bk.Wf.empty : Bk.empty.Wf 0 := ⟨by simp [Bk.empty], rfl, rfl, rfl, by simp [Bk.empty], by simp [Bk.empty]⟩
theorem getD_push {α : Type} (l : List α) (d : α) (k : Nat) : (l ++ [d]).getD k d = l.getD k d := by
  simp only [List.getD_eq_getElem?_getD, List.getElem?_append]
  by_cases h : k < l.length
  · simp [h]
  · rw [if_neg h, List.getElem?_eq_none (by omega : l.length ≤ k)]
    cases k - l.length <;> simp
theorem Bk.Wf.push {b : Bk} {n : Nat} (h : b.Wf n) (c : CallD) (hl : b.keys.length ≠ 32) : (b.push c).Wf n := by
  obtain ⟨h1, h2, h3, h4, h5, h6⟩ := h
  refine ⟨by simp [Bk.push]; omega, by simp [Bk.push, h2], by simp [Bk.push, h3], by simp [Bk.push, h4], fun k => ?_, fun k => ?_⟩
  · rw [Bk.push]; simp only [getD_push]; exact h5 k
  · rw [Bk.push]; simp only [getD_push]; exact h6 k
theorem addB_wf {b b' : Bk} {n k : Nat} {c : CallD} (h : b.Wf n) (e : addB b c = some (b', k)) : b'.Wf n ∧ findN b'.keys c.key = some k := by
  unfold addB at e
  split at e
  · rename_i j hj
    injection e with e
    injection e with e1 e2
    subst e1 e2
    exact ⟨h, hj⟩
  · rename_i hj
    split at e
    · cases e
    · rename_i hl
      injection e with e
      injection e with e1 e2
      subst e1 e2
      refine ⟨h.push c hl, ?_⟩
      refine findN_hit _ _ _ (by simp [Bk.push]) (fun i hi hlt => ?_) (by simp [Bk.push])
      intro he
      have : c.key ∈ b.keys := by
        rw [← he]
        simp only [Bk.push]
        rw [List.getElem_append_left hlt]
        exact List.getElem_mem _
      obtain ⟨j, hj'⟩ := findN_mem.1 this
      rw [hj] at hj'
      cases hj'
theorem getD_set {α : Type} (l : List α) (k j : Nat) (x d : α) : (l.set k x).getD j d = if j = k ∧ k < l.length then x else l.getD j d := by
  simp only [List.getD_eq_getElem?_getD, List.getElem?_set]
  by_cases h : k = j
  · subst h
    by_cases hl : k < l.length
    · simp [hl]
    · simp [hl]
  · rw [if_neg h, if_neg (fun e => h e.1.symm)]
theorem putB_wf {b b' : Bk} {n k : Nat} {c : CallD} {who : Int} (h : b.Wf n) (e : putB b k c who = .ok b') : b'.Wf (n + 1) ∧ b'.keys = b.keys := by
  obtain ⟨h1, h2, h3, h4, h5, h6⟩ := h
  have h5' : ∀ k, (b.wrote.getD k []).length ≤ n + 1 := fun k => Nat.le_succ_of_le (h5 k)
  unfold putB at e
  split at e
  · cases e
  · split at e
    · split at e
      · cases e
      · injection e with e
        subst e
        refine ⟨⟨h1, h2, by simp [h3], h4, fun j => ?_, h6⟩, rfl⟩
        simp only [getD_set]
        split
        · have := h5 k; simp only [List.length_append, List.length_singleton]; omega
        · exact h5' j
    · split at e
      · split at e
        · cases e
        · rename_i hl
          injection e with e
          subst e
          refine ⟨⟨h1, h2, h3, by simp [h4], h5', fun j => ?_⟩, rfl⟩
          simp only [getD_set]
          split
          · omega
          · exact h6 j
      · injection e with e
        subst e
        exact ⟨⟨h1, h2, h3, h4, h5', h6⟩, rfl⟩
theorem enterB_wf {b b' : Bk} {n : Nat} {c : CallD} {who : Int} (h : b.Wf n) (e : enterB b c who = .ok b') : b'.Wf (n + 1) := by
  unfold enterB at e
  cases ha : addB b c with
  | none => rw [ha] at e; cases e
  | some p =>
    rw [ha] at e
    exact (putB_wf (addB_wf h ha).1 e).1
/-- Was this number put on this key? -/
def factB (b : Bk) (s : ByteArray) (i : Int) : Bool := match findN b.keys s with | some k => decide (i ∈ b.wrote.getD k []) | none => false
/-- Who counted on this key. -/
def incB (b : Bk) (s : ByteArray) : List Int := match findN b.keys s with | some k => b.incs.getD k [] | none => []
theorem findN_push {l : List ByteArray} {s s' : ByteArray} (h : findN l s = none) : findN (l ++ [s]) s' = if s' = s then some l.length else findN l s' := by
  induction l with
  | nil =>
    by_cases e : s' = s
    · subst e; simp [findN]
    · have e' : ¬ s = s' := fun h => e h.symm
      rw [if_neg e]; simp [findN, e']
  | cons a r ih =>
    unfold findN at h
    split at h
    · cases h
    · rename_i hne
      simp only [Option.map_eq_none_iff] at h
      have ih := ih h
      simp only [List.cons_append]
      rw [findN, ih]
      by_cases e : s' = s
      · subst e
        rw [if_neg hne, if_pos rfl, if_pos rfl]
        rfl
      · rw [if_neg e, if_neg e]
        conv => rhs; rw [findN]
theorem getD_len {α : Type} (l : List α) (d : α) : l.getD l.length d = d := by
  rw [List.getD_eq_getElem?_getD, List.getElem?_eq_none (Nat.le_refl _)]
  rfl
theorem factB_push {b : Bk} {n : Nat} {c : CallD} (hw : b.Wf n) (h : findN b.keys c.key = none) (s : ByteArray) (i : Int) : factB (b.push c) s i = factB b s i := by
  unfold factB
  simp only [Bk.push, findN_push h, getD_push]
  by_cases e : s = c.key
  · subst e
    rw [if_pos rfl, h]
    simp only [← hw.wrote, getD_len]
    simp
  · rw [if_neg e]
theorem incB_push {b : Bk} {n : Nat} {c : CallD} (hw : b.Wf n) (h : findN b.keys c.key = none) (s : ByteArray) : incB (b.push c) s = incB b s := by
  unfold incB
  simp only [Bk.push, findN_push h, getD_push]
  by_cases e : s = c.key
  · subst e
    rw [if_pos rfl, h]
    simp only [← hw.incs, getD_len]
  · rw [if_neg e]
theorem findN_inj {l : List ByteArray} {s s' : ByteArray} {k : Nat} (h : findN l s = some k) (h' : findN l s' = some k) : s = s' := by
  obtain ⟨_, e, _⟩ := findN_some h
  obtain ⟨_, e', _⟩ := findN_some h'
  rw [← e, ← e']
theorem findN_lt {l : List ByteArray} {s : ByteArray} {k : Nat} (h : findN l s = some k) : k < l.length := (findN_some h).1
theorem factB_set {b : Bk} {n k : Nat} {key : ByteArray} {x : Int} (hw : b.Wf n) (h : findN b.keys key = some k) (s : ByteArray) (i : Int) :
    factB { b with wrote := b.wrote.set k (b.wrote.getD k [] ++ [x]) } s i = if s = key ∧ i = x then true else factB b s i := by
  unfold factB
  simp only [getD_set]
  have hk := findN_lt h
  rw [← hw.wrote] at hk
  by_cases e : s = key
  · subst e
    rw [h]
    simp only [hk, and_self, if_true, List.mem_append, List.mem_singleton, true_and]
    by_cases e2 : i = x
    · simp [e2]
    · simp [e2]
  · simp only [e, false_and, if_false]
    cases hf : findN b.keys s with
    | none => rfl
    | some j =>
      have : j ≠ k := fun e' => e (findN_inj hf (e' ▸ h))
      simp only [this, false_and, if_false]
theorem incB_set {b : Bk} {n k : Nat} {key : ByteArray} {l : List Int} (hw : b.Wf n) (h : findN b.keys key = some k) (s : ByteArray) :
    incB { b with incs := b.incs.set k l } s = if s = key then l else incB b s := by
  unfold incB
  simp only [getD_set]
  have hk := findN_lt h
  rw [← hw.incs] at hk
  by_cases e : s = key
  · subst e
    rw [h]
    simp only [hk, and_self, if_true]
  · simp only [e, if_false]
    cases hf : findN b.keys s with
    | none => rfl
    | some j =>
      have : j ≠ k := fun e' => e (findN_inj hf (e' ▸ h))
      simp only [this, false_and, if_false]
/-- The ledger L holds the book b, by its names; O: the names it owns. -/
structure LedN (G : Nat → Option Blk) (L nk na nt nf ni : Nat) (am fm im : D → Option V) (r : ByteArray → Nat) (b : Bk) (O : Nat → Prop) : Prop where
  box : G L = some (.box [.ms nk 1 0 b.keys.length, .map na, .ms nt 1 0 b.types.length, .map nf, .map ni])
  keys : G nk = some (.row 1 (b.keys.map fun s => .d (.str s)))
  types : G nt = some (.row 1 (b.types.map fun t => .d (.int .i64 t)))
  gat : G na = some (.map .str am)
  gfact : G nf = some (.map (.pair .i64) fm)
  ginc : G ni = some (.map .str im)
  at_ : ∀ s, am (.str s) = (findN b.keys s).map fun k => .d (.int .i64 k)
  fact : ∀ s i, fm (.agg [.str s, .int .i64 i]) = if factB b s i then some (.d (.agg [])) else none
  inc0 : ∀ s, incB b s = [] → im (.str s) = none
  inc1 : ∀ s, incB b s ≠ [] → im (.str s) = some (.ms (r s) 1 0 (incB b s).length) ∧ G (r s) = some (.row 1 ((incB b s).map fun t => .d (.int .i64 t))) ∧ O (r s) ∧ r s ≠ nk ∧ r s ≠ nt
  rinj : ∀ s s', incB b s ≠ [] → incB b s' ≠ [] → r s = r s' → s = s'
  oL : O L
  ok : O nk
  oa : O na
  ot : O nt
  of_ : O nf
  oi : O ni
  hkt : nk ≠ nt
  hai : na ≠ ni
def LedAt (G : Nat → Option Blk) (L : Nat) (b : Bk) (O : Nat → Prop) : Prop := ∃ nk na nt nf ni am fm im r, LedN G L nk na nt nf ni am fm im r b O
theorem LedAt.same {G G' : Nat → Option Blk} {L : Nat} {b : Bk} {O : Nat → Prop} (h : LedAt G L b O) (hs : ∀ m k, O m → G m = some k → G' m = some k) : LedAt G' L b O := by
  obtain ⟨nk, na, nt, nf, ni, am, fm, im, r, h⟩ := h
  exact ⟨nk, na, nt, nf, ni, am, fm, im, r, hs _ _ h.oL h.box, hs _ _ h.ok h.keys, hs _ _ h.ot h.types, hs _ _ h.oa h.gat, hs _ _ h.of_ h.gfact, hs _ _ h.oi h.ginc, h.at_, h.fact, h.inc0,
    fun s hn => ⟨(h.inc1 s hn).1, hs _ _ (h.inc1 s hn).2.2.1 (h.inc1 s hn).2.1, (h.inc1 s hn).2.2⟩, h.rinj, h.oL, h.ok, h.oa, h.ot, h.of_, h.oi, h.hkt, h.hai⟩
/-- What kinds of blocks are told apart. -/
theorem LedN.ne {G : Nat → Option Blk} {L nk na nt nf ni : Nat} {am fm im : D → Option V} {r : ByteArray → Nat} {b : Bk} {O : Nat → Prop} (h : LedN G L nk na nt nf ni am fm im r b O) :
    L ≠ nk ∧ L ≠ na ∧ L ≠ nt ∧ L ≠ nf ∧ L ≠ ni ∧ nk ≠ na ∧ nk ≠ nf ∧ nk ≠ ni ∧ nt ≠ na ∧ nt ≠ nf ∧ nt ≠ ni ∧ na ≠ nf ∧ nf ≠ ni ∧ ∀ s, incB b s ≠ [] → r s ≠ L ∧ r s ≠ na ∧ r s ≠ nf ∧ r s ≠ ni := by
  have k1 := h.box
  have k2 := h.keys
  have k3 := h.types
  have k4 := h.gat
  have k5 := h.gfact
  have k6 := h.ginc
  refine ⟨?_, ?_, ?_, ?_, ?_, ?_, ?_, ?_, ?_, ?_, ?_, ?_, ?_, fun s hs => ?_⟩
  · rintro rfl; rw [k1] at k2; cases k2
  · rintro rfl; rw [k1] at k4; cases k4
  · rintro rfl; rw [k1] at k3; cases k3
  · rintro rfl; rw [k1] at k5; cases k5
  · rintro rfl; rw [k1] at k6; cases k6
  · rintro rfl; rw [k2] at k4; cases k4
  · rintro rfl; rw [k2] at k5; cases k5
  · rintro rfl; rw [k2] at k6; cases k6
  · rintro rfl; rw [k3] at k4; cases k4
  · rintro rfl; rw [k3] at k5; cases k5
  · rintro rfl; rw [k3] at k6; cases k6
  · rintro rfl; rw [k4] at k5; cases k5
  · rintro rfl; rw [k5] at k6; cases k6
  · obtain ⟨_, hr, _⟩ := h.inc1 s hs
    refine ⟨?_, ?_, ?_, ?_⟩ <;> intro e <;> rw [e] at hr
    · rw [k1] at hr; cases hr
    · rw [k4] at hr; cases hr
    · rw [k5] at hr; cases hr
    · rw [k6] at hr; cases hr
theorem updD_same {m : D → Option V} {k : D} {v : Option V} : updD m k v k = v := by simp [updD]
theorem set_self {α : Type} (l : List α) (k : Nat) (d : α) : l.set k (l.getD k d) = l := by
  apply List.ext_getElem?
  intro i
  rw [List.getElem?_set]
  by_cases h : k = i
  · subst h
    by_cases hl : k < l.length
    · simp [hl]
    · simp [hl]
  · rw [if_neg h]
section
variable {G G' : Nat → Option Blk} {L nk na nt nf ni : Nat} {am fm im : D → Option V} {r : ByteArray → Nat} {b : Bk} {O : Nat → Prop}
/-- A new key. -/
theorem LedN.push {n nk' nt' : Nat} {c : CallD} (h : LedN G L nk na nt nf ni am fm im r b O) (hw : b.Wf n) (hn : findN b.keys c.key = none) (h1 : ¬ O nk') (h2 : ¬ O nt') (h3 : nk' ≠ nt')
    (e1 : G' L = some (.box [.ms nk' 1 0 (b.keys.length + 1), .map na, .ms nt' 1 0 (b.types.length + 1), .map nf, .map ni]))
    (e2 : G' nk' = some (.row 1 ((b.keys.map fun s => .d (.str s)) ++ [.d (.str c.key)]))) (e3 : G' nt' = some (.row 1 ((b.types.map fun s => .d (.int .i64 s)) ++ [.d (.int .i64 (tyOf c.kind))])))
    (e4 : G' na = some (.map .str (updD am (.str c.key) (some (.d (.int .i64 b.keys.length))))))
    (old : ∀ m k, m ≠ L → m ≠ nk → m ≠ nt → m ≠ na → O m → G m = some k → G' m = some k) : LedAt G' L (b.push c) (fun m => O m ∨ m = nk' ∨ m = nt') := by
  obtain ⟨q1, q2, q3, q4, q5, q6, q7, q8, q9, q10, q11, q12, q13, q14⟩ := h.ne
  refine ⟨nk', na, nt', nf, ni, _, fm, im, r, by rw [e1]; simp [Bk.push], by rw [e2]; simp [Bk.push], by rw [e3]; simp [Bk.push], e4, ?_, ?_, fun s => ?_, fun s i => ?_, fun s hs => ?_, fun s hs => ?_, fun s s' hs hs' => ?_, .inl h.oL, .inr (.inl rfl), .inl h.oa, .inr (.inr rfl), .inl h.of_, .inl h.oi, h3, h.hai⟩
  · exact old _ _ (Ne.symm q4) (Ne.symm q7) (Ne.symm q10) (Ne.symm q12) h.of_ h.gfact
  · exact old _ _ (Ne.symm q5) (Ne.symm q8) (Ne.symm q11) (Ne.symm h.hai) h.oi h.ginc
  · simp only [updD, D.str.injEq, Bk.push, findN_push hn]
    by_cases e : s = c.key
    · simp [e]
    · simp only [if_neg e]; exact h.at_ s
  · rw [factB_push hw hn]; exact h.fact s i
  · rw [incB_push hw hn] at hs; exact h.inc0 s hs
  · rw [incB_push hw hn] at hs ⊢
    obtain ⟨a1, a2, a3, a4, a5⟩ := h.inc1 s hs
    obtain ⟨b1, b2, b3, b4⟩ := q14 s hs
    exact ⟨a1, old _ _ b1 a4 a5 b2 a3 a2, .inl a3, fun e => h1 (e ▸ a3), fun e => h2 (e ▸ a3)⟩
  · rw [incB_push hw hn] at hs hs'; exact h.rinj s s' hs hs'
/-- A number more on a key. -/
theorem LedN.wrote {n k : Nat} {key : ByteArray} {x : Int} (h : LedN G L nk na nt nf ni am fm im r b O) (hw : b.Wf n) (hf : findN b.keys key = some k)
    (e1 : G' nf = some (.map (.pair .i64) (updD fm (.agg [.str key, .int .i64 x]) (some (.d (.agg [])))))) (old : ∀ m k, m ≠ nf → O m → G m = some k → G' m = some k) :
    LedAt G' L { b with wrote := b.wrote.set k (b.wrote.getD k [] ++ [x]) } O := by
  obtain ⟨q1, q2, q3, q4, q5, q6, q7, q8, q9, q10, q11, q12, q13, q14⟩ := h.ne
  refine ⟨nk, na, nt, nf, ni, am, _, im, r, old _ _ q4 h.oL h.box, old _ _ q7 h.ok h.keys, old _ _ q10 h.ot h.types, old _ _ q12 h.oa h.gat, e1, old _ _ (Ne.symm q13) h.oi h.ginc, h.at_, fun s i => ?_, h.inc0, fun s hs => ?_, h.rinj, h.oL, h.ok, h.oa, h.ot, h.of_, h.oi, h.hkt, h.hai⟩
  · rw [factB_set hw hf]
    simp only [updD, D.agg.injEq, List.cons.injEq, D.str.injEq, D.int.injEq, true_and, and_true]
    by_cases e : s = key ∧ i = x
    · simp [e]
    · simp only [if_neg e]; exact h.fact s i
  · obtain ⟨a1, a2, a3, a4, a5⟩ := h.inc1 s hs
    exact ⟨a1, old _ _ (q14 s hs).2.2.1 a3 a2, a3, a4, a5⟩
/-- One more that counts on a key. -/
theorem LedN.inc {n k nr : Nat} {key : ByteArray} {x : Int} (h : LedN G L nk na nt nf ni am fm im r b O) (hw : b.Wf n) (hf : findN b.keys key = some k) (hnr : ¬ O nr)
    (e1 : G' ni = some (.map .str (updD im (.str key) (some (.ms nr 1 0 ((b.incs.getD k []).length + 1)))))) (e2 : G' nr = some (.row 1 (((b.incs.getD k []).map fun t => .d (.int .i64 t)) ++ [.d (.int .i64 x)])))
    (old : ∀ m k, m ≠ ni → (incB b key ≠ [] → m ≠ r key) → O m → G m = some k → G' m = some k) :
    LedAt G' L { b with incs := b.incs.set k (b.incs.getD k [] ++ [x]) } (fun m => O m ∨ m = nr) := by
  obtain ⟨q1, q2, q3, q4, q5, q6, q7, q8, q9, q10, q11, q12, q13, q14⟩ := h.ne
  have hik : incB b key = b.incs.getD k [] := by rw [incB, hf]
  have hset := fun s => incB_set (l := b.incs.getD k [] ++ [x]) hw hf s
  refine ⟨nk, na, nt, nf, ni, am, fm, _, fun s => open Classical in if s = key then nr else r s, ?_, ?_, ?_, ?_, ?_, e1, h.at_, h.fact, fun s hs => ?_, fun s hs => ?_, fun s s' hs hs' => ?_, .inl h.oL, .inl h.ok, .inl h.oa, .inl h.ot, .inl h.of_, .inl h.oi, h.hkt, h.hai⟩
  · exact old _ _ q5 (fun hs e => (q14 _ hs).1 e.symm) h.oL h.box
  · exact old _ _ q8 (fun hs e => (h.inc1 _ hs).2.2.2.1 e.symm) h.ok h.keys
  · exact old _ _ q11 (fun hs e => (h.inc1 _ hs).2.2.2.2 e.symm) h.ot h.types
  · exact old _ _ h.hai (fun hs e => (q14 _ hs).2.1 e.symm) h.oa h.gat
  · exact old _ _ q13 (fun hs e => (q14 _ hs).2.2.1 e.symm) h.of_ h.gfact
  · rw [hset] at hs
    by_cases e : s = key
    · rw [if_pos e] at hs; simp at hs
    · rw [if_neg e] at hs
      simp only [updD, D.str.injEq, if_neg e]
      exact h.inc0 s hs
  · rw [hset] at hs ⊢
    by_cases e : s = key
    · simp only [if_pos e, updD, e, if_true]
      exact ⟨by simp, by rw [e2]; simp, by simp, fun e => hnr (e ▸ h.ok), fun e => hnr (e ▸ h.ot)⟩
    · rw [if_neg e] at hs
      simp only [if_neg e, updD, D.str.injEq]
      obtain ⟨a1, a2, a3, a4, a5⟩ := h.inc1 s hs
      exact ⟨a1, old _ _ (q14 s hs).2.2.2 (fun hk e' => e (h.rinj _ _ hs hk e')) a3 a2, .inl a3, a4, a5⟩
  · rw [hset] at hs hs'
    by_cases e : s = key
    · by_cases e' : s' = key
      · intro _; rw [e, e']
      · rw [if_neg e'] at hs'
        simp only [if_pos e, if_neg e']
        intro he
        exact absurd (h.inc1 s' hs').2.2.1 (he ▸ hnr)
    · rw [if_neg e] at hs
      by_cases e' : s' = key
      · simp only [if_pos e', if_neg e]
        intro he
        exact absurd (h.inc1 s hs).2.2.1 (he ▸ hnr)
      · rw [if_neg e'] at hs'
        simp only [if_neg e', if_neg e]
        exact h.rinj s s' hs hs'
end
end Go.Proofs.Ytjjmedgibcffhaa
