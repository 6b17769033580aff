/- Maps in memory: laws for lookup, store and delete over any key type that can be told apart; the same on abstract values. -/
import Derived.Test.YtafeehlpmdligaaM6
import Derived.Maps.Own
import Derived.Maps.OwnOps
import Derived.Maps.OwnSet
namespace Go.Proofs.Ytafeehlpmdligaa.M
open Go.RowKit Go.MapKept
set_option linter.unusedVariables false
set_option linter.unusedSimpArgs false

/-- What was there stays, but for the blocks of S. -/
structure Keep (S : Nat → Prop) (w w' : World) : Prop where
  os : w'.os = w.os
  tape : w'.tape = w.tape
  output : w'.output = w.output
  size : w.heap.size ≤ w'.heap.size
  block : ∀ k, k < w.heap.size → ¬ S k → w'.heap[k]? = w.heap[k]?

open Classical in
/-- f, but v at k. -/
noncomputable def upd {κ β : Type} (f : κ → β) (k : κ) (v : β) : κ → β := fun q => if q = k then v else f q
theorem upd_same {κ β : Type} (f : κ → β) (k : κ) (v : β) : upd f k v k = v := by simp [upd]
theorem upd_ne {κ β : Type} (f : κ → β) {k q : κ} (v : β) (h : q ≠ k) : upd f k v q = f q := by simp [upd, h]

structure KeyTy (κ : Type) (P : Program) (kt : TypeId) where
  enc : κ → Value
  inj : ∀ {a b : κ}, enc a = enc b → a = b
  check : ∀ (w : World) (em : Bool) (k : κ), (Instr.checkKey em 10000 kt (enc k)).run P w = .ok () w
  find : ∀ (w : World) (k : κ) (es : List MapEntry), (∀ e ∈ es, ∃ k', e.key = enc k') →
    ((Instr.findKey kt (enc k) es).run P w = .ok none w ∧ ∀ e ∈ es, e.key ≠ enc k) ∨ ∃ j e, (Instr.findKey kt (enc k) es).run P w = .ok (some (j, e.val)) w ∧ es[j]? = some e ∧ e.key = enc k
  stays : ∀ (w : World) (k : κ), (Instr.keyThatStays (enc k) (enc k)).run P w = .ok (enc k) w

theorem wf64 {n : Int} (h1 : -9223372036854775808 ≤ n) (h2 : n ≤ 9223372036854775807) : (Lit.int .i64 n).wf = true := WalkArith.wf_i64 ⟨h1, h2⟩

/-- Whole numbers as keys. -/
def KeyTy.int {P : Program} {kt : TypeId} {q : IntKind} (hk : P.underlying kt = some (.int q)) : KeyTy Int P kt where
  enc := Value.int q
  inj := fun h => by injection h
  check := fun w em k => run_checkKey hk (show IsKey (.int q) (.int q k) from rfl) em 9999
  find := fun w k es hes => by
    have hks : ∀ y ∈ es, IsKey (.int q) y.key := fun y hy => by
      obtain ⟨k', hk'⟩ := hes y hy
      rw [hk']
      exact rfl
    rcases findNow_spec (show IsKey (.int q) (.int q k) from rfl) es 0 hks with ⟨h1, h2⟩ | ⟨j, e0, h1, h2, h3⟩
    · exact Or.inl ⟨run_findKey hk h1, h2⟩
    · exact Or.inr ⟨j, e0, by simpa using run_findKey hk h1, h2, h3⟩
  stays := fun w k => run_keyThatStays (show IsKey (.int q) (.int q k) from rfl)
/-- Texts as keys. -/
def KeyTy.str {P : Program} {kt : TypeId} (hk : P.underlying kt = some .string) : KeyTy ByteArray P kt where
  enc := Value.string
  inj := fun h => by injection h
  check := fun w em k => run_checkKey hk (show IsKey .string (.string k) from trivial) em 9999
  find := fun w k es hes => by
    have hks : ∀ y ∈ es, IsKey .string y.key := fun y hy => by
      obtain ⟨k', hk'⟩ := hes y hy
      rw [hk']
      exact trivial
    rcases findNow_spec (show IsKey .string (.string k) from trivial) es 0 hks with ⟨h1, h2⟩ | ⟨j, e0, h1, h2, h3⟩
    · exact Or.inl ⟨run_findKey hk h1, h2⟩
    · exact Or.inr ⟨j, e0, by simpa using run_findKey hk h1, h2, h3⟩
  stays := fun w k => run_keyThatStays (show IsKey .string (.string k) from trivial)

section
variable {κ : Type} {P : Program} {kt : TypeId}

/-- Block b holds a map that reads as f. -/
def MapAt (K : KeyTy κ P kt) (w : World) (b : Nat) (f : κ → Option Value) : Prop := MapIn K.enc w b f

theorem MapAt.same {K : KeyTy κ P kt} {w w' : World} {b : Nat} {f : κ → Option Value} (h : MapAt K w b f) (hs : w'.heap[b]? = w.heap[b]?) : MapAt K w' b f := by
  obtain ⟨es, clock, hb, h1, h2, h3⟩ := h
  exact ⟨es, clock, hs.trans hb, h1, h2, h3⟩
theorem MapAt.lt {K : KeyTy κ P kt} {w : World} {b : Nat} {f : κ → Option Value} (h : MapAt K w b f) : b < w.heap.size := by
  obtain ⟨es, clock, hb, _⟩ := h
  exact (Array.getElem?_eq_some_iff.1 hb).1
theorem MapAt.ext {K : KeyTy κ P kt} {w : World} {b : Nat} {f g : κ → Option Value} (h : MapAt K w b f) (hfg : ∀ k, f k = g k) : MapAt K w b g := by
  rw [← funext hfg]
  exact h
theorem MapAt.made (K : KeyTy κ P kt) (w : World) : MapAt K (w.alloc (.map #[] 0)) w.heap.size (fun _ => none) :=
  ⟨#[], 0, by show (w.heap.push _)[w.heap.size]? = _; simp, by simp, by simp, by simp⟩

/-- What is found of a key. -/
theorem MapAt.found {K : KeyTy κ P kt} {w : World} {b : Nat} {f : κ → Option Value} (h : MapAt K w b f) (k : κ) :
    ∃ es clock, w.heap[b]? = some (.map es clock) ∧ (((Instr.findKey kt (K.enc k) es.toList).run P w = .ok none w ∧ f k = none ∧ ∀ e ∈ es.toList, e.key ≠ K.enc k) ∨
      ∃ j e, (Instr.findKey kt (K.enc k) es.toList).run P w = .ok (some (j, e.val)) w ∧ f k = some e.val ∧ es.toList[j]? = some e ∧ e.key = K.enc k) := by
  obtain ⟨es, clock, hb, h1, h2, h3⟩ := h
  refine ⟨es, clock, hb, ?_⟩
  rcases K.find w k es.toList h1 with ⟨hr, hn⟩ | ⟨j, e, hr, hj, he⟩
  · refine .inl ⟨hr, ?_, hn⟩
    cases hf : f k with
    | none => rfl
    | some v =>
      obtain ⟨e, he, hk, _⟩ := (h3 k v).1 hf
      exact absurd hk (hn e he)
  · exact .inr ⟨j, e, hr, (h3 k e.val).2 ⟨e, List.mem_of_getElem? hj, he, rfl⟩, hj, he⟩

theorem MapAt.run_lookup {K : KeyTy κ P kt} {w : World} {b : Nat} {f : κ → Option Value} (h : MapAt K w b f) {t et : TypeId} (ht : P.underlying t = some (.map kt et)) {z : Value} (hz : (zeroValue et).run P w = .ok z w) (k : κ) :
    (Instr.lookup t (.map (some b)) (K.enc k) true).run P w = .ok (.tuple #[(f k).getD z, .bool (f k).isSome]) w := by
  obtain ⟨es, clock, hb, hc⟩ := h.found k
  rcases hc with ⟨hr, hf, _⟩ | ⟨j, e, hr, hf, _, _⟩
  · simp [Instr.lookup, run_underlying ht, getObj, Sem.run, hb, K.check, hr, hf, hz, Result.andThen]
  · simp [Instr.lookup, run_underlying ht, getObj, Sem.run, hb, K.check, hr, hf, Result.andThen]
theorem MapAt.run_lookup1 {K : KeyTy κ P kt} {w : World} {b : Nat} {f : κ → Option Value} (h : MapAt K w b f) {t et : TypeId} (ht : P.underlying t = some (.map kt et)) {z : Value} (hz : (zeroValue et).run P w = .ok z w) (k : κ) :
    (Instr.lookup t (.map (some b)) (K.enc k) false).run P w = .ok ((f k).getD z) w := by
  obtain ⟨es, clock, hb, hc⟩ := h.found k
  rcases hc with ⟨hr, hf, _⟩ | ⟨j, e, hr, hf, _, _⟩
  · simp [Instr.lookup, run_underlying ht, getObj, Sem.run, hb, K.check, hr, hf, hz, Result.andThen]
  · simp [Instr.lookup, run_underlying ht, getObj, Sem.run, hb, K.check, hr, hf, Result.andThen]

theorem getElem?_lt {α : Type} {l : List α} {j : Nat} {e : α} (h : l[j]? = some e) : j < l.length := (List.getElem?_eq_some_iff.1 h).1

theorem setObj_keep {w : World} {b : Nat} {o : Obj} (_h : b < w.heap.size) : Keep (fun k => k = b) w { w with heap := w.heap.setIfInBounds b o } :=
  ⟨rfl, rfl, rfl, by simp, fun k _ hk => by simp [Array.getElem?_setIfInBounds]; intro e; exact absurd e.symm hk⟩

theorem setObj_at {w : World} {b : Nat} (o : Obj) (h : b < w.heap.size) : ({ w with heap := w.heap.setIfInBounds b o } : World).heap[b]? = some o := by
  simp [Array.getElem?_setIfInBounds, h]

open Classical in
/-- m[k] = v. -/
theorem MapAt.run_update {K : KeyTy κ P kt} {w : World} {b : Nat} {f : κ → Option Value} (h : MapAt K w b f) {t et : TypeId} (ht : P.underlying t = some (.map kt et)) (k : κ) (v : Value) :
    ∃ w', (Instr.mapUpdate t (.map (some b)) (K.enc k) v).run P w = .ok () w' ∧ MapAt K w' b (upd f k (some v)) ∧ Keep (fun i => i = b) w w' ∧ w'.heap.size = w.heap.size := by
  have h' := h
  obtain ⟨es0, clock0, hb0, h1, h2, h3⟩ := h'
  obtain ⟨es, clock, hb, hc⟩ := h.found k
  obtain ⟨rfl, rfl⟩ : es = es0 ∧ clock = clock0 := by
    rw [hb0] at hb
    injection hb with hb
    injection hb with e1 e2
    exact ⟨e1.symm, e2.symm⟩
  have hlt := h.lt
  rcases hc with ⟨hr, hf, hno⟩ | ⟨j, e, hr, hf, hj, he⟩
  · refine ⟨{ w with heap := w.heap.setIfInBounds b (.map (es.push { key := K.enc k, val := v, born := clock }) (clock + 1)) }, ?_, ?_, setObj_keep hlt, by simp⟩
    · simp [Instr.mapUpdate, run_underlying ht, getObj, setObj, Sem.run, hb, K.check, hr, Result.andThen]
    · refine ⟨_, _, setObj_at _ hlt, ?_, ?_, ?_⟩
      · intro x hx
        simp at hx
        rcases hx with hx | rfl
        · exact h1 x (by simpa using hx)
        · exact ⟨k, rfl⟩
      · simp only [Array.toList_push]
        rw [List.pairwise_append]
        refine ⟨h2, by simp, ?_⟩
        intro x hx y hy
        simp at hy
        subst hy
        exact hno x hx
      · intro k' v'
        by_cases hk : k' = k
        · subst hk
          simp only [upd_same, Option.some.injEq]
          constructor
          · rintro rfl
            exact ⟨{ key := K.enc k', val := v, born := clock }, by simp, rfl, rfl⟩
          · rintro ⟨x, hx, hk2, rfl⟩
            simp at hx
            rcases hx with hx | rfl
            · exact absurd hk2 (hno x (by simpa using hx))
            · rfl
        · rw [upd_ne _ _ hk, h3]
          constructor
          · rintro ⟨x, hx, r⟩
            exact ⟨x, by simp at hx ⊢; exact .inl hx, r⟩
          · rintro ⟨x, hx, hk2, r⟩
            simp at hx
            rcases hx with hx | rfl
            · exact ⟨x, by simpa using hx, hk2, r⟩
            · exact absurd (K.inj hk2).symm hk
  · have hjl : j < es.size := by have := getElem?_lt hj; simpa using this
    have hje : es[j]? = some e := by simpa using hj
    refine ⟨{ w with heap := w.heap.setIfInBounds b (.map (es.modify j fun e => { e with key := K.enc k, val := v }) clock) }, ?_, ?_, setObj_keep hlt, by simp⟩
    · simp [Instr.mapUpdate, run_underlying ht, getObj, setObj, Sem.run, hb, K.check, hr, Result.andThen, hje, he, K.stays]
    · have hmod : (es.modify j fun e => { e with key := K.enc k, val := v }).toList = es.toList.set j { e with key := K.enc k, val := v } := by
        apply List.ext_getElem?
        intro i
        simp only [Array.getElem?_toList, Array.getElem?_modify, List.getElem?_set]
        by_cases hij : j = i
        · subst hij
          have := (Array.getElem?_eq_some_iff.1 hje).2
          simp [hjl, this]
        · simp [hij]
      have hmem : ∀ x, x ∈ es.toList.set j { e with key := K.enc k, val := v } ↔ x = { e with key := K.enc k, val := v } ∨ (x ∈ es.toList ∧ x.key ≠ K.enc k) := by
        intro x
        constructor
        · intro hx
          obtain ⟨i, hi, rfl⟩ := List.getElem_of_mem hx
          rw [List.getElem_set]
          split
          · exact .inl rfl
          · rename_i hne
            refine .inr ⟨List.getElem_mem _, fun hk => ?_⟩
            have hil : i < es.toList.length := by simpa using hi
            have := List.pairwise_iff_getElem.1 h2
            have ej : es.toList[j]'(by simpa using hjl) = e := (List.getElem?_eq_some_iff.1 hj).2
            rcases Nat.lt_or_ge i j with hij | hij
            · exact this i j hil (by simpa using hjl) hij (by rw [ej, he, hk])
            · exact this j i (by simpa using hjl) hil (by omega) (by rw [ej, he, hk])
        · rintro (rfl | ⟨hx, hk⟩)
          · exact List.mem_iff_getElem.2 ⟨j, by simpa using hjl, by simp⟩
          · obtain ⟨i, hi, rfl⟩ := List.getElem_of_mem hx
            have hne : j ≠ i := by
              rintro rfl
              exact hk (by rw [(List.getElem?_eq_some_iff.1 hj).2, he])
            exact List.mem_iff_getElem.2 ⟨i, by simpa using hi, by rw [List.getElem_set, if_neg hne]⟩
      refine ⟨_, _, setObj_at _ hlt, ?_, ?_, ?_⟩
      · rw [hmod]
        intro x hx
        rcases (hmem x).1 hx with rfl | ⟨hx, _⟩
        · exact ⟨k, rfl⟩
        · exact h1 x hx
      · rw [hmod, List.pairwise_iff_getElem]
        intro i i' hi hi' hii
        have h2' := List.pairwise_iff_getElem.1 h2
        have ej : es.toList[j]'(by simpa using hjl) = e := (List.getElem?_eq_some_iff.1 hj).2
        have hil : i < es.toList.length := by simpa using hi
        have hil' : i' < es.toList.length := by simpa using hi'
        rw [List.getElem_set, List.getElem_set]
        split
        · rename_i e1
          subst e1
          rw [if_neg (by omega)]
          have := h2' j i' hil hil' hii
          rw [ej, he] at this
          exact this
        · split
          · rename_i e1 e2
            subst e2
            have := h2' i j hil hil' hii
            rw [ej, he] at this
            exact this
          · exact h2' i i' hil hil' hii
      · intro k' v'
        rw [hmod]
        by_cases hk : k' = k
        · subst hk
          simp only [upd_same, Option.some.injEq]
          constructor
          · rintro rfl
            exact ⟨_, (hmem _).2 (.inl rfl), rfl, rfl⟩
          · rintro ⟨x, hx, hk2, rfl⟩
            rcases (hmem x).1 hx with rfl | ⟨_, hne⟩
            · rfl
            · exact absurd hk2 hne
        · rw [upd_ne _ _ hk, h3]
          constructor
          · rintro ⟨x, hx, hk2, r⟩
            exact ⟨x, (hmem x).2 (.inr ⟨hx, fun h => hk (K.inj (hk2.symm.trans h))⟩), hk2, r⟩
          · rintro ⟨x, hx, hk2, r⟩
            rcases (hmem x).1 hx with rfl | ⟨hx, _⟩
            · exact absurd (K.inj hk2).symm hk
            · exact ⟨x, hx, hk2, r⟩

open Classical in
/-- delete(m, k). -/
theorem MapAt.run_delete {K : KeyTy κ P kt} {w : World} {b : Nat} {f : κ → Option Value} (h : MapAt K w b f) {t et : TypeId} (ht : P.underlying t = some (.map kt et)) (k : κ) (ty : TypeId) :
    ∃ w', (Builtin.delete_ #[t, kt] ty #[.map (some b), K.enc k]).run P w = .ok (.tuple #[]) w' ∧ MapAt K w' b (upd f k none) ∧ Keep (fun i => i = b) w w' ∧ w'.heap.size = w.heap.size := by
  have h' := h
  obtain ⟨es0, clock0, hb0, h1, h2, h3⟩ := h'
  obtain ⟨es, clock, hb, hc⟩ := h.found k
  obtain ⟨rfl, rfl⟩ : es = es0 ∧ clock = clock0 := by
    rw [hb0] at hb
    injection hb with hb
    injection hb with e1 e2
    exact ⟨e1.symm, e2.symm⟩
  have hlt := h.lt
  rcases hc with ⟨hr, hf, hno⟩ | ⟨j, e, hr, hf, hj, he⟩
  · refine ⟨{ w with heap := w.heap.setIfInBounds b (.map es clock) }, ?_, ⟨es, clock, setObj_at _ hlt, h1, h2, ?_⟩, setObj_keep hlt, by simp⟩
    · simp [Builtin.delete_, run_underlying ht, getObj, setObj, Sem.run, hb, K.check, hr, Result.andThen]
    · intro k' v'
      by_cases hk : k' = k
      · subst hk
        simp only [upd_same]
        constructor
        · intro h; cases h
        · rintro ⟨x, hx, hk2, _⟩
          exact absurd hk2 (hno x hx)
      · rw [upd_ne _ _ hk, h3]
  · have hjl : j < es.size := by have := getElem?_lt hj; simpa using this
    refine ⟨{ w with heap := w.heap.setIfInBounds b (.map (es.eraseIdxIfInBounds j) clock) }, ?_, ?_, setObj_keep hlt, by simp⟩
    · simp [Builtin.delete_, run_underlying ht, getObj, setObj, Sem.run, hb, K.check, hr, Result.andThen]
    · have hmod : (es.eraseIdxIfInBounds j).toList = es.toList.eraseIdx j := by simp [Array.eraseIdxIfInBounds, hjl]
      have hmem : ∀ x, x ∈ es.toList.eraseIdx j ↔ (x ∈ es.toList ∧ x.key ≠ K.enc k) := by
        intro x
        have ej : es.toList[j]'(by simpa using hjl) = e := (List.getElem?_eq_some_iff.1 hj).2
        rw [List.mem_eraseIdx_iff_getElem]
        constructor
        · rintro ⟨i, hi, hij, rfl⟩
          refine ⟨List.getElem_mem _, fun hk => ?_⟩
          have := List.pairwise_iff_getElem.1 h2
          rcases Nat.lt_or_ge i j with hlt' | hge
          · exact this i j hi (by simpa using hjl) hlt' (by rw [ej, he, hk])
          · exact this j i (by simpa using hjl) hi (by omega) (by rw [ej, he, hk])
        · rintro ⟨hx, hk⟩
          obtain ⟨i, hi, rfl⟩ := List.getElem_of_mem hx
          exact ⟨i, hi, by rintro rfl; exact hk (by rw [ej, he]), rfl⟩
      refine ⟨_, _, setObj_at _ hlt, ?_, ?_, ?_⟩
      · rw [hmod]
        intro x hx
        exact h1 x ((hmem x).1 hx).1
      · rw [hmod]
        exact h2.sublist (List.eraseIdx_sublist _ _)
      · intro k' v'
        rw [hmod]
        by_cases hk : k' = k
        · subst hk
          simp only [upd_same]
          constructor
          · intro h; cases h
          · rintro ⟨x, hx, hk2, _⟩
            exact absurd hk2 ((hmem x).1 hx).2
        · rw [upd_ne _ _ hk, h3]
          constructor
          · rintro ⟨x, hx, hk2, r⟩
            exact ⟨x, (hmem x).2 ⟨hx, fun h => hk (K.inj (hk2.symm.trans h))⟩, hk2, r⟩
          · rintro ⟨x, hx, hk2, r⟩
            exact ⟨x, ((hmem x).1 hx).1, hk2, r⟩
end


/-- Keys by the type of the map. -/
instance : DecidableEq KK := fun a b =>
  match a, b with
  | .int i, .int j => if h : i = j then isTrue (by rw [h]) else isFalse (fun e => h (by injection e))
  | .str, .str => isTrue rfl
  | .pair i, .pair j => if h : i = j then isTrue (by rw [h]) else isFalse (fun e => h (by injection e))
  | .int _, .str | .int _, .pair _ | .str, .int _ | .str, .pair _ | .pair _, .int _ | .pair _, .str => isFalse (by simp)
def kkOf (P : Program) (kt : TypeId) : Option KK :=
  match P.underlying kt with
  | some (.int k) => some (.int k)
  | some .string => some .str
  | _ => none
def mapTy (P : Program) (t : TypeId) : Option (KK × TypeId × TypeId) :=
  match P.underlying t with
  | some (.map kt et) => (kkOf P kt).map fun kk => (kk, kt, et)
  | _ => none
def keyOk : KK → D → Bool
  | .int k, .int k' _ => k == k'
  | .str, .str _ => true
  | .pair k, .agg [.str _, .int k' _] => k == k'
  | _, _ => false
theorem mapTy_spec {P : Program} {t kt et : TypeId} {kk : KK} (h : mapTy P t = some (kk, kt, et)) : P.underlying t = some (.map kt et) ∧ kkOf P kt = some kk := by
  unfold mapTy at h
  split at h
  · rename_i kt' et' he
    simp only [Option.map_eq_some_iff] at h
    obtain ⟨kk', h1, h2⟩ := h
    injection h2 with h2 h3
    injection h3 with h3 h4
    subst h2 h3 h4
    exact ⟨he, h1⟩
  · cases h

open Classical in
noncomputable def updD (m : D → Option V) (k : D) (v : Option V) : D → Option V := fun q => if q = k then v else m q

def evalLookup (P : Program) (t : TypeId) (m k : V) (ok : Bool) (blk : Option Blk) : Option V :=
  match mapTy P t, m, k, blk with
  | some (kk, _, et), .map nm, .d key, some (.map kk' f) => match tinf P et with
    | some ti => if kk' = kk ∧ keyOk kk key = true then some (if ok then .tup [(f key).getD (ofConst ti.zero), .d (.bool (f key).isSome)] else (f key).getD (ofConst ti.zero)) else none
    | none => none
  | _, _, _, _ => none
noncomputable def evalUpdate (P : Program) (t : TypeId) (m k : V) (v : Option V) (blk : Option Blk) : Option Blk :=
  match mapTy P t, m, k, blk with
  | some (kk, _, _), .map nm, .d key, some (.map kk' f) => if kk' = kk ∧ keyOk kk key = true then some (.map kk (updD f key v)) else none
  | _, _, _, _ => none

theorem OptRV.getD {g : Gh} {w : World} {x : Option V} {v : Option Value} (h : OptRV g w x v) {z : V} {zv : Value} (hz : RV g w z zv) : RV g w (x.getD z) (v.getD zv) ∧ x.isSome = v.isSome := by
  cases h with
  | none => exact ⟨hz, rfl⟩
  | some h => exact ⟨h, rfl⟩

theorem tupRV2 {g : Gh} {w : World} {x y : V} {a b : Value} (hx : RV g w x a) (hy : RV g w y b) : RV g w (.tup [x, y]) (.tuple #[a, b]) := by
  refine .tup _ _ rfl fun j z hz => ?_
  match j, hz with
  | 0, hz => simp at hz; subst hz; exact hx
  | 1, hz => simp at hz; subst hz; exact hy
  | j + 2, hz => simp at hz

theorem evalLookup_run {P : Program} {g : Gh} {w : World} {t : TypeId} {m k v : V} {a b : Value} {ok : Bool} {blk : Option Blk} (h : evalLookup P t m k ok blk = some v) (hm : RV g w m a) (hk : RV g w k b) (hb : ∀ nm q, refOf m = some nm → blk = some q → BlkOK g w nm q) :
    ∃ v', (Instr.lookup t a b ok).run P w = .ok v' w ∧ RV g w v v' := by
  unfold evalLookup at h
  split at h
  case h_2 => cases h
  rename_i kk kt et nm key kk' f hmt
  split at h
  case h_2 => cases h
  rename_i ti hti
  split at h
  case isFalse => cases h
  rename_i hc
  obtain ⟨rfl, hko⟩ := hc
  injection h with h
  subst h
  obtain ⟨hu, hkk⟩ := mapTy_spec hmt
  have hz := run_zeroValue' hti w
  have hzv := ofConst_rv g w ti.zero
  obtain ⟨bb, hbb, hin⟩ := hb nm _ rfl rfl
  cases hm with
  | map _ b' hU hb' =>
    rw [hbb] at hb'
    injection hb' with hb'
    subst hb'
    cases hk with | d hk =>
    have fin : ∀ {κ : Type} (K : KeyTy κ P kt) (q : κ) (F : κ → Option Value), b = K.enc q → MapAt K w bb F → OptRV g w (f key) (F q) →
        ∃ v', (Instr.lookup t (.map (some bb)) b ok).run P w = .ok v' w ∧ RV g w (if ok then .tup [(f key).getD (ofConst ti.zero), .d (.bool (f key).isSome)] else (f key).getD (ofConst ti.zero)) v' := by
      intro κ K q F hbq hM hO
      subst hbq
      obtain ⟨h1, h2⟩ := hO.getD hzv
      cases ok with
      | true => exact ⟨_, hM.run_lookup hu hz q, tupRV2 h1 (by rw [h2]; exact .d (.bool _))⟩
      | false => exact ⟨_, hM.run_lookup1 hu hz q, h1⟩
    unfold kkOf at hkk
    split at hkk
    · rename_i ki hki
      injection hkk with hkk
      subst hkk
      obtain ⟨F, hF1, hF2⟩ := hin
      cases key <;> simp [keyOk] at hko
      subst hko
      cases hk
      exact fin (KeyTy.int hki) _ F rfl hF1 (hF2 _)
    · rename_i hks
      injection hkk with hkk
      subst hkk
      obtain ⟨F, hF1, hF2⟩ := hin
      cases key <;> simp [keyOk] at hko
      cases hk
      exact fin (KeyTy.str hks) _ F rfl hF1 (hF2 _)
    · cases hkk

theorem Keep.ne {b : Nat} {w w' : World} (h : Keep (fun i => i = b) w w') (hs : w'.heap.size = w.heap.size) : ∀ i, i ≠ b → w'.heap[i]? = w.heap[i]? := by
  intro i hi
  by_cases hlt : i < w.heap.size
  · exact h.block i hlt hi
  · rw [Array.getElem?_eq_none (by omega), Array.getElem?_eq_none (by omega)]

theorem evalUpdate_run {P : Program} {g : Gh} {w : World} {H : Nat → Option Blk} {t : TypeId} {m k : V} {v : Option V} {a b : Value} {vv : Option Value} {nm : Nat} {q : Blk} (h : evalUpdate P t m k v (H nm) = some q) (hS : RS g w H) (hnm : refOf m = some nm) (hm : RV g w m a) (hk : RV g w k b) (hv : OptRV g w v vv) :
    ∃ w', (∀ z, vv = some z → (Instr.mapUpdate t a b z).run P w = .ok () w') ∧ (vv = none → ∀ kt et ty, P.underlying t = some (.map kt et) → (Builtin.delete_ #[t, kt] ty #[a, b]).run P w = .ok (.tuple #[]) w') ∧ Ext g w g w' ∧ RS g w' (hset H nm (some q)) := by
  unfold evalUpdate at h
  split at h
  case h_2 => cases h
  rename_i kk kt et nm' key kk' f hmt hH
  obtain rfl : nm' = nm := by simpa [refOf] using hnm
  split at h
  case isFalse => cases h
  rename_i hc
  obtain ⟨rfl, hko⟩ := hc
  injection h with h
  subst h
  obtain ⟨hu, hkk⟩ := mapTy_spec hmt
  obtain ⟨hU0, bb, hbb, hin⟩ := hS.ok _ _ hH
  cases hm with
  | map _ b' hU hb' =>
    rw [hbb] at hb'
    injection hb' with hb'
    subst hb'
    cases hk with | d hk =>
    have fin : ∀ {κ : Type} (K : KeyTy κ P kt) (c : κ) (F : κ → Option Value), b = K.enc c → MapAt K w bb F →
        ∃ w', (∀ z, vv = some z → (Instr.mapUpdate t (.map (some bb)) b z).run P w = .ok () w') ∧ (vv = none → ∀ kt et ty, P.underlying t = some (.map kt et) → (Builtin.delete_ #[t, kt] ty #[.map (some bb), b]).run P w = .ok (.tuple #[]) w') ∧
          MapAt K w' bb (upd F c vv) ∧ Keep (fun i => i = bb) w w' ∧ w'.heap.size = w.heap.size := by
      intro κ K c F hbc hM
      subst hbc
      cases vv with
      | some z =>
        obtain ⟨w', e1, e2, e3, e4⟩ := hM.run_update hu c z
        exact ⟨w', fun z' hz' => by injection hz' with hz'; subst hz'; exact e1, (by intro h; cases h), e2, e3, e4⟩
      | none =>
        obtain ⟨w', e1, e2, e3, e4⟩ := hM.run_delete hu c 0
        refine ⟨w', (by intro z h; cases h), fun _ kt' et' ty hu' => ?_, e2, e3, e4⟩
        have hkt : kt = kt' ∧ et = et' := by simpa [hu] using hu'
        rw [← hkt.1]
        simpa [Builtin.delete_] using e1
    unfold kkOf at hkk
    split at hkk
    · rename_i ki hki
      injection hkk with hkk
      subst hkk
      obtain ⟨F, hF1, hF2⟩ := hin
      cases key <;> simp [keyOk] at hko
      rename_i ki' n
      subst hko
      cases hk
      obtain ⟨w', e1, e2, e3, e4, e5⟩ := fin (KeyTy.int hki) n F rfl hF1
      obtain ⟨hE, hS'⟩ := hS.write (k' := .map (.int ki) (updD f (.int ki n) v)) hH hbb (e4.ne e5) e4.os e4.tape e4.output e5 (fun hE => ⟨bb, hbb, _, e3, fun i => by
        by_cases hi : i = n
        · subst hi
          simp only [updD, upd, if_true]
          exact hv.mono hE
        · simp only [updD, upd, if_neg hi, D.int.injEq, true_and]
          exact (hF2 i).mono hE⟩)
      exact ⟨w', e1, e2, hE, hS'⟩
    · rename_i hks
      injection hkk with hkk
      subst hkk
      obtain ⟨F, hF1, hF2⟩ := hin
      cases key <;> simp [keyOk] at hko
      rename_i n
      cases hk
      obtain ⟨w', e1, e2, e3, e4, e5⟩ := fin (KeyTy.str hks) n F rfl hF1
      obtain ⟨hE, hS'⟩ := hS.write (k' := .map .str (updD f (.str n) v)) hH hbb (e4.ne e5) e4.os e4.tape e4.output e5 (fun hE => ⟨bb, hbb, _, e3, fun i => by
        by_cases hi : i = n
        · subst hi
          simp only [updD, upd, if_true]
          exact hv.mono hE
        · simp only [updD, upd, if_neg hi, D.str.injEq]
          exact (hF2 i).mono hE⟩)
      exact ⟨w', e1, e2, hE, hS'⟩
    · cases hkk

theorem evalMakeMap_run {P : Program} {g : Gh} {w : World} {H : Nat → Option Blk} {t kt et : TypeId} {kk : KK} {nm : Nat} (hmt : mapTy P t = some (kk, kt, et)) (hS : RS g w H) (hn : ¬ g.U nm) :
    ∃ v' w' g', (Instr.makeMap t none).run P w = .ok v' w' ∧ Ext g w g' w' ∧ RS g' w' (hset H nm (some (.map kk fun _ => none))) ∧ RV g' w' (.map nm) v' ∧ (∀ k, g'.U k → g.U k ∨ k = nm) := by
  have hh : ∀ b, b < w.heap.size → (w.alloc (.map #[] 0)).heap[b]? = w.heap[b]? := fun b hb => heap_alloc_old w _ hb
  have hm : ∀ {κ : Type} (enc : κ → Value), MapIn enc (w.alloc (.map #[] 0)) w.heap.size (fun _ => none) := fun enc => ⟨#[], 0, heap_alloc_new _ _, by simp, by simp, by simp⟩
  obtain ⟨hE, hS'⟩ := hS.new (w' := w.alloc (.map #[] 0)) (r := ⟨some w.heap.size, 0, 0, 0⟩) (k := .map kk fun _ => none) hn hh rfl rfl rfl (by simp) rfl (by
    refine ⟨w.heap.size, by rw [g.new_at], ?_⟩
    cases kk with
    | int k => exact ⟨_, hm _, fun _ => .none⟩
    | str => exact ⟨_, hm _, fun _ => .none⟩
    | pair k => exact ⟨_, hm _, fun _ _ => .none⟩)
  exact ⟨_, _, _, by simp [Instr.makeMap] <;> rfl, hE, hS', .map nm _ (.inr rfl) (by rw [g.new_at]), fun k hk => hk⟩

/-- make of a slice. -/
def evalMakeSlice (P : Program) (t : TypeId) (l c : V) (nm : Nat) : Option (V × Eff) :=
  match selem P t, intOf? l, intOf? c with
  | some e, some n, some n' => match tinf P e with
    | some ti => if n = n' ∧ 0 ≤ n ∧ (ti.bytes : Int) * n ≤ 281474976710656 ∧ n ≤ 140737488355328 ∧ (ofConst ti.zero).cells.length = ti.size then some (.ms nm ti.size 0 n.toNat, .put nm (.row ti.size (List.replicate n.toNat (ofConst ti.zero)))) else none
    | none => none
  | _, _, _ => none
theorem ofConst_cells (v : Value) (x : V) (j : Nat) (h : (ofConst v).cells[j]? = some x) (hs : (ofConst v).cells.length = v.cells.size) (g : Gh) (w : World) : RV g w x (v.cells.getD j undef) := by
  cases v with
  | agg cs =>
    simp only [ofConst, mkAgg_cells, List.getElem?_map, Option.map_eq_some_iff] at h
    obtain ⟨c, hc, rfl⟩ := h
    have : cs.getD j undef = c := by
      simp at hc
      simp [hc]
    simp only [Value.cells]
    rw [this]
    exact ofScalar_rv g w c
  | _ =>
    have hsc : ∀ (v : Value), (ofScalar v).cells = [ofScalar v] := fun v => by unfold ofScalar; split <;> rfl
    simp only [ofConst, hsc] at h
    cases j with
    | zero => simp at h; subst h; exact ofScalar_rv g w _
    | succ j => simp at h
theorem evalMakeSlice_run {P : Program} {g : Gh} {w : World} {H : Nat → Option Blk} {t : TypeId} {l c v : V} {a b : Value} {nm : Nat} {ef : Eff} (h : evalMakeSlice P t l c nm = some (v, ef)) (hS : RS g w H) (hn : ¬ g.U nm) (hl : RV g w l a) (hc : RV g w c b) :
    ∃ v' w' g', (Instr.makeSlice t a b).run P w = .ok v' w' ∧ Ext g w g' w' ∧ RS g' w' (ef.on H) ∧ RV g' w' v v' ∧ (∀ k, g'.U k → g.U k ∨ k = nm) := by
  unfold evalMakeSlice at h
  split at h
  case h_2 => cases h
  rename_i e n n' he hln hcn
  split at h
  case h_2 => cases h
  rename_i ti hti
  split at h
  case isFalse => cases h
  rename_i hcc
  obtain ⟨rfl, h0, hby', hbd, hzl⟩ := hcc
  injection h with h
  injection h with h1 h2
  subst h1 h2
  have hu := selem_spec he
  obtain ⟨i, d, hi, hd, hz, hzs, hsz, hby, _⟩ := tinf_spec hti
  obtain ⟨kl, rfl⟩ := intOf?_rv hln hl
  obtain ⟨kc, rfl⟩ := intOf?_rv hcn hc
  have hr := run_make w t e i ti.zero hu hi hz kl kc n n h0 (by omega) (by rw [hby]; exact hby') (by omega)
  have hh : ∀ b, b < w.heap.size → (w.alloc (.cells (madeCells ti.zero.cells (n.toNat * i.size)) e)).heap[b]? = w.heap[b]? := fun b hb => heap_alloc_old w _ hb
  have hms : (madeCells ti.zero.cells (n.toNat * i.size)).size = n.toNat * ti.size := by simp [madeCells, hsz]
  obtain ⟨hE, hS'⟩ := hS.new (w' := w.alloc (.cells (madeCells ti.zero.cells (n.toNat * i.size)) e)) (r := ⟨some w.heap.size, 0, ti.size, n.toNat⟩) (k := .row ti.size (List.replicate n.toNat (ofConst ti.zero))) hn hh rfl rfl rfl (by simp) rfl (by
    refine ⟨by rw [g.new_at], by rw [g.new_at]; simp, fun k x hx => ?_, .inr ⟨w.heap.size, _, e, by rw [g.new_at], heap_alloc_new _ _, by rw [g.new_at, hms]; simp, fun k j x y hx hy => ?_⟩⟩
    · have := List.mem_of_getElem? hx
      rw [List.mem_replicate] at this
      rw [this.2]
      exact hzl
    · have hx' := List.mem_of_getElem? hx
      rw [List.mem_replicate] at hx'
      rw [hx'.2] at hy
      have hk : k < n.toNat := by have := (List.getElem?_eq_some_iff.1 hx).1; simpa using this
      have hj : j < ti.size := by rw [← hzl]; exact (List.getElem?_eq_some_iff.1 hy).1
      have hm : (k + 1) * ti.size ≤ n.toNat * ti.size := Nat.mul_le_mul_right _ hk
      rw [Nat.add_mul] at hm
      have hlt : k * ti.size + j < n.toNat * ti.size := by omega
      rw [g.new_at]
      have hget : (madeCells ti.zero.cells (n.toNat * i.size)).getD (0 + k * ti.size + j) undef = ti.zero.cells.getD j undef := by
        have hjz : j < ti.zero.cells.size := by omega
        obtain ⟨_, e2⟩ := divmod (i := k) hj
        simp [madeCells, hsz, hlt, hzs, e2, hjz]
        simp [getElem!_pos, hjz]
      simp only
      rw [hget]
      exact ofConst_cells _ _ _ hy (by rw [hzl, hzs]) _ _)
  exact ⟨_, _, _, hr, hE, hS', .ms nm ti.size 0 n.toNat w.heap.size 0 n.toNat (.inr rfl) (by rw [g.new_at]) (by rw [g.new_at]) (by rw [g.new_at]; simp) (Nat.le_refl _) (by rw [g.new_at]; simp), fun k hk => hk⟩
end Go.Proofs.Ytafeehlpmdligaa.M
