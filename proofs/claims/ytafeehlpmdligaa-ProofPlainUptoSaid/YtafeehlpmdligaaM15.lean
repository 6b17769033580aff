/- What comes in as data, opened: the cells of arguments as pure data. -/
import Derived.Test.YtafeehlpmdligaaM14
import Derived.ProofKit
import Derived.SizedLaws
import Derived.WalkKit
import Derived.WalkSpells
import Derived.WalkLawsBesides
import Derived.BigGuardPart
namespace Go.Proofs.Ytafeehlpmdligaa.M
open Go.RowKit Go.MapKept
set_option linter.unusedSimpArgs false
set_option linter.unusedVariables false

/-- The cells of one value. -/
def CellsOf (F : Nat → Prop) (w : World) (d : D) (cs : List Value) : Prop := cs.length = d.cells.length ∧ ∀ (j : Nat) (y : D), d.cells[j]? = some y → RD F w y (cs.getD j undef)
theorem CellsOf.one {F : Nat → Prop} {w : World} {d : D} {cs : List Value} (h : CellsOf F w d cs) (hd : d.cells = [d]) : ∃ c, cs = [c] ∧ RD F w d c := by
  obtain ⟨h1, h2⟩ := h
  rw [hd] at h1 h2
  obtain ⟨c, rfl⟩ := List.length_eq_one_iff.1 h1
  exact ⟨c, rfl, h2 0 d rfl⟩
theorem CellsOf.of {F : Nat → Prop} {w : World} {d : D} {c : Value} (hd : d.cells = [d]) (h : RD F w d c) : CellsOf F w d [c] := by
  refine ⟨by rw [hd]; rfl, fun j y hy => ?_⟩
  rw [hd] at hy
  cases j with
  | zero => injection hy with hy; subst hy; exact h
  | succ j => cases hy

def OpensD {α : Type} (en : α → D) (V : α → Prop) (P : Program) (T : TypeId) : Prop :=
  ∀ {H : Type} {enc : TypeId × Value → H} {w : World} {base : Nat} {spare : Nat → Bool} {held : Bool} {fuel : Nat} {cs : List Value} {x : DataW H × List MemPlace},
    DataW.trod enc P w base spare held fuel T cs = some x → (∀ n ∈ x.1.weights P T, n ≤ reachBytes) → ∃ a, CellsOf (fun b => b < w.heap.size) w (en a) cs ∧ V a

def IntOk (k : IntKind) (n : Int) : Prop := (Lit.int k n).wf = true
section
variable {P : Program} {T : TypeId}
theorem opensD_int {k : IntKind} (hu : P.underlying T = some (.int k)) : OpensD (D.int k) (IntOk k) P T := by
  intro H enc w base spare held fuel cs x h _
  obtain ⟨n, rfl, _, hw⟩ := DataW.trod_int hu h
  exact ⟨n, .of rfl (.int k n), hw⟩
theorem opensD_bool (hu : P.underlying T = some .bool) : OpensD D.bool (fun _ => True) P T := by
  intro H enc w base spare held fuel cs x h _
  obtain ⟨b, rfl, _⟩ := DataW.trod_bool hu h
  exact ⟨b, .of rfl (.bool b), trivial⟩
theorem reach_val : reachBytes = 140737488351232 := by decide
theorem opensD_str (hu : P.underlying T = some .string) : OpensD D.str (fun s => s.size ≤ 140737488351232) P T := by
  intro H enc w base spare held fuel cs x h hz
  obtain ⟨s, rfl, rfl, _⟩ := DataW.trod_string hu h
  refine ⟨s, .of rfl (.str s), ?_⟩
  have := hz s.data.toList.length (by simp [DataW.weights])
  have h1 := Nat.le_trans this (Nat.le_of_lt reachBytes_lt)
  have h2 : s.data.toList.length = s.size := by rw [Array.length_toList]; rfl
  show s.size ≤ 140737488351232
  have h3 := reach_val
  omega

theorem add_plain (b o n : Nat) : (⟨b, o, none⟩ : Addr).add n = ⟨b, o + n, none⟩ := by
  unfold Addr.add
  split
  · rename_i h; subst h; rfl
  · rfl
theorem cells_of {w : World} {base : Nat} {a : Addr} {n : Nat} {cs : List Value} (h : w.cells? base a n = some cs) : base ≤ a.block ∧ cs.length = n ∧ ∀ j v, cs[j]? = some v → w.cell? (a.add j) = some v := by
  unfold World.cells? at h
  split at h
  · rename_i hb
    refine ⟨hb, by simpa using mapM_some_length h, fun j v hv => ?_⟩
    have hj : j < n := by
      have := mapM_some_length h
      have h2 := (List.getElem?_eq_some_iff.1 hv).1
      simp at this
      omega
    rw [← hv]
    exact mapM_some_get h j j (by simp [hj])
  · cases h
theorem weights_all {H : Type} {e : TypeId} {l : List (DataW H)} {d : DataW H} (h : d ∈ l) : ∀ n ∈ d.weights P e, n ∈ DataW.weightsAll P e l := by
  induction l with
  | nil => cases h
  | cons x l ih =>
    intro n hn
    simp only [DataW.weightsAll, List.mem_append]
    rcases List.mem_cons.1 h with rfl | h
    · exact .inl hn
    · exact .inr (ih h n hn)

def SlOk {α : Type} (V : α → Prop) (by_ : Nat) (xs : List α) : Prop := xs.length * by_ ≤ 140737488351232 ∧ ∀ x ∈ xs, V x
/-- A slice, element by element. -/
theorem opensD_sl {α : Type} {en : α → D} {V : α → Prop} {e : TypeId} {sz by_ : Nat} (hu : P.underlying T = some (.slice e)) (ho : OpensD en V P e) (hsz : P.cellsOf e = sz) (hby : P.bytesOf e = by_) (hs : 0 < sz) (hen : ∀ a, (en a).cells.length = sz) :
    OpensD (fun l : List α => D.sl (l.map en)) (SlOk V by_) P T := by
  intro H enc w base spare held fuel cs x h hz
  rcases DataW.trod_slice hu h with ⟨rfl, _⟩ | ⟨a, len, cap, elems, rest, n, _, rfl, rfl, hb, hl, hm, hlen, hel, _, _⟩
  · exact ⟨[], .of rfl (.slNil none 0), by simp [SlOk]⟩
  · have each : ∀ i (hi : i < len), ∃ y : α, V y ∧ ∃ cs, CellsOf (fun b => b < w.heap.size) w (en y) cs ∧ ∀ j v, cs[j]? = some v → w.cell? ((a.add (i * sz)).add j) = some v := by
      intro i hi
      have h1 := hel i hi
      rw [List.getElem?_eq_getElem (by omega), Option.bind_eq_some_iff, hsz] at h1
      obtain ⟨cs, hcs, htr⟩ := h1
      obtain ⟨_, _, hc⟩ := cells_of hcs
      obtain ⟨y, hK, hV⟩ := ho htr (fun n hn => hz n (by
        simp only [DataW.weights, hu, List.mem_cons, List.mem_append]
        exact .inr (.inl (weights_all (List.mem_map.2 ⟨_, List.getElem_mem _, rfl⟩) n hn))))
      exact ⟨y, hV, cs, hK, hc⟩
    classical
    let f : Fin len → α := fun i => Classical.choose (each i.1 i.2)
    have hf : ∀ i : Fin len, V (f i) ∧ ∃ cs, CellsOf (fun b => b < w.heap.size) w (en (f i)) cs ∧ ∀ j v, cs[j]? = some v → w.cell? ((a.add (i.1 * sz)).add j) = some v := fun i => Classical.choose_spec (each i.1 i.2)
    have hsize : len * by_ ≤ 140737488351232 := by
      have := hz ((elems.length + rest.length) * P.bytesOf e) (by simp [DataW.weights, hu])
      rw [hby, reach_val] at this
      refine Nat.le_trans (Nat.mul_le_mul_right _ ?_) this
      omega
    refine ⟨List.ofFn f, .of rfl ?_, by simpa using hsize, ?_⟩
    · rcases Nat.eq_zero_or_pos len with h0 | h0
      · subst h0
        have : List.ofFn f = [] := by simp
        rw [this]
        exact .slNil _ _
      · have hspot : a.spot = none ∧ a.block < w.heap.size := by
          obtain ⟨_, cs, hK, hc⟩ := hf ⟨0, h0⟩
          have hl0 := hK.1.trans (hen _)
          cases hcs : cs with
          | nil => rw [hcs] at hl0; simp at hl0; omega
          | cons v r =>
            have h1 := hc 0 v (by rw [hcs]; rfl)
            have e0 : (a.add (0 * sz)).add 0 = a := by rw [Nat.zero_mul]; rfl
            rw [e0] at h1
            refine ⟨?_, World.block_lt_of_cell? w _ h1⟩
            unfold World.cell? at h1
            split at h1
            · split at h1
              · cases h1
              · rename_i hs; cases hsp : a.spot with
                | none => rfl
                | some s => simp [hsp] at hs
            · cases h1
        obtain ⟨b, o, sp⟩ := a
        obtain ⟨hsp, hbl⟩ := hspot
        subst hsp
        have key : ∀ (i j : Nat) (x y : D), ((List.ofFn f).map en)[i]? = some x → x.cells[j]? = some y → ∃ v, w.cell? ⟨b, o + i * sz + j, none⟩ = some v ∧ RD (fun b => b < w.heap.size) w y v := by
          intro i j x y hx hy
          simp only [List.getElem?_map, Option.map_eq_some_iff] at hx
          obtain ⟨z, hz', rfl⟩ := hx
          have hi : i < len := by simpa using (List.getElem?_eq_some_iff.1 hz').1
          have hze : z = f ⟨i, hi⟩ := by
            rw [List.getElem?_eq_getElem (by simpa using hi)] at hz'
            injection hz' with hz'
            rw [← hz']
            simp
          subst hze
          obtain ⟨_, cs, hK, hc⟩ := hf ⟨i, hi⟩
          have hjl : j < cs.length := by rw [hK.1]; exact (List.getElem?_eq_some_iff.1 hy).1
          refine ⟨cs[j], ?_, ?_⟩
          · have := hc j cs[j] (by simp [hjl])
            rw [add_plain, add_plain] at this
            exact this
          · have := hK.2 j y hy
            simpa [List.getD, hjl] using this
        have hll : len = ((List.ofFn f).map en).length := by simp
        have hres : RD (fun b => b < w.heap.size) w (.sl ((List.ofFn f).map en)) (.slice (some ⟨b, o, none⟩) ((List.ofFn f).map en).length cap) := by
          refine .sl _ b o cap sz (fun i j => (w.cell? ⟨b, o + i * sz + j, none⟩).getD undef) hbl (by rw [← hll]; exact hl) (fun i x hx => ?_) (fun i j x y hx hy => ?_) (fun i j x y hx hy => ?_)
          · simp only [List.getElem?_map, Option.map_eq_some_iff] at hx
            obtain ⟨z, _, rfl⟩ := hx
            exact hen z
          · obtain ⟨v, h1, _⟩ := key i j x y hx hy
            rw [h1]; rfl
          · obtain ⟨v, h1, h2⟩ := key i j x y hx hy
            rw [h1]; exact h2
        rw [← hll] at hres
        exact hres
    · intro y hy
      obtain ⟨i, rfl⟩ := (List.mem_ofFn).1 hy
      exact (hf i).1

/-- A field of a struct. -/
theorem opens_field {fs : Array Field} (hu : P.underlying T = some (.struct fs)) {H : Type} {enc : TypeId × Value → H} {w : World} {base : Nat} {spare : Nat → Bool} {held : Bool} {fuel : Nat} {cs : List Value} {x : DataW H × List MemPlace}
    (h : DataW.trod enc P w base spare held fuel T cs = some x) (hz : ∀ n ∈ x.1.weights P T, n ≤ reachBytes) :
    cs.length = P.cellsOf T ∧ ∀ (i : Nat) (e off k : Nat), (fs[i]?).map (fun f => (f.type, f.offset)) = some (e, off) → P.cellsOf e = k → ∃ (m : Nat) (y : DataW H × List MemPlace), DataW.trod enc P w base spare held m e ((cs.drop off).take k) = some y ∧ ∀ n ∈ y.1.weights P e, n ≤ reachBytes := by
  obtain ⟨xs, n, _, rfl, hl, hlen, hf⟩ := DataW.trod_struct hu h
  refine ⟨hl, fun i e off k hi hk => ?_⟩
  obtain ⟨f, hfi, he⟩ := Option.map_eq_some_iff.1 hi
  injection he with he ho
  subst he ho hk
  have hil : i < fs.size := (Array.getElem?_eq_some_iff.1 hfi).1
  refine ⟨n, xs[i], ?_, fun m hm => hz m ?_⟩
  · rw [hf i f hfi, List.getElem?_eq_getElem]
  · simp only [DataW.weights, hu]
    refine DataW.weights_mem_each (j := i) (t := f.type) (d := xs[i].1) ?_ ?_ m hm
    · simp only [List.getElem?_map]
      rw [Array.getElem?_toList, hfi]
      rfl
    · simp [List.getElem?_map, List.getElem?_eq_getElem (show i < xs.length by omega)]

/-- Cells put together: a struct's. -/
inductive AllRD (F : Nat → Prop) (w : World) : List D → List Value → Prop
  | nil : AllRD F w [] []
  | cons {d : D} {c : Value} {ds : List D} {cs : List Value} (h : RD F w d c) (t : AllRD F w ds cs) : AllRD F w (d :: ds) (c :: cs)
theorem cells_agg {F : Nat → Prop} {w : World} : ∀ {ds : List D} {cs : List Value}, AllRD F w ds cs → CellsOf F w (.agg ds) cs := by
  intro ds cs h
  refine ⟨?_, ?_⟩
  · show cs.length = ds.length
    induction h with
    | nil => rfl
    | cons _ _ ih => simp [ih]
  · show ∀ (j : Nat) (y : D), ds[j]? = some y → _
    induction h with
    | nil => intro j y hy; simp at hy
    | cons h1 _ ih =>
      intro j y hy
      cases j with
      | zero => simp at hy; subst hy; exact h1
      | succ j => simp at hy; simpa using ih j y hy
theorem CellsOf.val {F : Nat → Prop} {w : World} {d : D} {c : Value} (h : CellsOf F w d [c]) (hd : d.cells = [d]) : RD F w d c := by
  obtain ⟨c', h1, h2⟩ := h.one hd
  injection h1 with h1 _
  rw [h1]; exact h2
end
end Go.Proofs.Ytafeehlpmdligaa.M
