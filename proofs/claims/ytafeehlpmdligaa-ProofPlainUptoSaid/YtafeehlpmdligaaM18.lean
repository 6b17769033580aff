/- What comes in as data of small bulk, opened. -/
import Derived.Test.YtafeehlpmdligaaM17
import Derived.Test.YtafeehlpmdligaaRows
import Derived.JoinedCond
namespace Go.Proofs.Ytafeehlpmdligaa.M
open Go.RowKit Go.MapKept
set_option linter.unusedSimpArgs false
set_option linter.unusedVariables false
theorem bulk_one {H : Type} (d : DataW H) : 1 ≤ Rows.uptoBulk d := by
  cases d with
  | lit l => cases l <;> simp [Rows.uptoBulk]
  | _ => simp [Rows.uptoBulk]
theorem bulk_mem {H : Type} {d : DataW H} {l : List (DataW H)} (h : d ∈ l) : Rows.uptoBulk d ≤ Rows.uptoBulkAll l := by
  induction l with
  | nil => cases h
  | cons x r ih =>
    simp only [Rows.uptoBulkAll]
    rcases List.mem_cons.1 h with rfl | h
    · omega
    · have := ih h; omega
theorem bulk_len {H : Type} (l : List (DataW H)) : l.length ≤ Rows.uptoBulkAll l := by
  induction l with
  | nil => simp [Rows.uptoBulkAll]
  | cons x r ih => have := bulk_one x; simp only [Rows.uptoBulkAll, List.length_cons]; omega
/-- Of small bulk. -/
structure SmallB {H : Type} (d : DataW H) : Prop where
  le : Rows.uptoBulk d ≤ 1048576
def OpensB {α : Type} (en : α → D) (V : α → Prop) (P : Program) (T : TypeId) : Prop :=
  ∀ {H : Type} {enc : TypeId × Value → H} {w : World} {base : Nat} {spare : Nat → Bool} {held : Bool} {fuel : Nat} {cs : List Value} {x : DataW H × List MemPlace},
    DataW.trod enc P w base spare held fuel T cs = some x → SmallB x.1 → ∃ a, CellsOf (fun b => b < w.heap.size) w (en a) cs ∧ V a
section
variable {P : Program} {T : TypeId}
theorem opensB_int {k : IntKind} (hu : P.underlying T = some (.int k)) : OpensB (D.int k) (IntOk k) P T := by
  intro H enc w base spare held fuel cs x h _
  obtain ⟨n, rfl, _, hw⟩ := DataW.trod_int hu h
  exact ⟨n, .of rfl (.int k n), hw⟩
theorem opensB_bool (hu : P.underlying T = some .bool) : OpensB D.bool (fun _ => True) P T := by
  intro H enc w base spare held fuel cs x h _
  obtain ⟨b, rfl, _⟩ := DataW.trod_bool hu h
  exact ⟨b, .of rfl (.bool b), trivial⟩
structure SlB {α : Type} (V : α → Prop) (xs : List α) : Prop where
  len : xs.length ≤ 1048576
  all : ∀ x ∈ xs, V x
/-- A slice, element by element. -/
theorem opensB_sl {α : Type} {en : α → D} {V : α → Prop} {e : TypeId} {sz : Nat} (hu : P.underlying T = some (.slice e)) (ho : OpensB en V P e) (hsz : P.cellsOf e = sz) (hs : 0 < sz) (hen : ∀ a, (en a).cells.length = sz) :
    OpensB (fun l : List α => D.sl (l.map en)) (SlB V) P T := by
  intro H enc w base spare held fuel cs x h hz
  rcases DataW.trod_slice hu h with ⟨rfl, _⟩ | ⟨a, len, cap, elems, rest, n, _, rfl, rfl, hb, hl, hm, hlen, hel, _, _⟩
  · exact ⟨[], .of rfl (.slNil none 0), ⟨by simp, by simp⟩⟩
  · have each : ∀ i (hi : i < len), ∃ y : α, V y ∧ ∃ cs, CellsOf (fun b => b < w.heap.size) w (en y) cs ∧ ∀ j v, cs[j]? = some v → w.cell? ((a.add (i * sz)).add j) = some v := by
      intro i hi
      have h1 := hel i hi
      rw [List.getElem?_eq_getElem (by omega), Option.bind_eq_some_iff, hsz] at h1
      obtain ⟨cs, hcs, htr⟩ := h1
      obtain ⟨_, _, hc⟩ := cells_of hcs
      obtain ⟨y, hK, hV⟩ := ho htr ⟨by
        have hz := hz.le
        have h2 := bulk_mem (l := elems.map (·.1)) (List.mem_map.2 ⟨_, List.getElem_mem (show i < elems.length by omega), rfl⟩)
        simp only [Rows.uptoBulk] at hz
        omega⟩
      exact ⟨y, hV, cs, hK, hc⟩
    classical
    let f : Fin len → α := fun i => Classical.choose (each i.1 i.2)
    have hf : ∀ i : Fin len, V (f i) ∧ ∃ cs, CellsOf (fun b => b < w.heap.size) w (en (f i)) cs ∧ ∀ j v, cs[j]? = some v → w.cell? ((a.add (i.1 * sz)).add j) = some v := fun i => Classical.choose_spec (each i.1 i.2)
    have hsize : len ≤ 1048576 := by
      have hz := hz.le
      have h2 := bulk_len (elems.map (·.1))
      simp only [Rows.uptoBulk] at hz
      rw [List.length_map] at h2
      omega
    refine ⟨List.ofFn f, .of rfl ?_, by simpa using hsize, ?_⟩
    · rcases Nat.eq_zero_or_pos len with h0 | h0
      · subst h0
        have : List.ofFn f = [] := by simp
        rw [this]
        exact .slNil _ _
      · have hspot : a.spot = none ∧ a.block < w.heap.size := by
          obtain ⟨_, cs, hK, hc⟩ := hf ⟨0, h0⟩
          have hl0 := hK.1.trans (hen _)
          cases hcs : cs with
          | nil => rw [hcs] at hl0; simp at hl0; omega
          | cons v r =>
            have h1 := hc 0 v (by rw [hcs]; rfl)
            have e0 : (a.add (0 * sz)).add 0 = a := by rw [Nat.zero_mul]; rfl
            rw [e0] at h1
            refine ⟨?_, World.block_lt_of_cell? w _ h1⟩
            unfold World.cell? at h1
            split at h1
            · split at h1
              · cases h1
              · rename_i hs; cases hsp : a.spot with
                | none => rfl
                | some s => simp [hsp] at hs
            · cases h1
        obtain ⟨b, o, sp⟩ := a
        obtain ⟨hsp, hbl⟩ := hspot
        subst hsp
        have key : ∀ (i j : Nat) (x y : D), ((List.ofFn f).map en)[i]? = some x → x.cells[j]? = some y → ∃ v, w.cell? ⟨b, o + i * sz + j, none⟩ = some v ∧ RD (fun b => b < w.heap.size) w y v := by
          intro i j x y hx hy
          simp only [List.getElem?_map, Option.map_eq_some_iff] at hx
          obtain ⟨z, hz', rfl⟩ := hx
          have hi : i < len := by simpa using (List.getElem?_eq_some_iff.1 hz').1
          have hze : z = f ⟨i, hi⟩ := by
            rw [List.getElem?_eq_getElem (by simpa using hi)] at hz'
            injection hz' with hz'
            rw [← hz']
            simp
          subst hze
          obtain ⟨_, cs, hK, hc⟩ := hf ⟨i, hi⟩
          have hjl : j < cs.length := by rw [hK.1]; exact (List.getElem?_eq_some_iff.1 hy).1
          refine ⟨cs[j], ?_, ?_⟩
          · have := hc j cs[j] (by simp [hjl])
            rw [add_plain, add_plain] at this
            exact this
          · have := hK.2 j y hy
            simpa [List.getD, hjl] using this
        have hll : len = ((List.ofFn f).map en).length := by simp
        have hres : RD (fun b => b < w.heap.size) w (.sl ((List.ofFn f).map en)) (.slice (some ⟨b, o, none⟩) ((List.ofFn f).map en).length cap) := by
          refine .sl _ b o cap sz (fun i j => (w.cell? ⟨b, o + i * sz + j, none⟩).getD undef) hbl (by rw [← hll]; exact hl) (fun i x hx => ?_) (fun i j x y hx hy => ?_) (fun i j x y hx hy => ?_)
          · simp only [List.getElem?_map, Option.map_eq_some_iff] at hx
            obtain ⟨z, _, rfl⟩ := hx
            exact hen z
          · obtain ⟨v, h1, _⟩ := key i j x y hx hy
            rw [h1]; rfl
          · obtain ⟨v, h1, h2⟩ := key i j x y hx hy
            rw [h1]; exact h2
        rw [← hll] at hres
        exact hres
    · intro y hy
      obtain ⟨i, rfl⟩ := (List.mem_ofFn).1 hy
      exact (hf i).1

/-- A field of a struct. -/
theorem opensB_field {fs : Array Field} (hu : P.underlying T = some (.struct fs)) {H : Type} {enc : TypeId × Value → H} {w : World} {base : Nat} {spare : Nat → Bool} {held : Bool} {fuel : Nat} {cs : List Value} {x : DataW H × List MemPlace}
    (h : DataW.trod enc P w base spare held fuel T cs = some x) (hz : SmallB x.1) :
    cs.length = P.cellsOf T ∧ ∀ (i : Nat) (e off k : Nat), (fs[i]?).map (fun f => (f.type, f.offset)) = some (e, off) → P.cellsOf e = k → ∃ (m : Nat) (y : DataW H × List MemPlace), DataW.trod enc P w base spare held m e ((cs.drop off).take k) = some y ∧ SmallB y.1 := by
  obtain ⟨xs, n, _, rfl, hl, hlen, hf⟩ := DataW.trod_struct hu h
  refine ⟨hl, fun i e off k hi hk => ?_⟩
  obtain ⟨f, hfi, he⟩ := Option.map_eq_some_iff.1 hi
  injection he with he ho
  subst he ho hk
  have hil : i < fs.size := (Array.getElem?_eq_some_iff.1 hfi).1
  refine ⟨n, xs[i], ?_, ?_⟩
  · rw [hf i f hfi, List.getElem?_eq_getElem]
  · refine ⟨?_⟩
    have hz := hz.le
    have h2 := bulk_mem (l := xs.map (·.1)) (List.mem_map.2 ⟨_, List.getElem_mem (show i < xs.length by omega), rfl⟩)
    simp only [Rows.uptoBulk] at hz
    omega
end
end Go.Proofs.Ytafeehlpmdligaa.M
