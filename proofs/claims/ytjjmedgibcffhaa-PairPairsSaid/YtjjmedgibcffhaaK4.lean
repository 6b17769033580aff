/- What comes in as data, opened: the cells of arguments as kinds of data. -/
import Derived.Test.YtjjmedgibcffhaaK3
import Derived.Test.YtjjmedgibcffhaaRows
import Derived.ProofKit
import Derived.SizedLaws
namespace Go.Proofs.Ytjjmedgibcffhaa
open Go.RowKit Go.MapKept
set_option linter.unusedSimpArgs false

def Opens {α : Type} (t : Ty α) (P : Program) (T : TypeId) : Prop :=
  ∀ {H : Type} {enc : TypeId × Value → H} {w : World} {base : Nat} {spare : Nat → Bool} {held : Bool} {fuel : Nat} {cs : List Value} {x : DataW H × List MemPlace},
    DataW.trod enc P w base spare held fuel T cs = some x → (∀ n ∈ x.1.weights P T, n ≤ reachBytes) → ∃ a, t.K (fun b => b < w.heap.size) w cs a ∧ t.V a

section
variable {P : Program} {T : TypeId}
theorem opens_int {k : IntKind} (hu : P.underlying T = some (.int k)) : Opens (Ty.int k) P T := by
  intro H enc w base spare held fuel cs x h _
  obtain ⟨n, rfl, _, hw⟩ := DataW.trod_int hu h
  exact ⟨n, rfl, hw⟩
theorem opens_bool (hu : P.underlying T = some .bool) : Opens Ty.bool P T := by
  intro H enc w base spare held fuel cs x h _
  obtain ⟨b, rfl, _⟩ := DataW.trod_bool hu h
  exact ⟨b, rfl, trivial⟩
theorem opens_str (hu : P.underlying T = some .string) : Opens Ty.str P T := by
  intro H enc w base spare held fuel cs x h hz
  obtain ⟨s, rfl, rfl, _⟩ := DataW.trod_string hu h
  refine ⟨s, rfl, ?_⟩
  have := hz s.data.toList.length (by simp [DataW.weights])
  have h1 := Nat.le_trans this (Nat.le_of_lt reachBytes_lt)
  have h2 : s.data.toList.length = s.size := by rw [Array.length_toList]; rfl
  show s.size ≤ 140737488351232
  have h3 : reachBytes = 140737488351232 := by decide
  omega

theorem add_plain (b o n : Nat) : (⟨b, o, none⟩ : Addr).add n = ⟨b, o + n, none⟩ := by
  unfold Addr.add
  split
  · rename_i h; subst h; rfl
  · rfl
theorem cells_of {w : World} {base : Nat} {a : Addr} {n : Nat} {cs : List Value} (h : w.cells? base a n = some cs) : base ≤ a.block ∧ cs.length = n ∧ ∀ j v, cs[j]? = some v → w.cell? (a.add j) = some v := by
  unfold World.cells? at h
  split at h
  · rename_i hb
    refine ⟨hb, by simpa using mapM_some_length h, fun j v hv => ?_⟩
    have hj : j < n := by
      have := mapM_some_length h
      have h2 := (List.getElem?_eq_some_iff.1 hv).1
      simp at this
      omega
    rw [← hv]
    exact mapM_some_get h j j (by simp [hj])
  · cases h
theorem weights_all {H : Type} {e : TypeId} {l : List (DataW H)} {d : DataW H} (h : d ∈ l) : ∀ n ∈ d.weights P e, n ∈ DataW.weightsAll P e l := by
  induction l with
  | nil => cases h
  | cons x l ih =>
    intro n hn
    simp only [DataW.weightsAll, List.mem_append]
    rcases List.mem_cons.1 h with rfl | h
    · exact .inl hn
    · exact .inr (ih h n hn)
theorem reach_val : reachBytes = 140737488351232 := by decide

/-- A slice, element by element. -/
theorem opens_sl {α : Type} {t : Ty α} {e : TypeId} (hu : P.underlying T = some (.slice e)) (ho : Opens t P e) (hsz : P.cellsOf e = t.sz) (hby : P.bytesOf e = t.bytes) (hs : 0 < t.sz)
    {H : Type} {enc : TypeId × Value → H} {w : World} {base : Nat} {spare : Nat → Bool} {held : Bool} {fuel : Nat} {cs : List Value} {x : DataW H × List MemPlace}
    (h : DataW.trod enc P w base spare held fuel T cs = some x) (hz : ∀ n ∈ x.1.weights P T, n ≤ reachBytes) :
    ∃ (A : Option Addr) (c : Nat) (xs : List α), cs = [.slice A xs.length c] ∧ t.Sl (fun b => b < w.heap.size) w A xs ∧ (∀ a ∈ xs, t.V a) ∧ xs.length ≤ c := by
  rcases DataW.trod_slice hu h with ⟨rfl, _⟩ | ⟨a, len, cap, elems, rest, n, _, rfl, rfl, hb, hl, hm, hlen, hel, _, _⟩
  · exact ⟨none, 0, [], rfl, Ty.Sl.nil _ _ _ _, by simp, by simp⟩
  · have each : ∀ i (hi : i < len), ∃ y : α, t.V y ∧ ∃ cs, t.K (fun b => b < w.heap.size) w cs y ∧ ∀ j v, cs[j]? = some v → w.cell? ((a.add (i * t.sz)).add j) = some v := by
      intro i hi
      have h1 := hel i hi
      rw [List.getElem?_eq_getElem (by omega), Option.bind_eq_some_iff, hsz] at h1
      obtain ⟨cs, hcs, htr⟩ := h1
      obtain ⟨_, _, hc⟩ := cells_of hcs
      obtain ⟨y, hK, hV⟩ := ho htr (fun n hn => hz n (by
        simp only [DataW.weights, hu, List.mem_cons, List.mem_append]
        exact .inr (.inl (weights_all (List.mem_map.2 ⟨_, List.getElem_mem _, rfl⟩) n hn))))
      exact ⟨y, hV, cs, hK, hc⟩
    classical
    let f : Fin len → α := fun i => Classical.choose (each i.1 i.2)
    have hf : ∀ i : Fin len, t.V (f i) ∧ ∃ cs, t.K (fun b => b < w.heap.size) w cs (f i) ∧ ∀ j v, cs[j]? = some v → w.cell? ((a.add (i.1 * t.sz)).add j) = some v := fun i => Classical.choose_spec (each i.1 i.2)
    have hsize : len * t.bytes ≤ 140737488351232 := by
      have := hz ((elems.length + rest.length) * P.bytesOf e) (by simp [DataW.weights, hu])
      rw [hby, reach_val] at this
      refine Nat.le_trans (Nat.mul_le_mul_right _ ?_) this
      omega
    refine ⟨some a, cap, List.ofFn f, by simp, ⟨by simpa using hsize, ?_⟩, ?_, by simpa using hl⟩
    · rcases Nat.eq_zero_or_pos len with h0 | h0
      · left
        subst h0
        simp
      · right
        have hspot : a.spot = none ∧ a.block < w.heap.size := by
          obtain ⟨_, cs, hK, hc⟩ := hf ⟨0, h0⟩
          have hl0 := t.len hK
          cases hcs : cs with
          | nil => rw [hcs] at hl0; simp at hl0; omega
          | cons v r =>
            have h1 := hc 0 v (by rw [hcs]; rfl)
            have e0 : (a.add (0 * t.sz)).add 0 = a := by rw [Nat.zero_mul]; rfl
            rw [e0] at h1
            refine ⟨?_, World.block_lt_of_cell? w _ h1⟩
            unfold World.cell? at h1
            split at h1
            · split at h1
              · cases h1
              · rename_i hs; cases hsp : a.spot with
                | none => rfl
                | some s => simp [hsp] at hs
            · cases h1
        obtain ⟨b, o, sp⟩ := a
        obtain ⟨hsp, hbl⟩ := hspot
        subst hsp
        refine ⟨b, o, rfl, hbl, fun i y hy => ?_⟩
        have hi : i < len := by
          have := (List.getElem?_eq_some_iff.1 hy).1
          simpa using this
        have hy' : y = f ⟨i, hi⟩ := by
          rw [List.getElem?_eq_getElem (by simpa using hi)] at hy
          injection hy with hy
          rw [← hy]
          simp
        subst hy'
        obtain ⟨_, cs, hK, hc⟩ := hf ⟨i, hi⟩
        refine ⟨cs, hK, fun j v hv => ?_⟩
        have := hc j v hv
        rw [add_plain, add_plain] at this
        exact this
    · intro y hy
      obtain ⟨i, rfl⟩ := (List.mem_ofFn).1 hy
      exact (hf i).1
theorem opens_slice {α : Type} {t : Ty α} {e : TypeId} (hu : P.underlying T = some (.slice e)) (ho : Opens t P e) (hsz : P.cellsOf e = t.sz) (hby : P.bytesOf e = t.bytes) (hs : 0 < t.sz) : Opens (Ty.slice t) P T := by
  intro H enc w base spare held fuel cs x h hz
  obtain ⟨A, c, xs, rfl, h1, h2, _⟩ := opens_sl hu ho hsz hby hs h hz
  exact ⟨xs, ⟨A, c, rfl, h1⟩, h2⟩

/-- A field of a struct. -/
theorem opens_field {fs : Array Field} (hu : P.underlying T = some (.struct fs)) {H : Type} {enc : TypeId × Value → H} {w : World} {base : Nat} {spare : Nat → Bool} {held : Bool} {fuel : Nat} {cs : List Value} {x : DataW H × List MemPlace}
    (h : DataW.trod enc P w base spare held fuel T cs = some x) (hz : ∀ n ∈ x.1.weights P T, n ≤ reachBytes) :
    cs.length = P.cellsOf T ∧ ∀ (i : Nat) (e off k : Nat), (fs[i]?).map (fun f => (f.type, f.offset)) = some (e, off) → P.cellsOf e = k → ∃ (m : Nat) (y : DataW H × List MemPlace), DataW.trod enc P w base spare held m e ((cs.drop off).take k) = some y ∧ ∀ n ∈ y.1.weights P e, n ≤ reachBytes := by
  obtain ⟨xs, n, _, rfl, hl, hlen, hf⟩ := DataW.trod_struct hu h
  refine ⟨hl, fun i e off k hi hk => ?_⟩
  obtain ⟨f, hfi, he⟩ := Option.map_eq_some_iff.1 hi
  injection he with he ho
  subst he ho hk
  have hil : i < fs.size := (Array.getElem?_eq_some_iff.1 hfi).1
  refine ⟨n, xs[i], ?_, fun m hm => hz m ?_⟩
  · rw [hf i f hfi, List.getElem?_eq_getElem]
  · simp only [DataW.weights, hu]
    refine DataW.weights_mem_each (j := i) (t := f.type) (d := xs[i].1) ?_ ?_ m hm
    · simp only [List.getElem?_map]
      rw [Array.getElem?_toList, hfi]
      rfl
    · simp [List.getElem?_map, List.getElem?_eq_getElem (show i < xs.length by omega)]
end

theorem list5 {α : Type} : ∀ {l : List α}, l.length = 5 → ∃ a b c d e, l = [a, b, c, d, e]
  | [a, b, c, d, e], _ => ⟨a, b, c, d, e, rfl⟩
theorem list3 {α : Type} : ∀ {l : List α}, l.length = 3 → ∃ a b c, l = [a, b, c]
  | [a, b, c], _ => ⟨a, b, c, rfl⟩
set_option maxRecDepth 100000 in
theorem opens_call : Opens Ty.call Try.prog 67 := by
  intro H enc w base spare held fuel cs x h hz
  obtain ⟨hl, hf⟩ := opens_field Try.underlying67 h hz
  have hl5 : cs.length = 5 := hl.trans (by kernel_rfl)
  obtain ⟨c0, c1, c2, c3, c4, rfl⟩ := list5 hl5
  obtain ⟨m0, y0, h0, z0⟩ := hf 0 3 0 1 rfl (by kernel_rfl)
  obtain ⟨m1, y1, h1, z1⟩ := hf 1 9 1 1 rfl (by kernel_rfl)
  obtain ⟨m2, y2, h2, z2⟩ := hf 2 2 2 1 rfl (by kernel_rfl)
  obtain ⟨m3, y3, h3, z3⟩ := hf 3 4 3 1 rfl (by kernel_rfl)
  obtain ⟨m4, y4, h4, z4⟩ := hf 4 44 4 1 rfl (by kernel_rfl)
  obtain ⟨a0, k0, v0⟩ := opens_int Try.underlying3 h0 z0
  obtain ⟨a1, k1, v1⟩ := opens_str Try.underlying9 h1 z1
  obtain ⟨a2, k2, v2⟩ := opens_int Try.underlying2 h2 z2
  obtain ⟨a3, k3, v3⟩ := opens_bool Try.underlying4 h3 z3
  obtain ⟨a4, k4, v4⟩ := opens_slice Try.underlying44 (opens_int Try.underlying2) (by kernel_rfl) (by kernel_rfl) (by decide) h4 z4
  obtain ⟨A, c, k4, hs⟩ := k4
  obtain rfl : c0 = Value.int .i64 a0 := (List.cons.inj (k0 : [c0] = [Value.int .i64 a0])).1
  obtain rfl : c1 = Value.string a1 := (List.cons.inj (k1 : [c1] = [Value.string a1])).1
  obtain rfl : c2 = Value.int .i64 a2 := (List.cons.inj (k2 : [c2] = [Value.int .i64 a2])).1
  obtain rfl : c3 = Value.bool a3 := (List.cons.inj (k3 : [c3] = [Value.bool a3])).1
  obtain rfl : c4 = Value.slice A a4.length c := (List.cons.inj (k4 : [c4] = [Value.slice A a4.length c])).1
  exact ⟨⟨a0, a1, a2, a3, a4⟩, ⟨A, c, rfl, hs⟩, v0, v1, v2, v4⟩
set_option maxRecDepth 100000 in
theorem opens_event : Opens Ty.event Try.prog 24 := by
  intro H enc w base spare held fuel cs x h hz
  obtain ⟨hl, hf⟩ := opens_field Try.underlying24 h hz
  have hl3 : cs.length = 3 := hl.trans (by kernel_rfl)
  obtain ⟨c0, c1, c2, rfl⟩ := list3 hl3
  obtain ⟨m0, y0, h0, z0⟩ := hf 0 2 0 1 rfl (by kernel_rfl)
  obtain ⟨m1, y1, h1, z1⟩ := hf 1 3 1 1 rfl (by kernel_rfl)
  obtain ⟨m2, y2, h2, z2⟩ := hf 2 22 2 1 rfl (by kernel_rfl)
  obtain ⟨a0, k0, v0⟩ := opens_int Try.underlying2 h0 z0
  obtain ⟨a1, k1, v1⟩ := opens_int Try.underlying3 h1 z1
  obtain ⟨a2, k2, v2⟩ := opens_slice Try.underlying22 opens_call (by kernel_rfl) (by kernel_rfl) (by decide) h2 z2
  obtain ⟨A, c, k2, hs⟩ := k2
  obtain rfl : c0 = Value.int .i64 a0 := (List.cons.inj (k0 : [c0] = [Value.int .i64 a0])).1
  obtain rfl : c1 = Value.int .i64 a1 := (List.cons.inj (k1 : [c1] = [Value.int .i64 a1])).1
  obtain rfl : c2 = Value.slice A a2.length c := (List.cons.inj (k2 : [c2] = [Value.slice A a2.length c])).1
  exact ⟨⟨a0, a1, a2⟩, ⟨A, c, rfl, hs⟩, v0, v1, v2⟩
end Go.Proofs.Ytjjmedgibcffhaa
