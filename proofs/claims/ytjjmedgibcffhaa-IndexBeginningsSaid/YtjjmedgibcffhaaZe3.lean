/- Part 3 of the texts that stand behind this law. -/
import Derived.Deep.DeepAppendWide
import Derived.Maps.Own
import Derived.Maps.OwnOps
import Derived.Maps.OwnSet
import Derived.Test.YtjjmedgibcffhaaZe2
/- New blocks and append. -/
namespace Go.Proofs.Ytjjmedgibcffhaa.M
open Go.RowKit
set_option linter.unusedVariables false
set_option linter.unusedSimpArgs false

/-- What an operation does to the named blocks. -/
inductive Eff where
  | keep
  | put (nm : Nat) (k : Blk)
  | move (old : Option Nat) (nm : Nat) (k : Blk)
  | drop (nm : Nat)
def Eff.on (e : Eff) (H : Nat → Option Blk) : Nat → Option Blk :=
  match e with
  | .keep => H
  | .put nm k => hset H nm (some k)
  | .move none nm k => hset H nm (some k)
  | .move (some o) nm k => hset (hset H o none) nm (some k)
  | .drop nm => hset H nm none

theorem box_ok {g : Gh} {w : World} {H : Nat → Option Blk} {cs : List V} {vs : Array Value} (t : TypeId) (h : RA g w cs vs) {nm : Nat} (hn : ¬ g.U nm) (hS : RS g w H) :
    Ext g w (g.new nm ⟨some w.heap.size, 0, 0, 0⟩) (w.alloc (.cells vs t)) ∧ RS (g.new nm ⟨some w.heap.size, 0, 0, 0⟩) (w.alloc (.cells vs t)) (hset H nm (some (.box cs))) := by
  have hh : ∀ b, b < w.heap.size → (w.alloc (.cells vs t)).heap[b]? = w.heap[b]? := fun b hb => heap_alloc_old w _ hb
  have e : Ext g w (g.new nm ⟨some w.heap.size, 0, 0, 0⟩) (w.alloc (.cells vs t)) := ext_new _ hn hS.ltF hh rfl rfl rfl (by simp)
  exact hS.new hn hh rfl rfl rfl (by simp) rfl ⟨_, vs, t, by rw [g.new_at], heap_alloc_new _ _, h.1, fun j y hy => (h.2 j y hy).mono e⟩

theorem run_box' {P : Program} (w : World) (t : TypeId) (v : Value) : (Instr.box t v).run P w = .ok (.pointer (some ⟨w.heap.size, 0, none⟩)) (w.alloc (.cells v.cells t)) := by
  simp [Instr.box, newVar, newRow]

theorem evalBox_run {P : Program} {g : Gh} {w : World} {H : Nat → Option Blk} {t : TypeId} {x : V} {a : Value} {nm : Nat} (hf : x.firm = true) (hS : RS g w H) (hn : ¬ g.U nm) (hx : RV g w x a) :
    ∃ v' w' g', (Instr.box t a).run P w = .ok v' w' ∧ Ext g w g' w' ∧ RS g' w' (hset H nm (some (.box x.cells))) ∧ RV g' w' (.ptr nm 0) v' ∧ (∀ k, g'.U k → g.U k ∨ k = nm) := by
  obtain ⟨e, hS'⟩ := box_ok t (rv_cells hx hf) hn hS
  exact ⟨_, _, _, run_box' w t a, e, hS', .ptr nm 0 _ (.inr rfl) (by rw [g.new_at]), fun k hk => hk⟩

def zeroCs (ti : TI) : List V := ti.zero.cells.toList.map ofScalar
theorem zeroCs_ra (g : Gh) (w : World) (ti : TI) : RA g w (zeroCs ti) ti.zero.cells := by
  refine ⟨by simp [zeroCs], fun j y hy => ?_⟩
  simp only [zeroCs, List.getElem?_map, Option.map_eq_some_iff] at hy
  obtain ⟨c, hc, rfl⟩ := hy
  have : ti.zero.cells.getD j undef = c := by
    simp at hc
    simp [hc]
  rw [this]
  exact ofScalar_rv g w c

theorem evalAlloc_run {P : Program} {g : Gh} {w : World} {H : Nat → Option Blk} {t : TypeId} {ti : TI} {nm : Nat} (hti : tinf P t = some ti) (hS : RS g w H) (hn : ¬ g.U nm) :
    ∃ v' w' g', (Instr.alloc t true (.tuple #[])).run P w = .ok v' w' ∧ Ext g w g' w' ∧ RS g' w' (hset H nm (some (.box (zeroCs ti)))) ∧ RV g' w' (.ptr nm 0) v' ∧ (∀ k, g'.U k → g.U k ∨ k = nm) := by
  obtain ⟨e, hS'⟩ := box_ok t (zeroCs_ra g w ti) hn hS
  have hz := run_zeroValue' hti w
  exact ⟨_, _, _, by simp [Instr.alloc, hz, newVar, newRow] <;> rfl, e, hS', .ptr nm 0 _ (.inr rfl) (by rw [g.new_at]), fun k hk => hk⟩

/-- Lists in the order of their places. -/
def enumFrom {α : Type} : Nat → List α → List (Nat × α)
  | _, [] => []
  | k, x :: xs => (k, x) :: enumFrom (k + 1) xs
def isEnum : Nat → List Nat → Bool
  | _, [] => true
  | k, i :: is => i == k && isEnum (k + 1) is

theorem fill_enum {g : Gh} {w : World} {lk : Operand → V} {ev : Operand → Value} (hev : ∀ x, RV g w (lk x) (ev x)) (sz len : Nat) : ∀ (ps : List (Nat × Operand)) (k : Nat) (vs : Array Value),
    isEnum k (ps.map (·.1)) = true → (∀ p ∈ ps, (lk p.2).firm = true ∧ (lk p.2).cells.length = sz) → vs.size = len * sz → k + ps.length ≤ len →
    ∃ vs', Instr.fill (fun i => some (i * sz, sz)) vs (ps.map fun p => (p.1, ev p.2)) = some vs' ∧ vs'.size = vs.size ∧ (∀ m, m < k * sz → vs'.getD m undef = vs.getD m undef) ∧
      ∀ (i j : Nat) (y : V), ((ps[i]?).bind fun p => (lk p.2).cells[j]?) = some y → RV g w y (vs'.getD ((k + i) * sz + j) undef)
  | [], k, vs, _, _, _, _ => ⟨vs, rfl, rfl, fun _ _ => rfl, by simp⟩
  | (i, x) :: ps, k, vs, he, hp, hs, hl => by
    simp only [List.map_cons, isEnum, Bool.and_eq_true, beq_iff_eq] at he
    obtain ⟨rfl, he⟩ := he
    obtain ⟨hf, hc⟩ := hp (i, x) (by simp)
    simp only at hf hc
    obtain ⟨h1, h2⟩ := rv_cells (hev x) hf
    have hmul : (i + 1) * sz ≤ len * sz := Nat.mul_le_mul_right _ (by simp at hl; omega)
    rw [Nat.add_mul] at hmul
    have hsz1 : ((ev x).cells.zipIdx.foldl (fun cs (p : Value × Nat) => cs.setIfInBounds (i * sz + p.2) p.1) vs).size = vs.size := by
      rw [← Array.foldl_toList, fold_size]
    obtain ⟨vs', h3, h4, h5, h6⟩ := fill_enum hev sz len ps (i + 1) _ he (fun p hp' => hp p (by simp [hp'])) (hsz1.trans hs) (by simp at hl; omega)
    refine ⟨vs', ?_, h4.trans hsz1, fun m hm => ?_, fun i' j y hy => ?_⟩
    · simp only [List.map_cons, Instr.fill]
      rw [if_neg]
      · exact h3
      · rw [h1, hc, hs]
        simp
        omega
    · rw [h5 m (by rw [Nat.add_mul]; omega), ← Array.foldl_toList, Array.toList_zipIdx, fold_get, if_neg (by omega)]
    · cases i' with
      | zero =>
        simp at hy
        have hj : j < sz := by rw [← hc]; exact (List.getElem?_eq_some_iff.1 hy).1
        have hsl : (ev x).cells.toList.length = sz := by simp; omega
        rw [show i + 0 = i from rfl]
        rw [h5 _ (by rw [Nat.add_mul]; simp; omega), ← Array.foldl_toList, Array.toList_zipIdx, fold_get, if_pos ⟨by simp, by rw [hsl]; omega, by rw [hs]; omega⟩]
        have := h2 j y hy
        have e : i * sz + j - (i * sz + 0) = j := by omega
        rw [e]
        simpa [List.getD, Array.getD_eq_getD_getElem?] using this
      | succ i' =>
        have := h6 i' j y (by simpa using hy)
        have e : i + (i' + 1) = i + 1 + i' := by omega
        rw [e]
        exact this

/-- A literal slice: pure, if its elements are. -/
def evalBuildSlice0 (P : Program) (t : TypeId) (len : Nat) (parts : List (Nat × V)) (nm : Nat) : Option (V × Eff) :=
  match selem P t with
  | some e => match tinf P e with
    | some ti =>
      if len = parts.length ∧ isEnum 0 (parts.map (·.1)) = true ∧ len * ti.size ≤ 16777216 ∧ parts.all (fun p => p.2.firm && p.2.cells.length == ti.size) = true then
        match parts with
        | [] => some (.e0, .keep)
        | _ => match allD (parts.map (·.2)) with
          | some ds => if ds.all (okEl ti.size) then some (.d (.sl ds), .keep) else none
          | none => some (.ms nm ti.size 0 len, .put nm (.row ti.size (parts.map (·.2))))
      else none
    | none => none
  | none => none

theorem evalBuildSlice0_run {P : Program} {g : Gh} {w : World} {H : Nat → Option Blk} {t : TypeId} {len : Nat} {parts : Array (Nat × Operand)} {nm : Nat} {v : V} {ef : Eff} {lk : Operand → V} {ev : Operand → Value} (hev : ∀ x, RV g w (lk x) (ev x))
    (h : evalBuildSlice0 P t len (parts.toList.map fun p => (p.1, lk p.2)) nm = some (v, ef)) (hS : RS g w H) (hn : ¬ g.U nm) :
    ∃ v' w' g', (Instr.buildSlice t len (parts.map fun (i, x) => (i, ev x))).run P w = .ok v' w' ∧ Ext g w g' w' ∧ RS g' w' (ef.on H) ∧ RV g' w' v v' ∧ (∀ k, g'.U k → g.U k ∨ k = nm) := by
  unfold evalBuildSlice0 at h
  split at h
  case h_2 => cases h
  rename_i e he
  split at h
  case h_2 => cases h
  rename_i ti hti
  split at h
  case isFalse => cases h
  rename_i hc
  obtain ⟨hc1, hc2, hc3, hc4⟩ := hc
  have hu := selem_spec he
  have hsz := run_sizeOf' hti w
  have hz := run_zeroValue' hti w
  obtain ⟨_, _, _, _, _, hzs, _⟩ := tinf_spec hti
  have hmapfst : (parts.toList.map fun p => (p.1, lk p.2)).map (·.1) = parts.toList.map (·.1) := by simp [List.map_map, Function.comp_def]
  rw [hmapfst] at hc2
  have hlen : len = parts.size := by simpa using hc1
  have hall : ∀ p ∈ parts.toList, (lk p.2).firm = true ∧ (lk p.2).cells.length = ti.size := by
    intro p hp
    have := List.all_eq_true.1 hc4 (p.1, lk p.2) (List.mem_map.2 ⟨p, hp, rfl⟩)
    simpa using this
  obtain ⟨z0, hz0, hzz⟩ : ∃ z0 : Array Value, z0.size = len * ti.size ∧ ∀ (ps : Array (Nat × Value)) (vs' : Array Value), Instr.fill (fun i => some (i * ti.size, ti.size)) z0 ps.toList = some vs' → (Instr.buildSlice t len ps).run P w = .ok (.slice (some ⟨w.heap.size, 0, none⟩) len len) (w.alloc (.cells vs' e)) := by
    have h24 : ¬ (len * ti.size > 2 ^ 24) := by omega
    by_cases h0 : len * ti.size = 0
    · refine ⟨(Array.range (len * ti.size)).map ((#[] : Array Value)[· % (#[] : Array Value).size]!), by simp, fun ps vs' hf => ?_⟩
      simp only [Instr.buildSlice, Sem.run_bind, run_underlying hu, hsz, Result.andThen_ok, if_neg h24, if_pos h0, Sem.run_pure, hf]
      simp [newRow]
    · refine ⟨(Array.range (len * ti.size)).map (ti.zero.cells[· % ti.zero.cells.size]!), by simp, fun ps vs' hf => ?_⟩
      simp only [Instr.buildSlice, Sem.run_bind, run_underlying hu, hsz, Result.andThen_ok, if_neg h24, if_neg h0, hz, Sem.run_pure, hf]
      simp [newRow]
  obtain ⟨vs', h3, h4, _, h6⟩ := fill_enum hev ti.size len parts.toList 0 z0 hc2 hall hz0 (by simp; omega)
  have hrun : (Instr.buildSlice t len (parts.map fun (i, x) => (i, ev x))).run P w = .ok (.slice (some ⟨w.heap.size, 0, none⟩) len len) (w.alloc (.cells vs' e)) := by
    refine hzz _ vs' ?_
    rw [Array.toList_map]
    exact h3
  have hh : ∀ b, b < w.heap.size → (w.alloc (.cells vs' e)).heap[b]? = w.heap[b]? := fun b hb => heap_alloc_old w _ hb
  split at h
  · rename_i hnil
    injection h with h
    injection h with h1 h2
    subst h1 h2
    have : parts.toList = [] := by simpa using hnil
    have hl0 : len = 0 := by rw [hlen]; simpa using congrArg List.length this
    obtain ⟨hE, hS'⟩ := hS.newF (w' := w.alloc (.cells vs' e)) hh rfl rfl rfl (by simp)
    exact ⟨_, _, _, hrun, hE, hS', by rw [hl0]; exact .e0 _, fun k hk => .inl hk⟩
  · split at h
    · rename_i ds hds
      split at h
      case isFalse => cases h
      rename_i hok
      injection h with h
      injection h with h1 h2
      subst h1 h2
      have hds' := allD_some hds
      rw [List.map_map] at hds'
      obtain ⟨hE, hS'⟩ := hS.newF (w' := w.alloc (.cells vs' e)) hh rfl rfl rfl (by simp)
      have hdl : ds.length = len := by
        have := congrArg List.length hds'
        simp at this
        omega
      refine ⟨_, _, _, hrun, hE, hS', ?_, fun k hk => .inl hk⟩
      rw [← hdl]
      have hel : ∀ (i : Nat) (x : D), ds[i]? = some x → ∃ p, parts.toList[i]? = some p ∧ lk p.2 = .d x := by
        intro i x hx
        have : (parts.toList.map ((fun x => x.2) ∘ fun p => (p.1, lk p.2)))[i]? = some (.d x) := by rw [hds']; simp [hx]
        simp only [List.getElem?_map, Option.map_eq_some_iff] at this
        obtain ⟨p, hp, hpx⟩ := this
        exact ⟨p, hp, hpx⟩
      have hokl : ∀ x ∈ ds, x.cells.length = ti.size ∧ x.cells.all D.one = true := by
        intro x hx
        have := List.all_eq_true.1 hok x hx
        simpa [okEl] using this
      have hcells : ∀ (x : D) (j : Nat) (y : D), x.cells[j]? = some y → (V.d x).cells[j]? = some (.d y) := by
        intro x j y hy
        cases x <;> simp [V.cells, D.cells] at hy ⊢ <;> first | exact hy | (cases j <;> simp at hy ⊢; exact hy.symm ▸ rfl)
      have hread : ∀ (i j : Nat) (x y : D), ds[i]? = some x → x.cells[j]? = some y → RV g w (.d y) (vs'.getD (0 + i * ti.size + j) undef) := by
        intro i j x y hx hy
        obtain ⟨p, hp, hpx⟩ := hel i x hx
        have := h6 i j (.d y) (by rw [hp]; simp only [Option.bind_some]; rw [hpx]; exact hcells x j y hy)
        simpa using this
      refine .d (.sl ds w.heap.size 0 ds.length ti.size (fun i j => vs'.getD (0 + i * ti.size + j) undef) (.inr rfl) (Nat.le_refl _) (fun i x hx => (hokl x (List.mem_of_getElem? hx)).1) (fun i j x y hx hy => ?_) (fun i j x y hx hy => ?_))
      · have hi : i < len := by rw [← hdl]; exact (List.getElem?_eq_some_iff.1 hx).1
        have hj : j < ti.size := by rw [← (hokl x (List.mem_of_getElem? hx)).1]; exact (List.getElem?_eq_some_iff.1 hy).1
        have hmul : (i + 1) * ti.size ≤ len * ti.size := Nat.mul_le_mul_right _ hi
        rw [Nat.add_mul] at hmul
        have hlt : 0 + i * ti.size + j < vs'.size := by rw [h4, hz0]; omega
        unfold World.cell?
        rw [heap_alloc_new]
        simp at hlt
        simp [hlt]
      · have := hread i j x y hx hy
        cases this with | d h => exact h.mono hE.fz hE.keep
    · injection h with h
      injection h with h1 h2
      subst h1 h2
      have hE : Ext g w (g.new nm ⟨some w.heap.size, 0, ti.size, len⟩) (w.alloc (.cells vs' e)) := ext_new _ hn hS.ltF hh rfl rfl rfl (by simp)
      obtain ⟨hE, hS'⟩ := hS.new (k := .row ti.size (((parts.toList.map fun p => (p.1, lk p.2))).map (·.2))) hn hh rfl rfl rfl (by simp) rfl (r := ⟨some w.heap.size, 0, ti.size, len⟩) (by
        refine ⟨by rw [g.new_at], by rw [g.new_at]; simp; omega, fun i x hx => ?_, .inr ⟨w.heap.size, vs', e, by rw [g.new_at], heap_alloc_new _ _, by rw [g.new_at]; simp; omega, fun i j x y hx hy => ?_⟩⟩
        · simp only [List.map_map, List.getElem?_map, Option.map_eq_some_iff] at hx
          obtain ⟨p, hp, rfl⟩ := hx
          exact (hall p (List.mem_of_getElem? hp)).2
        · simp only [List.map_map, List.getElem?_map, Option.map_eq_some_iff] at hx
          obtain ⟨p, hp, rfl⟩ := hx
          rw [g.new_at]
          have := (h6 i j y (by rw [hp]; exact hy)).mono hE
          simpa using this)
      refine ⟨_, _, _, hrun, hE, hS', .ms nm ti.size 0 len w.heap.size 0 len (.inr rfl) (by rw [g.new_at]) (by rw [g.new_at]) (by rw [g.new_at]; simp) (Nat.le_refl _) (by rw [g.new_at]; simp), fun k hk => hk⟩
/-- The same, as a row of one's own. -/
def evalBuildOwn (P : Program) (t : TypeId) (len : Nat) (parts : List (Nat × V)) (nm : Nat) : Option (V × Eff) :=
  match selem P t with
  | some e => match tinf P e with
    | some ti =>
      if len = parts.length ∧ isEnum 0 (parts.map (·.1)) = true ∧ len * ti.size ≤ 16777216 ∧ parts.all (fun p => p.2.firm && p.2.cells.length == ti.size) = true then
        some (.ms nm ti.size 0 len, .put nm (.row ti.size (parts.map (·.2))))
      else none
    | none => none
  | none => none
theorem evalBuildOwn_run {P : Program} {g : Gh} {w : World} {H : Nat → Option Blk} {t : TypeId} {len : Nat} {parts : Array (Nat × Operand)} {nm : Nat} {v : V} {ef : Eff} {lk : Operand → V} {ev : Operand → Value} (hev : ∀ x, RV g w (lk x) (ev x))
    (h : evalBuildOwn P t len (parts.toList.map fun p => (p.1, lk p.2)) nm = some (v, ef)) (hS : RS g w H) (hn : ¬ g.U nm) :
    ∃ v' w' g', (Instr.buildSlice t len (parts.map fun (i, x) => (i, ev x))).run P w = .ok v' w' ∧ Ext g w g' w' ∧ RS g' w' (ef.on H) ∧ RV g' w' v v' ∧ (∀ k, g'.U k → g.U k ∨ k = nm) := by
  unfold evalBuildOwn at h
  split at h
  case h_2 => cases h
  rename_i e he
  split at h
  case h_2 => cases h
  rename_i ti hti
  split at h
  case isFalse => cases h
  rename_i hc
  obtain ⟨hc1, hc2, hc3, hc4⟩ := hc
  have hu := selem_spec he
  have hsz := run_sizeOf' hti w
  have hz := run_zeroValue' hti w
  obtain ⟨_, _, _, _, _, hzs, _⟩ := tinf_spec hti
  have hmapfst : (parts.toList.map fun p => (p.1, lk p.2)).map (·.1) = parts.toList.map (·.1) := by simp [List.map_map, Function.comp_def]
  rw [hmapfst] at hc2
  have hlen : len = parts.size := by simpa using hc1
  have hall : ∀ p ∈ parts.toList, (lk p.2).firm = true ∧ (lk p.2).cells.length = ti.size := by
    intro p hp
    have := List.all_eq_true.1 hc4 (p.1, lk p.2) (List.mem_map.2 ⟨p, hp, rfl⟩)
    simpa using this
  obtain ⟨z0, hz0, hzz⟩ : ∃ z0 : Array Value, z0.size = len * ti.size ∧ ∀ (ps : Array (Nat × Value)) (vs' : Array Value), Instr.fill (fun i => some (i * ti.size, ti.size)) z0 ps.toList = some vs' → (Instr.buildSlice t len ps).run P w = .ok (.slice (some ⟨w.heap.size, 0, none⟩) len len) (w.alloc (.cells vs' e)) := by
    have h24 : ¬ (len * ti.size > 2 ^ 24) := by omega
    by_cases h0 : len * ti.size = 0
    · refine ⟨(Array.range (len * ti.size)).map ((#[] : Array Value)[· % (#[] : Array Value).size]!), by simp, fun ps vs' hf => ?_⟩
      simp only [Instr.buildSlice, Sem.run_bind, run_underlying hu, hsz, Result.andThen_ok, if_neg h24, if_pos h0, Sem.run_pure, hf]
      simp [newRow]
    · refine ⟨(Array.range (len * ti.size)).map (ti.zero.cells[· % ti.zero.cells.size]!), by simp, fun ps vs' hf => ?_⟩
      simp only [Instr.buildSlice, Sem.run_bind, run_underlying hu, hsz, Result.andThen_ok, if_neg h24, if_neg h0, hz, Sem.run_pure, hf]
      simp [newRow]
  obtain ⟨vs', h3, h4, _, h6⟩ := fill_enum hev ti.size len parts.toList 0 z0 hc2 hall hz0 (by simp; omega)
  have hrun : (Instr.buildSlice t len (parts.map fun (i, x) => (i, ev x))).run P w = .ok (.slice (some ⟨w.heap.size, 0, none⟩) len len) (w.alloc (.cells vs' e)) := by
    refine hzz _ vs' ?_
    rw [Array.toList_map]
    exact h3
  have hh : ∀ b, b < w.heap.size → (w.alloc (.cells vs' e)).heap[b]? = w.heap[b]? := fun b hb => heap_alloc_old w _ hb
  injection h with h
  injection h with h1 h2
  subst h1 h2
  have hE : Ext g w (g.new nm ⟨some w.heap.size, 0, ti.size, len⟩) (w.alloc (.cells vs' e)) := ext_new _ hn hS.ltF hh rfl rfl rfl (by simp)
  obtain ⟨hE, hS'⟩ := hS.new (k := .row ti.size (((parts.toList.map fun p => (p.1, lk p.2))).map (·.2))) hn hh rfl rfl rfl (by simp) rfl (r := ⟨some w.heap.size, 0, ti.size, len⟩) (by
    refine ⟨by rw [g.new_at], by rw [g.new_at]; simp; omega, fun i x hx => ?_, .inr ⟨w.heap.size, vs', e, by rw [g.new_at], heap_alloc_new _ _, by rw [g.new_at]; simp; omega, fun i j x y hx hy => ?_⟩⟩
    · simp only [List.map_map, List.getElem?_map, Option.map_eq_some_iff] at hx
      obtain ⟨p, hp, rfl⟩ := hx
      exact (hall p (List.mem_of_getElem? hp)).2
    · simp only [List.map_map, List.getElem?_map, Option.map_eq_some_iff] at hx
      obtain ⟨p, hp, rfl⟩ := hx
      rw [g.new_at]
      have := (h6 i j y (by rw [hp]; exact hy)).mono hE
      simpa using this)
  refine ⟨_, _, _, hrun, hE, hS', .ms nm ti.size 0 len w.heap.size 0 len (.inr rfl) (by rw [g.new_at]) (by rw [g.new_at]) (by rw [g.new_at]; simp) (Nat.le_refl _) (by rw [g.new_at]; simp), fun k hk => hk⟩
/-- An element that is nil, as pure data. -/
def nilD : V → V
  | .nil => .d .nil
  | x => x
theorem nilD_rv {g : Gh} {w : World} {x : V} {v : Value} (h : RV g w x v) : RV g w (nilD x) v := by
  cases h with
  | nil => exact .d .nil
  | d h => exact .d h
  | undef => exact .undef _
  | e0 => exact .e0 _
  | ptr a b c d e => exact .ptr a b c d e
  | eptr a b c d e f k l => exact .eptr a b c d e f k l
  | rptr a b c d e f k => exact .rptr a b c d e f k
  | ms a b c d e f k l m n o p q => exact .ms a b c d e f k l m n o p q
  | msZero a b c d e => exact .msZero a b c d e
  | map a b c d => exact .map a b c d
  | fn a b c d e => exact .fn a b c d e
  | agg a b c d => exact .agg a b c d
  | tup a b c d => exact .tup a b c d
def evalBuildSlice (P : Program) (t : TypeId) (len : Nat) (parts : List (Nat × V)) (nm : Nat) : Option (V × Eff) := evalBuildSlice0 P t len (parts.map fun p => (p.1, nilD p.2)) nm
theorem evalBuildSlice_run {P : Program} {g : Gh} {w : World} {H : Nat → Option Blk} {t : TypeId} {len : Nat} {parts : Array (Nat × Operand)} {nm : Nat} {v : V} {ef : Eff} {lk : Operand → V} {ev : Operand → Value} (hev : ∀ x, RV g w (lk x) (ev x))
    (h : evalBuildSlice P t len (parts.toList.map fun p => (p.1, lk p.2)) nm = some (v, ef)) (hS : RS g w H) (hn : ¬ g.U nm) :
    ∃ v' w' g', (Instr.buildSlice t len (parts.map fun (i, x) => (i, ev x))).run P w = .ok v' w' ∧ Ext g w g' w' ∧ RS g' w' (ef.on H) ∧ RV g' w' v v' ∧ (∀ k, g'.U k → g.U k ∨ k = nm) := by
  unfold evalBuildSlice at h
  rw [List.map_map] at h
  exact evalBuildSlice0_run (lk := fun x => nilD (lk x)) (fun x => nilD_rv (hev x)) h hS hn
end Go.Proofs.Ytjjmedgibcffhaa.M
/- Append; make of slices. -/
namespace Go.Proofs.Ytjjmedgibcffhaa.M
open Go.RowKit
set_option linter.unusedVariables false
set_option linter.unusedSimpArgs false

theorem wide_fits {need bytes : Nat} (h : need * bytes ≤ 211106232532992) (hb : bytes ≤ 65536) : (need + need / 4 + 192) * bytes ≤ 281474976710656 := by
  have h1 : need / 4 * 4 ≤ need := Nat.div_mul_le_self _ _
  have h2 := Nat.mul_le_mul_right bytes h1
  rw [Nat.mul_right_comm] at h2
  rw [Nat.add_mul, Nat.add_mul]
  omega
/-- The elements of what is appended. -/
def srcD : V → Option (List D)
  | .d (.sl ys) => some ys
  | .nil | .e0 => some []
  | _ => none
def baseOf (sz : Nat) (s : V) (blk : Option Blk) : Option (List V × Option Nat × Nat) :=
  match s, blk with
  | .nil, _ => some ([], none, 0)
  | .e0, _ => some ([], none, 0)
  | .d .nil, _ => some ([], none, 0)
  | .ms nm sz' o n, some (.row sz'' xs) => if sz' = sz ∧ sz'' = sz ∧ o + n ≤ xs.length then some ((xs.drop o).take n, some nm, n) else none
  | _, _ => none
def evalAppend (P : Program) (t : TypeId) (s x : V) (blk : Option Blk) (nm : Nat) : Option (V × Eff) :=
  match selem P t with
  | some e => match tinf P e with
    | some ti => match baseOf ti.size s blk, srcD x with
      | some (es, old, n), some ys => if ys.all (okEl ti.size) = true ∧ (n + ys.length) * ti.bytes ≤ 211106232532992 ∧ ti.bytes ≤ 65536 ∧ ti.size ≠ 0 ∧ ti.bytes ≠ 0 then
          some (.ms nm ti.size 0 (n + ys.length), .move old nm (.row ti.size (es ++ ys.map V.d))) else none
      | _, _ => none
    | none => none
  | none => none

theorem okEl_spec {sz : Nat} {x : D} (h : okEl sz x = true) : x.cells.length = sz ∧ x.cells.all D.one = true := by simpa [okEl] using h
theorem d_cells (x : D) : (V.d x).cells = x.cells.map V.d := by cases x <;> rfl

theorem divmod {sz i j : Nat} (hj : j < sz) : (i * sz + j) / sz = i ∧ (i * sz + j) % sz = j := by
  have h0 : 0 < sz := by omega
  constructor
  · rw [Nat.add_comm, Nat.add_mul_div_right _ _ h0, Nat.div_eq_of_lt hj]; omega
  · rw [Nat.add_comm, Nat.add_mul_mod_self_right, Nat.mod_eq_of_lt hj]

/-- What is appended, as it lies in memory. -/
def SrcOK (P : Program) (g : Gh) (w : World) (v : Value) (ys : List D) (sz : Nat) : Prop :=
  ∃ (a : Option Addr) (c : Nat) (news : List Value), v = .slice a ys.length c ∧ news.length = ys.length * sz ∧ (∀ w' : World, (∀ b, g.F b → w'.heap[b]? = w.heap[b]?) → (Builtin.firstCells sz ys.length v).run P w' = .ok news.toArray w') ∧
      (∀ u ∈ news, u.oneCell' = true) ∧ (∀ (i j : Nat) (z y : D), ys[i]? = some z → z.cells[j]? = some y → RD g.F w y (news.getD (i * sz + j) undef)) ∧
      (ys ≠ [] → ∃ ad, a = some ad ∧ ∀ w' : World, (∀ b, g.F b → w'.heap[b]? = w.heap[b]?) → ∀ (j : Nat) (u : Value), news[j]? = some u → w'.cell? (ad.add j) = some u)
theorem src_ok {P : Program} {g : Gh} {w : World} {x : V} {v : Value} {ys : List D} {sz : Nat} (h : srcD x = some ys) (hx : RV g w x v) (hok : ys.all (okEl sz) = true) (h0 : sz ≠ 0) : SrcOK P g w v ys sz := by
  have empty : ∀ (a : Option Addr) (c : Nat), ys = [] → v = .slice a 0 c → SrcOK P g w v ys sz := by
    intro a c hy hv
    subst hy hv
    refine ⟨a, c, [], rfl, by simp, fun w' _ => ?_, by simp, by simp, fun h => absurd rfl h⟩
    cases a <;> simp [Builtin.firstCells, loadCells, loadCellsFrom]
  unfold srcD at h
  split at h
  · rename_i ys'
    injection h with h
    subst h
    cases hx with | d hx =>
    cases hx with
    | slNil a c => exact empty a c rfl rfl
    | sl _ b o c sz' u hF hc h1 h2 h3 =>
      by_cases hnil : ys' = []
      · subst hnil
        exact empty _ c rfl rfl
      · have hszz : sz' = sz := by
          have hlt : 0 < ys'.length := List.length_pos_iff.2 hnil
          have e1 := h1 0 ys'[0] (by simp [hlt])
          have e2 := okEl_spec (List.all_eq_true.1 hok ys'[0] (List.getElem_mem _))
          omega
        subst hszz
        have hel : ∀ (i j : Nat), i < ys'.length → j < sz' → ∃ z y, ys'[i]? = some z ∧ z.cells[j]? = some y ∧ y.one = true := by
          intro i j hi hj
          have e2 := okEl_spec (List.all_eq_true.1 hok ys'[i] (List.getElem_mem _))
          have hj' : j < ys'[i].cells.length := by omega
          exact ⟨ys'[i], ys'[i].cells[j], by simp, by simp, List.all_eq_true.1 e2.2 _ (List.getElem_mem _)⟩
        let news := (List.range (ys'.length * sz')).map fun k => u (k / sz') (k % sz')
        have hk : ∀ k, k < ys'.length * sz' → k / sz' < ys'.length ∧ k % sz' < sz' ∧ k / sz' * sz' + k % sz' = k := by
          intro k hk
          have h0' : 0 < sz' := by omega
          exact ⟨Nat.div_lt_of_lt_mul (by rw [Nat.mul_comm]; exact hk), Nat.mod_lt _ h0', by rw [Nat.mul_comm]; exact Nat.div_add_mod k sz'⟩
        have hcell : ∀ w' : World, (∀ b, g.F b → w'.heap[b]? = w.heap[b]?) → ∀ (j : Nat) (v : Value), news[j]? = some v → w'.cell? ((⟨b, o, none⟩ : Addr).add j) = some v := by
          intro w' hw j v hv
          simp only [news, List.getElem?_map, Option.map_eq_some_iff] at hv
          obtain ⟨k, hk', rfl⟩ := hv
          have hkk : j < ys'.length * sz' ∧ k = j := by
            obtain ⟨h1, h2⟩ := List.getElem?_eq_some_iff.1 hk'
            simp at h1 h2
            exact ⟨h1, h2.symm⟩
          obtain ⟨hj, rfl⟩ := hkk
          obtain ⟨e1, e2, e3⟩ := hk k hj
          obtain ⟨z, y, hz, hy, _⟩ := hel _ _ e1 e2
          rw [addr_add, cell_congr (hw b hF)]
          have := h2 _ _ z y hz hy
          rw [show o + k / sz' * sz' + k % sz' = o + k by omega] at this
          exact this
        refine ⟨_, c, news, rfl, by simp [news], fun w' hw => ?_, ?_, ?_, fun _ => ⟨_, rfl, hcell⟩⟩
        · exact run_firstCells_some (P := P) w' sz' ys'.length ⟨b, o, none⟩ _ c news (by simp [news]) (hcell w' hw)
        · intro q hq
          simp only [news, List.mem_map, List.mem_range] at hq
          obtain ⟨k, hk', rfl⟩ := hq
          obtain ⟨e1, e2, e3⟩ := hk k hk'
          obtain ⟨z, y, hz, hy, hone⟩ := hel _ _ e1 e2
          have := h3 _ _ z y hz hy
          exact rv_one (g := g) (w := w) (.d this) (by cases y <;> first | rfl | cases hone)
        · intro i j z y hz hy
          have hi : i < ys'.length := (List.getElem?_eq_some_iff.1 hz).1
          have hj : j < sz' := by
            rw [← h1 i z hz]
            exact (List.getElem?_eq_some_iff.1 hy).1
          have hlt : i * sz' + j < ys'.length * sz' := by
            have : (i + 1) * sz' ≤ ys'.length * sz' := Nat.mul_le_mul_right _ hi
            rw [Nat.add_mul] at this
            omega
          obtain ⟨e1, e2⟩ := divmod (i := i) hj
          have : news.getD (i * sz' + j) undef = u i j := by
            simp [news, List.getD, hlt, e1, e2]
          rw [this]
          exact h3 i j z y hz hy
  · injection h with h
    subst h
    cases hx
    exact empty _ _ rfl rfl
  · injection h with h
    subst h
    cases hx
    exact empty _ _ rfl rfl
  · cases h

/-- A row with what was appended, in its new place. -/
theorem row_new {g g' : Gh} {w w' : World} (hE : Ext g w g' w') {es : List V} {ys : List D} {sz : Nat} {olds news : List Value} (hes : ∀ (i : Nat) (x : V), es[i]? = some x → x.cells.length = sz ∧ ∀ (j : Nat) (y : V), x.cells[j]? = some y → RV g w y (olds.getD (i * sz + j) undef))
    (hol : olds.length = es.length * sz) (hok : ys.all (okEl sz) = true) (hnews : ∀ (i j : Nat) (z y : D), ys[i]? = some z → z.cells[j]? = some y → RD g.F w y (news.getD (i * sz + j) undef)) (hnl : news.length = ys.length * sz)
    (vs : Array Value) (off : Nat) (hvs : ∀ k, k < (es.length + ys.length) * sz → vs.getD (off + k) undef = (olds ++ news).getD k undef) :
    (∀ (i : Nat) (x : V), (es ++ ys.map V.d)[i]? = some x → x.cells.length = sz) ∧ ∀ (i j : Nat) (x y : V), (es ++ ys.map V.d)[i]? = some x → x.cells[j]? = some y → RV g' w' y (vs.getD (off + i * sz + j) undef) := by
  have h1 : ∀ (i : Nat) (x : V), (es ++ ys.map V.d)[i]? = some x → x.cells.length = sz := by
    intro i x hx
    rw [List.getElem?_append] at hx
    split at hx
    · exact (hes i x hx).1
    · simp only [List.getElem?_map, Option.map_eq_some_iff] at hx
      obtain ⟨z, hz, rfl⟩ := hx
      rw [d_cells]
      simpa using (okEl_spec (List.all_eq_true.1 hok z (List.mem_of_getElem? hz))).1
  refine ⟨h1, fun i j x y hx hy => ?_⟩
  have hj : j < sz := by rw [← h1 i x hx]; exact (List.getElem?_eq_some_iff.1 hy).1
  have hi : i < es.length + ys.length := by have := (List.getElem?_eq_some_iff.1 hx).1; simpa using this
  have hm : (i + 1) * sz ≤ (es.length + ys.length) * sz := Nat.mul_le_mul_right _ hi
  rw [Nat.add_mul] at hm
  rw [show off + i * sz + j = off + (i * sz + j) by omega, hvs _ (by omega)]
  rw [List.getElem?_append] at hx
  split at hx
  · rename_i hlt
    have hm2 : (i + 1) * sz ≤ es.length * sz := Nat.mul_le_mul_right _ hlt
    rw [Nat.add_mul] at hm2
    have := (hes i x hx).2 j y hy
    have e : (olds ++ news).getD (i * sz + j) undef = olds.getD (i * sz + j) undef := by
      simp only [List.getD]
      rw [List.getElem?_append_left (by omega)]
    rw [e]
    exact this.mono hE
  · rename_i hge
    simp only [List.getElem?_map, Option.map_eq_some_iff] at hx
    obtain ⟨z, hz, rfl⟩ := hx
    rw [d_cells] at hy
    simp only [List.getElem?_map, Option.map_eq_some_iff] at hy
    obtain ⟨q, hq, rfl⟩ := hy
    have := hnews _ j z q hz hq
    have hge' : es.length * sz ≤ i * sz := Nat.mul_le_mul_right _ (by omega)
    have e : (olds ++ news).getD (i * sz + j) undef = news.getD ((i - es.length) * sz + j) undef := by
      simp only [List.getD]
      rw [List.getElem?_append_right (by omega)]
      congr 2
      rw [hol, Nat.sub_mul]
      omega
    rw [e]
    exact .d (this.mono hE.fz hE.keep)

theorem append_inplace {P : Program} {g : Gh} {w : World} {H : Nat → Option Blk} {nm0 nm sz o n b c : Nat} {xs : List V} {ys : List D} {t : TypeId} {vs : Array Value} {news : List Value} (hS : RS g w H) (hH : H nm0 = some (.row sz xs)) (hb : (g.ρ nm0).blk = some b)
    (hsz : (g.ρ nm0).sz = sz) (htot : o + c ≤ (g.ρ nm0).tot) (hfit : n + ys.length ≤ c) (hon : o + n ≤ xs.length) (hhb : w.heap[b]? = some (.cells vs t (0, 0))) (hvs : (g.ρ nm0).off + (g.ρ nm0).tot * sz ≤ vs.size)
    (hxs : ∀ (i : Nat) (x : V), xs[i]? = some x → x.cells.length = sz) (hcells : ∀ (i j : Nat) (x y : V), xs[i]? = some x → x.cells[j]? = some y → RV g w y (vs.getD ((g.ρ nm0).off + i * sz + j) undef))
    (hok : ys.all (okEl sz) = true) (hnl : news.length = ys.length * sz) (hone : ∀ u ∈ news, u.oneCell' = true) (hnews : ∀ (i j : Nat) (z y : D), ys[i]? = some z → z.cells[j]? = some y → RD g.F w y (news.getD (i * sz + j) undef))
    (hn : ¬ g.U nm) :
    ∃ w' g', (storeCells ⟨b, (g.ρ nm0).off + o * sz + n * sz, none⟩ news).run P w = .ok () w' ∧ Ext g w g' w' ∧ RS g' w' (hset (hset H nm0 none) nm (some (.row sz ((xs.drop o).take n ++ ys.map V.d)))) ∧
      RV g' w' (.ms nm sz 0 (n + ys.length)) (.slice (some ⟨b, (g.ρ nm0).off + o * sz, none⟩) (n + ys.length) c) ∧ (∀ k, g'.U k → g.U k ∨ k = nm) := by
  have hsome : (H nm0).isSome := by simp [hH]
  have hm1 : (o + c) * sz ≤ (g.ρ nm0).tot * sz := Nat.mul_le_mul_right _ htot
  have hm2 : (n + ys.length) * sz ≤ c * sz := Nat.mul_le_mul_right _ hfit
  rw [Nat.add_mul] at hm1 hm2
  have hst := run_storeCells_at P b ((g.ρ nm0).off + o * sz + n * sz) t news 0 vs w hhb (by rw [hnl]; omega) hone
  simp only [Nat.add_zero] at hst
  have hget := take_drop_get vs ((g.ρ nm0).off + o * sz + n * sz) news.toArray (by simp [hnl]; omega)
  simp only [List.toList_toArray, List.size_toArray] at hget
  have hnsz : (vs.toList.take ((g.ρ nm0).off + o * sz + n * sz) ++ news ++ vs.toList.drop ((g.ρ nm0).off + o * sz + n * sz + news.length)).toArray.size = vs.size := by simp; omega
  obtain ⟨new, hnew'⟩ : ∃ q, q = (vs.toList.take ((g.ρ nm0).off + o * sz + n * sz) ++ news ++ vs.toList.drop ((g.ρ nm0).off + o * sz + n * sz + news.length)).toArray := ⟨_, rfl⟩
  rw [← hnew'] at hst hget hnsz
  clear hnew'
  have hnF := hS.notF nm0 b hsome hb
  have hoth : ∀ i, i ≠ b → (w.setRow b new).heap[i]? = w.heap[i]? := fun i hi => setRow_other _ _ _ _ hi
  let r : Rf := ⟨some b, (g.ρ nm0).off + o * sz, sz, c⟩
  have hE : Ext g w (g.new nm r) (w.setRow b new) := ⟨fun k h => .inl h, fun k h => g.new_ne r (fun e => hn (e ▸ h)), fun i h => h, fun i h => hoth i (fun e => hnF.1 (e ▸ h)), rfl, rfl, rfl, by simp⟩
  have hes : ∀ (i : Nat) (x : V), ((xs.drop o).take n)[i]? = some x → x.cells.length = sz ∧ ∀ (j : Nat) (y : V), x.cells[j]? = some y → RV g w y (((List.range (n * sz)).map fun k => vs.getD ((g.ρ nm0).off + o * sz + k) undef).getD (i * sz + j) undef) := by
    intro i x hx
    rw [List.getElem?_take] at hx
    split at hx
    · rename_i hi
      rw [List.getElem?_drop] at hx
      refine ⟨hxs _ x hx, fun j y hy => ?_⟩
      have hj : j < sz := by rw [← hxs _ x hx]; exact (List.getElem?_eq_some_iff.1 hy).1
      have hm3 : (i + 1) * sz ≤ n * sz := Nat.mul_le_mul_right _ hi
      rw [Nat.add_mul] at hm3
      have := hcells (o + i) j x y hx hy
      have hlt : i * sz + j < n * sz := by omega
      simp only [List.getD, List.getElem?_map, List.getElem?_range hlt, Option.map_some, Option.getD_some]
      rw [show (g.ρ nm0).off + o * sz + (i * sz + j) = (g.ρ nm0).off + (o + i) * sz + j by rw [Nat.add_mul]; omega]
      exact this
    · cases hx
  have hlen : ((xs.drop o).take n).length = n := by simp; omega
  obtain ⟨hr1, hr2⟩ := row_new hE hes (by simp [hlen]) hok hnews hnl new ((g.ρ nm0).off + o * sz) (by
    intro k hk
    rw [hlen, Nat.add_mul] at hk
    rw [hget]
    by_cases h1 : k < n * sz
    · rw [if_neg (by omega)]
      simp only [List.getD]
      rw [List.getElem?_append_left (by simpa using h1)]
      simp [h1]
    · rw [if_pos (by omega)]
      simp only [List.getD]
      rw [List.getElem?_append_right (by simp; omega)]
      simp
      congr 2
      omega)
  refine ⟨_, _, hst, hE, ?_, .ms nm sz 0 _ b _ c (.inr rfl) (by rw [g.new_at]) (by rw [g.new_at]) (by rw [g.new_at]; simp [r]) hfit (by rw [g.new_at]; simp [r]), fun k hk => hk⟩
  have hS0 : RS g w (hset H nm0 none) := hS.less fun k q hq => by
    unfold hset at hq
    split at hq
    · cases hq
    · exact hq
  have hne : ∀ k, (hset H nm0 none k).isSome → k ≠ nm0 ∧ (H k).isSome := by
    intro k hk
    unfold hset at hk
    split at hk
    · cases hk
    · exact ⟨by assumption, hk⟩
  refine hS0.put hE (fun k i hk hks hi => hoth i fun e => ?_) (.inr rfl) ?_ ?_ ?_
  · subst e
    exact (hne k hks).1 (hS.inj k nm0 i (hne k hks).2 hsome hi hb)
  · refine ⟨by rw [g.new_at], by rw [g.new_at]; simp [r]; omega, hr1, .inr ⟨b, new, t, by rw [g.new_at], setRow_heap _ _ _ _ _ _ hhb, by rw [g.new_at, hnsz]; simp only [r]; omega, fun i j x y hx hy => by rw [g.new_at]; exact hr2 i j x y hx hy⟩⟩
  · intro i hi
    rw [g.new_at] at hi
    have hi : b = i := by injection hi
    subst hi
    exact ⟨hnF.1, by simpa using hnF.2, fun k _ hks hbk => (hne k hks).1 (hS.inj k nm0 b (hne k hks).2 hsome hbk hb)⟩
  · intro i hi
    exact ⟨by simpa using hS.ltF i hi, fun k _ hks hbk => (hS.notF k i (hne k hks).2 hbk).1 hi⟩

/-- A row that has moved to a new block. -/
theorem append_moved {g : Gh} {w w' : World} {H : Nat → Option Blk} {old : Option Nat} {nm sz cap : Nat} {es : List V} {ys : List D} {t : TypeId} {olds news zs : List Value} (hS : RS g w H) (hn : ¬ g.U nm)
    (hes : ∀ (i : Nat) (x : V), es[i]? = some x → x.cells.length = sz ∧ ∀ (j : Nat) (y : V), x.cells[j]? = some y → RV g w y (olds.getD (i * sz + j) undef)) (hol : olds.length = es.length * sz)
    (hok : ys.all (okEl sz) = true) (hnl : news.length = ys.length * sz) (hnews : ∀ (i j : Nat) (z y : D), ys[i]? = some z → z.cells[j]? = some y → RD g.F w y (news.getD (i * sz + j) undef))
    (hcap : es.length + ys.length ≤ cap) (hzs : zs.length = (cap - (es.length + ys.length)) * sz) (hw : w' = w.drew.alloc (.cells (olds ++ news ++ zs).toArray t)) :
    Ext g w (g.new nm ⟨some w.heap.size, 0, sz, cap⟩) w' ∧ RS (g.new nm ⟨some w.heap.size, 0, sz, cap⟩) w' ((Eff.move old nm (.row sz (es ++ ys.map V.d))).on H) ∧ RV (g.new nm ⟨some w.heap.size, 0, sz, cap⟩) w' (.ms nm sz 0 (es.length + ys.length)) (.slice (some ⟨w.heap.size, 0, none⟩) (es.length + ys.length) cap) := by
  subst hw
  have hh : ∀ b, b < w.heap.size → (w.drew.alloc (.cells (olds ++ news ++ zs).toArray t)).heap[b]? = w.heap[b]? := fun b hb => heap_alloc_old w.drew _ hb
  have hE : Ext g w (g.new nm ⟨some w.heap.size, 0, sz, cap⟩) (w.drew.alloc (.cells (olds ++ news ++ zs).toArray t)) := ext_new _ hn hS.ltF hh rfl rfl rfl (by simp)
  obtain ⟨hr1, hr2⟩ := row_new hE hes hol hok hnews hnl (olds ++ news ++ zs).toArray 0 (by
    intro k hk
    rw [Nat.add_mul] at hk
    simp only [Nat.zero_add, Array.getD_eq_getD_getElem?, List.getElem?_toArray, List.getD]
    rw [List.getElem?_append_left (by simp; omega)])
  have hblk : BlkOK (g.new nm ⟨some w.heap.size, 0, sz, cap⟩) (w.drew.alloc (.cells (olds ++ news ++ zs).toArray t)) nm (.row sz (es ++ ys.map V.d)) := by
    refine ⟨by rw [g.new_at], by rw [g.new_at]; simp; omega, hr1, .inr ⟨w.heap.size, _, t, by rw [g.new_at], heap_alloc_new w.drew _, ?_, fun i j x y hx hy => by rw [g.new_at]; exact hr2 i j x y hx hy⟩⟩
    rw [g.new_at]
    simp only [List.size_toArray, List.length_append]
    have hm : cap * sz = (es.length + ys.length) * sz + (cap - (es.length + ys.length)) * sz := by rw [← Nat.add_mul]; congr 1; omega
    rw [hm, Nat.add_mul]
    omega
  have hRV : RV (g.new nm ⟨some w.heap.size, 0, sz, cap⟩) (w.drew.alloc (.cells (olds ++ news ++ zs).toArray t)) (.ms nm sz 0 (es.length + ys.length)) (.slice (some ⟨w.heap.size, 0, none⟩) (es.length + ys.length) cap) :=
    .ms nm sz 0 _ w.heap.size 0 cap (.inr rfl) (by rw [g.new_at]) (by rw [g.new_at]) (by rw [g.new_at]; simp) hcap (by rw [g.new_at]; simp)
  refine ⟨hE, ?_, hRV⟩
  cases old with
  | none => exact (hS.new hn hh rfl rfl rfl (by simp) rfl hblk).2
  | some o =>
    have hS0 : RS g w (hset H o none) := hS.less fun k q hq => by
      unfold hset at hq
      split at hq
      · cases hq
      · exact hq
    exact (hS0.new hn hh rfl rfl rfl (by simp) rfl hblk).2

theorem evalAppend_run {P : Program} {g : Gh} {w : World} {H : Nat → Option Blk} {t ty : TypeId} {s x v : V} {a b : Value} {nm : Nat} {ef : Eff} {blk : Option Blk} (h : evalAppend P t s x blk nm = some (v, ef)) (hS : RS g w H) (hn : ¬ g.U nm) (hblk : ∀ m, refOf s = some m → blk = H m)
    (hs : RV g w s a) (hx : RV g w x b) :
    ∃ v' w' g', (Builtin.append_ #[t, t] ty #[a, b]).run P w = .ok v' w' ∧ Ext g w g' w' ∧ RS g' w' (ef.on H) ∧ RV g' w' v v' ∧ (∀ k, g'.U k → g.U k ∨ k = nm) := by
  unfold evalAppend at h
  split at h
  case h_2 => cases h
  rename_i e he
  split at h
  case h_2 => cases h
  rename_i ti hti
  split at h
  case h_2 => cases h
  rename_i es old n ys hbase hsrc
  split at h
  case isFalse => cases h
  rename_i hc
  obtain ⟨hok, hbytes, hb64, h0, hb0⟩ := hc
  injection h with h
  injection h with h1 h2
  subst h1 h2
  have hu := selem_spec he
  obtain ⟨i, d, hi, hd, hz, hzs, hsz, hby, _⟩ := tinf_spec hti
  obtain ⟨A, cx, news, rfl, hnl, hfirst, hone, hnews, haddr⟩ := src_ok (P := P) hsrc hx hok h0
  have hnb : n + ys.length ≤ 211106232532992 := Nat.le_trans (Nat.le_mul_of_pos_right _ (by omega)) hbytes
  have hfirst0 := hfirst w (fun _ _ => rfl)
  have hszr : (sizeOf e).run P w = .ok ti.size w := run_sizeOf' hti w
  -- an empty base
  have empty : ∀ (a0 : Option Addr), a = .slice a0 0 0 → es = [] → n = 0 →
      ∃ v' w' g', (Builtin.append_ #[t, t] ty #[a, .slice A ys.length cx]).run P w = .ok v' w' ∧ Ext g w g' w' ∧ RS g' w' ((Eff.move old nm (.row ti.size (es ++ ys.map V.d))).on H) ∧ RV g' w' (.ms nm ti.size 0 (n + ys.length)) v' ∧ (∀ k, g'.U k → g.U k ∨ k = nm) := by
    intro a0 ha hes hn0
    subst ha hes hn0
    by_cases hm : ys = []
    · subst hm
      have hnn : news = [] := List.eq_nil_of_length_eq_zero (by simpa using hnl)
      subst hnn
      have hE : Ext g w (g.new nm ⟨none, 0, ti.size, 0⟩) w := ⟨fun k h => .inl h, fun k h => g.new_ne _ (fun e => hn (e ▸ h)), fun b h => h, fun _ _ => rfl, rfl, rfl, rfl, Nat.le_refl _⟩
      have hput : ∀ H', RS g w H' → RS (g.new nm ⟨none, 0, ti.size, 0⟩) w (hset H' nm (some (.row ti.size []))) := by
        intro H' hS'
        refine hS'.put hE (fun _ _ _ _ _ => rfl) (.inr rfl) ?_ ?_ ?_
        · exact ⟨by rw [g.new_at], by simp, by simp, .inl ⟨by rw [g.new_at], rfl⟩⟩
        · intro b hb; rw [g.new_at] at hb; cases hb
        · exact fun b hb => ⟨hS'.ltF b hb, fun k _ hks hbk => (hS'.notF k b hks hbk).1 hb⟩
      refine ⟨.slice a0 0 0, w, _, ?_, hE, ?_, .msZero _ _ _ _ (.inr rfl), fun k hk => hk⟩
      · have hf0 : (Builtin.firstCells ti.size 0 (.slice A 0 cx)).run P w = .ok #[] w := by simpa using hfirst0
        cases a0 <;> simp [Builtin.append_, run_underlying hu, hszr, Builtin.lenOf, storeCells, hf0]
      · cases old with
        | none => exact hput H hS
        | some o => exact hput _ (hS.less fun k q hq => by
            unfold hset at hq
            split at hq
            · cases hq
            · exact hq)
    · obtain ⟨ad, rfl, hcell⟩ := haddr hm
      have hpos : 0 < ys.length := List.length_pos_iff.2 hm
      have hcell0 := hcell w (fun _ _ => rfl)
      have hg0 : ys.length ≤ grownCap w ys.length 0 e := grownCap_ge _ _ _ _
      have hmv := append_moved (old := old) (t := e) (w' := w.drew.alloc (.cells (([] : List Value) ++ news ++ (Builtin.zeroCells ti.zero.cells (grownCap w ys.length 0 e - ys.length)).toList).toArray e)) (cap := grownCap w ys.length 0 e) (es := []) (olds := []) hS hn (by simp) (by simp) hok hnl hnews (by simpa using hg0) (by simp [size_zeroCells, hzs]) rfl
      refine ⟨_, _, _, ?_, hmv.1, by simpa using hmv.2.1, by simpa using hmv.2.2, fun k hk => hk⟩
      cases a0 with
      | none =>
        rw [run_append_nil (P := P) w t ty e i ti.zero hu hi hz ad ys.length cx news (by rw [hnl, hsz]) hcell0 hpos (by omega) (by rw [hby]; simp at hbytes; omega)]
        congr 3
        apply Array.ext'
        simp
      | some b0 =>
        have hg := run_append_grow (P := P) w t ty e i ti.zero hu hi hz b0 0 0 [] (by simp) (by simp) ad ys.length cx news (by rw [hnl, hsz]) hcell0 (by omega) (by simp; omega) (by rw [Nat.zero_add, nextslicecap_zero hpos, hby]; simp at hbytes; omega)
        simp only [Nat.zero_add] at hg
        rw [hg]
        congr 3
        apply Array.ext'
        simp
  unfold baseOf at hbase
  split at hbase
  · injection hbase with hbase
    injection hbase with q1 q2
    injection q2 with q2 q3
    cases hs
    exact empty none rfl q1.symm q3.symm
  · injection hbase with hbase
    injection hbase with q1 q2
    injection q2 with q2 q3
    cases hs
    exact empty _ rfl q1.symm q3.symm
  · injection hbase with hbase
    injection hbase with q1 q2
    injection q2 with q2 q3
    cases hs with | d hs =>
    cases hs
    exact empty none rfl q1.symm q3.symm
  · rename_i nm0 sz' o n' sz'' xs
    split at hbase
    case isFalse => cases hbase
    rename_i hcc
    obtain ⟨rfl, rfl, hon⟩ := hcc
    injection hbase with hbase
    injection hbase with q1 q2
    injection q2 with q2 q3
    subst q1 q2 q3
    have hH : H nm0 = some (.row ti.size xs) := (hblk nm0 rfl).symm
    cases hs with
    | msZero _ _ _ a0 => exact empty a0 rfl (by simp) rfl
    | ms _ _ _ _ bb p c hU hbb hs' hp hnc htot =>
      obtain ⟨_, hBlk⟩ := hS.ok _ _ hH
      obtain ⟨h1, h2, h3, h4⟩ := hBlk
      rcases h4 with ⟨h4, _⟩ | ⟨b', vs, tt, h4, h5, h6, h7⟩
      · rw [h4] at hbb; cases hbb
      · rw [hbb] at h4
        injection h4 with h4
        subst h4
        subst hp
        by_cases hroom : n' + ys.length ≤ c
        · obtain ⟨w', g', e1, e2, e3, e4, e5⟩ := append_inplace (P := P) (nm := nm) hS hH hbb hs' htot hroom hon h5 h6 h3 h7 hok hnl hone hnews hn
          refine ⟨_, w', g', ?_, e2, e3, e4, e5⟩
          have hadd : (⟨bb, (g.ρ nm0).off + o * ti.size, none⟩ : Addr).add (n' * ti.size) = ⟨bb, (g.ρ nm0).off + o * ti.size + n' * ti.size, none⟩ := addr_add _ _ _
          simp [Builtin.append_, run_underlying hu, hszr, Builtin.lenOf, hroom, hfirst0, hadd, e1]
        · have hne : ys ≠ [] := fun e => by subst e; simp at hroom; omega
          obtain ⟨ad, rfl, hcell⟩ := haddr hne
          have hcell0 := hcell w (fun _ _ => rfl)
          have hlt : c < n' + ys.length := by omega
          have hlen : ((xs.drop o).take n').length = n' := by simp; omega
          let olds := (List.range (n' * ti.size)).map fun k => vs.getD ((g.ρ nm0).off + o * ti.size + k) undef
          have hm1 : (o + c) * ti.size ≤ (g.ρ nm0).tot * ti.size := Nat.mul_le_mul_right _ htot
          have hm2 : n' * ti.size ≤ c * ti.size := Nat.mul_le_mul_right _ hnc
          rw [Nat.add_mul] at hm1
          have holds : ∀ (j : Nat) (v : Value), olds[j]? = some v → w.cell? ((⟨bb, (g.ρ nm0).off + o * ti.size, none⟩ : Addr).add j) = some v := by
            intro j v hv
            simp only [olds, List.getElem?_map, Option.map_eq_some_iff] at hv
            obtain ⟨k, hk, rfl⟩ := hv
            obtain ⟨hk1, hk2⟩ := List.getElem?_eq_some_iff.1 hk
            simp at hk1 hk2
            subst hk2
            have hlt : (g.ρ nm0).off + o * ti.size + j < vs.size := by omega
            rw [addr_add]
            simp [World.cell?, h5, hlt]
          have hes : ∀ (i : Nat) (x : V), ((xs.drop o).take n')[i]? = some x → x.cells.length = ti.size ∧ ∀ (j : Nat) (y : V), x.cells[j]? = some y → RV g w y (olds.getD (i * ti.size + j) undef) := by
            intro i x hx
            rw [List.getElem?_take] at hx
            split at hx
            · rename_i hi
              rw [List.getElem?_drop] at hx
              refine ⟨h3 _ x hx, fun j y hy => ?_⟩
              have hj : j < ti.size := by rw [← h3 _ x hx]; exact (List.getElem?_eq_some_iff.1 hy).1
              have hm3 : (i + 1) * ti.size ≤ n' * ti.size := Nat.mul_le_mul_right _ hi
              rw [Nat.add_mul] at hm3
              have := h7 (o + i) j x y hx hy
              have hlt : i * ti.size + j < n' * ti.size := by omega
              simp only [olds, List.getD, List.getElem?_map, List.getElem?_range hlt, Option.map_some, Option.getD_some]
              rw [show (g.ρ nm0).off + o * ti.size + (i * ti.size + j) = (g.ρ nm0).off + (o + i) * ti.size + j by rw [Nat.add_mul]; omega]
              exact this
            · cases hx
          have hg0 : n' + ys.length ≤ grownCap w (n' + ys.length) c e := grownCap_ge _ _ _ _
          have hmv := append_moved (old := some nm0) (t := e) (w' := w.drew.alloc (.cells (olds ++ news ++ (Builtin.zeroCells ti.zero.cells (grownCap w (n' + ys.length) c e - (n' + ys.length))).toList).toArray e)) (cap := grownCap w (n' + ys.length) c e) (es := (xs.drop o).take n') (olds := olds) hS hn hes (by simp [olds, hlen]) hok hnl hnews (by rw [hlen]; exact hg0) (by rw [hlen]; simp [size_zeroCells, hzs]) rfl
          rw [hlen] at hmv
          refine ⟨_, _, _, ?_, hmv.1, hmv.2.1, hmv.2.2, fun k hk => hk⟩
          rw [run_append_grow (P := P) w t ty e i ti.zero hu hi hz ⟨bb, _, none⟩ n' c olds (by simp [olds, hsz]) holds ad ys.length cx news (by rw [hnl, hsz]) hcell0 hlt (by omega) (by rw [hby]; exact growslice_fits_wide hlt (wide_fits hbytes hb64))]
          congr 3
          apply Array.ext'
          simp
  · cases hbase
end Go.Proofs.Ytjjmedgibcffhaa.M
/- Maps in memory: laws for lookup, store and delete over any key type that can be told apart; the same on abstract values. -/
namespace Go.Proofs.Ytjjmedgibcffhaa.M
open Go.RowKit Go.MapKept
set_option linter.unusedVariables false
set_option linter.unusedSimpArgs false

/-- What was there stays, but for the blocks of S. -/
structure Keep (S : Nat → Prop) (w w' : World) : Prop where
  os : w'.os = w.os
  tape : w'.tape = w.tape
  output : w'.output = w.output
  size : w.heap.size ≤ w'.heap.size
  block : ∀ k, k < w.heap.size → ¬ S k → w'.heap[k]? = w.heap[k]?

open Classical in
/-- f, but v at k. -/
noncomputable def upd {κ β : Type} (f : κ → β) (k : κ) (v : β) : κ → β := fun q => if q = k then v else f q
theorem upd_same {κ β : Type} (f : κ → β) (k : κ) (v : β) : upd f k v k = v := by simp [upd]
theorem upd_ne {κ β : Type} (f : κ → β) {k q : κ} (v : β) (h : q ≠ k) : upd f k v q = f q := by simp [upd, h]

structure KeyTy (κ : Type) (P : Program) (kt : TypeId) where
  enc : κ → Value
  inj : ∀ {a b : κ}, enc a = enc b → a = b
  check : ∀ (w : World) (em : Bool) (k : κ), (Instr.checkKey em 10000 kt (enc k)).run P w = .ok () w
  find : ∀ (w : World) (k : κ) (es : List MapEntry), (∀ e ∈ es, ∃ k', e.key = enc k') →
    ((Instr.findKey kt (enc k) es).run P w = .ok none w ∧ ∀ e ∈ es, e.key ≠ enc k) ∨ ∃ j e, (Instr.findKey kt (enc k) es).run P w = .ok (some (j, e.val)) w ∧ es[j]? = some e ∧ e.key = enc k
  stays : ∀ (w : World) (k : κ), (Instr.keyThatStays (enc k) (enc k)).run P w = .ok (enc k) w

/-- Equality of structs of plain fields. -/
def plainFields (P : Program) : Nat → List Field → Option (List TypeDesc)
  | _, [] => some []
  | k, f :: fs => if f.name ≠ "_" ∧ f.offset = k then match P.underlying f.type with
      | some (.int q) => (plainFields P (k + 1) fs).map (.int q :: ·)
      | some .bool => (plainFields P (k + 1) fs).map (.bool :: ·)
      | some .string => (plainFields P (k + 1) fs).map (.string :: ·)
      | _ => none
    else none
def eqTys (P : Program) (t : TypeId) : Option (List TypeDesc) :=
  match P.underlying t with
  | some (.struct fs) => if P.stoodInHeld t = false ∧ P.eqGuardType P.depth t = false then plainFields P 0 fs.toList else none
  | _ => none
def scEq : TypeDesc → D → D → Option Bool
  | .int _, .int k a, .int k' b => if k = k' then some (decide (a = b)) else none
  | .bool, .bool a, .bool b => some (a == b)
  | .string, .str a, .str b => some (decide (a = b))
  | _, _, _ => none
def eqCells : List TypeDesc → List D → List D → Option Bool
  | [], [], [] => some true
  | t :: ts, x :: xs, y :: ys => match scEq t x y, eqCells ts xs ys with
    | some a, some b => some (a && b)
    | _, _ => none
  | _, _, _ => none

theorem eqCells_run {P : Program} {g : Gh} {w : World} : ∀ (fs : List Field) (k : Nat) (ts : List TypeDesc) (xs ys : List D) (a_s bs : Array Value) (r : Bool), plainFields P k fs = some ts → eqCells ts xs ys = some r →
    (∀ (j : Nat) (y : D), xs[j]? = some y → RD g.F w y (a_s.getD (k + j) undef)) → (∀ (j : Nat) (y : D), ys[j]? = some y → RD g.F w y (bs.getD (k + j) undef)) → a_s.size = k + xs.length → bs.size = k + ys.length →
    (Op.eqFields 9999 a_s bs fs).run P w = .ok r w
  | [], k, ts, xs, ys, a_s, bs, r, h1, h2, _, _, _, _ => by
    simp [plainFields] at h1
    subst h1
    cases xs <;> cases ys <;> simp [eqCells] at h2
    subst h2
    simp [Op.eqFields]
  | f :: fs, k, ts, xs, ys, a_s, bs, r, h1, h2, ha, hb, hsa, hsb => by
    simp only [plainFields] at h1
    split at h1
    case isFalse => cases h1
    rename_i hc
    obtain ⟨hname, hoff⟩ := hc
    -- the rest
    have rest : ∀ (d : TypeDesc) (ts' : List TypeDesc), P.underlying f.type = some d → (match d with | .struct _ | .array _ _ => true | _ => false) = false → plainFields P (k + 1) fs = some ts' → eqCells (d :: ts') xs ys = some r →
        (∀ (x y : D) (a b : Value) (q : Bool), RD g.F w x a → RD g.F w y b → scEq d x y = some q → (Op.equalIn 9999 f.type a b).run P w = .ok q w) → (Op.eqFields 9999 a_s bs (f :: fs)).run P w = .ok r w := by
      intro d ts' hu hag hts heq hone
      cases xs with
      | nil => simp [eqCells] at heq
      | cons x xs => cases ys with
        | nil => simp [eqCells] at heq
        | cons y ys =>
          simp only [eqCells] at heq
          cases hq : scEq d x y with
          | none => simp [hq] at heq
          | some q => cases hq2 : eqCells ts' xs ys with
            | none => simp [hq, hq2] at heq
            | some q2 =>
              simp [hq, hq2] at heq
              have hka : k < a_s.size := by rw [hsa]; simp
              have hkb : k < bs.size := by rw [hsb]; simp
              have e1 : (part f.type a_s f.offset).run P w = .ok (a_s.getD k undef) w := by
                rw [hoff]
                simp [part, isAgg, run_underlying hu]
                cases d <;> simp_all
              have e2 : (part f.type bs f.offset).run P w = .ok (bs.getD k undef) w := by
                rw [hoff]
                simp [part, isAgg, run_underlying hu]
                cases d <;> simp_all
              have e3 := hone x y _ _ q (ha 0 x (by simp)) (hb 0 y (by simp)) hq
              have ih := eqCells_run fs (k + 1) ts' xs ys a_s bs q2 hts hq2 (fun j z hz => by have := ha (j + 1) z (by simpa using hz); rw [show k + 1 + j = k + (j + 1) by omega]; exact this) (fun j z hz => by have := hb (j + 1) z (by simpa using hz); rw [show k + 1 + j = k + (j + 1) by omega]; exact this) (by rw [hsa]; simp; omega) (by rw [hsb]; simp; omega)
              simp only [Op.eqFields, if_pos hname, Sem.run_bind, e1, e2, Result.andThen_ok]
              simp only [Nat.add_zero] at e3
              rw [e3]
              cases q
              · simp only [Result.andThen_ok, Bool.not_false, if_true, Sem.run_pure]
                simp at heq
                rw [heq]
              · simp only [Result.andThen_ok, Bool.not_true, Bool.false_eq_true, if_false]
                simp at heq
                rw [ih, heq]
    split at h1
    · rename_i q hq
      simp only [Option.map_eq_some_iff] at h1
      obtain ⟨ts', hts, rfl⟩ := h1
      refine rest _ ts' hq rfl hts h2 fun x y a b r hx hy he => ?_
      cases hx <;> cases hy <;> simp [scEq] at he
      obtain ⟨rfl, rfl⟩ := he
      rename_i k' n m
      rw [run_equalIn_int w 9998 f.type k' q n m hq]
      rfl
    · rename_i hq
      simp only [Option.map_eq_some_iff] at h1
      obtain ⟨ts', hts, rfl⟩ := h1
      refine rest _ ts' hq rfl hts h2 fun x y a b r hx hy he => ?_
      cases hx <;> cases hy <;> simp [scEq] at he
      subst he
      exact run_equalIn_bool' w 9998 f.type _ _ hq
    · rename_i hq
      simp only [Option.map_eq_some_iff] at h1
      obtain ⟨ts', hts, rfl⟩ := h1
      refine rest _ ts' hq rfl hts h2 fun x y a b r hx hy he => ?_
      cases hx <;> cases hy <;> simp [scEq] at he
      subst he
      rw [run_equalIn_string w 9998 f.type _ _ hq, toList_beq]
    · cases h1

theorem wf64 {n : Int} (h1 : -9223372036854775808 ≤ n) (h2 : n ≤ 9223372036854775807) : (Lit.int .i64 n).wf = true := WalkArith.wf_i64 ⟨h1, h2⟩

/-- Whole numbers a_s keys. -/
def KeyTy.int {P : Program} {kt : TypeId} {q : IntKind} (hk : P.underlying kt = some (.int q)) : KeyTy Int P kt where
  enc := Value.int q
  inj := fun h => by injection h
  check := fun w em k => run_checkKey hk (show IsKey (.int q) (.int q k) from rfl) em 9999
  find := fun w k es hes => by
    have hks : ∀ y ∈ es, IsKey (.int q) y.key := fun y hy => by
      obtain ⟨k', hk'⟩ := hes y hy
      rw [hk']
      exact rfl
    rcases findNow_spec (show IsKey (.int q) (.int q k) from rfl) es 0 hks with ⟨h1, h2⟩ | ⟨j, e0, h1, h2, h3⟩
    · exact Or.inl ⟨run_findKey hk h1, h2⟩
    · exact Or.inr ⟨j, e0, by simpa using run_findKey hk h1, h2, h3⟩
  stays := fun w k => run_keyThatStays (show IsKey (.int q) (.int q k) from rfl)
/-- Texts a_s keys. -/
def KeyTy.str {P : Program} {kt : TypeId} (hk : P.underlying kt = some .string) : KeyTy ByteArray P kt where
  enc := Value.string
  inj := fun h => by injection h
  check := fun w em k => run_checkKey hk (show IsKey .string (.string k) from trivial) em 9999
  find := fun w k es hes => by
    have hks : ∀ y ∈ es, IsKey .string y.key := fun y hy => by
      obtain ⟨k', hk'⟩ := hes y hy
      rw [hk']
      exact trivial
    rcases findNow_spec (show IsKey .string (.string k) from trivial) es 0 hks with ⟨h1, h2⟩ | ⟨j, e0, h1, h2, h3⟩
    · exact Or.inl ⟨run_findKey hk h1, h2⟩
    · exact Or.inr ⟨j, e0, by simpa using run_findKey hk h1, h2, h3⟩
  stays := fun w k => run_keyThatStays (show IsKey .string (.string k) from trivial)

/-- Structs of a text and a number a_s keys. -/
theorem pair_spec {P : Program} {kt : TypeId} {q : IntKind} (h : eqTys P kt = some [.string, .int q]) : ∃ (fs : Array Field) (f1 f2 : Field), P.underlying kt = some (.struct fs) ∧ fs.toList = [f1, f2] ∧ P.stoodInHeld kt = false ∧ plainFields P 0 fs.toList = some [.string, .int q] ∧
    f1.name ≠ "_" ∧ f1.offset = 0 ∧ P.underlying f1.type = some .string ∧ f2.name ≠ "_" ∧ f2.offset = 1 ∧ P.underlying f2.type = some (.int q) := by
  unfold eqTys at h
  split at h
  case h_2 => cases h
  rename_i fs hu
  split at h
  case isFalse => cases h
  rename_i hc
  have key : ∀ l : List Field, plainFields P 0 l = some [.string, .int q] → ∃ f1 f2, l = [f1, f2] ∧ f1.name ≠ "_" ∧ f1.offset = 0 ∧ P.underlying f1.type = some .string ∧ f2.name ≠ "_" ∧ f2.offset = 1 ∧ P.underlying f2.type = some (.int q) := by
    intro l hl
    cases l with
    | nil => simp [plainFields] at hl
    | cons f1 l =>
      simp only [plainFields] at hl
      split at hl
      case isFalse => cases hl
      rename_i h1
      split at hl
      · simp only [Option.map_eq_some_iff] at hl
        obtain ⟨_, _, e⟩ := hl
        simp at e
      · simp only [Option.map_eq_some_iff] at hl
        obtain ⟨_, _, e⟩ := hl
        simp at e
      · rename_i hu1
        simp only [Option.map_eq_some_iff] at hl
        obtain ⟨ts, hl, e⟩ := hl
        injection e with e1 e2
        subst e2
        cases l with
        | nil => simp [plainFields] at hl
        | cons f2 l =>
          simp only [plainFields] at hl
          split at hl
          case isFalse => cases hl
          rename_i h2
          split at hl
          · rename_i q' hu2
            simp only [Option.map_eq_some_iff] at hl
            obtain ⟨ts, hl, e⟩ := hl
            injection e with e1 e2
            injection e1 with e1
            subst e1 e2
            cases l with
            | nil => exact ⟨f1, f2, rfl, h1.1, h1.2, hu1, h2.1, h2.2, hu2⟩
            | cons f3 l =>
              simp only [plainFields] at hl
              split at hl
              · split at hl <;> simp at hl
              · cases hl
          · simp only [Option.map_eq_some_iff] at hl
            obtain ⟨_, _, e⟩ := hl
            simp at e
          · simp only [Option.map_eq_some_iff] at hl
            obtain ⟨_, _, e⟩ := hl
            simp at e
          · cases hl
      · cases hl
  obtain ⟨f1, f2, e, r⟩ := key _ h
  exact ⟨fs, f1, f2, hu, e, hc.1, h, r⟩
theorem pair_inj {q : IntKind} {a b : ByteArray × Int} (h : pairKey q a = pairKey q b) : a = b := by
  obtain ⟨a1, a2⟩ := a
  obtain ⟨b1, b2⟩ := b
  simpa [pairKey] using h
theorem pair_check {P : Program} {kt : TypeId} {q : IntKind} (h : eqTys P kt = some [.string, .int q]) (w : World) (em : Bool) (k : ByteArray × Int) : (Instr.checkKey em 10000 kt (pairKey q k)).run P w = .ok () w := by
  obtain ⟨fs, f1, f2, hu, e, _, _, n1, o1, u1, n2, o2, u2⟩ := pair_spec h
  have p1 : (part f1.type #[.string k.1, .int q k.2] f1.offset).run P w = .ok (.string k.1) w := by
    rw [o1]
    simp [part, isAgg, run_underlying u1]
  have p2 : (part f2.type #[.string k.1, .int q k.2] f2.offset).run P w = .ok (.int q k.2) w := by
    rw [o2]
    simp [part, isAgg, run_underlying u2]
  have c1 : (Instr.checkKey em 9999 f1.type (.string k.1)).run P w = .ok () w := run_checkKey u1 (show IsKey .string (.string k.1) from trivial) em 9998
  have c2 : (Instr.checkKey em 9999 f2.type (.int q k.2)).run P w = .ok () w := run_checkKey u2 (show IsKey (.int q) (.int q k.2) from rfl) em 9998
  rw [show (10000 : Nat) = 9999 + 1 from rfl, Instr.checkKey]
  simp only [pairKey, Sem.run_bind, run_underlying hu, Result.andThen_ok]
  rw [← Array.forIn_toList, e]
  simp only [List.forIn_cons, List.forIn_nil, Sem.run_bind, n1, n2, ne_eq, not_false_eq_true, if_true, Result.andThen_ok, p1, p2, c1, c2, Sem.run_pure]
theorem pair_equal {P : Program} {kt : TypeId} {q : IntKind} (h : eqTys P kt = some [.string, .int q]) (w : World) (a b : ByteArray × Int) : (Op.equal kt (pairKey q a) (pairKey q b)).run P w = .ok (decide (a = b)) w := by
  obtain ⟨fs, f1, f2, hu, e, hst, hpf, _⟩ := pair_spec h
  have hfo : P.fieldsOf kt = fs := by simp [Program.fieldsOf, hu]
  have hu' : P.underlying kt = some (.struct (P.fieldsOf kt)) := by rw [hfo]; exact hu
  have hr : ∀ (c : ByteArray × Int) (j : Nat) (y : D), [D.str c.1, .int q c.2][j]? = some y → RD (fun _ => False) w y ((#[Value.string c.1, .int q c.2] : Array Value).getD (0 + j) undef) := fun c j y hy => by
    match j, hy with
    | 0, hy => simp at hy; subst hy; exact .str _
    | 1, hy => simp at hy; subst hy; exact .int _ _
    | j + 2, hy => simp at hy
  have := eqCells_run (P := P) (g := ⟨fun _ => ⟨none, 0, 0, 0⟩, fun _ => False, fun _ => False⟩) (w := w) fs.toList 0 _ [.str a.1, .int q a.2] [.str b.1, .int q b.2] #[.string a.1, .int q a.2] #[.string b.1, .int q b.2] (decide (a = b)) hpf
    (by obtain ⟨a1, a2⟩ := a; obtain ⟨b1, b2⟩ := b; simp [eqCells, scEq]) (hr a) (hr b) (by simp) (by simp)
  show (Op.equalIn (9999 + 1) kt (.agg #[.string a.1, .int q a.2]) (.agg #[.string b.1, .int q b.2])).run P w = _
  rw [run_equalIn_struct w 9999 kt _ _ hu' hst, hfo]
  exact this
theorem pair_find {P : Program} {kt : TypeId} {q : IntKind} (h : eqTys P kt = some [.string, .int q]) (w : World) (k : ByteArray × Int) (es : List MapEntry) (hes : ∀ e ∈ es, ∃ k', e.key = pairKey q k') :
    ((Instr.findKey kt (pairKey q k) es).run P w = .ok none w ∧ ∀ e ∈ es, e.key ≠ pairKey q k) ∨ ∃ j e, (Instr.findKey kt (pairKey q k) es).run P w = .ok (some (j, e.val)) w ∧ es[j]? = some e ∧ e.key = pairKey q k := by
  obtain ⟨fs, f1, f2, hu, _⟩ := pair_spec h
  have ask : ∀ (es : List MapEntry) (i : Nat), (∀ e ∈ es, ∃ k', e.key = pairKey q k') →
      ((Instr.findAsking kt (pairKey q k) es i).run P w = .ok none w ∧ ∀ e ∈ es, e.key ≠ pairKey q k) ∨ ∃ j e, (Instr.findAsking kt (pairKey q k) es i).run P w = .ok (some (i + j, e.val)) w ∧ es[j]? = some e ∧ e.key = pairKey q k := by
    intro es
    induction es with
    | nil => intro i _; exact .inl ⟨by simp [Instr.findAsking], by simp⟩
    | cons e es ih =>
      intro i hall
      obtain ⟨k', hk'⟩ := hall e (by simp)
      have he := pair_equal h w k k'
      rw [← hk'] at he
      by_cases hkk : k = k'
      · refine .inr ⟨0, e, ?_, rfl, by rw [hk', hkk]⟩
        have hd : decide (k = k') = true := by simp [hkk]
        simp [Instr.findAsking, he, hd]
      · have hne : e.key ≠ pairKey q k := fun h' => hkk (pair_inj (h'.symm.trans hk'))
        have hd : decide (k = k') = false := by simp [hkk]
        rcases ih (i + 1) (fun y hy => hall y (by simp [hy])) with ⟨h1, h2⟩ | ⟨j, e', h1, h2, h3⟩
        · refine .inl ⟨by simp [Instr.findAsking, he, hd, h1], fun y hy => ?_⟩
          rcases List.mem_cons.1 hy with rfl | hy
          · exact hne
          · exact h2 y hy
        · exact .inr ⟨j + 1, e', by simp [Instr.findAsking, he, hd, h1, Nat.add_assoc, Nat.add_comm 1 j], by simpa using h2, h3⟩
  have hf : (Instr.findKey kt (pairKey q k) es).run P w = (Instr.findAsking kt (pairKey q k) es 0).run P w := by
    cases es with
    | nil => simp [Instr.findKey, run_underlying hu, Instr.findNow, Instr.findAsking]
    | cons e es => simp [Instr.findKey, run_underlying hu, Instr.findNow, Instr.sameNow]
  rw [hf]
  simpa using ask es 0 hes
theorem pair_stays {P : Program} {q : IntKind} (w : World) (k : ByteArray × Int) : (Instr.keyThatStays (pairKey q k) (pairKey q k)).run P w = .ok (pairKey q k) w := by
  have : Instr.sameBits 10000 (pairKey q k) (pairKey q k) = true := by
    rw [show (10000 : Nat) = 9999 + 1 from rfl]
    simp [pairKey, Instr.sameBits, bytes_beq]
  simp [Instr.keyThatStays, this]
def KeyTy.pair {P : Program} {kt : TypeId} {q : IntKind} (h : eqTys P kt = some [.string, .int q]) : KeyTy (ByteArray × Int) P kt where
  enc := pairKey q
  inj := pair_inj
  check := pair_check h
  find := pair_find h
  stays := pair_stays

section
variable {κ : Type} {P : Program} {kt : TypeId}

/-- Block b holds a map that reads a_s f. -/
def MapAt (K : KeyTy κ P kt) (w : World) (b : Nat) (f : κ → Option Value) : Prop := MapIn K.enc w b f

theorem MapAt.same {K : KeyTy κ P kt} {w w' : World} {b : Nat} {f : κ → Option Value} (h : MapAt K w b f) (hs : w'.heap[b]? = w.heap[b]?) : MapAt K w' b f := by
  obtain ⟨es, clock, hb, h1, h2, h3⟩ := h
  exact ⟨es, clock, hs.trans hb, h1, h2, h3⟩
theorem MapAt.lt {K : KeyTy κ P kt} {w : World} {b : Nat} {f : κ → Option Value} (h : MapAt K w b f) : b < w.heap.size := by
  obtain ⟨es, clock, hb, _⟩ := h
  exact (Array.getElem?_eq_some_iff.1 hb).1
theorem MapAt.ext {K : KeyTy κ P kt} {w : World} {b : Nat} {f g : κ → Option Value} (h : MapAt K w b f) (hfg : ∀ k, f k = g k) : MapAt K w b g := by
  rw [← funext hfg]
  exact h
theorem MapAt.made (K : KeyTy κ P kt) (w : World) : MapAt K (w.alloc (.map #[] 0)) w.heap.size (fun _ => none) :=
  ⟨#[], 0, by show (w.heap.push _)[w.heap.size]? = _; simp, by simp, by simp, by simp⟩

/-- What is found of a key. -/
theorem MapAt.found {K : KeyTy κ P kt} {w : World} {b : Nat} {f : κ → Option Value} (h : MapAt K w b f) (k : κ) :
    ∃ es clock, w.heap[b]? = some (.map es clock) ∧ (((Instr.findKey kt (K.enc k) es.toList).run P w = .ok none w ∧ f k = none ∧ ∀ e ∈ es.toList, e.key ≠ K.enc k) ∨
      ∃ j e, (Instr.findKey kt (K.enc k) es.toList).run P w = .ok (some (j, e.val)) w ∧ f k = some e.val ∧ es.toList[j]? = some e ∧ e.key = K.enc k) := by
  obtain ⟨es, clock, hb, h1, h2, h3⟩ := h
  refine ⟨es, clock, hb, ?_⟩
  rcases K.find w k es.toList h1 with ⟨hr, hn⟩ | ⟨j, e, hr, hj, he⟩
  · refine .inl ⟨hr, ?_, hn⟩
    cases hf : f k with
    | none => rfl
    | some v =>
      obtain ⟨e, he, hk, _⟩ := (h3 k v).1 hf
      exact absurd hk (hn e he)
  · exact .inr ⟨j, e, hr, (h3 k e.val).2 ⟨e, List.mem_of_getElem? hj, he, rfl⟩, hj, he⟩

theorem MapAt.run_lookup {K : KeyTy κ P kt} {w : World} {b : Nat} {f : κ → Option Value} (h : MapAt K w b f) {t et : TypeId} (ht : P.underlying t = some (.map kt et)) {z : Value} (hz : (zeroValue et).run P w = .ok z w) (k : κ) :
    (Instr.lookup t (.map (some b)) (K.enc k) true).run P w = .ok (.tuple #[(f k).getD z, .bool (f k).isSome]) w := by
  obtain ⟨es, clock, hb, hc⟩ := h.found k
  rcases hc with ⟨hr, hf, _⟩ | ⟨j, e, hr, hf, _, _⟩
  · simp [Instr.lookup, run_underlying ht, getObj, Sem.run, hb, K.check, hr, hf, hz, Result.andThen]
  · simp [Instr.lookup, run_underlying ht, getObj, Sem.run, hb, K.check, hr, hf, Result.andThen]
theorem MapAt.run_lookup1 {K : KeyTy κ P kt} {w : World} {b : Nat} {f : κ → Option Value} (h : MapAt K w b f) {t et : TypeId} (ht : P.underlying t = some (.map kt et)) {z : Value} (hz : (zeroValue et).run P w = .ok z w) (k : κ) :
    (Instr.lookup t (.map (some b)) (K.enc k) false).run P w = .ok ((f k).getD z) w := by
  obtain ⟨es, clock, hb, hc⟩ := h.found k
  rcases hc with ⟨hr, hf, _⟩ | ⟨j, e, hr, hf, _, _⟩
  · simp [Instr.lookup, run_underlying ht, getObj, Sem.run, hb, K.check, hr, hf, hz, Result.andThen]
  · simp [Instr.lookup, run_underlying ht, getObj, Sem.run, hb, K.check, hr, hf, Result.andThen]

theorem getElem?_lt {α : Type} {l : List α} {j : Nat} {e : α} (h : l[j]? = some e) : j < l.length := (List.getElem?_eq_some_iff.1 h).1

theorem setObj_keep {w : World} {b : Nat} {o : Obj} (_h : b < w.heap.size) : Keep (fun k => k = b) w { w with heap := w.heap.setIfInBounds b o } :=
  ⟨rfl, rfl, rfl, by simp, fun k _ hk => by simp [Array.getElem?_setIfInBounds]; intro e; exact absurd e.symm hk⟩

theorem setObj_at {w : World} {b : Nat} (o : Obj) (h : b < w.heap.size) : ({ w with heap := w.heap.setIfInBounds b o } : World).heap[b]? = some o := by
  simp [Array.getElem?_setIfInBounds, h]

open Classical in
/-- m[k] = v. -/
theorem MapAt.run_update {K : KeyTy κ P kt} {w : World} {b : Nat} {f : κ → Option Value} (h : MapAt K w b f) {t et : TypeId} (ht : P.underlying t = some (.map kt et)) (k : κ) (v : Value) :
    ∃ w', (Instr.mapUpdate t (.map (some b)) (K.enc k) v).run P w = .ok () w' ∧ MapAt K w' b (upd f k (some v)) ∧ Keep (fun i => i = b) w w' ∧ w'.heap.size = w.heap.size := by
  have h' := h
  obtain ⟨es0, clock0, hb0, h1, h2, h3⟩ := h'
  obtain ⟨es, clock, hb, hc⟩ := h.found k
  obtain ⟨rfl, rfl⟩ : es = es0 ∧ clock = clock0 := by
    rw [hb0] at hb
    injection hb with hb
    injection hb with e1 e2
    exact ⟨e1.symm, e2.symm⟩
  have hlt := h.lt
  rcases hc with ⟨hr, hf, hno⟩ | ⟨j, e, hr, hf, hj, he⟩
  · refine ⟨{ w with heap := w.heap.setIfInBounds b (.map (es.push { key := K.enc k, val := v, born := clock }) (clock + 1)) }, ?_, ?_, setObj_keep hlt, by simp⟩
    · simp [Instr.mapUpdate, run_underlying ht, getObj, setObj, Sem.run, hb, K.check, hr, Result.andThen]
    · refine ⟨_, _, setObj_at _ hlt, ?_, ?_, ?_⟩
      · intro x hx
        simp at hx
        rcases hx with hx | rfl
        · exact h1 x (by simpa using hx)
        · exact ⟨k, rfl⟩
      · simp only [Array.toList_push]
        rw [List.pairwise_append]
        refine ⟨h2, by simp, ?_⟩
        intro x hx y hy
        simp at hy
        subst hy
        exact hno x hx
      · intro k' v'
        by_cases hk : k' = k
        · subst hk
          simp only [upd_same, Option.some.injEq]
          constructor
          · rintro rfl
            exact ⟨{ key := K.enc k', val := v, born := clock }, by simp, rfl, rfl⟩
          · rintro ⟨x, hx, hk2, rfl⟩
            simp at hx
            rcases hx with hx | rfl
            · exact absurd hk2 (hno x (by simpa using hx))
            · rfl
        · rw [upd_ne _ _ hk, h3]
          constructor
          · rintro ⟨x, hx, r⟩
            exact ⟨x, by simp at hx ⊢; exact .inl hx, r⟩
          · rintro ⟨x, hx, hk2, r⟩
            simp at hx
            rcases hx with hx | rfl
            · exact ⟨x, by simpa using hx, hk2, r⟩
            · exact absurd (K.inj hk2).symm hk
  · have hjl : j < es.size := by have := getElem?_lt hj; simpa using this
    have hje : es[j]? = some e := by simpa using hj
    refine ⟨{ w with heap := w.heap.setIfInBounds b (.map (es.modify j fun e => { e with key := K.enc k, val := v }) clock) }, ?_, ?_, setObj_keep hlt, by simp⟩
    · simp [Instr.mapUpdate, run_underlying ht, getObj, setObj, Sem.run, hb, K.check, hr, Result.andThen, hje, he, K.stays]
    · have hmod : (es.modify j fun e => { e with key := K.enc k, val := v }).toList = es.toList.set j { e with key := K.enc k, val := v } := by
        apply List.ext_getElem?
        intro i
        simp only [Array.getElem?_toList, Array.getElem?_modify, List.getElem?_set]
        by_cases hij : j = i
        · subst hij
          have := (Array.getElem?_eq_some_iff.1 hje).2
          simp [hjl, this]
        · simp [hij]
      have hmem : ∀ x, x ∈ es.toList.set j { e with key := K.enc k, val := v } ↔ x = { e with key := K.enc k, val := v } ∨ (x ∈ es.toList ∧ x.key ≠ K.enc k) := by
        intro x
        constructor
        · intro hx
          obtain ⟨i, hi, rfl⟩ := List.getElem_of_mem hx
          rw [List.getElem_set]
          split
          · exact .inl rfl
          · rename_i hne
            refine .inr ⟨List.getElem_mem _, fun hk => ?_⟩
            have hil : i < es.toList.length := by simpa using hi
            have := List.pairwise_iff_getElem.1 h2
            have ej : es.toList[j]'(by simpa using hjl) = e := (List.getElem?_eq_some_iff.1 hj).2
            rcases Nat.lt_or_ge i j with hij | hij
            · exact this i j hil (by simpa using hjl) hij (by rw [ej, he, hk])
            · exact this j i (by simpa using hjl) hil (by omega) (by rw [ej, he, hk])
        · rintro (rfl | ⟨hx, hk⟩)
          · exact List.mem_iff_getElem.2 ⟨j, by simpa using hjl, by simp⟩
          · obtain ⟨i, hi, rfl⟩ := List.getElem_of_mem hx
            have hne : j ≠ i := by
              rintro rfl
              exact hk (by rw [(List.getElem?_eq_some_iff.1 hj).2, he])
            exact List.mem_iff_getElem.2 ⟨i, by simpa using hi, by rw [List.getElem_set, if_neg hne]⟩
      refine ⟨_, _, setObj_at _ hlt, ?_, ?_, ?_⟩
      · rw [hmod]
        intro x hx
        rcases (hmem x).1 hx with rfl | ⟨hx, _⟩
        · exact ⟨k, rfl⟩
        · exact h1 x hx
      · rw [hmod, List.pairwise_iff_getElem]
        intro i i' hi hi' hii
        have h2' := List.pairwise_iff_getElem.1 h2
        have ej : es.toList[j]'(by simpa using hjl) = e := (List.getElem?_eq_some_iff.1 hj).2
        have hil : i < es.toList.length := by simpa using hi
        have hil' : i' < es.toList.length := by simpa using hi'
        rw [List.getElem_set, List.getElem_set]
        split
        · rename_i e1
          subst e1
          rw [if_neg (by omega)]
          have := h2' j i' hil hil' hii
          rw [ej, he] at this
          exact this
        · split
          · rename_i e1 e2
            subst e2
            have := h2' i j hil hil' hii
            rw [ej, he] at this
            exact this
          · exact h2' i i' hil hil' hii
      · intro k' v'
        rw [hmod]
        by_cases hk : k' = k
        · subst hk
          simp only [upd_same, Option.some.injEq]
          constructor
          · rintro rfl
            exact ⟨_, (hmem _).2 (.inl rfl), rfl, rfl⟩
          · rintro ⟨x, hx, hk2, rfl⟩
            rcases (hmem x).1 hx with rfl | ⟨_, hne⟩
            · rfl
            · exact absurd hk2 hne
        · rw [upd_ne _ _ hk, h3]
          constructor
          · rintro ⟨x, hx, hk2, r⟩
            exact ⟨x, (hmem x).2 (.inr ⟨hx, fun h => hk (K.inj (hk2.symm.trans h))⟩), hk2, r⟩
          · rintro ⟨x, hx, hk2, r⟩
            rcases (hmem x).1 hx with rfl | ⟨hx, _⟩
            · exact absurd (K.inj hk2).symm hk
            · exact ⟨x, hx, hk2, r⟩

open Classical in
/-- delete(m, k). -/
theorem MapAt.run_delete {K : KeyTy κ P kt} {w : World} {b : Nat} {f : κ → Option Value} (h : MapAt K w b f) {t et : TypeId} (ht : P.underlying t = some (.map kt et)) (k : κ) (ty : TypeId) :
    ∃ w', (Builtin.delete_ #[t, kt] ty #[.map (some b), K.enc k]).run P w = .ok (.tuple #[]) w' ∧ MapAt K w' b (upd f k none) ∧ Keep (fun i => i = b) w w' ∧ w'.heap.size = w.heap.size := by
  have h' := h
  obtain ⟨es0, clock0, hb0, h1, h2, h3⟩ := h'
  obtain ⟨es, clock, hb, hc⟩ := h.found k
  obtain ⟨rfl, rfl⟩ : es = es0 ∧ clock = clock0 := by
    rw [hb0] at hb
    injection hb with hb
    injection hb with e1 e2
    exact ⟨e1.symm, e2.symm⟩
  have hlt := h.lt
  rcases hc with ⟨hr, hf, hno⟩ | ⟨j, e, hr, hf, hj, he⟩
  · refine ⟨{ w with heap := w.heap.setIfInBounds b (.map es clock) }, ?_, ⟨es, clock, setObj_at _ hlt, h1, h2, ?_⟩, setObj_keep hlt, by simp⟩
    · simp [Builtin.delete_, run_underlying ht, getObj, setObj, Sem.run, hb, K.check, hr, Result.andThen]
    · intro k' v'
      by_cases hk : k' = k
      · subst hk
        simp only [upd_same]
        constructor
        · intro h; cases h
        · rintro ⟨x, hx, hk2, _⟩
          exact absurd hk2 (hno x hx)
      · rw [upd_ne _ _ hk, h3]
  · have hjl : j < es.size := by have := getElem?_lt hj; simpa using this
    refine ⟨{ w with heap := w.heap.setIfInBounds b (.map (es.eraseIdxIfInBounds j) clock) }, ?_, ?_, setObj_keep hlt, by simp⟩
    · simp [Builtin.delete_, run_underlying ht, getObj, setObj, Sem.run, hb, K.check, hr, Result.andThen]
    · have hmod : (es.eraseIdxIfInBounds j).toList = es.toList.eraseIdx j := by simp [Array.eraseIdxIfInBounds, hjl]
      have hmem : ∀ x, x ∈ es.toList.eraseIdx j ↔ (x ∈ es.toList ∧ x.key ≠ K.enc k) := by
        intro x
        have ej : es.toList[j]'(by simpa using hjl) = e := (List.getElem?_eq_some_iff.1 hj).2
        rw [List.mem_eraseIdx_iff_getElem]
        constructor
        · rintro ⟨i, hi, hij, rfl⟩
          refine ⟨List.getElem_mem _, fun hk => ?_⟩
          have := List.pairwise_iff_getElem.1 h2
          rcases Nat.lt_or_ge i j with hlt' | hge
          · exact this i j hi (by simpa using hjl) hlt' (by rw [ej, he, hk])
          · exact this j i (by simpa using hjl) hi (by omega) (by rw [ej, he, hk])
        · rintro ⟨hx, hk⟩
          obtain ⟨i, hi, rfl⟩ := List.getElem_of_mem hx
          exact ⟨i, hi, by rintro rfl; exact hk (by rw [ej, he]), rfl⟩
      refine ⟨_, _, setObj_at _ hlt, ?_, ?_, ?_⟩
      · rw [hmod]
        intro x hx
        exact h1 x ((hmem x).1 hx).1
      · rw [hmod]
        exact h2.sublist (List.eraseIdx_sublist _ _)
      · intro k' v'
        rw [hmod]
        by_cases hk : k' = k
        · subst hk
          simp only [upd_same]
          constructor
          · intro h; cases h
          · rintro ⟨x, hx, hk2, _⟩
            exact absurd hk2 ((hmem x).1 hx).2
        · rw [upd_ne _ _ hk, h3]
          constructor
          · rintro ⟨x, hx, hk2, r⟩
            exact ⟨x, (hmem x).2 ⟨hx, fun h => hk (K.inj (hk2.symm.trans h))⟩, hk2, r⟩
          · rintro ⟨x, hx, hk2, r⟩
            exact ⟨x, ((hmem x).1 hx).1, hk2, r⟩
end


/-- Keys by the type of the map. -/
instance : DecidableEq KK := fun a b =>
  match a, b with
  | .int i, .int j => if h : i = j then isTrue (by rw [h]) else isFalse (fun e => h (by injection e))
  | .str, .str => isTrue rfl
  | .pair i, .pair j => if h : i = j then isTrue (by rw [h]) else isFalse (fun e => h (by injection e))
  | .int _, .str | .int _, .pair _ | .str, .int _ | .str, .pair _ | .pair _, .int _ | .pair _, .str => isFalse (by simp)
def kkOf (P : Program) (kt : TypeId) : Option KK :=
  match P.underlying kt with
  | some (.int k) => some (.int k)
  | some .string => some .str
  | _ => match eqTys P kt with
    | some [.string, .int q] => some (.pair q)
    | _ => none
def mapTy (P : Program) (t : TypeId) : Option (KK × TypeId × TypeId) :=
  match P.underlying t with
  | some (.map kt et) => (kkOf P kt).map fun kk => (kk, kt, et)
  | _ => none
def keyOk : KK → D → Bool
  | .int k, .int k' _ => k == k'
  | .str, .str _ => true
  | .pair k, .agg [.str _, .int k' _] => k == k'
  | _, _ => false
theorem mapTy_spec {P : Program} {t kt et : TypeId} {kk : KK} (h : mapTy P t = some (kk, kt, et)) : P.underlying t = some (.map kt et) ∧ kkOf P kt = some kk := by
  unfold mapTy at h
  split at h
  · rename_i kt' et' he
    simp only [Option.map_eq_some_iff] at h
    obtain ⟨kk', h1, h2⟩ := h
    injection h2 with h2 h3
    injection h3 with h3 h4
    subst h2 h3 h4
    exact ⟨he, h1⟩
  · cases h

open Classical in
noncomputable def updD (m : D → Option V) (k : D) (v : Option V) : D → Option V := fun q => if q = k then v else m q

def evalLookup (P : Program) (t : TypeId) (m k : V) (ok : Bool) (blk : Option Blk) : Option V :=
  match mapTy P t, m, k, blk with
  | some (kk, _, et), .map nm, .d key, some (.map kk' f) => match tinf P et with
    | some ti => if kk' = kk ∧ keyOk kk key = true then some (if ok then .tup [(f key).getD (ofConst ti.zero), .d (.bool (f key).isSome)] else (f key).getD (ofConst ti.zero)) else none
    | none => none
  | _, _, _, _ => none
noncomputable def evalUpdate (P : Program) (t : TypeId) (m k : V) (v : Option V) (blk : Option Blk) : Option Blk :=
  match mapTy P t, m, k, blk with
  | some (kk, _, _), .map nm, .d key, some (.map kk' f) => if kk' = kk ∧ keyOk kk key = true then some (.map kk (updD f key v)) else none
  | _, _, _, _ => none

theorem pair_key {F : Nat → Prop} {w : World} {q : IntKind} {x : D} {b : Value} (h : keyOk (.pair q) x = true) (hb : RD F w x b) : ∃ s i, x = .agg [.str s, .int q i] ∧ b = pairKey q (s, i) := by
  unfold keyOk at h
  split at h <;> simp_all
  rename_i s k' i
  cases hb with
  | agg _ vs hl hr =>
    have h0 := hr 0 _ rfl
    have h1 := hr 1 _ rfl
    obtain ⟨l⟩ := vs
    match l, hl with
    | [a, b], _ =>
      simp at h0 h1
      cases h0
      cases h1
      exact ⟨s, i, ⟨rfl, rfl⟩, rfl⟩

theorem OptRV.getD {g : Gh} {w : World} {x : Option V} {v : Option Value} (h : OptRV g w x v) {z : V} {zv : Value} (hz : RV g w z zv) : RV g w (x.getD z) (v.getD zv) ∧ x.isSome = v.isSome := by
  cases h with
  | none => exact ⟨hz, rfl⟩
  | some h => exact ⟨h, rfl⟩

theorem tupRV2 {g : Gh} {w : World} {x y : V} {a b : Value} (hx : RV g w x a) (hy : RV g w y b) : RV g w (.tup [x, y]) (.tuple #[a, b]) := by
  refine .tup _ _ rfl fun j z hz => ?_
  match j, hz with
  | 0, hz => simp at hz; subst hz; exact hx
  | 1, hz => simp at hz; subst hz; exact hy
  | j + 2, hz => simp at hz

theorem evalLookup_run {P : Program} {g : Gh} {w : World} {t : TypeId} {m k v : V} {a b : Value} {ok : Bool} {blk : Option Blk} (h : evalLookup P t m k ok blk = some v) (hm : RV g w m a) (hk : RV g w k b) (hb : ∀ nm q, refOf m = some nm → blk = some q → BlkOK g w nm q) :
    ∃ v', (Instr.lookup t a b ok).run P w = .ok v' w ∧ RV g w v v' := by
  unfold evalLookup at h
  split at h
  case h_2 => cases h
  rename_i kk kt et nm key kk' f hmt
  split at h
  case h_2 => cases h
  rename_i ti hti
  split at h
  case isFalse => cases h
  rename_i hc
  obtain ⟨rfl, hko⟩ := hc
  injection h with h
  subst h
  obtain ⟨hu, hkk⟩ := mapTy_spec hmt
  have hz := run_zeroValue' hti w
  have hzv := ofConst_rv g w ti.zero
  obtain ⟨bb, hbb, hin⟩ := hb nm _ rfl rfl
  cases hm with
  | map _ b' hU hb' =>
    rw [hbb] at hb'
    injection hb' with hb'
    subst hb'
    cases hk with | d hk =>
    have fin : ∀ {κ : Type} (K : KeyTy κ P kt) (q : κ) (F : κ → Option Value), b = K.enc q → MapAt K w bb F → OptRV g w (f key) (F q) →
        ∃ v', (Instr.lookup t (.map (some bb)) b ok).run P w = .ok v' w ∧ RV g w (if ok then .tup [(f key).getD (ofConst ti.zero), .d (.bool (f key).isSome)] else (f key).getD (ofConst ti.zero)) v' := by
      intro κ K q F hbq hM hO
      subst hbq
      obtain ⟨h1, h2⟩ := hO.getD hzv
      cases ok with
      | true => exact ⟨_, hM.run_lookup hu hz q, tupRV2 h1 (by rw [h2]; exact .d (.bool _))⟩
      | false => exact ⟨_, hM.run_lookup1 hu hz q, h1⟩
    unfold kkOf at hkk
    split at hkk
    · rename_i ki hki
      injection hkk with hkk
      subst hkk
      obtain ⟨F, hF1, hF2⟩ := hin
      cases key <;> simp [keyOk] at hko
      subst hko
      cases hk
      exact fin (KeyTy.int hki) _ F rfl hF1 (hF2 _)
    · rename_i hks
      injection hkk with hkk
      subst hkk
      obtain ⟨F, hF1, hF2⟩ := hin
      cases key <;> simp [keyOk] at hko
      cases hk
      exact fin (KeyTy.str hks) _ F rfl hF1 (hF2 _)
    · split at hkk
      case h_2 => cases hkk
      rename_i q heq
      injection hkk with hkk
      subst hkk
      obtain ⟨F, hF1, hF2⟩ := hin
      obtain ⟨s, i, rfl, rfl⟩ := pair_key hko hk
      exact fin (KeyTy.pair heq) (s, i) F rfl hF1 (hF2 _ _)

theorem Keep.ne {b : Nat} {w w' : World} (h : Keep (fun i => i = b) w w') (hs : w'.heap.size = w.heap.size) : ∀ i, i ≠ b → w'.heap[i]? = w.heap[i]? := by
  intro i hi
  by_cases hlt : i < w.heap.size
  · exact h.block i hlt hi
  · rw [Array.getElem?_eq_none (by omega), Array.getElem?_eq_none (by omega)]

theorem evalUpdate_run {P : Program} {g : Gh} {w : World} {H : Nat → Option Blk} {t : TypeId} {m k : V} {v : Option V} {a b : Value} {vv : Option Value} {nm : Nat} {q : Blk} (h : evalUpdate P t m k v (H nm) = some q) (hS : RS g w H) (hnm : refOf m = some nm) (hm : RV g w m a) (hk : RV g w k b) (hv : OptRV g w v vv) :
    ∃ w', (∀ z, vv = some z → (Instr.mapUpdate t a b z).run P w = .ok () w') ∧ (vv = none → ∀ kt et ty, P.underlying t = some (.map kt et) → (Builtin.delete_ #[t, kt] ty #[a, b]).run P w = .ok (.tuple #[]) w') ∧ Ext g w g w' ∧ RS g w' (hset H nm (some q)) := by
  unfold evalUpdate at h
  split at h
  case h_2 => cases h
  rename_i kk kt et nm' key kk' f hmt hH
  obtain rfl : nm' = nm := by simpa [refOf] using hnm
  split at h
  case isFalse => cases h
  rename_i hc
  obtain ⟨rfl, hko⟩ := hc
  injection h with h
  subst h
  obtain ⟨hu, hkk⟩ := mapTy_spec hmt
  obtain ⟨hU0, bb, hbb, hin⟩ := hS.ok _ _ hH
  cases hm with
  | map _ b' hU hb' =>
    rw [hbb] at hb'
    injection hb' with hb'
    subst hb'
    cases hk with | d hk =>
    have fin : ∀ {κ : Type} (K : KeyTy κ P kt) (c : κ) (F : κ → Option Value), b = K.enc c → MapAt K w bb F →
        ∃ w', (∀ z, vv = some z → (Instr.mapUpdate t (.map (some bb)) b z).run P w = .ok () w') ∧ (vv = none → ∀ kt et ty, P.underlying t = some (.map kt et) → (Builtin.delete_ #[t, kt] ty #[.map (some bb), b]).run P w = .ok (.tuple #[]) w') ∧
          MapAt K w' bb (upd F c vv) ∧ Keep (fun i => i = bb) w w' ∧ w'.heap.size = w.heap.size := by
      intro κ K c F hbc hM
      subst hbc
      cases vv with
      | some z =>
        obtain ⟨w', e1, e2, e3, e4⟩ := hM.run_update hu c z
        exact ⟨w', fun z' hz' => by injection hz' with hz'; subst hz'; exact e1, (by intro h; cases h), e2, e3, e4⟩
      | none =>
        obtain ⟨w', e1, e2, e3, e4⟩ := hM.run_delete hu c 0
        refine ⟨w', (by intro z h; cases h), fun _ kt' et' ty hu' => ?_, e2, e3, e4⟩
        have hkt : kt = kt' ∧ et = et' := by simpa [hu] using hu'
        rw [← hkt.1]
        simpa [Builtin.delete_] using e1
    unfold kkOf at hkk
    split at hkk
    · rename_i ki hki
      injection hkk with hkk
      subst hkk
      obtain ⟨F, hF1, hF2⟩ := hin
      cases key <;> simp [keyOk] at hko
      rename_i ki' n
      subst hko
      cases hk
      obtain ⟨w', e1, e2, e3, e4, e5⟩ := fin (KeyTy.int hki) n F rfl hF1
      obtain ⟨hE, hS'⟩ := hS.write (k' := .map (.int ki) (updD f (.int ki n) v)) hH hbb (e4.ne e5) e4.os e4.tape e4.output e5 (fun hE => ⟨bb, hbb, _, e3, fun i => by
        by_cases hi : i = n
        · subst hi
          simp only [updD, upd, if_true]
          exact hv.mono hE
        · simp only [updD, upd, if_neg hi, D.int.injEq, true_and]
          exact (hF2 i).mono hE⟩)
      exact ⟨w', e1, e2, hE, hS'⟩
    · rename_i hks
      injection hkk with hkk
      subst hkk
      obtain ⟨F, hF1, hF2⟩ := hin
      cases key <;> simp [keyOk] at hko
      rename_i n
      cases hk
      obtain ⟨w', e1, e2, e3, e4, e5⟩ := fin (KeyTy.str hks) n F rfl hF1
      obtain ⟨hE, hS'⟩ := hS.write (k' := .map .str (updD f (.str n) v)) hH hbb (e4.ne e5) e4.os e4.tape e4.output e5 (fun hE => ⟨bb, hbb, _, e3, fun i => by
        by_cases hi : i = n
        · subst hi
          simp only [updD, upd, if_true]
          exact hv.mono hE
        · simp only [updD, upd, if_neg hi, D.str.injEq]
          exact (hF2 i).mono hE⟩)
      exact ⟨w', e1, e2, hE, hS'⟩
    · split at hkk
      case h_2 => cases hkk
      rename_i q' heq
      injection hkk with hkk
      subst hkk
      obtain ⟨F, hF1, hF2⟩ := hin
      obtain ⟨s, n, rfl, rfl⟩ := pair_key hko hk
      obtain ⟨w', e1, e2, e3, e4, e5⟩ := fin (KeyTy.pair heq) (s, n) F rfl hF1
      obtain ⟨hE, hS'⟩ := hS.write (k' := .map (.pair q') (updD f (.agg [.str s, .int q' n]) v)) hH hbb (e4.ne e5) e4.os e4.tape e4.output e5 (fun hE => ⟨bb, hbb, _, e3, fun s' i => by
        by_cases hi : (s', i) = (s, n)
        · injection hi with h1 h2
          subst h1 h2
          simp only [updD, upd, if_true]
          exact hv.mono hE
        · have hi' : ¬ (D.agg [.str s', .int q' i] = .agg [.str s, .int q' n]) := by
            intro hh
            apply hi
            simpa using hh
          simp only [updD, upd, if_neg hi, if_neg hi']
          exact (hF2 s' i).mono hE⟩)
      exact ⟨w', e1, e2, hE, hS'⟩

theorem evalMakeMap_run {P : Program} {g : Gh} {w : World} {H : Nat → Option Blk} {t kt et : TypeId} {kk : KK} {nm : Nat} (hmt : mapTy P t = some (kk, kt, et)) (hS : RS g w H) (hn : ¬ g.U nm) :
    ∃ v' w' g', (Instr.makeMap t none).run P w = .ok v' w' ∧ Ext g w g' w' ∧ RS g' w' (hset H nm (some (.map kk fun _ => none))) ∧ RV g' w' (.map nm) v' ∧ (∀ k, g'.U k → g.U k ∨ k = nm) := by
  have hh : ∀ b, b < w.heap.size → (w.alloc (.map #[] 0)).heap[b]? = w.heap[b]? := fun b hb => heap_alloc_old w _ hb
  have hm : ∀ {κ : Type} (enc : κ → Value), MapIn enc (w.alloc (.map #[] 0)) w.heap.size (fun _ => none) := fun enc => ⟨#[], 0, heap_alloc_new _ _, by simp, by simp, by simp⟩
  obtain ⟨hE, hS'⟩ := hS.new (w' := w.alloc (.map #[] 0)) (r := ⟨some w.heap.size, 0, 0, 0⟩) (k := .map kk fun _ => none) hn hh rfl rfl rfl (by simp) rfl (by
    refine ⟨w.heap.size, by rw [g.new_at], ?_⟩
    cases kk with
    | int k => exact ⟨_, hm _, fun _ => .none⟩
    | str => exact ⟨_, hm _, fun _ => .none⟩
    | pair k => exact ⟨_, hm _, fun _ _ => .none⟩)
  exact ⟨_, _, _, by simp [Instr.makeMap] <;> rfl, hE, hS', .map nm _ (.inr rfl) (by rw [g.new_at]), fun k hk => hk⟩

/-- make of a slice. -/
def evalMakeSlice (P : Program) (t : TypeId) (l c : V) (nm : Nat) : Option (V × Eff) :=
  match selem P t, intOf? l, intOf? c with
  | some e, some n, some n' => match tinf P e with
    | some ti => if n = n' ∧ 0 ≤ n ∧ (ti.bytes : Int) * n ≤ 281474976710656 ∧ n ≤ 140737488355328 ∧ (ofConst ti.zero).cells.length = ti.size then some (.ms nm ti.size 0 n.toNat, .put nm (.row ti.size (List.replicate n.toNat (ofConst ti.zero)))) else none
    | none => none
  | _, _, _ => none
theorem ofConst_cells (v : Value) (x : V) (j : Nat) (h : (ofConst v).cells[j]? = some x) (hs : (ofConst v).cells.length = v.cells.size) (g : Gh) (w : World) : RV g w x (v.cells.getD j undef) := by
  cases v with
  | agg cs =>
    simp only [ofConst, mkAgg_cells, List.getElem?_map, Option.map_eq_some_iff] at h
    obtain ⟨c, hc, rfl⟩ := h
    have : cs.getD j undef = c := by
      simp at hc
      simp [hc]
    simp only [Value.cells]
    rw [this]
    exact ofScalar_rv g w c
  | _ =>
    have hsc : ∀ (v : Value), (ofScalar v).cells = [ofScalar v] := fun v => by unfold ofScalar; split <;> rfl
    simp only [ofConst, hsc] at h
    cases j with
    | zero => simp at h; subst h; exact ofScalar_rv g w _
    | succ j => simp at h
theorem evalMakeSlice_run {P : Program} {g : Gh} {w : World} {H : Nat → Option Blk} {t : TypeId} {l c v : V} {a b : Value} {nm : Nat} {ef : Eff} (h : evalMakeSlice P t l c nm = some (v, ef)) (hS : RS g w H) (hn : ¬ g.U nm) (hl : RV g w l a) (hc : RV g w c b) :
    ∃ v' w' g', (Instr.makeSlice t a b).run P w = .ok v' w' ∧ Ext g w g' w' ∧ RS g' w' (ef.on H) ∧ RV g' w' v v' ∧ (∀ k, g'.U k → g.U k ∨ k = nm) := by
  unfold evalMakeSlice at h
  split at h
  case h_2 => cases h
  rename_i e n n' he hln hcn
  split at h
  case h_2 => cases h
  rename_i ti hti
  split at h
  case isFalse => cases h
  rename_i hcc
  obtain ⟨rfl, h0, hby', hbd, hzl⟩ := hcc
  injection h with h
  injection h with h1 h2
  subst h1 h2
  have hu := selem_spec he
  obtain ⟨i, d, hi, hd, hz, hzs, hsz, hby, _⟩ := tinf_spec hti
  obtain ⟨kl, rfl⟩ := intOf?_rv hln hl
  obtain ⟨kc, rfl⟩ := intOf?_rv hcn hc
  have hr := run_make w t e i ti.zero hu hi hz kl kc n n h0 (by omega) (by rw [hby]; exact hby') (by omega)
  have hh : ∀ b, b < w.heap.size → (w.alloc (.cells (madeCells ti.zero.cells (n.toNat * i.size)) e)).heap[b]? = w.heap[b]? := fun b hb => heap_alloc_old w _ hb
  have hms : (madeCells ti.zero.cells (n.toNat * i.size)).size = n.toNat * ti.size := by simp [madeCells, hsz]
  obtain ⟨hE, hS'⟩ := hS.new (w' := w.alloc (.cells (madeCells ti.zero.cells (n.toNat * i.size)) e)) (r := ⟨some w.heap.size, 0, ti.size, n.toNat⟩) (k := .row ti.size (List.replicate n.toNat (ofConst ti.zero))) hn hh rfl rfl rfl (by simp) rfl (by
    refine ⟨by rw [g.new_at], by rw [g.new_at]; simp, fun k x hx => ?_, .inr ⟨w.heap.size, _, e, by rw [g.new_at], heap_alloc_new _ _, by rw [g.new_at, hms]; simp, fun k j x y hx hy => ?_⟩⟩
    · have := List.mem_of_getElem? hx
      rw [List.mem_replicate] at this
      rw [this.2]
      exact hzl
    · have hx' := List.mem_of_getElem? hx
      rw [List.mem_replicate] at hx'
      rw [hx'.2] at hy
      have hk : k < n.toNat := by have := (List.getElem?_eq_some_iff.1 hx).1; simpa using this
      have hj : j < ti.size := by rw [← hzl]; exact (List.getElem?_eq_some_iff.1 hy).1
      have hm : (k + 1) * ti.size ≤ n.toNat * ti.size := Nat.mul_le_mul_right _ hk
      rw [Nat.add_mul] at hm
      have hlt : k * ti.size + j < n.toNat * ti.size := by omega
      rw [g.new_at]
      have hget : (madeCells ti.zero.cells (n.toNat * i.size)).getD (0 + k * ti.size + j) undef = ti.zero.cells.getD j undef := by
        have hjz : j < ti.zero.cells.size := by omega
        obtain ⟨_, e2⟩ := divmod (i := k) hj
        simp [madeCells, hsz, hlt, hzs, e2, hjz]
        simp [getElem!_pos, hjz]
      simp only
      rw [hget]
      exact ofConst_cells _ _ _ hy (by rw [hzl, hzs]) _ _)
  exact ⟨_, _, _, hr, hE, hS', .ms nm ti.size 0 n.toNat w.heap.size 0 n.toNat (.inr rfl) (by rw [g.new_at]) (by rw [g.new_at]) (by rw [g.new_at]; simp) (Nat.le_refl _) (by rw [g.new_at]; simp), fun k hk => hk⟩
end Go.Proofs.Ytjjmedgibcffhaa.M
/- One operation on abstract values, and that the machine's operation does the same. -/
namespace Go.Proofs.Ytjjmedgibcffhaa.M
open Go.RowKit
set_option linter.unusedVariables false
set_option linter.unusedSimpArgs false

def evalEqAgg0 (P : Program) (op : BinOp) (t : TypeId) (x y : V) : Option V :=
  match x, y, eqTys P t with
  | .d (.agg xs), .d (.agg ys), some ts => match op, eqCells ts xs ys with
    | .eql, some r => some (.d (.bool r))
    | .neq, some r => some (.d (.bool (!r)))
    | _, _ => none
  | _, _, _ => none
theorem evalEqAgg0_run {P : Program} {g : Gh} {w : World} {op : BinOp} {t : TypeId} {x y v : V} {a b : Value} (h : evalEqAgg0 P op t x y = some v) (hx : RV g w x a) (hy : RV g w y b) (ox oy : Operand) :
    ∃ v', ((do eqGuard op t ox oy a b; Go.binOp op t a b : Sem Value)).run P w = .ok v' w ∧ RV g w v v' := by
  unfold evalEqAgg0 at h
  split at h
  case h_2 => cases h
  rename_i xs ys ts hts
  unfold eqTys at hts
  split at hts
  case h_2 => cases hts
  rename_i fs hu
  split at hts
  case isFalse => cases hts
  rename_i hc
  obtain ⟨hst, hgd⟩ := hc
  cases hx with | d hx => cases hy with | d hy =>
  cases hx with | agg _ a_s hla hra => cases hy with | agg _ bs hlb hrb =>
  have hfo : P.fieldsOf t = fs := by simp [Program.fieldsOf, hu]
  have hg := run_eqGuard_agg (P := P) w op t ox oy a_s bs hgd
  have hu' : P.underlying t = some (.struct (P.fieldsOf t)) := by rw [hfo]; exact hu
  split at h
  · rename_i r hr
    injection h with h
    subst h
    have := eqCells_run (P := P) (g := g) (w := w) fs.toList 0 ts xs ys a_s bs r hts hr (fun j z hz => by rw [Nat.zero_add]; exact hra j z hz) (fun j z hz => by rw [Nat.zero_add]; exact hrb j z hz) (by simpa using hla) (by simpa using hlb)
    refine ⟨.bool r, ?_, .d (.bool _)⟩
    rw [Sem.run_bind, hg, Result.andThen_ok, run_eql_struct, run_equalIn_struct w 9999 t a_s bs hu' hst, hfo, this]
    rfl
  · rename_i r hr
    injection h with h
    subst h
    have := eqCells_run (P := P) (g := g) (w := w) fs.toList 0 ts xs ys a_s bs r hts hr (fun j z hz => by rw [Nat.zero_add]; exact hra j z hz) (fun j z hz => by rw [Nat.zero_add]; exact hrb j z hz) (by simpa using hla) (by simpa using hlb)
    refine ⟨.bool (!r), ?_, .d (.bool _)⟩
    rw [Sem.run_bind, hg, Result.andThen_ok, run_neq_struct, run_equalIn_struct w 9999 t a_s bs hu' hst, hfo, this]
    rfl
  · cases h

/-- Equality of truth values, too. -/
def evalEqAgg (P : Program) (op : BinOp) (t : TypeId) (x y : V) : Option V :=
  match x, y with
  | .d (.bool a), .d (.bool b) => match P.underlying t, op with
    | some .bool, .eql => some (.d (.bool (a == b)))
    | some .bool, .neq => some (.d (.bool (!(a == b))))
    | _, _ => none
  | .d (.sl (_ :: _)), .nil => match P.underlying t, op with
    | some (.slice _), .eql => some (.d (.bool false))
    | some (.slice _), .neq => some (.d (.bool true))
    | _, _ => none
  | x, y => evalEqAgg0 P op t x y
theorem evalEqAgg_run {P : Program} {g : Gh} {w : World} {op : BinOp} {t : TypeId} {x y v : V} {a b : Value} (h : evalEqAgg P op t x y = some v) (hx : RV g w x a) (hy : RV g w y b) (ox oy : Operand) :
    ∃ v', ((do eqGuard op t ox oy a b; Go.binOp op t a b : Sem Value)).run P w = .ok v' w ∧ RV g w v v' := by
  unfold evalEqAgg at h
  split at h
  · rename_i p q
    cases hx with | d hx => cases hy with | d hy =>
    cases hx
    cases hy
    have hg := eqGuard_run (P := P) (w := w) (op := op) (t := t) (x := ox) (y := oy) (a := .bool p) (b := .bool q) (by simp) (by simp)
    split at h
    · rename_i hu
      injection h with h
      subst h
      refine ⟨.bool (p == q), ?_, .d (.bool _)⟩
      rw [Sem.run_bind, hg, Result.andThen_ok]
      simp [Go.binOp, Op.equal, Op.maxDepth, run_equalIn_bool' w 9999 t p q hu]
    · rename_i hu
      injection h with h
      subst h
      refine ⟨.bool (!(p == q)), ?_, .d (.bool _)⟩
      rw [Sem.run_bind, hg, Result.andThen_ok]
      simp [Go.binOp, Op.equal, Op.maxDepth, run_equalIn_bool' w 9999 t p q hu]
    · cases h
  · rename_i z zs
    cases hx with | d hx =>
    cases hy
    cases hx with | sl _ b o c sz u =>
    have hg := fun op => eqGuard_run (P := P) (w := w) (op := op) (t := t) (x := ox) (y := oy) (a := .slice (some ⟨b, o, none⟩) (z :: zs).length c) (b := .slice none 0 0) (by simp) (by simp)
    split at h
    · rename_i e hu
      injection h with h
      subst h
      refine ⟨.bool false, ?_, .d (.bool _)⟩
      rw [Sem.run_bind, hg, Result.andThen_ok]
      simp [Go.binOp, Op.equal, Op.maxDepth, Lib.run_equalIn_slice_nil w 9999 t e _ _ c 0 0 hu]
    · rename_i e hu
      injection h with h
      subst h
      refine ⟨.bool true, ?_, .d (.bool _)⟩
      rw [Sem.run_bind, hg, Result.andThen_ok]
      simp [Go.binOp, Op.equal, Op.maxDepth, Lib.run_equalIn_slice_nil w 9999 t e _ _ c 0 0 hu]
    · cases h
  · exact evalEqAgg0_run h hx hy ox oy

def evalConv (P : Program) (s t : TypeId) (x : V) : Option V :=
  match P.underlying s, P.underlying t, x with
  | some (.int _), some (.int k), .d (.int _ n) => some (.d (.int k (k.wrap n)))
  | _, _, _ => none
theorem evalConv_run {P : Program} {g : Gh} {w : World} {s t : TypeId} {x v : V} {a : Value} (h : evalConv P s t x = some v) (hx : RV g w x a) : ∃ v', (convert s t a).run P w = .ok v' w ∧ RV g w v v' := by
  unfold evalConv at h
  split at h
  case h_2 => cases h
  rename_i k0 k k1 n hs ht
  injection h with h
  subst h
  cases hx with | d hx =>
  cases hx
  exact ⟨.int k (k.wrap n), by simp [convert, run_underlying hs, run_underlying ht, Conv.intToInt], .d (.int _ _)⟩

def evalMax : Bool → V → V → Option V
  | true, .d (.int k a), .d (.int _ b) => some (.d (.int k (if b > a then b else a)))
  | false, .d (.int k a), .d (.int _ b) => some (.d (.int k (if b < a then b else a)))
  | _, _, _ => none

def evalIndex (P : Program) (t : TypeId) (x i : V) : Option V :=
  match P.underlying t, x, intOf? i with
  | some .string, .d (.str s), some n => if 0 ≤ n then match s[n.toNat]? with
    | some b => some (.d (.int .u8 b.toNat))
    | none => none
    else none
  | _, _, _ => none
theorem evalIndex_run {P : Program} {g : Gh} {w : World} {t : TypeId} {x i v : V} {a b : Value} (h : evalIndex P t x i = some v) (hx : RV g w x a) (hi : RV g w i b) : ∃ v', (Instr.index t a b).run P w = .ok v' w ∧ RV g w v v' := by
  unfold evalIndex at h
  split at h
  case h_2 => cases h
  rename_i s n hu hn
  split at h
  case isFalse => cases h
  rename_i h0
  split at h
  case h_2 => cases h
  rename_i c hc
  injection h with h
  subst h
  obtain ⟨k, rfl⟩ := intOf?_rv hn hi
  cases hx with | d hx =>
  cases hx
  exact ⟨.int .u8 c.toNat, by simp [Instr.index, asIntOf, run_underlying hu, h0, hc], .d (.int _ _)⟩

noncomputable def builtinB (P : Program) (b : Builtin) (args : List V) (tys : List TypeId) (blk : Option Blk) (nm : Nat) : Option (V × Eff) :=
  match b, args, tys with
  | .len, [x], [t] => (evalLen P t x).map (·, .keep)
  | .append, [s, x], [t, t'] => if t = t' then evalAppend P t s x blk nm else none
  | .delete, [m, k], [t, kt] => match mapTy P t, refOf m with
    | some (_, kt', _), some nm' => if kt = kt' then (evalUpdate P t m k none blk).map fun q => (.tup [], .put nm' q) else none
    | _, _ => none
  | .max, [x, y], _ => (evalMax true x y).map (·, .keep)
  | .min, [x, y], _ => (evalMax false x y).map (·, .keep)
  | _, _, _ => none

/-- One operation: its value, and what becomes of the named blocks. blk: the block that it looks at; nm: a new name. -/
noncomputable def stepB (P : Program) (op : Op) (lk : Operand → V) (blk : Option Blk) (nm : Nat) : Option (V × Eff) :=
  match op with
  | .move x | .assign x => some (lk x, .keep)
  | .pick c a b => match lk c with
    | .d (.bool t) => some (if t then lk a else lk b, .keep)
    | _ => none
  | .nilCheck x => match lk x with
    | .ptr nm o => some (.ptr nm o, .keep)
    | .eptr nm i o => some (.eptr nm i o, .keep)
    | .rptr cs => some (.rptr cs, .keep)
    | _ => none
  | .binOp op t x y _ => match evalBin op (lk x) (lk y) with
    | some v => some (v, .keep)
    | none => (evalEqAgg P op t (lk x) (lk y)).map (·, .keep)
  | .unOp op _ x => (evalUn op (lk x)).map (·, .keep)
  | .convert s t x => (evalConv P s t (lk x)).map (·, .keep)
  | .extract x i => (evalExtract (lk x) i).map (·, .keep)
  | .fieldAddr s x f => (evalFieldAddr P s f (lk x)).map (·, .keep)
  | .indexAddr t x i => (evalIndexAddr P t (lk x) (lk i)).map (·, .keep)
  | .index t x i => (evalIndex P t (lk x) (lk i)).map (·, .keep)
  | .slice t x lo hi mx => (evalSlice P t (lk x) (lo.map lk) (hi.map lk) (mx.map lk)).map (·, .keep)
  | .build t parts => (evalBuild P t (parts.toList.map fun p => (p.1, lk p.2))).map (·, .keep)
  | .buildSlice t len parts => evalBuildSlice P t len (parts.toList.map fun p => (p.1, lk p.2)) nm
  | .makeFunc (.func f) first caps => if first.size = 0 then some (.fn f (caps.toList.map lk), .keep) else none
  | .load t a => (evalLoad P t (lk a) blk).map (·, .keep)
  | .store t a x => match refOf (lk a) with
    | some nm' => (evalStore P t (lk a) (lk x) blk).map fun q => (.undef, .put nm' q)
    | none => none
  | .alloc t => (tinf P t).map fun ti => (.ptr nm 0, .put nm (.box (zeroCs ti)))
  | .box t x => if (lk x).firm then some (.ptr nm 0, .put nm (.box (lk x).cells)) else none
  | .lookup t m k ok => (evalLookup P t (lk m) (lk k) ok blk).map (·, .keep)
  | .mapUpdate t m k v => match refOf (lk m) with
    | some nm' => (evalUpdate P t (lk m) (lk k) (some (lk v)) blk).map fun q => (.undef, .put nm' q)
    | none => none
  | .makeMap t none => (mapTy P t).map fun q => (.map nm, .put nm (.map q.1 fun _ => none))
  | .makeSlice t l c => evalMakeSlice P t (lk l) (lk c) nm
  | .call c => match c.callee with
    | .builtin b => builtinB P b (c.args.toList.map lk) c.argTypes.toList blk nm
    | _ => none
  | _ => none

/-- The block that an operation looks at. -/
def fpOf (op : Op) (lk : Operand → V) : Option Nat :=
  match op with
  | .load _ a | .store _ a _ => refOf (lk a)
  | .lookup _ m _ _ | .mapUpdate _ m _ _ => refOf (lk m)
  | .call c => match c.callee with
    | .builtin .append | .builtin .delete => (c.args.toList.head?).bind fun x => refOf (lk x)
    | _ => none
  | _ => none
def blkOf (H : Nat → Option Blk) (n : Option Nat) : Option Blk := n.bind H

/-- What the machine's operation must do. -/
def StepOK (P : Program) (g : Gh) (w : World) (H : Nat → Option Blk) (nm : Nat) (v : V) (ef : Eff) (r : Result Next) : Prop :=
  ∃ w' g', ((∃ v', r = .ok (.value v') w' ∧ RV g' w' v v') ∨ (r = .ok .skip w' ∧ v = .undef)) ∧ Ext g w g' w' ∧ RS g' w' (ef.on H) ∧ (∀ k, g'.U k → g.U k ∨ k = nm)

theorem StepOK.keep {P : Program} {g : Gh} {w : World} {H : Nat → Option Blk} {nm : Nat} {v : V} (hS : RS g w H) {s : Sem Value} (h : ∃ v', s.run P w = .ok v' w ∧ RV g w v v') : StepOK P g w H nm v .keep ((do pure (.value (← s)) : Sem Next).run P w) := by
  obtain ⟨v', h1, h2⟩ := h
  exact ⟨w, g, .inl ⟨v', by simp [h1], h2⟩, Ext.refl _ _, hS, fun k hk => .inl hk⟩
theorem StepOK.val {P : Program} {g : Gh} {w : World} {H : Nat → Option Blk} {nm : Nat} {v : V} {ef : Eff} {s : Sem Value} (h : ∃ v' w' g', s.run P w = .ok v' w' ∧ Ext g w g' w' ∧ RS g' w' (ef.on H) ∧ RV g' w' v v' ∧ (∀ k, g'.U k → g.U k ∨ k = nm)) : StepOK P g w H nm v ef ((do pure (.value (← s)) : Sem Next).run P w) := by
  obtain ⟨v', w', g', h1, h2, h3, h4, h5⟩ := h
  exact ⟨w', g', .inl ⟨v', by simp [h1], h4⟩, h2, h3, h5⟩
end Go.Proofs.Ytjjmedgibcffhaa.M
/- One operation: the machine does what the abstract step says. -/
namespace Go.Proofs.Ytjjmedgibcffhaa.M
open Go.RowKit
set_option linter.unusedVariables false
set_option linter.unusedSimpArgs false

theorem optMap_some {α β : Type} {o : Option α} {f : α → β} {y : β} (h : o.map f = some y) : ∃ x, o = some x ∧ f x = y := by
  simpa using h
theorem map_keep {x : Option V} {v : V} {ef : Eff} (h : x.map (fun y => (y, Eff.keep)) = some (v, ef)) : x = some v ∧ ef = .keep := by
  obtain ⟨y, h1, h2⟩ := optMap_some h
  injection h2 with h2 h3
  subst h2
  exact ⟨h1, h3.symm⟩

theorem OptRV.of_map {g : Gh} {w : World} {lk : Operand → V} {ev : Operand → Value} (hev : ∀ x, RV g w (lk x) (ev x)) (x : Option Operand) : OptRV g w (x.map lk) (x.map ev) := by
  cases x with
  | none => exact .none
  | some x => exact .some (hev x)

theorem resolve_builtin {P : Program} {w : World} (ev : Operand → Value) (b : Builtin) (args : Array Operand) (tys : Array TypeId) (ty : TypeId) :
    ∃ cs, ((do let d ← resolve ev { callee := .builtin b, args := args, argTypes := tys } ty; invoke d.target d.args : Sem Next)).run P w = (builtin b tys ty cs (args.map ev)).run P w :=
  ⟨_, rfl⟩

section
variable {P : Program} {g : Gh} {w : World} {H : Nat → Option Blk} {nm : Nat} {v : V} {ef : Eff} {lk : Operand → V} {ev : Operand → Value}
theorem len_sound (hev : ∀ x, RV g w (lk x) (ev x)) {x : Operand} {t ty : TypeId} {cs : Array Bool} (h : (evalLen P t (lk x)).map (fun y => (y, Eff.keep)) = some (v, ef)) (hS : RS g w H) : StepOK P g w H nm v ef ((builtin .len #[t] ty cs #[ev x]).run P w) := by
  obtain ⟨he, rfl⟩ := map_keep h
  exact StepOK.keep (s := Builtin.len_ #[t] ty #[ev x]) hS (evalLen_run he (hev x))
theorem append_sound (hev : ∀ x, RV g w (lk x) (ev x)) {x y : Operand} {t ty : TypeId} {cs : Array Bool} (h : evalAppend P t (lk x) (lk y) (blkOf H (refOf (lk x))) nm = some (v, ef)) (hS : RS g w H) (hn : ¬ g.U nm) : StepOK P g w H nm v ef ((builtin .append #[t, t] ty cs #[ev x, ev y]).run P w) :=
  StepOK.val (s := Builtin.append_ #[t, t] ty #[ev x, ev y]) (evalAppend_run (P := P) (ty := ty) h hS hn (fun m hm => by simp [blkOf, hm]) (hev x) (hev y))
theorem delete_sound (hev : ∀ x, RV g w (lk x) (ev x)) {x y : Operand} {t kt et ty : TypeId} {kk : KK} {cs : Array Bool} {q : Blk} {nm' : Nat} (hmt : mapTy P t = some (kk, kt, et)) (hnm' : refOf (lk x) = some nm') (hq : evalUpdate P t (lk x) (lk y) none (H nm') = some q) (hS : RS g w H) :
    StepOK P g w H nm (.tup []) (.put nm' q) ((builtin .delete #[t, kt] ty cs #[ev x, ev y]).run P w) := by
  obtain ⟨w', _, e2, e3, e4⟩ := evalUpdate_run (P := P) hq hS hnm' (hev x) (hev y) .none
  have := e2 rfl kt et ty (mapTy_spec hmt).1
  exact ⟨w', g, .inl ⟨.tuple #[], by simp [builtin, this], .tup [] #[] rfl (by simp)⟩, e3, e4, fun k hk => .inl hk⟩
theorem max_sound (hev : ∀ x, RV g w (lk x) (ev x)) {p q : Operand} {tys : Array TypeId} {ty : TypeId} {cs : Array Bool} (h : (evalMax true (lk p) (lk q)).map (fun y => (y, Eff.keep)) = some (v, ef)) (hS : RS g w H) : StepOK P g w H nm v ef ((builtin .max tys ty cs #[ev p, ev q]).run P w) := by
  obtain ⟨he, rfl⟩ := map_keep h
  have hp := hev p
  have hq := hev q
  generalize lk p = x at he hp
  generalize lk q = y at he hq
  generalize ev p = pv at hp
  generalize ev q = qv at hq
  unfold evalMax at he
  split at he
  · injection he with he
    subst he
    cases hp with | d hp => cases hq with | d hq =>
    cases hp
    cases hq
    exact ⟨w, g, .inl ⟨_, by simp [builtin, Builtin.max_, Builtin.max2] <;> rfl, .d (.int _ _)⟩, Ext.refl _ _, hS, fun k hk => .inl hk⟩
  · cases ‹true = false›
  · cases he
theorem min_sound (hev : ∀ x, RV g w (lk x) (ev x)) {p q : Operand} {tys : Array TypeId} {ty : TypeId} {cs : Array Bool} (h : (evalMax false (lk p) (lk q)).map (fun y => (y, Eff.keep)) = some (v, ef)) (hS : RS g w H) : StepOK P g w H nm v ef ((builtin .min tys ty cs #[ev p, ev q]).run P w) := by
  obtain ⟨he, rfl⟩ := map_keep h
  have hp := hev p
  have hq := hev q
  generalize lk p = x at he hp
  generalize lk q = y at he hq
  generalize ev p = pv at hp
  generalize ev q = qv at hq
  unfold evalMax at he
  split at he
  · cases ‹false = true›
  · injection he with he
    subst he
    cases hp with | d hp => cases hq with | d hq =>
    cases hp
    cases hq
    exact ⟨w, g, .inl ⟨_, by simp [builtin, Builtin.min_, Builtin.min2] <;> rfl, .d (.int _ _)⟩, Ext.refl _ _, hS, fun k hk => .inl hk⟩
  · cases he
end

set_option maxHeartbeats 1000000 in
theorem builtin_sound {P : Program} {g : Gh} {w : World} {H : Nat → Option Blk} {nm : Nat} {v : V} {ef : Eff} {lk : Operand → V} {ev : Operand → Value} (hev : ∀ x, RV g w (lk x) (ev x)) {b : Builtin} {args : List Operand} {tys : List TypeId} {ty : TypeId} {cs : Array Bool} {blk : Option Blk}
    (hb1 : b = .append ∨ b = .delete → blk = blkOf H ((args.head?).bind fun x => refOf (lk x)))
    (h : builtinB P b (args.map lk) tys blk nm = some (v, ef)) (hS : RS g w H) (hn : ¬ g.U nm) :
    StepOK P g w H nm v ef ((builtin b tys.toArray ty cs (args.map ev).toArray).run P w) := by
  cases b with
  | len =>
    rcases args with _ | ⟨x, _ | ⟨y, args⟩⟩ <;> rcases tys with _ | ⟨t, _ | ⟨t', tys⟩⟩ <;> simp only [builtinB, List.map_nil, List.map_cons, reduceCtorEq] at h
    exact len_sound hev h hS
  | append =>
    have hb := hb1 (.inl rfl)
    rcases args with _ | ⟨x, _ | ⟨y, _ | ⟨z, args⟩⟩⟩ <;> rcases tys with _ | ⟨t, _ | ⟨t', _ | ⟨t'', tys⟩⟩⟩ <;> simp only [builtinB, List.map_nil, List.map_cons, reduceCtorEq] at h
    split at h
    case isFalse => cases h
    rename_i htt
    subst htt
    subst hb
    exact append_sound hev h hS hn
  | delete =>
    have hb := hb1 (.inr rfl)
    rcases args with _ | ⟨x, _ | ⟨y, _ | ⟨z, args⟩⟩⟩ <;> rcases tys with _ | ⟨t, _ | ⟨t', _ | ⟨t'', tys⟩⟩⟩ <;> simp only [builtinB, List.map_nil, List.map_cons, reduceCtorEq] at h
    split at h
    case h_2 => cases h
    rename_i kk kt' et nm' hmt hnm'
    split at h
    case isFalse => cases h
    rename_i hk
    subst hk
    obtain ⟨q, hq, h3⟩ := optMap_some h
    injection h3 with h3 h4
    subst h3 h4
    subst hb
    simp only [List.head?_cons, Option.bind_some, hnm', blkOf] at hq
    exact delete_sound hev hmt hnm' hq hS
  | max =>
    rcases args with _ | ⟨x, _ | ⟨y, _ | ⟨z, args⟩⟩⟩ <;> simp only [builtinB, List.map_nil, List.map_cons, reduceCtorEq] at h
    exact max_sound hev h hS
  | min =>
    rcases args with _ | ⟨x, _ | ⟨y, _ | ⟨z, args⟩⟩⟩ <;> simp only [builtinB, List.map_nil, List.map_cons, reduceCtorEq] at h
    exact min_sound hev h hS
  | _ => simp only [builtinB, reduceCtorEq] at h

set_option maxHeartbeats 1000000 in
theorem step_sound {P : Program} {g : Gh} {w : World} {H : Nat → Option Blk} {nm : Nat} {v : V} {ef : Eff} {lk : Operand → V} {ev : Operand → Value} (hev : ∀ x, RV g w (lk x) (ev x)) (o : Oper)
    (h : stepB P o.op lk (blkOf H (fpOf o.op lk)) nm = some (v, ef)) (hS : RS g w H) (hn : ¬ g.U nm) : StepOK P g w H nm v ef ((execOp ev o).run P w) := by
  obtain ⟨dst, op, type, pos, after, guard⟩ := o
  simp only at h
  have hblk : ∀ (x : V) (q : Nat) (k : Blk), refOf x = some q → blkOf H (refOf x) = some k → BlkOK g w q k := fun x q k hx hk => by
    rw [hx] at hk
    exact (hS.ok q k hk).2
  unfold stepB at h
  split at h
  · -- move
    rename_i x
    injection h with h
    injection h with h1 h2
    subst h1 h2
    exact ⟨w, g, .inl ⟨ev x, rfl, hev x⟩, Ext.refl _ _, hS, fun k hk => .inl hk⟩
  · rename_i x
    injection h with h
    injection h with h1 h2
    subst h1 h2
    exact ⟨w, g, .inl ⟨ev x, rfl, hev x⟩, Ext.refl _ _, hS, fun k hk => .inl hk⟩
  · -- pick
    rename_i c a b
    split at h
    case h_2 => cases h
    rename_i t hc
    injection h with h
    injection h with h1 h2
    subst h1 h2
    have hcv := hev c
    rw [hc] at hcv
    generalize hce : ev c = cv at hcv
    cases hcv with | d hcv =>
    cases hcv
    refine ⟨w, g, .inl ⟨if t then ev a else ev b, by simp [execOp, hce, asBool], ?_⟩, Ext.refl _ _, hS, fun k hk => .inl hk⟩
    cases t
    · exact hev b
    · exact hev a
  · -- nilCheck
    rename_i x
    have hx := hev x
    split at h
    case h_4 => cases h
    all_goals
      rename_i hc
      injection h with h
      injection h with h1 h2
      subst h1 h2
      rw [hc] at hx
      generalize hce : ev x = cv at hx
      have hx' := hx
      cases hx
      exact ⟨w, g, .inl ⟨_, by simp [execOp, hce] <;> rfl, hx'⟩, Ext.refl _ _, hS, fun k hk => .inl hk⟩
  · -- binOp
    rename_i op t x y yt
    split at h
    · rename_i v' hb
      injection h with h
      injection h with h1 h2
      subst h1 h2
      obtain ⟨r, e1, e2, e3, e4⟩ := evalBin_run (P := P) hb (hev x) (hev y) t
      have eg := eqGuard_run (P := P) (w := w) (op := op) (t := t) (x := x) (y := y) (b := ev y) e3 e4
      exact ⟨w, g, .inl ⟨r, by simp [execOp, eg, e1], e2⟩, Ext.refl _ _, hS, fun k hk => .inl hk⟩
    · obtain ⟨he, rfl⟩ := map_keep h
      obtain ⟨r, e1, e2⟩ := evalEqAgg_run (P := P) he (hev x) (hev y) x y
      exact StepOK.keep (s := do eqGuard op t x y (ev x) (ev y); Go.binOp op t (ev x) (ev y)) hS ⟨r, e1, e2⟩
  · -- unOp
    rename_i op t x
    obtain ⟨he, rfl⟩ := map_keep h
    exact StepOK.keep (s := Op.unary op (ev x)) hS (evalUn_run he (hev x))
  · rename_i s t x
    obtain ⟨he, rfl⟩ := map_keep h
    exact StepOK.keep (s := convert s t (ev x)) hS (evalConv_run he (hev x))
  · rename_i x i
    obtain ⟨he, rfl⟩ := map_keep h
    exact StepOK.keep (s := Instr.extract (ev x) i) hS (evalExtract_run he (hev x))
  · rename_i s x f
    obtain ⟨he, rfl⟩ := map_keep h
    exact StepOK.keep (s := Instr.fieldAt s (ev x) f) hS (evalFieldAddr_run he (hev x))
  · rename_i t x i
    obtain ⟨he, rfl⟩ := map_keep h
    exact StepOK.keep (s := Instr.indexAt t (ev x) (ev i)) hS (evalIndexAddr_run he (hev x) (hev i))
  · rename_i t x i
    obtain ⟨he, rfl⟩ := map_keep h
    exact StepOK.keep (s := Instr.index t (ev x) (ev i)) hS (evalIndex_run he (hev x) (hev i))
  · rename_i t x lo hi mx
    obtain ⟨he, rfl⟩ := map_keep h
    exact StepOK.keep (s := Instr.sliceAt t (ev x) (lo.map ev) (hi.map ev) (mx.map ev)) hS (evalSlice_run he (hev x) (.of_map hev lo) (.of_map hev hi) (.of_map hev mx))
  · rename_i t parts
    obtain ⟨he, rfl⟩ := map_keep h
    exact StepOK.keep (s := Instr.build t (parts.map fun (i, x) => (i, ev x))) hS (evalBuild_run hev he)
  · rename_i t len parts
    have := evalBuildSlice_run (P := P) (t := t) (len := len) (parts := parts) (nm := nm) (v := v) (ef := ef) hev h hS hn
    exact StepOK.val (P := P) this
  · -- makeFunc
    rename_i f first caps
    split at h
    case isFalse => cases h
    rename_i h0
    injection h with h
    injection h with h1 h2
    subst h1 h2
    have hfirst : first.map ev = #[] := by
      apply Array.eq_empty_of_size_eq_zero
      simpa using h0
    refine ⟨w, g, .inl ⟨.func (.func f) #[] (caps.map ev), by simp [execOp, Instr.makeFunc, hfirst], .fn f _ _ (by simp) fun j y hy => ?_⟩, Ext.refl _ _, hS, fun k hk => .inl hk⟩
    simp only [List.getElem?_map, Option.map_eq_some_iff] at hy
    obtain ⟨c, hc, rfl⟩ := hy
    have : (caps.map ev).getD j undef = ev c := by
      simp at hc
      simp [hc]
    rw [this]
    exact hev c
  · rename_i t a
    obtain ⟨he, rfl⟩ := map_keep h
    exact StepOK.keep (s := Instr.loadAt t (ev a)) hS (evalLoad_run he (hev a) (hblk (lk a)))
  · -- store
    rename_i t a x
    split at h
    case h_2 => cases h
    rename_i nm' hnm'
    obtain ⟨q, hq, h3⟩ := optMap_some h
    injection h3 with h3 h4
    subst h3 h4
    have hb : blkOf H (fpOf (.store t a x) lk) = H nm' := by simp [fpOf, blkOf, hnm']
    rw [hb] at hq
    obtain ⟨w', e1, e2, e3⟩ := evalStore_run (P := P) hq hS hnm' (hev a) (hev x)
    exact ⟨w', g, .inr ⟨by simp [execOp, e1], rfl⟩, e2, e3, fun k hk => .inl hk⟩
  · -- alloc
    rename_i t
    obtain ⟨ti, hti, h3⟩ := optMap_some h
    injection h3 with h3 h4
    subst h3 h4
    obtain ⟨v', w', g', e1, e2, e3, e4, e5⟩ := evalAlloc_run hti hS hn
    exact StepOK.val (s := Instr.alloc t true (.tuple #[])) ⟨v', w', g', e1, e2, e3, e4, e5⟩
  · -- box
    rename_i t x
    split at h
    case isFalse => cases h
    rename_i hf
    injection h with h
    injection h with h1 h2
    subst h1 h2
    obtain ⟨v', w', g', e1, e2, e3, e4, e5⟩ := evalBox_run (P := P) (t := t) hf hS hn (hev x)
    exact StepOK.val (s := Instr.box t (ev x)) ⟨v', w', g', e1, e2, e3, e4, e5⟩
  · -- lookup
    rename_i t m k ok
    obtain ⟨he, rfl⟩ := map_keep h
    exact StepOK.keep (s := Instr.lookup t (ev m) (ev k) ok) hS (evalLookup_run he (hev m) (hev k) (hblk (lk m)))
  · -- mapUpdate
    rename_i t m k x
    split at h
    case h_2 => cases h
    rename_i nm' hnm'
    obtain ⟨q, hq, h3⟩ := optMap_some h
    injection h3 with h3 h4
    subst h3 h4
    have hb : blkOf H (fpOf (.mapUpdate t m k x) lk) = H nm' := by simp [fpOf, blkOf, hnm']
    rw [hb] at hq
    obtain ⟨w', e1, _, e2, e3⟩ := evalUpdate_run (P := P) hq hS hnm' (hev m) (hev k) (.some (hev x))
    exact ⟨w', g, .inr ⟨by simp [execOp, e1 _ rfl], rfl⟩, e2, e3, fun k hk => .inl hk⟩
  · -- makeMap
    rename_i t
    obtain ⟨⟨kk, kt, et⟩, hq, h3⟩ := optMap_some h
    injection h3 with h3 h4
    subst h3 h4
    obtain ⟨v', w', g', e1, e2, e3, e4, e5⟩ := evalMakeMap_run (P := P) hq hS hn
    exact StepOK.val (s := Instr.makeMap t none) ⟨v', w', g', e1, e2, e3, e4, e5⟩
  · rename_i t l c
    exact StepOK.val (s := Instr.makeSlice t (ev l) (ev c)) (evalMakeSlice_run h hS hn (hev l) (hev c))
  · -- builtins
    rename_i c
    split at h
    case h_2 => cases h
    rename_i b hb
    obtain ⟨callee, args, tys⟩ := c
    simp only at hb
    subst hb
    obtain ⟨args⟩ := args
    obtain ⟨tys⟩ := tys
    obtain ⟨cs, hr⟩ := resolve_builtin (P := P) (w := w) ev b ⟨args⟩ ⟨tys⟩ type
    have := builtin_sound (P := P) (ty := type) (cs := cs) (args := args) (tys := tys) hev (fun hb => by rcases hb with rfl | rfl <;> rfl) h hS hn
    simp only [execOp]
    rw [hr]
    simpa using this
  · cases h
end Go.Proofs.Ytjjmedgibcffhaa.M
