/- New blocks and append. -/
import Derived.Test.YtafeehlpmdligaaM4
namespace Go.Proofs.Ytafeehlpmdligaa.M
open Go.RowKit
set_option linter.unusedVariables false
set_option linter.unusedSimpArgs false

/-- What an operation does to the named blocks. -/
inductive Eff where
  | keep
  | put (nm : Nat) (k : Blk)
  | move (old : Option Nat) (nm : Nat) (k : Blk)
  | drop (nm : Nat)
def Eff.on (e : Eff) (H : Nat → Option Blk) : Nat → Option Blk :=
  match e with
  | .keep => H
  | .put nm k => hset H nm (some k)
  | .move none nm k => hset H nm (some k)
  | .move (some o) nm k => hset (hset H o none) nm (some k)
  | .drop nm => hset H nm none

theorem box_ok {g : Gh} {w : World} {H : Nat → Option Blk} {cs : List V} {vs : Array Value} (t : TypeId) (h : RA g w cs vs) {nm : Nat} (hn : ¬ g.U nm) (hS : RS g w H) :
    Ext g w (g.new nm ⟨some w.heap.size, 0, 0, 0⟩) (w.alloc (.cells vs t)) ∧ RS (g.new nm ⟨some w.heap.size, 0, 0, 0⟩) (w.alloc (.cells vs t)) (hset H nm (some (.box cs))) := by
  have hh : ∀ b, b < w.heap.size → (w.alloc (.cells vs t)).heap[b]? = w.heap[b]? := fun b hb => heap_alloc_old w _ hb
  have e : Ext g w (g.new nm ⟨some w.heap.size, 0, 0, 0⟩) (w.alloc (.cells vs t)) := ext_new _ hn hS.ltF hh rfl rfl rfl (by simp)
  exact hS.new hn hh rfl rfl rfl (by simp) rfl ⟨_, vs, t, by rw [g.new_at], heap_alloc_new _ _, h.1, fun j y hy => (h.2 j y hy).mono e⟩

theorem run_box' {P : Program} (w : World) (t : TypeId) (v : Value) : (Instr.box t v).run P w = .ok (.pointer (some ⟨w.heap.size, 0, none⟩)) (w.alloc (.cells v.cells t)) := by
  simp [Instr.box, newVar, newRow]

theorem evalBox_run {P : Program} {g : Gh} {w : World} {H : Nat → Option Blk} {t : TypeId} {x : V} {a : Value} {nm : Nat} (hf : x.firm = true) (hS : RS g w H) (hn : ¬ g.U nm) (hx : RV g w x a) :
    ∃ v' w' g', (Instr.box t a).run P w = .ok v' w' ∧ Ext g w g' w' ∧ RS g' w' (hset H nm (some (.box x.cells))) ∧ RV g' w' (.ptr nm 0) v' ∧ (∀ k, g'.U k → g.U k ∨ k = nm) := by
  obtain ⟨e, hS'⟩ := box_ok t (rv_cells hx hf) hn hS
  exact ⟨_, _, _, run_box' w t a, e, hS', .ptr nm 0 _ (.inr rfl) (by rw [g.new_at]), fun k hk => hk⟩

def zeroCs (ti : TI) : List V := ti.zero.cells.toList.map ofScalar
theorem zeroCs_ra (g : Gh) (w : World) (ti : TI) : RA g w (zeroCs ti) ti.zero.cells := by
  refine ⟨by simp [zeroCs], fun j y hy => ?_⟩
  simp only [zeroCs, List.getElem?_map, Option.map_eq_some_iff] at hy
  obtain ⟨c, hc, rfl⟩ := hy
  have : ti.zero.cells.getD j undef = c := by
    simp at hc
    simp [hc]
  rw [this]
  exact ofScalar_rv g w c

theorem evalAlloc_run {P : Program} {g : Gh} {w : World} {H : Nat → Option Blk} {t : TypeId} {ti : TI} {nm : Nat} (hti : tinf P t = some ti) (hS : RS g w H) (hn : ¬ g.U nm) :
    ∃ v' w' g', (Instr.alloc t true (.tuple #[])).run P w = .ok v' w' ∧ Ext g w g' w' ∧ RS g' w' (hset H nm (some (.box (zeroCs ti)))) ∧ RV g' w' (.ptr nm 0) v' ∧ (∀ k, g'.U k → g.U k ∨ k = nm) := by
  obtain ⟨e, hS'⟩ := box_ok t (zeroCs_ra g w ti) hn hS
  have hz := run_zeroValue' hti w
  exact ⟨_, _, _, by simp [Instr.alloc, hz, newVar, newRow] <;> rfl, e, hS', .ptr nm 0 _ (.inr rfl) (by rw [g.new_at]), fun k hk => hk⟩

/-- Lists in the order of their places. -/
def enumFrom {α : Type} : Nat → List α → List (Nat × α)
  | _, [] => []
  | k, x :: xs => (k, x) :: enumFrom (k + 1) xs
def isEnum : Nat → List Nat → Bool
  | _, [] => true
  | k, i :: is => i == k && isEnum (k + 1) is

theorem fill_enum {g : Gh} {w : World} {lk : Operand → V} {ev : Operand → Value} (hev : ∀ x, RV g w (lk x) (ev x)) (sz len : Nat) : ∀ (ps : List (Nat × Operand)) (k : Nat) (vs : Array Value),
    isEnum k (ps.map (·.1)) = true → (∀ p ∈ ps, (lk p.2).firm = true ∧ (lk p.2).cells.length = sz) → vs.size = len * sz → k + ps.length ≤ len →
    ∃ vs', Instr.fill (fun i => some (i * sz, sz)) vs (ps.map fun p => (p.1, ev p.2)) = some vs' ∧ vs'.size = vs.size ∧ (∀ m, m < k * sz → vs'.getD m undef = vs.getD m undef) ∧
      ∀ (i j : Nat) (y : V), ((ps[i]?).bind fun p => (lk p.2).cells[j]?) = some y → RV g w y (vs'.getD ((k + i) * sz + j) undef)
  | [], k, vs, _, _, _, _ => ⟨vs, rfl, rfl, fun _ _ => rfl, by simp⟩
  | (i, x) :: ps, k, vs, he, hp, hs, hl => by
    simp only [List.map_cons, isEnum, Bool.and_eq_true, beq_iff_eq] at he
    obtain ⟨rfl, he⟩ := he
    obtain ⟨hf, hc⟩ := hp (i, x) (by simp)
    simp only at hf hc
    obtain ⟨h1, h2⟩ := rv_cells (hev x) hf
    have hmul : (i + 1) * sz ≤ len * sz := Nat.mul_le_mul_right _ (by simp at hl; omega)
    rw [Nat.add_mul] at hmul
    have hsz1 : ((ev x).cells.zipIdx.foldl (fun cs (p : Value × Nat) => cs.setIfInBounds (i * sz + p.2) p.1) vs).size = vs.size := by
      rw [← Array.foldl_toList, fold_size]
    obtain ⟨vs', h3, h4, h5, h6⟩ := fill_enum hev sz len ps (i + 1) _ he (fun p hp' => hp p (by simp [hp'])) (hsz1.trans hs) (by simp at hl; omega)
    refine ⟨vs', ?_, h4.trans hsz1, fun m hm => ?_, fun i' j y hy => ?_⟩
    · simp only [List.map_cons, Instr.fill]
      rw [if_neg]
      · exact h3
      · rw [h1, hc, hs]
        simp
        omega
    · rw [h5 m (by rw [Nat.add_mul]; omega), ← Array.foldl_toList, Array.toList_zipIdx, fold_get, if_neg (by omega)]
    · cases i' with
      | zero =>
        simp at hy
        have hj : j < sz := by rw [← hc]; exact (List.getElem?_eq_some_iff.1 hy).1
        have hsl : (ev x).cells.toList.length = sz := by simp; omega
        rw [show i + 0 = i from rfl]
        rw [h5 _ (by rw [Nat.add_mul]; simp; omega), ← Array.foldl_toList, Array.toList_zipIdx, fold_get, if_pos ⟨by simp, by rw [hsl]; omega, by rw [hs]; omega⟩]
        have := h2 j y hy
        have e : i * sz + j - (i * sz + 0) = j := by omega
        rw [e]
        simpa [List.getD, Array.getD_eq_getD_getElem?] using this
      | succ i' =>
        have := h6 i' j y (by simpa using hy)
        have e : i + (i' + 1) = i + 1 + i' := by omega
        rw [e]
        exact this

/-- A literal slice: pure, if its elements are. -/
def evalBuildSlice (P : Program) (t : TypeId) (len : Nat) (parts : List (Nat × V)) (nm : Nat) : Option (V × Eff) :=
  match selem P t with
  | some e => match tinf P e with
    | some ti =>
      if len = parts.length ∧ isEnum 0 (parts.map (·.1)) = true ∧ len * ti.size ≤ 16777216 ∧ parts.all (fun p => p.2.firm && p.2.cells.length == ti.size) = true then
        match parts with
        | [] => some (.e0, .keep)
        | _ => match allD (parts.map (·.2)) with
          | some ds => if ds.all (okEl ti.size) then some (.d (.sl ds), .keep) else none
          | none => some (.ms nm ti.size 0 len, .put nm (.row ti.size (parts.map (·.2))))
      else none
    | none => none
  | none => none

theorem evalBuildSlice_run {P : Program} {g : Gh} {w : World} {H : Nat → Option Blk} {t : TypeId} {len : Nat} {parts : Array (Nat × Operand)} {nm : Nat} {v : V} {ef : Eff} {lk : Operand → V} {ev : Operand → Value} (hev : ∀ x, RV g w (lk x) (ev x))
    (h : evalBuildSlice P t len (parts.toList.map fun p => (p.1, lk p.2)) nm = some (v, ef)) (hS : RS g w H) (hn : ¬ g.U nm) :
    ∃ v' w' g', (Instr.buildSlice t len (parts.map fun (i, x) => (i, ev x))).run P w = .ok v' w' ∧ Ext g w g' w' ∧ RS g' w' (ef.on H) ∧ RV g' w' v v' ∧ (∀ k, g'.U k → g.U k ∨ k = nm) := by
  unfold evalBuildSlice at h
  split at h
  case h_2 => cases h
  rename_i e he
  split at h
  case h_2 => cases h
  rename_i ti hti
  split at h
  case isFalse => cases h
  rename_i hc
  obtain ⟨hc1, hc2, hc3, hc4⟩ := hc
  have hu := selem_spec he
  have hsz := run_sizeOf' hti w
  have hz := run_zeroValue' hti w
  obtain ⟨_, _, _, _, _, hzs, _⟩ := tinf_spec hti
  have hmapfst : (parts.toList.map fun p => (p.1, lk p.2)).map (·.1) = parts.toList.map (·.1) := by simp [List.map_map, Function.comp_def]
  rw [hmapfst] at hc2
  have hlen : len = parts.size := by simpa using hc1
  have hall : ∀ p ∈ parts.toList, (lk p.2).firm = true ∧ (lk p.2).cells.length = ti.size := by
    intro p hp
    have := List.all_eq_true.1 hc4 (p.1, lk p.2) (List.mem_map.2 ⟨p, hp, rfl⟩)
    simpa using this
  obtain ⟨z0, hz0, hzz⟩ : ∃ z0 : Array Value, z0.size = len * ti.size ∧ ∀ (ps : Array (Nat × Value)) (vs' : Array Value), Instr.fill (fun i => some (i * ti.size, ti.size)) z0 ps.toList = some vs' → (Instr.buildSlice t len ps).run P w = .ok (.slice (some ⟨w.heap.size, 0, none⟩) len len) (w.alloc (.cells vs' e)) := by
    have h24 : ¬ (len * ti.size > 2 ^ 24) := by omega
    by_cases h0 : len * ti.size = 0
    · refine ⟨(Array.range (len * ti.size)).map ((#[] : Array Value)[· % (#[] : Array Value).size]!), by simp, fun ps vs' hf => ?_⟩
      simp only [Instr.buildSlice, Sem.run_bind, run_underlying hu, hsz, Result.andThen_ok, if_neg h24, if_pos h0, Sem.run_pure, hf]
      simp [newRow]
    · refine ⟨(Array.range (len * ti.size)).map (ti.zero.cells[· % ti.zero.cells.size]!), by simp, fun ps vs' hf => ?_⟩
      simp only [Instr.buildSlice, Sem.run_bind, run_underlying hu, hsz, Result.andThen_ok, if_neg h24, if_neg h0, hz, Sem.run_pure, hf]
      simp [newRow]
  obtain ⟨vs', h3, h4, _, h6⟩ := fill_enum hev ti.size len parts.toList 0 z0 hc2 hall hz0 (by simp; omega)
  have hrun : (Instr.buildSlice t len (parts.map fun (i, x) => (i, ev x))).run P w = .ok (.slice (some ⟨w.heap.size, 0, none⟩) len len) (w.alloc (.cells vs' e)) := by
    refine hzz _ vs' ?_
    rw [Array.toList_map]
    exact h3
  have hh : ∀ b, b < w.heap.size → (w.alloc (.cells vs' e)).heap[b]? = w.heap[b]? := fun b hb => heap_alloc_old w _ hb
  split at h
  · rename_i hnil
    injection h with h
    injection h with h1 h2
    subst h1 h2
    have : parts.toList = [] := by simpa using hnil
    have hl0 : len = 0 := by rw [hlen]; simpa using congrArg List.length this
    obtain ⟨hE, hS'⟩ := hS.newF (w' := w.alloc (.cells vs' e)) hh rfl rfl rfl (by simp)
    exact ⟨_, _, _, hrun, hE, hS', by rw [hl0]; exact .e0 _, fun k hk => .inl hk⟩
  · split at h
    · rename_i ds hds
      split at h
      case isFalse => cases h
      rename_i hok
      injection h with h
      injection h with h1 h2
      subst h1 h2
      have hds' := allD_some hds
      rw [List.map_map] at hds'
      obtain ⟨hE, hS'⟩ := hS.newF (w' := w.alloc (.cells vs' e)) hh rfl rfl rfl (by simp)
      have hdl : ds.length = len := by
        have := congrArg List.length hds'
        simp at this
        omega
      refine ⟨_, _, _, hrun, hE, hS', ?_, fun k hk => .inl hk⟩
      rw [← hdl]
      have hel : ∀ (i : Nat) (x : D), ds[i]? = some x → ∃ p, parts.toList[i]? = some p ∧ lk p.2 = .d x := by
        intro i x hx
        have : (parts.toList.map ((fun x => x.2) ∘ fun p => (p.1, lk p.2)))[i]? = some (.d x) := by rw [hds']; simp [hx]
        simp only [List.getElem?_map, Option.map_eq_some_iff] at this
        obtain ⟨p, hp, hpx⟩ := this
        exact ⟨p, hp, hpx⟩
      have hokl : ∀ x ∈ ds, x.cells.length = ti.size ∧ x.cells.all D.one = true := by
        intro x hx
        have := List.all_eq_true.1 hok x hx
        simpa [okEl] using this
      have hcells : ∀ (x : D) (j : Nat) (y : D), x.cells[j]? = some y → (V.d x).cells[j]? = some (.d y) := by
        intro x j y hy
        cases x <;> simp [V.cells, D.cells] at hy ⊢ <;> first | exact hy | (cases j <;> simp at hy ⊢; exact hy.symm ▸ rfl)
      have hread : ∀ (i j : Nat) (x y : D), ds[i]? = some x → x.cells[j]? = some y → RV g w (.d y) (vs'.getD (0 + i * ti.size + j) undef) := by
        intro i j x y hx hy
        obtain ⟨p, hp, hpx⟩ := hel i x hx
        have := h6 i j (.d y) (by rw [hp]; simp only [Option.bind_some]; rw [hpx]; exact hcells x j y hy)
        simpa using this
      refine .d (.sl ds w.heap.size 0 ds.length ti.size (fun i j => vs'.getD (0 + i * ti.size + j) undef) (.inr rfl) (Nat.le_refl _) (fun i x hx => (hokl x (List.mem_of_getElem? hx)).1) (fun i j x y hx hy => ?_) (fun i j x y hx hy => ?_))
      · have hi : i < len := by rw [← hdl]; exact (List.getElem?_eq_some_iff.1 hx).1
        have hj : j < ti.size := by rw [← (hokl x (List.mem_of_getElem? hx)).1]; exact (List.getElem?_eq_some_iff.1 hy).1
        have hmul : (i + 1) * ti.size ≤ len * ti.size := Nat.mul_le_mul_right _ hi
        rw [Nat.add_mul] at hmul
        have hlt : 0 + i * ti.size + j < vs'.size := by rw [h4, hz0]; omega
        unfold World.cell?
        rw [heap_alloc_new]
        simp at hlt
        simp [hlt]
      · have := hread i j x y hx hy
        cases this with | d h => exact h.mono hE.fz hE.keep
    · injection h with h
      injection h with h1 h2
      subst h1 h2
      have hE : Ext g w (g.new nm ⟨some w.heap.size, 0, ti.size, len⟩) (w.alloc (.cells vs' e)) := ext_new _ hn hS.ltF hh rfl rfl rfl (by simp)
      obtain ⟨hE, hS'⟩ := hS.new (k := .row ti.size (((parts.toList.map fun p => (p.1, lk p.2))).map (·.2))) hn hh rfl rfl rfl (by simp) rfl (r := ⟨some w.heap.size, 0, ti.size, len⟩) (by
        refine ⟨by rw [g.new_at], by rw [g.new_at]; simp; omega, fun i x hx => ?_, .inr ⟨w.heap.size, vs', e, by rw [g.new_at], heap_alloc_new _ _, by rw [g.new_at]; simp; omega, fun i j x y hx hy => ?_⟩⟩
        · simp only [List.map_map, List.getElem?_map, Option.map_eq_some_iff] at hx
          obtain ⟨p, hp, rfl⟩ := hx
          exact (hall p (List.mem_of_getElem? hp)).2
        · simp only [List.map_map, List.getElem?_map, Option.map_eq_some_iff] at hx
          obtain ⟨p, hp, rfl⟩ := hx
          rw [g.new_at]
          have := (h6 i j y (by rw [hp]; exact hy)).mono hE
          simpa using this)
      refine ⟨_, _, _, hrun, hE, hS', .ms nm ti.size 0 len w.heap.size 0 len (.inr rfl) (by rw [g.new_at]) (by rw [g.new_at]) (by rw [g.new_at]; simp) (Nat.le_refl _) (by rw [g.new_at]; simp), fun k hk => hk⟩
/-- The same, as a row of one's own. -/
def evalBuildOwn (P : Program) (t : TypeId) (len : Nat) (parts : List (Nat × V)) (nm : Nat) : Option (V × Eff) :=
  match selem P t with
  | some e => match tinf P e with
    | some ti =>
      if len = parts.length ∧ isEnum 0 (parts.map (·.1)) = true ∧ len * ti.size ≤ 16777216 ∧ parts.all (fun p => p.2.firm && p.2.cells.length == ti.size) = true then
        some (.ms nm ti.size 0 len, .put nm (.row ti.size (parts.map (·.2))))
      else none
    | none => none
  | none => none
theorem evalBuildOwn_run {P : Program} {g : Gh} {w : World} {H : Nat → Option Blk} {t : TypeId} {len : Nat} {parts : Array (Nat × Operand)} {nm : Nat} {v : V} {ef : Eff} {lk : Operand → V} {ev : Operand → Value} (hev : ∀ x, RV g w (lk x) (ev x))
    (h : evalBuildOwn P t len (parts.toList.map fun p => (p.1, lk p.2)) nm = some (v, ef)) (hS : RS g w H) (hn : ¬ g.U nm) :
    ∃ v' w' g', (Instr.buildSlice t len (parts.map fun (i, x) => (i, ev x))).run P w = .ok v' w' ∧ Ext g w g' w' ∧ RS g' w' (ef.on H) ∧ RV g' w' v v' ∧ (∀ k, g'.U k → g.U k ∨ k = nm) := by
  unfold evalBuildOwn at h
  split at h
  case h_2 => cases h
  rename_i e he
  split at h
  case h_2 => cases h
  rename_i ti hti
  split at h
  case isFalse => cases h
  rename_i hc
  obtain ⟨hc1, hc2, hc3, hc4⟩ := hc
  have hu := selem_spec he
  have hsz := run_sizeOf' hti w
  have hz := run_zeroValue' hti w
  obtain ⟨_, _, _, _, _, hzs, _⟩ := tinf_spec hti
  have hmapfst : (parts.toList.map fun p => (p.1, lk p.2)).map (·.1) = parts.toList.map (·.1) := by simp [List.map_map, Function.comp_def]
  rw [hmapfst] at hc2
  have hlen : len = parts.size := by simpa using hc1
  have hall : ∀ p ∈ parts.toList, (lk p.2).firm = true ∧ (lk p.2).cells.length = ti.size := by
    intro p hp
    have := List.all_eq_true.1 hc4 (p.1, lk p.2) (List.mem_map.2 ⟨p, hp, rfl⟩)
    simpa using this
  obtain ⟨z0, hz0, hzz⟩ : ∃ z0 : Array Value, z0.size = len * ti.size ∧ ∀ (ps : Array (Nat × Value)) (vs' : Array Value), Instr.fill (fun i => some (i * ti.size, ti.size)) z0 ps.toList = some vs' → (Instr.buildSlice t len ps).run P w = .ok (.slice (some ⟨w.heap.size, 0, none⟩) len len) (w.alloc (.cells vs' e)) := by
    have h24 : ¬ (len * ti.size > 2 ^ 24) := by omega
    by_cases h0 : len * ti.size = 0
    · refine ⟨(Array.range (len * ti.size)).map ((#[] : Array Value)[· % (#[] : Array Value).size]!), by simp, fun ps vs' hf => ?_⟩
      simp only [Instr.buildSlice, Sem.run_bind, run_underlying hu, hsz, Result.andThen_ok, if_neg h24, if_pos h0, Sem.run_pure, hf]
      simp [newRow]
    · refine ⟨(Array.range (len * ti.size)).map (ti.zero.cells[· % ti.zero.cells.size]!), by simp, fun ps vs' hf => ?_⟩
      simp only [Instr.buildSlice, Sem.run_bind, run_underlying hu, hsz, Result.andThen_ok, if_neg h24, if_neg h0, hz, Sem.run_pure, hf]
      simp [newRow]
  obtain ⟨vs', h3, h4, _, h6⟩ := fill_enum hev ti.size len parts.toList 0 z0 hc2 hall hz0 (by simp; omega)
  have hrun : (Instr.buildSlice t len (parts.map fun (i, x) => (i, ev x))).run P w = .ok (.slice (some ⟨w.heap.size, 0, none⟩) len len) (w.alloc (.cells vs' e)) := by
    refine hzz _ vs' ?_
    rw [Array.toList_map]
    exact h3
  have hh : ∀ b, b < w.heap.size → (w.alloc (.cells vs' e)).heap[b]? = w.heap[b]? := fun b hb => heap_alloc_old w _ hb
  injection h with h
  injection h with h1 h2
  subst h1 h2
  have hE : Ext g w (g.new nm ⟨some w.heap.size, 0, ti.size, len⟩) (w.alloc (.cells vs' e)) := ext_new _ hn hS.ltF hh rfl rfl rfl (by simp)
  obtain ⟨hE, hS'⟩ := hS.new (k := .row ti.size (((parts.toList.map fun p => (p.1, lk p.2))).map (·.2))) hn hh rfl rfl rfl (by simp) rfl (r := ⟨some w.heap.size, 0, ti.size, len⟩) (by
    refine ⟨by rw [g.new_at], by rw [g.new_at]; simp; omega, fun i x hx => ?_, .inr ⟨w.heap.size, vs', e, by rw [g.new_at], heap_alloc_new _ _, by rw [g.new_at]; simp; omega, fun i j x y hx hy => ?_⟩⟩
    · simp only [List.map_map, List.getElem?_map, Option.map_eq_some_iff] at hx
      obtain ⟨p, hp, rfl⟩ := hx
      exact (hall p (List.mem_of_getElem? hp)).2
    · simp only [List.map_map, List.getElem?_map, Option.map_eq_some_iff] at hx
      obtain ⟨p, hp, rfl⟩ := hx
      rw [g.new_at]
      have := (h6 i j y (by rw [hp]; exact hy)).mono hE
      simpa using this)
  refine ⟨_, _, _, hrun, hE, hS', .ms nm ti.size 0 len w.heap.size 0 len (.inr rfl) (by rw [g.new_at]) (by rw [g.new_at]) (by rw [g.new_at]; simp) (Nat.le_refl _) (by rw [g.new_at]; simp), fun k hk => hk⟩
end Go.Proofs.Ytafeehlpmdligaa.M
