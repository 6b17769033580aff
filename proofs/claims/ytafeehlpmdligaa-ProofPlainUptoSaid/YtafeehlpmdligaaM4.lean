/- Operations on memory: loads, stores, new blocks. -/
import Derived.Test.YtafeehlpmdligaaM3
namespace Go.Proofs.Ytafeehlpmdligaa.M
open Go.RowKit
set_option linter.unusedVariables false
set_option linter.unusedSimpArgs false

theorem rv_one {g : Gh} {w : World} {x : V} {v : Value} (h : RV g w x v) (h1 : x.one = true) : v.oneCell' = true := by
  cases h with
  | d hd => cases hd <;> first | rfl | (simp [V.one] at h1)
  | undef => cases h1
  | tup => cases h1
  | agg => cases h1
  | _ => rfl
theorem ra_one {g : Gh} {w : World} {cs : List V} {vs : Array Value} (h : RA g w cs vs) (h1 : cs.all V.one = true) : ∀ v ∈ vs.toList, v.oneCell' = true := by
  intro v hv
  obtain ⟨i, hi, rfl⟩ := List.getElem_of_mem hv
  have hi' : i < cs.length := by rw [← h.1]; simpa using hi
  have := h.2 i cs[i] (by simp [hi'])
  have hh := rv_one this (List.all_eq_true.1 h1 _ (List.getElem_mem _))
  simp at hi
  simpa [hi] using hh

/-- A new block. -/
def Gh.new (g : Gh) (nm : Nat) (r : Rf) : Gh := { ρ := fun n => if n = nm then r else g.ρ n, U := fun n => g.U n ∨ n = nm, F := g.F }
theorem Gh.new_at (g : Gh) (nm : Nat) (r : Rf) : (g.new nm r).ρ nm = r := by simp [Gh.new]
theorem Gh.new_ne (g : Gh) {nm n : Nat} (r : Rf) (h : n ≠ nm) : (g.new nm r).ρ n = g.ρ n := by simp [Gh.new, h]
theorem ext_new {g : Gh} {w w' : World} {nm : Nat} (r : Rf) (hn : ¬ g.U nm) (hlt : ∀ b, g.F b → b < w.heap.size) (hh : ∀ b, b < w.heap.size → w'.heap[b]? = w.heap[b]?) (ho : w'.os = w.os) (ht : w'.tape = w.tape) (hp : w'.output = w.output) (hs : w.heap.size ≤ w'.heap.size) : Ext g w (g.new nm r) w' :=
  ⟨fun n h => .inl h, fun n h => g.new_ne r (fun e => hn (e ▸ h)), fun b h => h, fun b h => hh b (hlt b h), ho, ht, hp, hs⟩
theorem RS.new {g : Gh} {w w' : World} {H : Nat → Option Blk} {nm : Nat} {r : Rf} {k : Blk} (h : RS g w H) (hn : ¬ g.U nm) (hh : ∀ b, b < w.heap.size → w'.heap[b]? = w.heap[b]?) (ho : w'.os = w.os) (ht : w'.tape = w.tape) (hp : w'.output = w.output) (hs : w.heap.size < w'.heap.size)
    (hr : r.blk = some w.heap.size) (hk : BlkOK (g.new nm r) w' nm k) : Ext g w (g.new nm r) w' ∧ RS (g.new nm r) w' (hset H nm (some k)) := by
  have e : Ext g w (g.new nm r) w' := ext_new r hn h.ltF hh ho ht hp (by omega)
  refine ⟨e, h.put e (fun n b _ hs hb => hh b (h.notF n b hs hb).2) (.inr rfl) hk ?_ ?_⟩
  · intro b hb
    rw [g.new_at, hr] at hb
    injection hb with hb
    subst hb
    exact ⟨fun hf => by have := h.ltF _ hf; omega, hs, fun n _ hsn hb => by have := (h.notF n _ hsn hb).2; omega⟩
  · intro b hb
    exact ⟨by have := h.ltF b hb; omega, fun n _ hsn hbn => (h.notF n b hsn hbn).1 hb⟩
/-- A new block of pure data. -/
def Gh.frz (g : Gh) (b : Nat) : Gh := { g with F := fun i => g.F i ∨ i = b }
theorem RS.newF {g : Gh} {w w' : World} {H : Nat → Option Blk} (h : RS g w H) (hh : ∀ b, b < w.heap.size → w'.heap[b]? = w.heap[b]?) (ho : w'.os = w.os) (ht : w'.tape = w.tape) (hp : w'.output = w.output) (hs : w.heap.size < w'.heap.size) :
    Ext g w (g.frz w.heap.size) w' ∧ RS (g.frz w.heap.size) w' H := by
  have e : Ext g w (g.frz w.heap.size) w' := ⟨fun _ h => h, fun _ _ => rfl, fun _ h => .inl h, fun b hb => hh b (h.ltF b hb), ho, ht, hp, by omega⟩
  refine ⟨e, h.ext e (fun n b hsn hb => hh b (h.notF n b hsn hb).2) ?_⟩
  rintro b (hb | rfl)
  · exact ⟨by have := h.ltF b hb; omega, fun n hsn hbn => (h.notF n b hsn hbn).1 hb⟩
  · exact ⟨hs, fun n hsn hbn => by have := (h.notF n _ hsn hbn).2; omega⟩
/-- A block that is there is written. -/
theorem RS.write {g : Gh} {w w' : World} {H : Nat → Option Blk} {nm b : Nat} {k k' : Blk} (h : RS g w H) (hH : H nm = some k) (hb : (g.ρ nm).blk = some b) (hh : ∀ i, i ≠ b → w'.heap[i]? = w.heap[i]?) (ho : w'.os = w.os) (ht : w'.tape = w.tape) (hp : w'.output = w.output) (hs : w'.heap.size = w.heap.size)
    (hk : Ext g w g w' → BlkOK g w' nm k') : Ext g w g w' ∧ RS g w' (hset H nm (some k')) := by
  have hsome : (H nm).isSome := by simp [hH]
  have hnF := h.notF nm b hsome hb
  have e : Ext g w g w' := ⟨fun _ h => h, fun _ _ => rfl, fun _ h => h, fun i hi => hh i (fun e => hnF.1 (e ▸ hi)), ho, ht, hp, by omega⟩
  refine ⟨e, h.put e (fun n i hn hsn hi => hh i (fun e => hn (h.inj n nm b hsn hsome (e ▸ hi) hb))) (h.ok nm k hH).1 (hk e) ?_ ?_⟩
  · intro i hi
    rw [hb] at hi
    injection hi with hi
    subst hi
    exact ⟨hnF.1, by rw [hs]; exact hnF.2, fun n hn hsn hbn => hn (h.inj n nm b hsn hsome hbn hb)⟩
  · intro i hi
    exact ⟨by rw [hs]; exact h.ltF i hi, fun n hn hsn hbn => (h.notF n i hsn hbn).1 hi⟩

/-- What a pointer points at: the cells from there on. -/
def refOf : V → Option Nat
  | .ptr nm _ | .eptr nm _ _ | .ms nm _ _ _ | .map nm => some nm
  | _ => none
def cellsAt (p : V) (blk : Option Blk) : Option (List V) :=
  match p, blk with
  | .rptr cs, _ => some (cs.map V.d)
  | .ptr _ o, some (.box cs) => some (cs.drop o)
  | .eptr _ i o, some (.row _ xs) => (xs[i]?).map fun x => x.cells.drop o
  | _, _ => none

theorem cellsAt_ok {g : Gh} {w : World} {p : V} {a : Value} {blk : Option Blk} {cs : List V} (h : cellsAt p blk = some cs) (hp : RV g w p a) (hb : ∀ nm k, refOf p = some nm → blk = some k → BlkOK g w nm k) :
    ∃ (b o : Nat) (u : Nat → Value), a = .pointer (some ⟨b, o, none⟩) ∧ ∀ (j : Nat) (y : V), cs[j]? = some y → w.cell? ⟨b, o + j, none⟩ = some (u j) ∧ RV g w y (u j) := by
  unfold cellsAt at h
  split at h
  · rename_i ds _
    injection h with h
    subst h
    cases hp with
    | rptr _ b o u hF h2 h3 =>
      refine ⟨b, o, u, rfl, fun j y hy => ?_⟩
      simp only [List.getElem?_map, Option.map_eq_some_iff] at hy
      obtain ⟨z, hz, rfl⟩ := hy
      exact ⟨h2 j z hz, .d (h3 j z hz)⟩
  · rename_i nm o cs'
    injection h with h
    subst h
    cases hp with
    | ptr _ _ b hU hblk =>
      obtain ⟨b', vs, t, h1, h2, h3, h4⟩ := hb nm _ rfl rfl
      rw [hblk] at h1
      injection h1 with h1
      subst h1
      refine ⟨b, o, fun j => vs.getD (o + j) undef, rfl, fun j y hy => ?_⟩
      rw [List.getElem?_drop] at hy
      have hlt : o + j < vs.size := by rw [h3]; exact (List.getElem?_eq_some_iff.1 hy).1
      exact ⟨by simp [World.cell?, h2, hlt], h4 _ y hy⟩
  · rename_i nm i o sz xs
    simp only [Option.map_eq_some_iff] at h
    obtain ⟨x, hx, rfl⟩ := h
    cases hp with
    | eptr _ _ _ b p hU hblk hp =>
      obtain ⟨h1, h2, h3, h4⟩ := hb nm _ rfl rfl
      rcases h4 with ⟨h4, _⟩ | ⟨b', vs, t, h4, h5, h6, h7⟩
      · rw [h4] at hblk; cases hblk
      · rw [hblk] at h4
        injection h4 with h4
        subst h4
        refine ⟨b, p, fun j => vs.getD (p + j) undef, rfl, fun j y hy => ?_⟩
        rw [List.getElem?_drop] at hy
        have hj : o + j < sz := by rw [← h3 i x hx]; exact (List.getElem?_eq_some_iff.1 hy).1
        have hi : i < (g.ρ nm).tot := Nat.lt_of_lt_of_le (List.getElem?_eq_some_iff.1 hx).1 h2
        have e : p + j = (g.ρ nm).off + i * sz + (o + j) := by rw [hp, h1]; omega
        have hlt : p + j < vs.size := by
          have : (i + 1) * sz ≤ (g.ρ nm).tot * sz := Nat.mul_le_mul_right _ hi
          rw [Nat.add_mul] at this
          omega
        refine ⟨by simp [World.cell?, h5, hlt], ?_⟩
        have := h7 i (o + j) x y hx hy
        simp only
        rw [e]
        exact this
  · cases h

def loadV (ti : TI) (cs : List V) : Option V := if ti.agg then (if ti.size ≤ cs.length then some (mkAgg (cs.take ti.size)) else none) else cs[0]?
def evalLoad (P : Program) (t : TypeId) (p : V) (blk : Option Blk) : Option V :=
  match tinf P t, cellsAt p blk with
  | some ti, some cs => loadV ti cs
  | _, _ => none
theorem evalLoad_run {P : Program} {g : Gh} {w : World} {t : TypeId} {p v : V} {a : Value} {blk : Option Blk} (h : evalLoad P t p blk = some v) (hp : RV g w p a) (hb : ∀ nm k, refOf p = some nm → blk = some k → BlkOK g w nm k) :
    ∃ v', (Instr.loadAt t a).run P w = .ok v' w ∧ RV g w v v' := by
  unfold evalLoad at h
  split at h
  case h_2 => cases h
  rename_i ti cs hti hcs
  obtain ⟨b, o, u, rfl, hu⟩ := cellsAt_ok hcs hp hb
  have hagg := run_isAgg' hti w
  have hsz := run_sizeOf' hti w
  unfold loadV at h
  split at h
  · rename_i ha
    split at h
    case isFalse => cases h
    rename_i hle
    injection h with h
    subst h
    have hl := run_loadCells (P := P) w ⟨b, o, none⟩ ti.size u (fun j hj => by
      rw [addr_add]
      exact (hu j cs[j] (by first | omega | (simp; done) | (simp; omega))).1)
    refine ⟨.agg ((List.range ti.size).map u).toArray, by simp [Instr.loadAt, Instr.sureAddr, loadVar, hagg, ha, hsz, hl], mkAgg_rv (by simp; omega) fun j y hy => ?_⟩
    rw [List.getElem?_take] at hy
    split at hy
    · rename_i hj
      have := (hu j y hy).2
      simpa [hj] using this
    · cases hy
  · rename_i ha
    have := hu 0 v h
    simp at this
    exact ⟨u 0, by simp [Instr.loadAt, Instr.sureAddr, loadVar, hagg, ha, load, Sem.run, this.1], this.2⟩

/-- A store. -/
def ofCells (x : V) (cs : List V) : V :=
  match x with
  | .d (.agg _) | .agg _ => mkAgg cs
  | _ => cs.headD .undef
def storeB (p : V) (blk : Option Blk) (ys : List V) : Option Blk :=
  match p, blk with
  | .ptr _ o, some (.box cs) => if o + ys.length ≤ cs.length then some (.box (setRange cs o ys)) else none
  | .eptr _ i o, some (.row sz xs) => match xs[i]? with
    | some x => if o + ys.length ≤ x.cells.length then some (.row sz (xs.set i (ofCells x (setRange x.cells o ys)))) else none
    | none => none
  | _, _ => none
theorem mkAgg_cells (cs : List V) : (mkAgg cs).cells = cs := by
  unfold mkAgg
  split
  · rename_i ds h
    rw [allD_some h]
    rfl
  · rfl
theorem one_cells {y : V} (h : y.one = true) : y.cells = [y] := by
  cases y with
  | d x => cases x <;> first | rfl | cases h
  | agg => cases h
  | _ => rfl
theorem ofCells_cells {x : V} {cs : List V} (hl : cs.length = x.cells.length) (h1 : ∀ y ∈ cs, y.one = true ∨ y ∈ x.cells) : (ofCells x cs).cells = cs := by
  have single : x.cells = [x] → (cs.headD .undef).cells = cs := by
    intro e
    rw [e] at hl
    match cs, hl with
    | [y], _ =>
      rcases h1 y (by simp) with h | h
      · exact one_cells h
      · rw [e] at h
        simp at h
        subst h
        exact e
  unfold ofCells
  split
  · exact mkAgg_cells cs
  · exact mkAgg_cells cs
  · rename_i ha hb
    refine single ?_
    cases x with
    | d x => cases x with
      | agg xs => exact absurd rfl (ha xs)
      | _ => rfl
    | agg xs => exact absurd rfl (hb xs)
    | _ => rfl
theorem setRange_mem {cs ys : List V} {o : Nat} {y : V} (h : y ∈ setRange cs o ys) : y ∈ ys ∨ y ∈ cs := by
  unfold setRange at h
  simp only [List.mem_append] at h
  rcases h with (h | h) | h
  · exact .inr (List.mem_of_mem_take h)
  · exact .inl h
  · exact .inr (List.mem_of_mem_drop h)

def evalStore (P : Program) (t : TypeId) (p x : V) (blk : Option Blk) : Option Blk :=
  match tinf P t with
  | some ti => if x.firm = true ∧ x.cells.length = ti.size ∧ x.cells.all V.one = true then storeB p blk x.cells else none
  | none => none

theorem take_drop_get (vs : Array Value) (o : Nat) (us : Array Value) (h : o + us.size ≤ vs.size) (i : Nat) :
    (vs.toList.take o ++ us.toList ++ vs.toList.drop (o + us.toList.length)).toArray.getD i undef = if o ≤ i ∧ i < o + us.size then us.getD (i - o) undef else vs.getD i undef := by
  have hl : (vs.toList.take o).length = o := by simp; omega
  simp only [Array.getD_eq_getD_getElem?, List.getElem?_toArray]
  by_cases h1 : i < o
  · rw [if_neg (by omega), List.append_assoc, List.getElem?_append_left (by omega), List.getElem?_take_of_lt h1]
    simp
  · by_cases h2 : i < o + us.size
    · rw [if_pos (by omega), List.append_assoc, List.getElem?_append_right (by omega), hl, List.getElem?_append_left (by simp; omega)]
      simp
    · rw [if_neg (by omega), List.append_assoc, List.getElem?_append_right (by omega), hl, List.getElem?_append_right (by simp; omega), List.getElem?_drop]
      simp
      congr 2
      omega

theorem evalStore_run {P : Program} {g : Gh} {w : World} {H : Nat → Option Blk} {t : TypeId} {p x : V} {a b : Value} {nm : Nat} {k' : Blk} (h : evalStore P t p x (H nm) = some k') (hS : RS g w H) (hnm : refOf p = some nm) (hp : RV g w p a) (hx : RV g w x b) :
    ∃ w', (Instr.storeAt t a b).run P w = .ok () w' ∧ Ext g w g w' ∧ RS g w' (hset H nm (some k')) := by
  unfold evalStore at h
  split at h
  case h_2 => cases h
  rename_i ti hti
  split at h
  case isFalse => cases h
  rename_i hc
  obtain ⟨hf, hlen, hone⟩ := hc
  have hsz := run_sizeOf' hti w
  obtain ⟨hcl, hcr⟩ := rv_cells hx hf
  have hra : RA g w x.cells b.cells := ⟨hcl, hcr⟩
  have hones := ra_one hra hone
  unfold storeB at h
  split at h
  · rename_i nm' o cs hH
    obtain rfl : nm' = nm := by simpa [refOf] using hnm
    split at h
    case isFalse => cases h
    rename_i hle
    injection h with h
    subst h
    obtain ⟨hU, hok⟩ := hS.ok _ _ hH
    obtain ⟨bb, vs, tt, h1, h2, h3, h4⟩ := hok
    cases hp with
    | ptr _ _ b' hU' hblk =>
      rw [h1] at hblk
      injection hblk with hblk
      subst hblk
      have hst := run_storeCells_at P bb o tt b.cells.toList 0 vs w h2 (by simp; omega) hones
      simp only [Nat.add_zero] at hst
      have hget := take_drop_get vs o b.cells (by omega)
      have hnsz : (vs.toList.take o ++ b.cells.toList ++ vs.toList.drop (o + b.cells.toList.length)).toArray.size = vs.size := by simp; omega
      obtain ⟨new, hnew⟩ : ∃ n, n = (vs.toList.take o ++ b.cells.toList ++ vs.toList.drop (o + b.cells.toList.length)).toArray := ⟨_, rfl⟩
      rw [← hnew] at hst hget hnsz
      clear hnew
      refine ⟨_, by simp [Instr.storeAt, Instr.sureAddr, storeVar, hsz, hcl, hlen, hst]; rfl, ?_⟩
      refine hS.write hH h1 (fun i hi => setRow_other _ _ _ _ hi) rfl rfl rfl (by simp) fun e => ?_
      refine ⟨bb, _, tt, h1, setRow_heap _ _ _ _ _ _ h2, ?_, fun j y hy => ?_⟩
      · rw [hnsz, setRange_len _ _ _ hle, h3]
      · rw [hget]
        rw [setRange_get _ _ _ hle] at hy
        rw [hcl]
        split at hy
        · rename_i hc
          rw [if_pos hc]
          exact (hcr _ y hy).mono e
        · rename_i hc
          rw [if_neg hc]
          exact (h4 j y hy).mono e
  · rename_i nm' i o sz xs hH
    obtain rfl : nm' = nm := by simpa [refOf] using hnm
    split at h
    case h_2 => cases h
    rename_i el hel
    split at h
    case isFalse => cases h
    rename_i hle
    injection h with h
    subst h
    obtain ⟨hU, hok⟩ := hS.ok _ _ hH
    obtain ⟨h1, h2, h3, h4⟩ := hok
    cases hp with
    | eptr _ _ _ bb pp hU' hblk hpp =>
      rcases h4 with ⟨h4, _⟩ | ⟨b', vs, tt, h4, h5, h6, h7⟩
      · rw [h4] at hblk; cases hblk
      · rw [hblk] at h4
        injection h4 with h4
        subst h4
        have hi : i < xs.length := (List.getElem?_eq_some_iff.1 hel).1
        have hmul : (i + 1) * sz ≤ (g.ρ nm').tot * sz := Nat.mul_le_mul_right _ (by omega)
        have hels := h3 i el hel
        have hlt : pp + x.cells.length ≤ vs.size := by
          rw [Nat.add_mul] at hmul
          rw [hpp, h1]
          omega
        have hst := run_storeCells_at P bb pp tt b.cells.toList 0 vs w h5 (by simp; omega) hones
        simp only [Nat.add_zero] at hst
        have hget := take_drop_get vs pp b.cells (by omega)
        have hnsz : (vs.toList.take pp ++ b.cells.toList ++ vs.toList.drop (pp + b.cells.toList.length)).toArray.size = vs.size := by simp; omega
        obtain ⟨new, hnew'⟩ : ∃ n, n = (vs.toList.take pp ++ b.cells.toList ++ vs.toList.drop (pp + b.cells.toList.length)).toArray := ⟨_, rfl⟩
        rw [← hnew'] at hst hget hnsz
        clear hnew'
        refine ⟨_, by simp [Instr.storeAt, Instr.sureAddr, storeVar, hsz, hcl, hlen, hst]; rfl, ?_⟩
        refine hS.write hH hblk (fun i hi => setRow_other _ _ _ _ hi) rfl rfl rfl (by simp) fun e => ?_
        have hnew : (ofCells el (setRange el.cells o x.cells)).cells = setRange el.cells o x.cells := by
          refine ofCells_cells (setRange_len _ _ _ hle) fun y hy => ?_
          rcases setRange_mem hy with h | h
          · exact .inl (List.all_eq_true.1 hone y h)
          · exact .inr h
        have hset : ∀ (i' : Nat) (z : V), (xs.set i (ofCells el (setRange el.cells o x.cells)))[i']? = some z → z.cells.length = sz ∧ ∀ (j : Nat) (y : V), z.cells[j]? = some y → RV g (w.setRow bb new) y (new.getD ((g.ρ nm').off + i' * sz + j) undef) := by
          intro i' z hz
          rw [List.getElem?_set] at hz
          split at hz
          · rename_i hii
            subst hii
            simp [hi] at hz
            subst hz
            refine ⟨by rw [hnew, setRange_len _ _ _ hle, hels], fun j y hy => ?_⟩
            rw [hnew, setRange_get _ _ _ hle] at hy
            rw [hget]
            split at hy
            · rename_i hc
              rw [if_pos (by rw [hpp, h1, hcl]; omega)]
              have := (hcr _ y hy).mono e
              have e2 : (g.ρ nm').off + i * sz + j - pp = j - o := by rw [hpp, h1]; omega
              rw [e2]
              exact this
            · rename_i hc
              rw [if_neg (by rw [hpp, h1, hcl]; omega)]
              exact (h7 i j el y hel hy).mono e
          · rename_i hii
            have hzl := h3 i' z hz
            refine ⟨hzl, fun j y hy => ?_⟩
            rw [hget]
            have hj : j < sz := by rw [← hzl]; exact (List.getElem?_eq_some_iff.1 hy).1
            rw [if_neg ?_]
            · exact (h7 i' j z y hz hy).mono e
            · rw [hpp, h1, hcl]
              rcases Nat.lt_or_gt_of_ne hii with hlt | hgt
              · have : (i + 1) * sz ≤ i' * sz := Nat.mul_le_mul_right _ hlt
                rw [Nat.add_mul] at this
                omega
              · have : (i' + 1) * sz ≤ i * sz := Nat.mul_le_mul_right _ hgt
                rw [Nat.add_mul] at this
                omega
        refine ⟨h1, by simpa using h2, fun i' z hz => (hset i' z hz).1, .inr ⟨bb, _, tt, hblk, setRow_heap _ _ _ _ _ _ h5, by rw [hnsz]; exact h6, fun i' j z y hz hy => (hset i' z hz).2 j y hy⟩⟩
  · cases h
end Go.Proofs.Ytafeehlpmdligaa.M
