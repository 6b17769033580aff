/- Append; make of slices. -/
import Derived.Test.YtafeehlpmdligaaM5
namespace Go.Proofs.Ytafeehlpmdligaa.M
open Go.RowKit
set_option linter.unusedVariables false
set_option linter.unusedSimpArgs false

/-- The elements of what is appended. -/
def srcD : V → Option (List D)
  | .d (.sl ys) => some ys
  | .nil | .e0 => some []
  | _ => none
def baseOf (sz : Nat) (s : V) (blk : Option Blk) : Option (List V × Option Nat × Nat) :=
  match s, blk with
  | .nil, _ => some ([], none, 0)
  | .e0, _ => some ([], none, 0)
  | .ms nm sz' o n, some (.row sz'' xs) => if sz' = sz ∧ sz'' = sz ∧ o + n ≤ xs.length then some ((xs.drop o).take n, some nm, n) else none
  | _, _ => none
def evalAppend (P : Program) (t : TypeId) (s x : V) (blk : Option Blk) (nm : Nat) : Option (V × Eff) :=
  match selem P t with
  | some e => match tinf P e with
    | some ti => match baseOf ti.size s blk, srcD x with
      | some (es, old, n), some ys => if ys.all (okEl ti.size) = true ∧ (n + ys.length) * ti.bytes ≤ 140737488355328 ∧ ti.size ≠ 0 ∧ ti.bytes ≠ 0 then
          some (.ms nm ti.size 0 (n + ys.length), .move old nm (.row ti.size (es ++ ys.map V.d))) else none
      | _, _ => none
    | none => none
  | none => none

theorem okEl_spec {sz : Nat} {x : D} (h : okEl sz x = true) : x.cells.length = sz ∧ x.cells.all D.one = true := by simpa [okEl] using h
theorem d_cells (x : D) : (V.d x).cells = x.cells.map V.d := by cases x <;> rfl

theorem divmod {sz i j : Nat} (hj : j < sz) : (i * sz + j) / sz = i ∧ (i * sz + j) % sz = j := by
  have h0 : 0 < sz := by omega
  constructor
  · rw [Nat.add_comm, Nat.add_mul_div_right _ _ h0, Nat.div_eq_of_lt hj]; omega
  · rw [Nat.add_comm, Nat.add_mul_mod_self_right, Nat.mod_eq_of_lt hj]

/-- What is appended, as it lies in memory. -/
def SrcOK (P : Program) (g : Gh) (w : World) (v : Value) (ys : List D) (sz : Nat) : Prop :=
  ∃ (a : Option Addr) (c : Nat) (news : List Value), v = .slice a ys.length c ∧ news.length = ys.length * sz ∧ (∀ w' : World, (∀ b, g.F b → w'.heap[b]? = w.heap[b]?) → (Builtin.firstCells sz ys.length v).run P w' = .ok news.toArray w') ∧
      (∀ u ∈ news, u.oneCell' = true) ∧ (∀ (i j : Nat) (z y : D), ys[i]? = some z → z.cells[j]? = some y → RD g.F w y (news.getD (i * sz + j) undef)) ∧
      (ys ≠ [] → ∃ ad, a = some ad ∧ ∀ w' : World, (∀ b, g.F b → w'.heap[b]? = w.heap[b]?) → ∀ (j : Nat) (u : Value), news[j]? = some u → w'.cell? (ad.add j) = some u)
theorem src_ok {P : Program} {g : Gh} {w : World} {x : V} {v : Value} {ys : List D} {sz : Nat} (h : srcD x = some ys) (hx : RV g w x v) (hok : ys.all (okEl sz) = true) (h0 : sz ≠ 0) : SrcOK P g w v ys sz := by
  have empty : ∀ (a : Option Addr) (c : Nat), ys = [] → v = .slice a 0 c → SrcOK P g w v ys sz := by
    intro a c hy hv
    subst hy hv
    refine ⟨a, c, [], rfl, by simp, fun w' _ => ?_, by simp, by simp, fun h => absurd rfl h⟩
    cases a <;> simp [Builtin.firstCells, loadCells, loadCellsFrom]
  unfold srcD at h
  split at h
  · rename_i ys'
    injection h with h
    subst h
    cases hx with | d hx =>
    cases hx with
    | slNil a c => exact empty a c rfl rfl
    | sl _ b o c sz' u hF hc h1 h2 h3 =>
      by_cases hnil : ys' = []
      · subst hnil
        exact empty _ c rfl rfl
      · have hszz : sz' = sz := by
          have hlt : 0 < ys'.length := List.length_pos_iff.2 hnil
          have e1 := h1 0 ys'[0] (by simp [hlt])
          have e2 := okEl_spec (List.all_eq_true.1 hok ys'[0] (List.getElem_mem _))
          omega
        subst hszz
        have hel : ∀ (i j : Nat), i < ys'.length → j < sz' → ∃ z y, ys'[i]? = some z ∧ z.cells[j]? = some y ∧ y.one = true := by
          intro i j hi hj
          have e2 := okEl_spec (List.all_eq_true.1 hok ys'[i] (List.getElem_mem _))
          have hj' : j < ys'[i].cells.length := by omega
          exact ⟨ys'[i], ys'[i].cells[j], by simp, by simp, List.all_eq_true.1 e2.2 _ (List.getElem_mem _)⟩
        let news := (List.range (ys'.length * sz')).map fun k => u (k / sz') (k % sz')
        have hk : ∀ k, k < ys'.length * sz' → k / sz' < ys'.length ∧ k % sz' < sz' ∧ k / sz' * sz' + k % sz' = k := by
          intro k hk
          have h0' : 0 < sz' := by omega
          exact ⟨Nat.div_lt_of_lt_mul (by rw [Nat.mul_comm]; exact hk), Nat.mod_lt _ h0', by rw [Nat.mul_comm]; exact Nat.div_add_mod k sz'⟩
        have hcell : ∀ w' : World, (∀ b, g.F b → w'.heap[b]? = w.heap[b]?) → ∀ (j : Nat) (v : Value), news[j]? = some v → w'.cell? ((⟨b, o, none⟩ : Addr).add j) = some v := by
          intro w' hw j v hv
          simp only [news, List.getElem?_map, Option.map_eq_some_iff] at hv
          obtain ⟨k, hk', rfl⟩ := hv
          have hkk : j < ys'.length * sz' ∧ k = j := by
            obtain ⟨h1, h2⟩ := List.getElem?_eq_some_iff.1 hk'
            simp at h1 h2
            exact ⟨h1, h2.symm⟩
          obtain ⟨hj, rfl⟩ := hkk
          obtain ⟨e1, e2, e3⟩ := hk k hj
          obtain ⟨z, y, hz, hy, _⟩ := hel _ _ e1 e2
          rw [addr_add, cell_congr (hw b hF)]
          have := h2 _ _ z y hz hy
          rw [show o + k / sz' * sz' + k % sz' = o + k by omega] at this
          exact this
        refine ⟨_, c, news, rfl, by simp [news], fun w' hw => ?_, ?_, ?_, fun _ => ⟨_, rfl, hcell⟩⟩
        · exact run_firstCells_some (P := P) w' sz' ys'.length ⟨b, o, none⟩ _ c news (by simp [news]) (hcell w' hw)
        · intro q hq
          simp only [news, List.mem_map, List.mem_range] at hq
          obtain ⟨k, hk', rfl⟩ := hq
          obtain ⟨e1, e2, e3⟩ := hk k hk'
          obtain ⟨z, y, hz, hy, hone⟩ := hel _ _ e1 e2
          have := h3 _ _ z y hz hy
          exact rv_one (g := g) (w := w) (.d this) (by cases y <;> first | rfl | cases hone)
        · intro i j z y hz hy
          have hi : i < ys'.length := (List.getElem?_eq_some_iff.1 hz).1
          have hj : j < sz' := by
            rw [← h1 i z hz]
            exact (List.getElem?_eq_some_iff.1 hy).1
          have hlt : i * sz' + j < ys'.length * sz' := by
            have : (i + 1) * sz' ≤ ys'.length * sz' := Nat.mul_le_mul_right _ hi
            rw [Nat.add_mul] at this
            omega
          obtain ⟨e1, e2⟩ := divmod (i := i) hj
          have : news.getD (i * sz' + j) undef = u i j := by
            simp [news, List.getD, hlt, e1, e2]
          rw [this]
          exact h3 i j z y hz hy
  · injection h with h
    subst h
    cases hx
    exact empty _ _ rfl rfl
  · injection h with h
    subst h
    cases hx
    exact empty _ _ rfl rfl
  · cases h

/-- A row with what was appended, in its new place. -/
theorem row_new {g g' : Gh} {w w' : World} (hE : Ext g w g' w') {es : List V} {ys : List D} {sz : Nat} {olds news : List Value} (hes : ∀ (i : Nat) (x : V), es[i]? = some x → x.cells.length = sz ∧ ∀ (j : Nat) (y : V), x.cells[j]? = some y → RV g w y (olds.getD (i * sz + j) undef))
    (hol : olds.length = es.length * sz) (hok : ys.all (okEl sz) = true) (hnews : ∀ (i j : Nat) (z y : D), ys[i]? = some z → z.cells[j]? = some y → RD g.F w y (news.getD (i * sz + j) undef)) (hnl : news.length = ys.length * sz)
    (vs : Array Value) (off : Nat) (hvs : ∀ k, k < (es.length + ys.length) * sz → vs.getD (off + k) undef = (olds ++ news).getD k undef) :
    (∀ (i : Nat) (x : V), (es ++ ys.map V.d)[i]? = some x → x.cells.length = sz) ∧ ∀ (i j : Nat) (x y : V), (es ++ ys.map V.d)[i]? = some x → x.cells[j]? = some y → RV g' w' y (vs.getD (off + i * sz + j) undef) := by
  have h1 : ∀ (i : Nat) (x : V), (es ++ ys.map V.d)[i]? = some x → x.cells.length = sz := by
    intro i x hx
    rw [List.getElem?_append] at hx
    split at hx
    · exact (hes i x hx).1
    · simp only [List.getElem?_map, Option.map_eq_some_iff] at hx
      obtain ⟨z, hz, rfl⟩ := hx
      rw [d_cells]
      simpa using (okEl_spec (List.all_eq_true.1 hok z (List.mem_of_getElem? hz))).1
  refine ⟨h1, fun i j x y hx hy => ?_⟩
  have hj : j < sz := by rw [← h1 i x hx]; exact (List.getElem?_eq_some_iff.1 hy).1
  have hi : i < es.length + ys.length := by have := (List.getElem?_eq_some_iff.1 hx).1; simpa using this
  have hm : (i + 1) * sz ≤ (es.length + ys.length) * sz := Nat.mul_le_mul_right _ hi
  rw [Nat.add_mul] at hm
  rw [show off + i * sz + j = off + (i * sz + j) by omega, hvs _ (by omega)]
  rw [List.getElem?_append] at hx
  split at hx
  · rename_i hlt
    have hm2 : (i + 1) * sz ≤ es.length * sz := Nat.mul_le_mul_right _ hlt
    rw [Nat.add_mul] at hm2
    have := (hes i x hx).2 j y hy
    have e : (olds ++ news).getD (i * sz + j) undef = olds.getD (i * sz + j) undef := by
      simp only [List.getD]
      rw [List.getElem?_append_left (by omega)]
    rw [e]
    exact this.mono hE
  · rename_i hge
    simp only [List.getElem?_map, Option.map_eq_some_iff] at hx
    obtain ⟨z, hz, rfl⟩ := hx
    rw [d_cells] at hy
    simp only [List.getElem?_map, Option.map_eq_some_iff] at hy
    obtain ⟨q, hq, rfl⟩ := hy
    have := hnews _ j z q hz hq
    have hge' : es.length * sz ≤ i * sz := Nat.mul_le_mul_right _ (by omega)
    have e : (olds ++ news).getD (i * sz + j) undef = news.getD ((i - es.length) * sz + j) undef := by
      simp only [List.getD]
      rw [List.getElem?_append_right (by omega)]
      congr 2
      rw [hol, Nat.sub_mul]
      omega
    rw [e]
    exact .d (this.mono hE.fz hE.keep)

theorem append_inplace {P : Program} {g : Gh} {w : World} {H : Nat → Option Blk} {nm0 nm sz o n b c : Nat} {xs : List V} {ys : List D} {t : TypeId} {vs : Array Value} {news : List Value} (hS : RS g w H) (hH : H nm0 = some (.row sz xs)) (hb : (g.ρ nm0).blk = some b)
    (hsz : (g.ρ nm0).sz = sz) (htot : o + c ≤ (g.ρ nm0).tot) (hfit : n + ys.length ≤ c) (hon : o + n ≤ xs.length) (hhb : w.heap[b]? = some (.cells vs t (0, 0))) (hvs : (g.ρ nm0).off + (g.ρ nm0).tot * sz ≤ vs.size)
    (hxs : ∀ (i : Nat) (x : V), xs[i]? = some x → x.cells.length = sz) (hcells : ∀ (i j : Nat) (x y : V), xs[i]? = some x → x.cells[j]? = some y → RV g w y (vs.getD ((g.ρ nm0).off + i * sz + j) undef))
    (hok : ys.all (okEl sz) = true) (hnl : news.length = ys.length * sz) (hone : ∀ u ∈ news, u.oneCell' = true) (hnews : ∀ (i j : Nat) (z y : D), ys[i]? = some z → z.cells[j]? = some y → RD g.F w y (news.getD (i * sz + j) undef))
    (hn : ¬ g.U nm) :
    ∃ w' g', (storeCells ⟨b, (g.ρ nm0).off + o * sz + n * sz, none⟩ news).run P w = .ok () w' ∧ Ext g w g' w' ∧ RS g' w' (hset (hset H nm0 none) nm (some (.row sz ((xs.drop o).take n ++ ys.map V.d)))) ∧
      RV g' w' (.ms nm sz 0 (n + ys.length)) (.slice (some ⟨b, (g.ρ nm0).off + o * sz, none⟩) (n + ys.length) c) ∧ (∀ k, g'.U k → g.U k ∨ k = nm) := by
  have hsome : (H nm0).isSome := by simp [hH]
  have hm1 : (o + c) * sz ≤ (g.ρ nm0).tot * sz := Nat.mul_le_mul_right _ htot
  have hm2 : (n + ys.length) * sz ≤ c * sz := Nat.mul_le_mul_right _ hfit
  rw [Nat.add_mul] at hm1 hm2
  have hst := run_storeCells_at P b ((g.ρ nm0).off + o * sz + n * sz) t news 0 vs w hhb (by rw [hnl]; omega) hone
  simp only [Nat.add_zero] at hst
  have hget := take_drop_get vs ((g.ρ nm0).off + o * sz + n * sz) news.toArray (by simp [hnl]; omega)
  simp only [List.toList_toArray, List.size_toArray] at hget
  have hnsz : (vs.toList.take ((g.ρ nm0).off + o * sz + n * sz) ++ news ++ vs.toList.drop ((g.ρ nm0).off + o * sz + n * sz + news.length)).toArray.size = vs.size := by simp; omega
  obtain ⟨new, hnew'⟩ : ∃ q, q = (vs.toList.take ((g.ρ nm0).off + o * sz + n * sz) ++ news ++ vs.toList.drop ((g.ρ nm0).off + o * sz + n * sz + news.length)).toArray := ⟨_, rfl⟩
  rw [← hnew'] at hst hget hnsz
  clear hnew'
  have hnF := hS.notF nm0 b hsome hb
  have hoth : ∀ i, i ≠ b → (w.setRow b new).heap[i]? = w.heap[i]? := fun i hi => setRow_other _ _ _ _ hi
  let r : Rf := ⟨some b, (g.ρ nm0).off + o * sz, sz, c⟩
  have hE : Ext g w (g.new nm r) (w.setRow b new) := ⟨fun k h => .inl h, fun k h => g.new_ne r (fun e => hn (e ▸ h)), fun i h => h, fun i h => hoth i (fun e => hnF.1 (e ▸ h)), rfl, rfl, rfl, by simp⟩
  have hes : ∀ (i : Nat) (x : V), ((xs.drop o).take n)[i]? = some x → x.cells.length = sz ∧ ∀ (j : Nat) (y : V), x.cells[j]? = some y → RV g w y (((List.range (n * sz)).map fun k => vs.getD ((g.ρ nm0).off + o * sz + k) undef).getD (i * sz + j) undef) := by
    intro i x hx
    rw [List.getElem?_take] at hx
    split at hx
    · rename_i hi
      rw [List.getElem?_drop] at hx
      refine ⟨hxs _ x hx, fun j y hy => ?_⟩
      have hj : j < sz := by rw [← hxs _ x hx]; exact (List.getElem?_eq_some_iff.1 hy).1
      have hm3 : (i + 1) * sz ≤ n * sz := Nat.mul_le_mul_right _ hi
      rw [Nat.add_mul] at hm3
      have := hcells (o + i) j x y hx hy
      have hlt : i * sz + j < n * sz := by omega
      simp only [List.getD, List.getElem?_map, List.getElem?_range hlt, Option.map_some, Option.getD_some]
      rw [show (g.ρ nm0).off + o * sz + (i * sz + j) = (g.ρ nm0).off + (o + i) * sz + j by rw [Nat.add_mul]; omega]
      exact this
    · cases hx
  have hlen : ((xs.drop o).take n).length = n := by simp; omega
  obtain ⟨hr1, hr2⟩ := row_new hE hes (by simp [hlen]) hok hnews hnl new ((g.ρ nm0).off + o * sz) (by
    intro k hk
    rw [hlen, Nat.add_mul] at hk
    rw [hget]
    by_cases h1 : k < n * sz
    · rw [if_neg (by omega)]
      simp only [List.getD]
      rw [List.getElem?_append_left (by simpa using h1)]
      simp [h1]
    · rw [if_pos (by omega)]
      simp only [List.getD]
      rw [List.getElem?_append_right (by simp; omega)]
      simp
      congr 2
      omega)
  refine ⟨_, _, hst, hE, ?_, .ms nm sz 0 _ b _ c (.inr rfl) (by rw [g.new_at]) (by rw [g.new_at]) (by rw [g.new_at]; simp [r]) hfit (by rw [g.new_at]; simp [r]), fun k hk => hk⟩
  have hS0 : RS g w (hset H nm0 none) := hS.less fun k q hq => by
    unfold hset at hq
    split at hq
    · cases hq
    · exact hq
  have hne : ∀ k, (hset H nm0 none k).isSome → k ≠ nm0 ∧ (H k).isSome := by
    intro k hk
    unfold hset at hk
    split at hk
    · cases hk
    · exact ⟨by assumption, hk⟩
  refine hS0.put hE (fun k i hk hks hi => hoth i fun e => ?_) (.inr rfl) ?_ ?_ ?_
  · subst e
    exact (hne k hks).1 (hS.inj k nm0 i (hne k hks).2 hsome hi hb)
  · refine ⟨by rw [g.new_at], by rw [g.new_at]; simp [r]; omega, hr1, .inr ⟨b, new, t, by rw [g.new_at], setRow_heap _ _ _ _ _ _ hhb, by rw [g.new_at, hnsz]; simp only [r]; omega, fun i j x y hx hy => by rw [g.new_at]; exact hr2 i j x y hx hy⟩⟩
  · intro i hi
    rw [g.new_at] at hi
    have hi : b = i := by injection hi
    subst hi
    exact ⟨hnF.1, by simpa using hnF.2, fun k _ hks hbk => (hne k hks).1 (hS.inj k nm0 b (hne k hks).2 hsome hbk hb)⟩
  · intro i hi
    exact ⟨by simpa using hS.ltF i hi, fun k _ hks hbk => (hS.notF k i (hne k hks).2 hbk).1 hi⟩

/-- A row that has moved to a new block. -/
theorem append_moved {g : Gh} {w w' : World} {H : Nat → Option Blk} {old : Option Nat} {nm sz cap : Nat} {es : List V} {ys : List D} {t : TypeId} {olds news zs : List Value} (hS : RS g w H) (hn : ¬ g.U nm)
    (hes : ∀ (i : Nat) (x : V), es[i]? = some x → x.cells.length = sz ∧ ∀ (j : Nat) (y : V), x.cells[j]? = some y → RV g w y (olds.getD (i * sz + j) undef)) (hol : olds.length = es.length * sz)
    (hok : ys.all (okEl sz) = true) (hnl : news.length = ys.length * sz) (hnews : ∀ (i j : Nat) (z y : D), ys[i]? = some z → z.cells[j]? = some y → RD g.F w y (news.getD (i * sz + j) undef))
    (hcap : es.length + ys.length ≤ cap) (hzs : zs.length = (cap - (es.length + ys.length)) * sz) (hw : w' = w.drew.alloc (.cells (olds ++ news ++ zs).toArray t)) :
    Ext g w (g.new nm ⟨some w.heap.size, 0, sz, cap⟩) w' ∧ RS (g.new nm ⟨some w.heap.size, 0, sz, cap⟩) w' ((Eff.move old nm (.row sz (es ++ ys.map V.d))).on H) ∧ RV (g.new nm ⟨some w.heap.size, 0, sz, cap⟩) w' (.ms nm sz 0 (es.length + ys.length)) (.slice (some ⟨w.heap.size, 0, none⟩) (es.length + ys.length) cap) := by
  subst hw
  have hh : ∀ b, b < w.heap.size → (w.drew.alloc (.cells (olds ++ news ++ zs).toArray t)).heap[b]? = w.heap[b]? := fun b hb => heap_alloc_old w.drew _ hb
  have hE : Ext g w (g.new nm ⟨some w.heap.size, 0, sz, cap⟩) (w.drew.alloc (.cells (olds ++ news ++ zs).toArray t)) := ext_new _ hn hS.ltF hh rfl rfl rfl (by simp)
  obtain ⟨hr1, hr2⟩ := row_new hE hes hol hok hnews hnl (olds ++ news ++ zs).toArray 0 (by
    intro k hk
    rw [Nat.add_mul] at hk
    simp only [Nat.zero_add, Array.getD_eq_getD_getElem?, List.getElem?_toArray, List.getD]
    rw [List.getElem?_append_left (by simp; omega)])
  have hblk : BlkOK (g.new nm ⟨some w.heap.size, 0, sz, cap⟩) (w.drew.alloc (.cells (olds ++ news ++ zs).toArray t)) nm (.row sz (es ++ ys.map V.d)) := by
    refine ⟨by rw [g.new_at], by rw [g.new_at]; simp; omega, hr1, .inr ⟨w.heap.size, _, t, by rw [g.new_at], heap_alloc_new w.drew _, ?_, fun i j x y hx hy => by rw [g.new_at]; exact hr2 i j x y hx hy⟩⟩
    rw [g.new_at]
    simp only [List.size_toArray, List.length_append]
    have hm : cap * sz = (es.length + ys.length) * sz + (cap - (es.length + ys.length)) * sz := by rw [← Nat.add_mul]; congr 1; omega
    rw [hm, Nat.add_mul]
    omega
  have hRV : RV (g.new nm ⟨some w.heap.size, 0, sz, cap⟩) (w.drew.alloc (.cells (olds ++ news ++ zs).toArray t)) (.ms nm sz 0 (es.length + ys.length)) (.slice (some ⟨w.heap.size, 0, none⟩) (es.length + ys.length) cap) :=
    .ms nm sz 0 _ w.heap.size 0 cap (.inr rfl) (by rw [g.new_at]) (by rw [g.new_at]) (by rw [g.new_at]; simp) hcap (by rw [g.new_at]; simp)
  refine ⟨hE, ?_, hRV⟩
  cases old with
  | none => exact (hS.new hn hh rfl rfl rfl (by simp) rfl hblk).2
  | some o =>
    have hS0 : RS g w (hset H o none) := hS.less fun k q hq => by
      unfold hset at hq
      split at hq
      · cases hq
      · exact hq
    exact (hS0.new hn hh rfl rfl rfl (by simp) rfl hblk).2

theorem evalAppend_run {P : Program} {g : Gh} {w : World} {H : Nat → Option Blk} {t ty : TypeId} {s x v : V} {a b : Value} {nm : Nat} {ef : Eff} {blk : Option Blk} (h : evalAppend P t s x blk nm = some (v, ef)) (hS : RS g w H) (hn : ¬ g.U nm) (hblk : ∀ m, refOf s = some m → blk = H m)
    (hs : RV g w s a) (hx : RV g w x b) :
    ∃ v' w' g', (Builtin.append_ #[t, t] ty #[a, b]).run P w = .ok v' w' ∧ Ext g w g' w' ∧ RS g' w' (ef.on H) ∧ RV g' w' v v' ∧ (∀ k, g'.U k → g.U k ∨ k = nm) := by
  unfold evalAppend at h
  split at h
  case h_2 => cases h
  rename_i e he
  split at h
  case h_2 => cases h
  rename_i ti hti
  split at h
  case h_2 => cases h
  rename_i es old n ys hbase hsrc
  split at h
  case isFalse => cases h
  rename_i hc
  obtain ⟨hok, hbytes, h0, hb0⟩ := hc
  injection h with h
  injection h with h1 h2
  subst h1 h2
  have hu := selem_spec he
  obtain ⟨i, d, hi, hd, hz, hzs, hsz, hby, _⟩ := tinf_spec hti
  obtain ⟨A, cx, news, rfl, hnl, hfirst, hone, hnews, haddr⟩ := src_ok (P := P) hsrc hx hok h0
  have hnb : n + ys.length ≤ 140737488355328 := Nat.le_trans (Nat.le_mul_of_pos_right _ (by omega)) hbytes
  have hfirst0 := hfirst w (fun _ _ => rfl)
  have hszr : (sizeOf e).run P w = .ok ti.size w := run_sizeOf' hti w
  -- an empty base
  have empty : ∀ (a0 : Option Addr), a = .slice a0 0 0 → es = [] → n = 0 →
      ∃ v' w' g', (Builtin.append_ #[t, t] ty #[a, .slice A ys.length cx]).run P w = .ok v' w' ∧ Ext g w g' w' ∧ RS g' w' ((Eff.move old nm (.row ti.size (es ++ ys.map V.d))).on H) ∧ RV g' w' (.ms nm ti.size 0 (n + ys.length)) v' ∧ (∀ k, g'.U k → g.U k ∨ k = nm) := by
    intro a0 ha hes hn0
    subst ha hes hn0
    by_cases hm : ys = []
    · subst hm
      have hnn : news = [] := List.eq_nil_of_length_eq_zero (by simpa using hnl)
      subst hnn
      have hE : Ext g w (g.new nm ⟨none, 0, ti.size, 0⟩) w := ⟨fun k h => .inl h, fun k h => g.new_ne _ (fun e => hn (e ▸ h)), fun b h => h, fun _ _ => rfl, rfl, rfl, rfl, Nat.le_refl _⟩
      have hput : ∀ H', RS g w H' → RS (g.new nm ⟨none, 0, ti.size, 0⟩) w (hset H' nm (some (.row ti.size []))) := by
        intro H' hS'
        refine hS'.put hE (fun _ _ _ _ _ => rfl) (.inr rfl) ?_ ?_ ?_
        · exact ⟨by rw [g.new_at], by simp, by simp, .inl ⟨by rw [g.new_at], rfl⟩⟩
        · intro b hb; rw [g.new_at] at hb; cases hb
        · exact fun b hb => ⟨hS'.ltF b hb, fun k _ hks hbk => (hS'.notF k b hks hbk).1 hb⟩
      refine ⟨.slice a0 0 0, w, _, ?_, hE, ?_, .msZero _ _ _ _ (.inr rfl), fun k hk => hk⟩
      · have hf0 : (Builtin.firstCells ti.size 0 (.slice A 0 cx)).run P w = .ok #[] w := by simpa using hfirst0
        cases a0 <;> simp [Builtin.append_, run_underlying hu, hszr, Builtin.lenOf, storeCells, hf0]
      · cases old with
        | none => exact hput H hS
        | some o => exact hput _ (hS.less fun k q hq => by
            unfold hset at hq
            split at hq
            · cases hq
            · exact hq)
    · obtain ⟨ad, rfl, hcell⟩ := haddr hm
      have hpos : 0 < ys.length := List.length_pos_iff.2 hm
      have hcell0 := hcell w (fun _ _ => rfl)
      have hg0 : ys.length ≤ grownCap w ys.length 0 e := grownCap_ge _ _ _ _
      have hmv := append_moved (old := old) (t := e) (w' := w.drew.alloc (.cells (([] : List Value) ++ news ++ (Builtin.zeroCells ti.zero.cells (grownCap w ys.length 0 e - ys.length)).toList).toArray e)) (cap := grownCap w ys.length 0 e) (es := []) (olds := []) hS hn (by simp) (by simp) hok hnl hnews (by simpa using hg0) (by simp [size_zeroCells, hzs]) rfl
      refine ⟨_, _, _, ?_, hmv.1, by simpa using hmv.2.1, by simpa using hmv.2.2, fun k hk => hk⟩
      cases a0 with
      | none =>
        rw [run_append_nil (P := P) w t ty e i ti.zero hu hi hz ad ys.length cx news (by rw [hnl, hsz]) hcell0 hpos (by omega) (by rw [hby]; simp at hbytes; omega)]
        congr 3
        apply Array.ext'
        simp
      | some b0 =>
        have hg := run_append_grow (P := P) w t ty e i ti.zero hu hi hz b0 0 0 [] (by simp) (by simp) ad ys.length cx news (by rw [hnl, hsz]) hcell0 (by omega) (by simp; omega) (by rw [Nat.zero_add, nextslicecap_zero hpos, hby]; simp at hbytes; omega)
        simp only [Nat.zero_add] at hg
        rw [hg]
        congr 3
        apply Array.ext'
        simp
  unfold baseOf at hbase
  split at hbase
  · injection hbase with hbase
    injection hbase with q1 q2
    injection q2 with q2 q3
    cases hs
    exact empty none rfl q1.symm q3.symm
  · injection hbase with hbase
    injection hbase with q1 q2
    injection q2 with q2 q3
    cases hs
    exact empty _ rfl q1.symm q3.symm
  · rename_i nm0 sz' o n' sz'' xs
    split at hbase
    case isFalse => cases hbase
    rename_i hcc
    obtain ⟨rfl, rfl, hon⟩ := hcc
    injection hbase with hbase
    injection hbase with q1 q2
    injection q2 with q2 q3
    subst q1 q2 q3
    have hH : H nm0 = some (.row ti.size xs) := (hblk nm0 rfl).symm
    cases hs with
    | msZero _ _ _ a0 => exact empty a0 rfl (by simp) rfl
    | ms _ _ _ _ bb p c hU hbb hs' hp hnc htot =>
      obtain ⟨_, hBlk⟩ := hS.ok _ _ hH
      obtain ⟨h1, h2, h3, h4⟩ := hBlk
      rcases h4 with ⟨h4, _⟩ | ⟨b', vs, tt, h4, h5, h6, h7⟩
      · rw [h4] at hbb; cases hbb
      · rw [hbb] at h4
        injection h4 with h4
        subst h4
        subst hp
        by_cases hroom : n' + ys.length ≤ c
        · obtain ⟨w', g', e1, e2, e3, e4, e5⟩ := append_inplace (P := P) (nm := nm) hS hH hbb hs' htot hroom hon h5 h6 h3 h7 hok hnl hone hnews hn
          refine ⟨_, w', g', ?_, e2, e3, e4, e5⟩
          have hadd : (⟨bb, (g.ρ nm0).off + o * ti.size, none⟩ : Addr).add (n' * ti.size) = ⟨bb, (g.ρ nm0).off + o * ti.size + n' * ti.size, none⟩ := addr_add _ _ _
          simp [Builtin.append_, run_underlying hu, hszr, Builtin.lenOf, hroom, hfirst0, hadd, e1]
        · have hne : ys ≠ [] := fun e => by subst e; simp at hroom; omega
          obtain ⟨ad, rfl, hcell⟩ := haddr hne
          have hcell0 := hcell w (fun _ _ => rfl)
          have hlt : c < n' + ys.length := by omega
          have hlen : ((xs.drop o).take n').length = n' := by simp; omega
          let olds := (List.range (n' * ti.size)).map fun k => vs.getD ((g.ρ nm0).off + o * ti.size + k) undef
          have hm1 : (o + c) * ti.size ≤ (g.ρ nm0).tot * ti.size := Nat.mul_le_mul_right _ htot
          have hm2 : n' * ti.size ≤ c * ti.size := Nat.mul_le_mul_right _ hnc
          rw [Nat.add_mul] at hm1
          have holds : ∀ (j : Nat) (v : Value), olds[j]? = some v → w.cell? ((⟨bb, (g.ρ nm0).off + o * ti.size, none⟩ : Addr).add j) = some v := by
            intro j v hv
            simp only [olds, List.getElem?_map, Option.map_eq_some_iff] at hv
            obtain ⟨k, hk, rfl⟩ := hv
            obtain ⟨hk1, hk2⟩ := List.getElem?_eq_some_iff.1 hk
            simp at hk1 hk2
            subst hk2
            have hlt : (g.ρ nm0).off + o * ti.size + j < vs.size := by omega
            rw [addr_add]
            simp [World.cell?, h5, hlt]
          have hes : ∀ (i : Nat) (x : V), ((xs.drop o).take n')[i]? = some x → x.cells.length = ti.size ∧ ∀ (j : Nat) (y : V), x.cells[j]? = some y → RV g w y (olds.getD (i * ti.size + j) undef) := by
            intro i x hx
            rw [List.getElem?_take] at hx
            split at hx
            · rename_i hi
              rw [List.getElem?_drop] at hx
              refine ⟨h3 _ x hx, fun j y hy => ?_⟩
              have hj : j < ti.size := by rw [← h3 _ x hx]; exact (List.getElem?_eq_some_iff.1 hy).1
              have hm3 : (i + 1) * ti.size ≤ n' * ti.size := Nat.mul_le_mul_right _ hi
              rw [Nat.add_mul] at hm3
              have := h7 (o + i) j x y hx hy
              have hlt : i * ti.size + j < n' * ti.size := by omega
              simp only [olds, List.getD, List.getElem?_map, List.getElem?_range hlt, Option.map_some, Option.getD_some]
              rw [show (g.ρ nm0).off + o * ti.size + (i * ti.size + j) = (g.ρ nm0).off + (o + i) * ti.size + j by rw [Nat.add_mul]; omega]
              exact this
            · cases hx
          have hg0 : n' + ys.length ≤ grownCap w (n' + ys.length) c e := grownCap_ge _ _ _ _
          have hmv := append_moved (old := some nm0) (t := e) (w' := w.drew.alloc (.cells (olds ++ news ++ (Builtin.zeroCells ti.zero.cells (grownCap w (n' + ys.length) c e - (n' + ys.length))).toList).toArray e)) (cap := grownCap w (n' + ys.length) c e) (es := (xs.drop o).take n') (olds := olds) hS hn hes (by simp [olds, hlen]) hok hnl hnews (by rw [hlen]; exact hg0) (by rw [hlen]; simp [size_zeroCells, hzs]) rfl
          rw [hlen] at hmv
          refine ⟨_, _, _, ?_, hmv.1, hmv.2.1, hmv.2.2, fun k hk => hk⟩
          rw [run_append_grow (P := P) w t ty e i ti.zero hu hi hz ⟨bb, _, none⟩ n' c olds (by simp [olds, hsz]) holds ad ys.length cx news (by rw [hnl, hsz]) hcell0 hlt (by omega) (by rw [hby]; exact growslice_fits hlt hbytes)]
          congr 3
          apply Array.ext'
          simp
  · cases hbase
end Go.Proofs.Ytafeehlpmdligaa.M
