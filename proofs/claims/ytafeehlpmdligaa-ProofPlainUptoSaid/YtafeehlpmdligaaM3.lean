/- The other operations that touch no memory. -/
import Derived.Test.YtafeehlpmdligaaM2
namespace Go.Proofs.Ytafeehlpmdligaa.M
open Go.RowKit
set_option linter.unusedVariables false
set_option linter.unusedSimpArgs false

def evalIndexAddr (P : Program) (t : TypeId) (x i : V) : Option V :=
  match intOf? i, selem P t with
  | some n, some e => match tinf P e with
    | some ti => match x with
      | .d (.sl xs) => if 0 ≤ n then match xs[n.toNat]? with
        | some y => if okEl ti.size y then some (.rptr y.cells) else none
        | none => none
        else none
      | .ms nm sz o m => if 0 ≤ n ∧ n < m ∧ sz = ti.size then some (.eptr nm (o + n.toNat) 0) else none
      | _ => none
    | none => none
  | _, _ => none

theorem cast_toNat {n : Int} (h : 0 ≤ n) : ((n.toNat : Nat) : Int) = n := Int.toNat_of_nonneg h

theorem evalIndexAddr_run {P : Program} {g : Gh} {w : World} {t : TypeId} {x i v : V} {a b : Value} (h : evalIndexAddr P t x i = some v) (hx : RV g w x a) (hi : RV g w i b) :
    ∃ v', (Instr.indexAt t a b).run P w = .ok v' w ∧ RV g w v v' := by
  unfold evalIndexAddr at h
  split at h
  case h_2 => cases h
  rename_i n e hn he
  obtain ⟨k, rfl⟩ := intOf?_rv hn hi
  have hu := selem_spec he
  split at h
  case h_2 => cases h
  rename_i ti hti
  have hsz := run_sizeOf' hti
  split at h
  · rename_i xs
    split at h
    case isFalse => cases h
    rename_i h0
    split at h
    case h_2 => cases h
    rename_i y hy
    split at h
    case isFalse => cases h
    rename_i hok
    injection h with h
    subst h
    cases hx with | d hx =>
    have hlt : n.toNat < xs.length := (List.getElem?_eq_some_iff.1 hy).1
    cases hx with
    | slNil => simp at hy
    | sl _ b o c sz u hF hc h1 h2 h3 =>
      have hl := h1 _ _ hy
      have hok' := hok
      simp [okEl] at hok'
      have hs : sz = ti.size := by rw [← hl, hok'.1]
      subst hs
      refine ⟨.pointer (some ⟨b, o + n.toNat * ti.size, none⟩), ?_, .rptr _ b _ (u n.toNat) hF (fun j z hz => by simpa using h2 _ j _ z hy hz) (fun j z hz => h3 _ j _ z hy hz)⟩
      have hlt' : n < (xs.length : Int) := by omega
      simp [Instr.indexAt, asIntOf, run_underlying hu, hsz, h0, hlt', addr_add]
  · rename_i nm sz o m
    split at h
    case isFalse => cases h
    rename_i hc
    injection h with h
    subst h
    obtain ⟨h0, h1, h2⟩ := hc
    cases hx with
    | ms _ _ _ _ b p c hU hb hs hp hn' hc' =>
      refine ⟨.pointer (some ⟨b, p + n.toNat * ti.size, none⟩), ?_, .eptr nm _ 0 b _ hU hb ?_⟩
      · simp [Instr.indexAt, asIntOf, run_underlying hu, hsz, h0, h1, addr_add]
      · rw [hp, hs, h2, Nat.add_mul]
        omega
    | msZero => omega
  · cases h

def evalFieldAddr (P : Program) (s : TypeId) (f : Nat) (x : V) : Option V :=
  match fieldOf P s f, x with
  | some (off, _), .ptr nm o => some (.ptr nm (o + off))
  | some (off, _), .eptr nm i o => some (.eptr nm i (o + off))
  | some (off, _), .rptr cs => some (.rptr (cs.drop off))
  | _, _ => none
theorem evalFieldAddr_run {P : Program} {g : Gh} {w : World} {s : TypeId} {f : Nat} {x v : V} {a : Value} (h : evalFieldAddr P s f x = some v) (hx : RV g w x a) :
    ∃ v', (Instr.fieldAt s a f).run P w = .ok v' w ∧ RV g w v v' := by
  unfold evalFieldAddr at h
  split at h
  case h_4 => cases h
  all_goals
    rename_i off sz hf
    injection h with h
    subst h
    obtain ⟨fs, fd, ti, hu, hfd, hti, hsz, h0, hoff⟩ := fieldOf_spec hf
    have hs := run_sizeOf' hti w
    have h0' : ¬ ti.size = 0 := by omega
    subst hoff
    cases hx
    refine ⟨_, by simp [Instr.fieldAt, run_underlying hu, hfd, Instr.sureAddr, fieldPlace, hs, h0', addr_add] <;> rfl, ?_⟩
  · rename_i b hU hb
    exact .ptr _ _ b hU hb
  · rename_i b p hU hb hp
    exact .eptr _ _ _ b _ hU hb (by omega)
  · rename_i b o u hF h2 h3
    exact .rptr _ b _ (fun j => u (fd.offset + j)) hF (fun j y hy => by rw [List.getElem?_drop] at hy; rw [← h2 _ y hy]; congr 2; omega) (fun j y hy => by rw [List.getElem?_drop] at hy; exact h3 _ y hy)

def evalLen (P : Program) (t : TypeId) (x : V) : Option V :=
  match x, P.underlying t with
  | .d (.str s), some .string => some (.d (.int .i64 s.size))
  | .d (.sl xs), some (.slice _) => some (.d (.int .i64 xs.length))
  | .nil, some (.slice _) => some (.d (.int .i64 0))
  | .e0, some (.slice _) => some (.d (.int .i64 0))
  | .ms _ _ _ n, some (.slice _) => some (.d (.int .i64 n))
  | _, _ => none
theorem evalLen_run {P : Program} {g : Gh} {w : World} {t ty : TypeId} {x v : V} {a : Value} (h : evalLen P t x = some v) (hx : RV g w x a) :
    ∃ v', (Builtin.len_ #[t] ty #[a]).run P w = .ok v' w ∧ RV g w v v' := by
  unfold evalLen at h
  split at h
  case h_6 => cases h
  · rename_i s hu
    injection h with h
    subst h
    cases hx with | d hx =>
    cases hx
    exact ⟨.int .i64 s.size, by simp [Builtin.len_, run_underlying hu, goInt], .d (.int _ _)⟩
  · rename_i xs e hu
    injection h with h
    subst h
    obtain ⟨A, c, rfl, _⟩ := sliceLen hx
    exact ⟨.int .i64 xs.length, by simp [Builtin.len_, run_underlying hu, goInt], .d (.int _ _)⟩
  · rename_i e hu
    injection h with h
    subst h
    cases hx
    exact ⟨.int .i64 0, by simp [Builtin.len_, run_underlying hu, goInt], .d (.int _ _)⟩
  · rename_i e hu
    injection h with h
    subst h
    cases hx
    exact ⟨.int .i64 0, by simp [Builtin.len_, run_underlying hu, goInt], .d (.int _ _)⟩
  · rename_i n e hu
    injection h with h
    subst h
    cases hx <;> exact ⟨_, by simp [Builtin.len_, run_underlying hu, goInt] <;> rfl, .d (.int _ _)⟩

def evalExtract (x : V) (i : Nat) : Option V := match x with | .tup xs => xs[i]? | _ => none
theorem evalExtract_run {P : Program} {g : Gh} {w : World} {i : Nat} {x v : V} {a : Value} (h : evalExtract x i = some v) (hx : RV g w x a) :
    ∃ v', (Instr.extract a i).run P w = .ok v' w ∧ RV g w v v' := by
  unfold evalExtract at h
  split at h
  case h_2 => cases h
  cases hx with
  | tup xs vs hl hr =>
    have := hr i v h
    have hlt : i < vs.size := by rw [hl]; exact (List.getElem?_eq_some_iff.1 h).1
    refine ⟨vs[i], by simp [Instr.extract, hlt], ?_⟩
    simpa [hlt] using this

/-- A struct out of its parts: the cells of its zero, then part by part. -/
def setRange (cs : List V) (o : Nat) (ys : List V) : List V := cs.take o ++ ys ++ cs.drop (o + ys.length)
def fillV (P : Program) (s : TypeId) : List V → List (Nat × V) → Option (List V)
  | cs, [] => some cs
  | cs, (i, x) :: rest => match fieldOf P s i with
    | some (off, sz) => if x.firm = true ∧ x.cells.length = sz ∧ off + sz ≤ cs.length then fillV P s (setRange cs off x.cells) rest else none
    | none => none

/-- The cells of a value. -/
theorem rv_cells {g : Gh} {w : World} {x : V} {v : Value} (h : RV g w x v) (hf : x.firm = true) : v.cells.size = x.cells.length ∧ ∀ (j : Nat) (y : V), x.cells[j]? = some y → RV g w y (v.cells.getD j undef) := by
  have single : ∀ {x : V} {v : Value}, x.cells = [x] → v.cells = #[v] → RV g w x v → v.cells.size = x.cells.length ∧ ∀ (j : Nat) (y : V), x.cells[j]? = some y → RV g w y (v.cells.getD j undef) := by
    intro x v h1 h2 h3
    rw [h1, h2]
    refine ⟨rfl, fun j y hy => ?_⟩
    cases j with
    | zero => simp at hy; subst hy; simpa using h3
    | succ j => simp at hy
  cases h with
  | undef => cases hf
  | tup => cases hf
  | d hd =>
    cases hd with
    | agg xs vs hl hr =>
      refine ⟨by simpa [V.cells, Value.cells] using hl, fun j y hy => ?_⟩
      simp only [V.cells, List.getElem?_map, Option.map_eq_some_iff] at hy
      obtain ⟨z, hz, rfl⟩ := hy
      exact .d (hr j z hz)
    | int k n => exact single rfl rfl (.d (.int k n))
    | bool b => exact single rfl rfl (.d (.bool b))
    | str s => exact single rfl rfl (.d (.str s))
    | slNil a c => exact single rfl rfl (.d (.slNil a c))
    | sl xs b o c sz u hF hc h1 h2 h3 => exact single rfl rfl (.d (.sl xs b o c sz u hF hc h1 h2 h3))
  | agg xs vs hl hr => exact ⟨by simpa [V.cells, Value.cells] using hl, hr⟩
  | nil => exact single rfl rfl .nil
  | e0 a => exact single rfl rfl (.e0 a)
  | ptr nm o b hU hb => exact single rfl rfl (.ptr nm o b hU hb)
  | eptr nm i o b p hU hb hp => exact single rfl rfl (.eptr nm i o b p hU hb hp)
  | rptr cs b o u hF h2 h3 => exact single rfl rfl (.rptr cs b o u hF h2 h3)
  | ms nm sz o n b p c hU hb hs hp hn hc => exact single rfl rfl (.ms nm sz o n b p c hU hb hs hp hn hc)
  | msZero nm sz o a hU => exact single rfl rfl (.msZero nm sz o a hU)
  | map nm b hU hb => exact single rfl rfl (.map nm b hU hb)
  | fn f cs vs hl hr => exact single rfl rfl (.fn f cs vs hl hr)

theorem setRange_get (cs ys : List V) (o : Nat) (h : o + ys.length ≤ cs.length) (k : Nat) : (setRange cs o ys)[k]? = if o ≤ k ∧ k < o + ys.length then ys[k - o]? else cs[k]? := by
  unfold setRange
  have hl : (cs.take o).length = o := by simp; omega
  by_cases h1 : k < o
  · rw [if_neg (by omega), List.append_assoc, List.getElem?_append_left (by omega), List.getElem?_take_of_lt h1]
  · by_cases h2 : k < o + ys.length
    · rw [if_pos (by omega), List.append_assoc, List.getElem?_append_right (by omega), hl, List.getElem?_append_left (by omega)]
    · rw [if_neg (by omega), List.append_assoc, List.getElem?_append_right (by omega), hl, List.getElem?_append_right (by omega), List.getElem?_drop]
      congr 1
      omega
theorem setRange_len (cs ys : List V) (o : Nat) (h : o + ys.length ≤ cs.length) : (setRange cs o ys).length = cs.length := by
  unfold setRange
  simp
  omega

/-- A list of cells related to an array. -/
def RA (g : Gh) (w : World) (cs : List V) (vs : Array Value) : Prop := vs.size = cs.length ∧ ∀ (j : Nat) (y : V), cs[j]? = some y → RV g w y (vs.getD j undef)

theorem fold_get (off : Nat) : ∀ (l : List Value) (k : Nat) (cs : Array Value) (i : Nat), ((l.zipIdx k).foldl (fun cs (p : Value × Nat) => cs.setIfInBounds (off + p.2) p.1) cs).getD i undef = if off + k ≤ i ∧ i < off + k + l.length ∧ i < cs.size then l.getD (i - (off + k)) undef else cs.getD i undef
  | [], k, cs, i => by
    simp only [List.zipIdx_nil, List.foldl_nil, List.length_nil]
    rw [if_neg (by omega)]
  | x :: l, k, cs, i => by
    simp only [List.zipIdx_cons, List.foldl_cons]
    rw [fold_get off l (k + 1)]
    simp only [Array.size_setIfInBounds, List.length_cons]
    by_cases h1 : i = off + k
    · subst h1
      rw [if_neg (by omega)]
      by_cases h2 : off + k < cs.size
      · rw [if_pos ⟨by omega, by omega, h2⟩]
        simp [h2]
      · rw [if_neg (by omega)]
        simp [h2]
    · by_cases h2 : off + (k + 1) ≤ i ∧ i < off + (k + 1) + l.length ∧ i < cs.size
      · rw [if_pos h2, if_pos ⟨by omega, by omega, by omega⟩]
        have : i - (off + k) = (i - (off + (k + 1))) + 1 := by omega
        rw [this]
        simp
      · rw [if_neg h2, if_neg (by omega)]
        simp only [Array.getD_eq_getD_getElem?, Array.getElem?_setIfInBounds]
        rw [if_neg (by omega)]
theorem fold_size (off : Nat) : ∀ (l : List (Value × Nat)) (cs : Array Value), (l.foldl (fun cs (p : Value × Nat) => cs.setIfInBounds (off + p.2) p.1) cs).size = cs.size
  | [], cs => rfl
  | x :: l, cs => by simp only [List.foldl_cons]; rw [fold_size off l]; simp

theorem RA.fold {g : Gh} {w : World} {cs : List V} {vs : Array Value} (h : RA g w cs vs) {x : V} {v : Value} (hx : RV g w x v) (hf : x.firm = true) (off : Nat) (hle : off + x.cells.length ≤ cs.length) :
    RA g w (setRange cs off x.cells) (v.cells.zipIdx.foldl (fun cs (p : Value × Nat) => cs.setIfInBounds (off + p.2) p.1) vs) := by
  obtain ⟨h1, h2⟩ := rv_cells hx hf
  refine ⟨?_, fun j y hy => ?_⟩
  · rw [← Array.foldl_toList, Array.toList_zipIdx, fold_size, setRange_len _ _ _ hle]
    exact h.1
  · rw [← Array.foldl_toList, Array.toList_zipIdx, fold_get]
    rw [setRange_get _ _ _ hle] at hy
    have hs : v.cells.toList.length = x.cells.length := by simpa using h1
    rw [hs]
    split at hy
    · rename_i hc
      rw [if_pos ⟨by omega, by omega, by rw [h.1]; omega⟩]
      have := h2 _ y hy
      simpa [List.getD, Array.getD_eq_getD_getElem?] using this
    · rename_i hc
      rw [if_neg (by omega)]
      exact h.2 j y hy

theorem fillV_run {P : Program} {g : Gh} {w : World} {s : TypeId} (pl : Array (Nat × Nat)) (hpl : ∀ i off sz, fieldOf P s i = some (off, sz) → pl[i]? = some (off, sz)) {lk : Operand → V} {ev : Operand → Value} (hev : ∀ x, RV g w (lk x) (ev x)) :
    ∀ (ps : List (Nat × Operand)) (cs cs' : List V) (vs : Array Value), fillV P s cs (ps.map fun p => (p.1, lk p.2)) = some cs' → RA g w cs vs →
      ∃ vs', Instr.fill (pl[·]?) vs (ps.map fun p => (p.1, ev p.2)) = some vs' ∧ RA g w cs' vs'
  | [], cs, cs', vs, h, hr => by
    simp [fillV] at h
    subst h
    exact ⟨vs, rfl, hr⟩
  | (i, x) :: ps, cs, cs', vs, h, hr => by
    simp only [List.map_cons, fillV] at h
    split at h
    case h_2 => cases h
    rename_i off sz hf
    split at h
    case isFalse => cases h
    rename_i hc
    obtain ⟨hc1, hc2, hc3⟩ := hc
    have hx := hev x
    have hcl := (rv_cells hx hc1).1
    have hfold := hr.fold hx hc1 off (by omega)
    obtain ⟨vs', h5, h6⟩ := fillV_run pl hpl hev ps _ cs' _ h hfold
    refine ⟨vs', ?_, h6⟩
    simp only [List.map_cons, Instr.fill]
    rw [show pl[i]? = some (off, sz) from hpl i off sz hf]
    simp only
    rw [if_neg]
    · exact h5
    · rw [hcl, hc2, hr.1]
      simp
      omega

def placesOf (P : Program) (fs : Array Field) : Array (Nat × Nat) := fs.map fun f => (f.offset, ((P.info? f.type).map (·.size)).getD 0)
def bldOk (P : Program) (t : TypeId) : Bool := match P.underlying t with
  | some (.struct fs) => fs.all (fun f => (P.info? f.type).isSome)
  | _ => false
def evalBuild (P : Program) (t : TypeId) (parts : List (Nat × V)) : Option V :=
  match tinf P t with
  | some ti => if bldOk P t = true then (fillV P t (ti.zero.cells.toList.map ofScalar) parts).map mkAgg else none
  | none => none

theorem run_mapM_array {P : Program} {w : World} {α β : Type} (f : α → Sem β) (r : α → β) (xs : Array α) (h : ∀ x ∈ xs, (f x).run P w = .ok (r x) w) : (xs.mapM f).run P w = .ok (xs.map r) w := by
  have key : ∀ (l : List α), (∀ x ∈ l, (f x).run P w = .ok (r x) w) → (l.mapM f).run P w = .ok (l.map r) w := by
    intro l
    induction l with
    | nil => intro _; simp
    | cons x l ih =>
      intro hl
      simp [List.mapM_cons, hl x (by simp), ih (fun y hy => hl y (by simp [hy]))]
  rw [Array.mapM_eq_mapM_toList]
  simp [key xs.toList (fun x hx => h x (by simpa using hx))]
  apply Array.ext'
  simp

theorem evalBuild_run {P : Program} {g : Gh} {w : World} {t : TypeId} {parts : Array (Nat × Operand)} {v : V} {lk : Operand → V} {ev : Operand → Value} (hev : ∀ x, RV g w (lk x) (ev x)) (h : evalBuild P t (parts.toList.map fun p => (p.1, lk p.2)) = some v) :
    ∃ v', (Instr.build t (parts.map fun (i, x) => (i, ev x))).run P w = .ok v' w ∧ RV g w v v' := by
  unfold evalBuild at h
  split at h
  case h_2 => cases h
  rename_i ti hti
  split at h
  case isFalse => cases h
  rename_i hbo
  unfold bldOk at hbo
  split at hbo
  case h_2 => cases hbo
  rename_i fs hu
  have hall := hbo
  obtain ⟨i, d, hi, hd, hz, hzs, hs, _⟩ := tinf_spec hti
  cases hf : fillV P t (ti.zero.cells.toList.map ofScalar) (parts.toList.map fun p => (p.1, lk p.2)) with
  | none => simp [hf] at h
  | some cs' =>
    simp [hf] at h
    subst h
    have hmap : (Array.mapM (fun (f : Field) => (Prod.mk f.offset <$> sizeOf f.type : Sem (Nat × Nat))) fs).run P w = .ok (placesOf P fs) w := by
      refine run_mapM_array _ (fun (f : Field) => (f.offset, ((P.info? f.type).map (·.size)).getD 0)) fs fun f hf => ?_
      have hsome : (P.info? f.type).isSome := by
        rw [Array.all_eq_true_iff_forall_mem] at hall
        exact hall f hf
      obtain ⟨j, hj⟩ := Option.isSome_iff_exists.1 hsome
      simp [sizeOf, typeInfo, hj]
    have hra : RA g w (ti.zero.cells.toList.map ofScalar) ti.zero.cells := by
      refine ⟨by simp, fun j y hy => ?_⟩
      simp only [List.getElem?_map, Option.map_eq_some_iff] at hy
      obtain ⟨c, hc, rfl⟩ := hy
      have : ti.zero.cells.getD j undef = c := by
        simp at hc
        simp [hc]
      rw [this]
      exact ofScalar_rv g w c
    obtain ⟨vs', h5, h6⟩ := fillV_run (P := P) (s := t) (placesOf P fs) (fun i off sz hf => by
      obtain ⟨fs', fd, ti', hu', hfd, hti', hsz', _, ho⟩ := fieldOf_spec hf
      rw [hu] at hu'
      injection hu' with hu'
      injection hu' with hu'
      subst hu'
      obtain ⟨i', d', hi', _, _, _, hs', _⟩ := tinf_spec hti'
      simp [placesOf, hfd, hi', hs', hsz', ho]) hev parts.toList _ _ _ hf hra
    refine ⟨.agg vs', ?_, mkAgg_rv h6.1 h6.2⟩
    have hzr := run_zeroValue' hti w
    have hfill : Instr.fill (fun x => (placesOf P fs)[x]?) ti.zero.cells (parts.map fun (i, x) => (i, ev x)).toList = some vs' := by
      rw [Array.toList_map]
      exact h5
    simp [Instr.build, hzr, run_underlying hu, hmap]
    simp only [Array.toList_map] at hfill
    rw [hfill]
    rfl
end Go.Proofs.Ytafeehlpmdligaa.M
