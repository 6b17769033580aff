/- Abstract states of a walk: pure data, values and blocks, and what each stands for in memory. Plain lemmas over any program. -/
import Derived.WalkKit
import Derived.WalkSpells
import Derived.WalkLawsBesides
import Derived.Orders
import Derived.Deep.DeepAppendWide
namespace Go.Proofs.Ytjjmedgibcffhaa.M
open Go.RowKit
set_option linter.unusedVariables false
set_option linter.unusedSimpArgs false

/-- Pure data: it lies in memory that nobody writes. A struct is the row of its cells. -/
inductive D where
  | int (k : IntKind) (n : Int)
  | bool (b : Bool)
  | str (s : ByteArray)
  | sl (xs : List D)
  | agg (xs : List D)
  | nil

def D.cells : D → List D
  | .agg xs => xs
  | x => [x]

/-- What pure data stands for, through the blocks of F. -/
inductive RD (F : Nat → Prop) (w : World) : D → Value → Prop
  | int (k : IntKind) (n : Int) : RD F w (.int k n) (.int k n)
  | bool (b : Bool) : RD F w (.bool b) (.bool b)
  | str (s : ByteArray) : RD F w (.str s) (.string s)
  | slNil (a : Option Addr) (c : Nat) : RD F w (.sl []) (.slice a 0 c)
  | sl (xs : List D) (b o c sz : Nat) (u : Nat → Nat → Value) (hF : F b) (hc : xs.length ≤ c)
      (h1 : ∀ (i : Nat) (x : D), xs[i]? = some x → x.cells.length = sz)
      (h2 : ∀ (i j : Nat) (x y : D), xs[i]? = some x → x.cells[j]? = some y → w.cell? ⟨b, o + i * sz + j, none⟩ = some (u i j))
      (h3 : ∀ (i j : Nat) (x y : D), xs[i]? = some x → x.cells[j]? = some y → RD F w y (u i j)) : RD F w (.sl xs) (.slice (some ⟨b, o, none⟩) xs.length c)
  | agg (xs : List D) (vs : Array Value) (hl : vs.size = xs.length) (h : ∀ (j : Nat) (y : D), xs[j]? = some y → RD F w y (vs.getD j undef)) : RD F w (.agg xs) (.agg vs)
  | nil : RD F w .nil (.slice none 0 0)

theorem cell_congr {w w' : World} {b : Nat} (h : w'.heap[b]? = w.heap[b]?) (o : Nat) : w'.cell? ⟨b, o, none⟩ = w.cell? ⟨b, o, none⟩ := by
  unfold World.cell?
  rw [h]

theorem RD.mono {F F' : Nat → Prop} {w w' : World} (hF : ∀ b, F b → F' b) (hk : ∀ b, F b → w'.heap[b]? = w.heap[b]?) {x : D} {v : Value} (h : RD F w x v) : RD F' w' x v := by
  induction h with
  | int k n => exact .int k n
  | bool b => exact .bool b
  | str s => exact .str s
  | slNil a c => exact .slNil a c
  | sl xs b o c sz u h0 hc h1 h2 h3 ih => exact .sl xs b o c sz u (hF b h0) hc h1 (fun i j x y hx hy => by rw [cell_congr (hk b h0)]; exact h2 i j x y hx hy) ih
  | agg xs vs hl h ih => exact .agg xs vs hl ih
  | nil => exact .nil

/-- Values of slots and cells. undef: nothing is known. nil, e0: slices without room. ptr: into a block by its name (struct or variable). eptr: into element i of a row. rptr: into pure data, its cells from there on. ms: elements o to o + n of a row by its name. vs: a slice that nobody writes, of values that may be own ones. -/
inductive V where
  | undef
  | d (x : D)
  | nil
  | e0
  | ptr (nm o : Nat)
  | eptr (nm i o : Nat)
  | rptr (cs : List D)
  | ms (nm sz o n : Nat)
  | map (nm : Nat)
  | fn (f : FuncId) (cs : List V)
  | agg (xs : List V)
  | tup (xs : List V)
  | vs (xs : List V)
deriving Inhabited
def V.cells : V → List V
  | .d (.agg xs) => xs.map V.d
  | .agg xs => xs
  | x => [x]

/-- Where a block lies: its number (none: no block yet), where it begins, how many cells an element takes, how many elements it has room for. -/
structure Rf where
  blk : Option Nat
  off : Nat
  sz : Nat
  tot : Nat

/-- Ghost state: where named blocks lie, which names have been used, which blocks hold pure data. -/
structure Gh where
  ρ : Nat → Rf
  U : Nat → Prop
  F : Nat → Prop

inductive RV (g : Gh) (w : World) : V → Value → Prop
  | undef (v : Value) : RV g w .undef v
  | d {x : D} {v : Value} (h : RD g.F w x v) : RV g w (.d x) v
  | nil : RV g w .nil (.slice none 0 0)
  | e0 (a : Option Addr) : RV g w .e0 (.slice a 0 0)
  | ptr (nm o b : Nat) (hU : g.U nm) (hb : (g.ρ nm).blk = some b) : RV g w (.ptr nm o) (.pointer (some ⟨b, o, none⟩))
  | eptr (nm i o b p : Nat) (hU : g.U nm) (hb : (g.ρ nm).blk = some b) (hp : p = (g.ρ nm).off + i * (g.ρ nm).sz + o) : RV g w (.eptr nm i o) (.pointer (some ⟨b, p, none⟩))
  | rptr (cs : List D) (b o : Nat) (u : Nat → Value) (hF : g.F b) (h2 : ∀ (j : Nat) (y : D), cs[j]? = some y → w.cell? ⟨b, o + j, none⟩ = some (u j)) (h3 : ∀ (j : Nat) (y : D), cs[j]? = some y → RD g.F w y (u j)) : RV g w (.rptr cs) (.pointer (some ⟨b, o, none⟩))
  | ms (nm sz o n b p c : Nat) (hU : g.U nm) (hb : (g.ρ nm).blk = some b) (hs : (g.ρ nm).sz = sz) (hp : p = (g.ρ nm).off + o * sz) (hn : n ≤ c) (hc : o + c ≤ (g.ρ nm).tot) : RV g w (.ms nm sz o n) (.slice (some ⟨b, p, none⟩) n c)
  | msZero (nm sz o : Nat) (a : Option Addr) (hU : g.U nm) : RV g w (.ms nm sz o 0) (.slice a 0 0)
  | map (nm b : Nat) (hU : g.U nm) (hb : (g.ρ nm).blk = some b) : RV g w (.map nm) (.map (some b))
  | fn (f : FuncId) (cs : List V) (vs : Array Value) (hl : vs.size = cs.length) (h : ∀ (j : Nat) (y : V), cs[j]? = some y → RV g w y (vs.getD j undef)) : RV g w (.fn f cs) (.func (.func f) #[] vs)
  | agg (xs : List V) (vs : Array Value) (hl : vs.size = xs.length) (h : ∀ (j : Nat) (y : V), xs[j]? = some y → RV g w y (vs.getD j undef)) : RV g w (.agg xs) (.agg vs)
  | tup (xs : List V) (vs : Array Value) (hl : vs.size = xs.length) (h : ∀ (j : Nat) (y : V), xs[j]? = some y → RV g w y (vs.getD j undef)) : RV g w (.tup xs) (.tuple vs)
  | vs (xs : List V) (b o c sz : Nat) (u : Nat → Nat → Value) (hF : g.F b) (hc : xs.length ≤ c) (h1 : ∀ (i : Nat) (x : V), xs[i]? = some x → x.cells.length = sz)
      (h2 : ∀ (i j : Nat) (x y : V), xs[i]? = some x → x.cells[j]? = some y → w.cell? ⟨b, o + i * sz + j, none⟩ = some (u i j))
      (h3 : ∀ (i j : Nat) (x y : V), xs[i]? = some x → x.cells[j]? = some y → RV g w y (u i j)) : RV g w (.vs xs) (.slice (some ⟨b, o, none⟩) xs.length c)

/-- A later ghost state and world: what is pure stays as it is. -/
structure Ext (g : Gh) (w : World) (g' : Gh) (w' : World) : Prop where
  used : ∀ n, g.U n → g'.U n
  same : ∀ n, g.U n → g'.ρ n = g.ρ n
  fz : ∀ b, g.F b → g'.F b
  keep : ∀ b, g.F b → w'.heap[b]? = w.heap[b]?
  os : w'.os = w.os
  tape : w'.tape = w.tape
  output : w'.output = w.output
  size : w.heap.size ≤ w'.heap.size

theorem Ext.refl (g : Gh) (w : World) : Ext g w g w := ⟨fun _ h => h, fun _ _ => rfl, fun _ h => h, fun _ _ => rfl, rfl, rfl, rfl, Nat.le_refl _⟩
theorem Ext.trans {g g1 g2 : Gh} {w w1 w2 : World} (a : Ext g w g1 w1) (b : Ext g1 w1 g2 w2) : Ext g w g2 w2 :=
  ⟨fun n h => b.used n (a.used n h), fun n h => (b.same n (a.used n h)).trans (a.same n h), fun i h => b.fz i (a.fz i h), fun i h => (b.keep i (a.fz i h)).trans (a.keep i h), b.os.trans a.os, b.tape.trans a.tape, b.output.trans a.output, Nat.le_trans a.size b.size⟩

theorem RV.mono {g g' : Gh} {w w' : World} (e : Ext g w g' w') {x : V} {v : Value} (h : RV g w x v) : RV g' w' x v := by
  induction h with
  | undef v => exact .undef v
  | d h => exact .d (h.mono e.fz e.keep)
  | nil => exact .nil
  | e0 a => exact .e0 a
  | ptr nm o b hU hb => exact .ptr nm o b (e.used nm hU) (by rw [e.same nm hU]; exact hb)
  | eptr nm i o b p hU hb hp => exact .eptr nm i o b p (e.used nm hU) (by rw [e.same nm hU]; exact hb) (by rw [e.same nm hU]; exact hp)
  | rptr cs b o u hF h2 h3 => exact .rptr cs b o u (e.fz b hF) (fun j y hy => by rw [cell_congr (e.keep b hF)]; exact h2 j y hy) (fun j y hy => (h3 j y hy).mono e.fz e.keep)
  | ms nm sz o n b p c hU hb hs hp hn hc => exact .ms nm sz o n b p c (e.used nm hU) (by rw [e.same nm hU]; exact hb) (by rw [e.same nm hU]; exact hs) (by rw [e.same nm hU]; exact hp) hn (by rw [e.same nm hU]; exact hc)
  | msZero nm sz o a hU => exact .msZero nm sz o a (e.used nm hU)
  | map nm b hU hb => exact .map nm b (e.used nm hU) (by rw [e.same nm hU]; exact hb)
  | fn f cs vs hl h ih => exact .fn f cs vs hl ih
  | agg xs vs hl h ih => exact .agg xs vs hl ih
  | tup xs vs hl h ih => exact .tup xs vs hl ih
  | vs xs b o c sz u hF hc h1 h2 h3 ih => exact .vs xs b o c sz u (e.fz b hF) hc h1 (fun i j x y hx hy => by rw [cell_congr (e.keep b hF)]; exact h2 i j x y hx hy) ih

/-- The pure parts of a list of values, if all are pure. -/
def allD : List V → Option (List D)
  | [] => some []
  | .d x :: xs => (allD xs).map (x :: ·)
  | _ :: _ => none
theorem allD_map (ds : List D) : allD (ds.map V.d) = some ds := by
  induction ds with
  | nil => rfl
  | cons x xs ih => simp [allD, ih]
theorem allD_some : ∀ {xs : List V} {ds : List D}, allD xs = some ds → xs = ds.map V.d
  | [], ds, h => by simp [allD] at h; subst h; rfl
  | x :: xs, ds, h => by
    cases x <;> simp [allD] at h
    rename_i y
    obtain ⟨es, h1, rfl⟩ := h
    simp [allD_some h1]

/-- May it stand in memory, as the row of its cells? -/
def V.firm : V → Bool
  | .undef | .tup _ => false
  | _ => true
def V.one : V → Bool
  | .undef | .tup _ | .agg _ | .d (.agg _) => false
  | _ => true
def mkAgg (xs : List V) : V := match allD xs with | some ds => .d (.agg ds) | none => .agg xs

theorem mkAgg_rv {g : Gh} {w : World} {xs : List V} {vs : Array Value} (hl : vs.size = xs.length) (h : ∀ (j : Nat) (y : V), xs[j]? = some y → RV g w y (vs.getD j undef)) : RV g w (mkAgg xs) (.agg vs) := by
  unfold mkAgg
  split
  · rename_i ds hd
    have := allD_some hd
    subst this
    refine .d (.agg ds vs (by simpa using hl) fun j y hy => ?_)
    have := h j (.d y) (by simp [hy])
    cases this
    assumption
  · exact .agg xs vs hl h

/-- Blocks by name: a variable or struct, a row of elements, a map. -/
inductive KK where
  | int (k : IntKind)
  | str
  | pair (k : IntKind)

inductive Blk where
  | box (cs : List V)
  | row (sz : Nat) (xs : List V)
  | map (kk : KK) (m : D → Option V)

/-- Block b holds a map that reads as f. -/
def MapIn {κ : Type} (enc : κ → Value) (w : World) (b : Nat) (f : κ → Option Value) : Prop :=
  ∃ es clock, w.heap[b]? = some (.map es clock) ∧ (∀ e ∈ es.toList, ∃ k, e.key = enc k) ∧ es.toList.Pairwise (fun x y => x.key ≠ y.key) ∧
    ∀ k v, f k = some v ↔ ∃ e ∈ es.toList, e.key = enc k ∧ e.val = v

inductive OptRV (g : Gh) (w : World) : Option V → Option Value → Prop
  | none : OptRV g w none none
  | some {x : V} {v : Value} (h : RV g w x v) : OptRV g w (some x) (some v)

/-- Pairs of a text and a number as keys. -/
def pairKey (k : IntKind) (p : ByteArray × Int) : Value := .agg #[.string p.1, .int k p.2]

def BlkOK (g : Gh) (w : World) (nm : Nat) : Blk → Prop
  | .box cs => ∃ b vs t, (g.ρ nm).blk = some b ∧ w.heap[b]? = some (.cells vs t (0, 0)) ∧ vs.size = cs.length ∧ ∀ (j : Nat) (y : V), cs[j]? = some y → RV g w y (vs.getD j undef)
  | .row sz xs => (g.ρ nm).sz = sz ∧ xs.length ≤ (g.ρ nm).tot ∧ (∀ (i : Nat) (x : V), xs[i]? = some x → x.cells.length = sz) ∧
      ((g.ρ nm).blk = none ∧ xs = [] ∨ ∃ b vs t, (g.ρ nm).blk = some b ∧ w.heap[b]? = some (.cells vs t (0, 0)) ∧ (g.ρ nm).off + (g.ρ nm).tot * sz ≤ vs.size ∧
        ∀ (i j : Nat) (x y : V), xs[i]? = some x → x.cells[j]? = some y → RV g w y (vs.getD ((g.ρ nm).off + i * sz + j) undef))
  | .map kk m => ∃ b, (g.ρ nm).blk = some b ∧ match kk with
      | .int k => ∃ f, MapIn (Value.int k) w b f ∧ ∀ i, OptRV g w (m (.int k i)) (f i)
      | .str => ∃ f, MapIn Value.string w b f ∧ ∀ s, OptRV g w (m (.str s)) (f s)
      | .pair k => ∃ f, MapIn (pairKey k) w b f ∧ ∀ s i, OptRV g w (m (.agg [.str s, .int k i])) (f (s, i))

theorem OptRV.mono {g g' : Gh} {w w' : World} (e : Ext g w g' w') {x : Option V} {v : Option Value} (h : OptRV g w x v) : OptRV g' w' x v := by
  cases h with
  | none => exact .none
  | some h => exact .some (h.mono e)
theorem MapIn.same {κ : Type} {enc : κ → Value} {w w' : World} {b : Nat} {f : κ → Option Value} (h : MapIn enc w b f) (hs : w'.heap[b]? = w.heap[b]?) : MapIn enc w' b f := by
  obtain ⟨es, clock, hb, r⟩ := h
  exact ⟨es, clock, hs.trans hb, r⟩

theorem BlkOK.mono {g g' : Gh} {w w' : World} {nm : Nat} {k : Blk} (h : BlkOK g w nm k) (e : Ext g w g' w') (hU : g.U nm) (hk : ∀ b, (g.ρ nm).blk = some b → w'.heap[b]? = w.heap[b]?) : BlkOK g' w' nm k := by
  have er := e.same nm hU
  cases k with
  | box cs =>
    obtain ⟨b, vs, t, h1, h2, h3, h4⟩ := h
    exact ⟨b, vs, t, by rw [er]; exact h1, (hk b h1).trans h2, h3, fun j y hy => (h4 j y hy).mono e⟩
  | row sz xs =>
    obtain ⟨h1, h2, h3, h4⟩ := h
    refine ⟨by rw [er]; exact h1, by rw [er]; exact h2, h3, ?_⟩
    rcases h4 with ⟨h4, h5⟩ | ⟨b, vs, t, h4, h5, h6, h7⟩
    · exact .inl ⟨by rw [er]; exact h4, h5⟩
    · exact .inr ⟨b, vs, t, by rw [er]; exact h4, (hk b h4).trans h5, by rw [er]; exact h6, fun i j x y hx hy => by rw [er]; exact (h7 i j x y hx hy).mono e⟩
  | map kk m =>
    obtain ⟨b, h1, h2⟩ := h
    refine ⟨b, by rw [er]; exact h1, ?_⟩
    cases kk with
    | int k => obtain ⟨f, h3, h4⟩ := h2; exact ⟨f, h3.same (hk b h1), fun i => (h4 i).mono e⟩
    | str => obtain ⟨f, h3, h4⟩ := h2; exact ⟨f, h3.same (hk b h1), fun i => (h4 i).mono e⟩
    | pair k => obtain ⟨f, h3, h4⟩ := h2; exact ⟨f, h3.same (hk b h1), fun s i => (h4 s i).mono e⟩

/-- The named blocks H lie in memory, apart from each other and from what is pure. -/
structure RS (g : Gh) (w : World) (H : Nat → Option Blk) : Prop where
  ok : ∀ nm k, H nm = some k → g.U nm ∧ BlkOK g w nm k
  inj : ∀ n m b, (H n).isSome → (H m).isSome → (g.ρ n).blk = some b → (g.ρ m).blk = some b → n = m
  notF : ∀ n b, (H n).isSome → (g.ρ n).blk = some b → ¬ g.F b ∧ b < w.heap.size
  ltF : ∀ b, g.F b → b < w.heap.size

def hset (H : Nat → Option Blk) (nm : Nat) (k : Option Blk) : Nat → Option Blk := fun n => if n = nm then k else H n

/-- Fewer blocks. -/
theorem RS.less {g : Gh} {w : World} {H H' : Nat → Option Blk} (h : RS g w H) (hs : ∀ n k, H' n = some k → H n = some k) : RS g w H' := by
  have hi : ∀ n, (H' n).isSome → (H n).isSome := fun n hn => by
    obtain ⟨k, hk⟩ := Option.isSome_iff_exists.1 hn
    simp [hs n k hk]
  exact ⟨fun n k hk => h.ok n k (hs n k hk), fun n m b hn hm => h.inj n m b (hi n hn) (hi m hm), fun n b hn => h.notF n b (hi n hn), h.ltF⟩

/-- One named block has changed (or come anew). -/
theorem RS.put {g g' : Gh} {w w' : World} {H : Nat → Option Blk} {nm : Nat} {k : Blk} (h : RS g w H) (e : Ext g w g' w')
    (hk : ∀ n b, n ≠ nm → (H n).isSome → (g.ρ n).blk = some b → w'.heap[b]? = w.heap[b]?)
    (hU : g'.U nm) (hok : BlkOK g' w' nm k)
    (hnew : ∀ b, (g'.ρ nm).blk = some b → ¬ g'.F b ∧ b < w'.heap.size ∧ ∀ n, n ≠ nm → (H n).isSome → (g.ρ n).blk ≠ some b)
    (hF : ∀ b, g'.F b → b < w'.heap.size ∧ ∀ n, n ≠ nm → (H n).isSome → (g.ρ n).blk ≠ some b) : RS g' w' (hset H nm (some k)) := by
  have hsome : ∀ n, n ≠ nm → (hset H nm (some k) n).isSome → (H n).isSome := fun n hn h' => by simpa [hset, hn] using h'
  have hU' : ∀ n, (H n).isSome → g.U n := fun n hn => by
    obtain ⟨k', hk'⟩ := Option.isSome_iff_exists.1 hn
    exact (h.ok n k' hk').1
  refine ⟨?_, ?_, ?_, fun b hb => (hF b hb).1⟩
  · intro n k' hk'
    by_cases hn : n = nm
    · subst hn
      simp [hset] at hk'
      subst hk'
      exact ⟨hU, hok⟩
    · simp [hset, hn] at hk'
      have hs : (H n).isSome := by simp [hk']
      exact ⟨e.used n (hU' n hs), (h.ok n k' hk').2.mono e (hU' n hs) (fun b hb => hk n b hn hs hb)⟩
  · intro n m b hn hm hbn hbm
    by_cases h1 : n = nm
    · by_cases h2 : m = nm
      · rw [h1, h2]
      · subst h1
        have hs := hsome m h2 hm
        rw [e.same m (hU' m hs)] at hbm
        exact absurd hbm ((hnew b hbn).2.2 m h2 hs)
    · by_cases h2 : m = nm
      · subst h2
        have hs := hsome n h1 hn
        rw [e.same n (hU' n hs)] at hbn
        exact absurd hbn ((hnew b hbm).2.2 n h1 hs)
      · have hs1 := hsome n h1 hn
        have hs2 := hsome m h2 hm
        rw [e.same n (hU' n hs1)] at hbn
        rw [e.same m (hU' m hs2)] at hbm
        exact h.inj n m b hs1 hs2 hbn hbm
  · intro n b hn hb
    by_cases h1 : n = nm
    · subst h1
      exact ⟨(hnew b hb).1, (hnew b hb).2.1⟩
    · have hs := hsome n h1 hn
      rw [e.same n (hU' n hs)] at hb
      exact ⟨fun hf => (hF b hf).2 n h1 hs hb, Nat.lt_of_lt_of_le (h.notF n b hs hb).2 e.size⟩

/-- Nothing has changed but the ghost state. -/
theorem RS.ext {g g' : Gh} {w w' : World} {H : Nat → Option Blk} (h : RS g w H) (e : Ext g w g' w')
    (hk : ∀ n b, (H n).isSome → (g.ρ n).blk = some b → w'.heap[b]? = w.heap[b]?)
    (hF : ∀ b, g'.F b → b < w'.heap.size ∧ ∀ n, (H n).isSome → (g.ρ n).blk ≠ some b) : RS g' w' H := by
  have hU' : ∀ n, (H n).isSome → g.U n := fun n hn => by
    obtain ⟨k', hk'⟩ := Option.isSome_iff_exists.1 hn
    exact (h.ok n k' hk').1
  refine ⟨fun n k hk' => ?_, fun n m b hn hm hbn hbm => ?_, fun n b hn hb => ?_, fun b hb => (hF b hb).1⟩
  · have hs : (H n).isSome := by simp [hk']
    exact ⟨e.used n (hU' n hs), (h.ok n k hk').2.mono e (hU' n hs) (fun b hb => hk n b hs hb)⟩
  · rw [e.same n (hU' n hn)] at hbn
    rw [e.same m (hU' m hm)] at hbm
    exact h.inj n m b hn hm hbn hbm
  · rw [e.same n (hU' n hn)] at hb
    exact ⟨fun hf => (hF b hf).2 n hn hb, Nat.lt_of_lt_of_le (h.notF n b hn hb).2 e.size⟩

end Go.Proofs.Ytjjmedgibcffhaa.M
/- Operations that touch no memory, on abstract values: what they give, and that the machine's operation gives the same. -/
namespace Go.Proofs.Ytjjmedgibcffhaa.M
open Go.RowKit
set_option linter.unusedVariables false
set_option linter.unusedSimpArgs false

/-- What is known of a type: cells, bytes, is it a struct, its zero. -/
structure TI where
  size : Nat
  bytes : Nat
  agg : Bool
  zero : Value
def tinf (P : Program) (t : TypeId) : Option TI :=
  match P.info? t, P.underlying t with
  | some i, some d => match i.zero with
    | some z => if z.cells.size = i.size then some ⟨i.size, i.bytes, match d with | .struct _ | .array _ _ => true | _ => false, z⟩ else none
    | none => none
  | _, _ => none

section
variable {P : Program} {t : TypeId} {ti : TI}
theorem tinf_spec (h : tinf P t = some ti) : ∃ i d, P.info? t = some i ∧ P.underlying t = some d ∧ i.zero = some ti.zero ∧ ti.zero.cells.size = ti.size ∧ i.size = ti.size ∧ i.bytes = ti.bytes ∧ ti.agg = (match d with | .struct _ | .array _ _ => true | _ => false) := by
  unfold tinf at h
  split at h
  · rename_i i d hi hd
    split at h
    · rename_i z hz
      split at h
      · rename_i hs
        injection h with h
        subst h
        exact ⟨i, d, hi, hd, hz, hs, rfl, rfl, rfl⟩
      · cases h
    · cases h
  · cases h
theorem run_sizeOf' (h : tinf P t = some ti) (w : World) : (sizeOf t).run P w = .ok ti.size w := by
  obtain ⟨i, d, hi, hd, hz, _, hs, _⟩ := tinf_spec h
  simp [sizeOf, typeInfo, hi, hs]
theorem run_isAgg' (h : tinf P t = some ti) (w : World) : (isAgg t).run P w = .ok ti.agg w := by
  obtain ⟨i, d, hi, hd, hz, _, hs, _, ha⟩ := tinf_spec h
  rw [ha]
  cases d <;> simp [isAgg, run_underlying hd]
theorem run_zeroValue' (h : tinf P t = some ti) (w : World) : (zeroValue t).run P w = .ok ti.zero w := by
  obtain ⟨i, d, hi, hd, hz, _, hs, _⟩ := tinf_spec h
  simp [zeroValue, typeInfo, hi, hz]
theorem run_typeInfo' (h : tinf P t = some ti) (w : World) : ∃ i, (typeInfo t).run P w = .ok i w ∧ i.bytes = ti.bytes ∧ i.size = ti.size := by
  obtain ⟨i, d, hi, hd, hz, _, hs, hb, _⟩ := tinf_spec h
  exact ⟨i, by simp [typeInfo, hi], hb, hs⟩
end

/-- A slice type's elements. -/
def selem (P : Program) (t : TypeId) : Option TypeId :=
  match P.underlying t with
  | some (.slice e) => some e
  | _ => none
theorem selem_spec {P : Program} {t e : TypeId} (h : selem P t = some e) : P.underlying t = some (.slice e) := by
  unfold selem at h
  split at h
  · rename_i e' he
    injection h with h
    rw [he, h]
  · cases h
/-- A field: its first cell, its cells. -/
def fieldOf (P : Program) (s : TypeId) (f : Nat) : Option (Nat × Nat) :=
  match P.underlying s with
  | some (.struct fs) => match fs[f]? with
    | some fd => match tinf P fd.type with
      | some ti => if ti.size = 0 then none else some (fd.offset, ti.size)
      | none => none
    | none => none
  | _ => none
theorem fieldOf_spec {P : Program} {s : TypeId} {f off sz : Nat} (h : fieldOf P s f = some (off, sz)) : ∃ fs fd ti, P.underlying s = some (.struct fs) ∧ fs[f]? = some fd ∧ tinf P fd.type = some ti ∧ ti.size = sz ∧ sz ≠ 0 ∧ fd.offset = off := by
  unfold fieldOf at h
  split at h
  · rename_i fs hs
    split at h
    · rename_i fd hfd
      split at h
      · rename_i ti hti
        split at h
        · cases h
        · rename_i h0
          injection h with h
          injection h with h1 h2
          exact ⟨fs, fd, ti, hs, hfd, hti, h2, by rw [← h2]; exact h0, h1⟩
      · cases h
    · cases h
  · cases h

/-- Constants and zeros. -/
def ofScalar : Value → V
  | .int k n => .d (.int k n)
  | .bool b => .d (.bool b)
  | .string s => .d (.str s)
  | .slice none 0 0 => .nil
  | _ => .undef
def ofConst : Value → V
  | .agg cs => mkAgg (cs.toList.map ofScalar)
  | v => ofScalar v
theorem ofScalar_rv (g : Gh) (w : World) (v : Value) : RV g w (ofScalar v) v := by
  unfold ofScalar
  split
  · exact .d (.int _ _)
  · exact .d (.bool _)
  · exact .d (.str _)
  · exact .nil
  · exact .undef _
theorem ofConst_rv (g : Gh) (w : World) (v : Value) : RV g w (ofConst v) v := by
  unfold ofConst
  split
  · rename_i cs
    refine mkAgg_rv (by simp) fun j y hy => ?_
    simp only [List.getElem?_map, Option.map_eq_some_iff] at hy
    obtain ⟨c, hc, rfl⟩ := hy
    have : cs.getD j undef = c := by
      simp at hc
      simp [hc]
    rw [this]
    exact ofScalar_rv g w c
  · exact ofScalar_rv g w v

def evalBin (op : BinOp) : V → V → Option V
  | .d (.int k a), .d (.int k' b) => match op with
    | .shl => if b < 0 then none else some (.d (.int k (k.wrap (a * 2 ^ (min b.toNat k.bits)))))
    | .shr => if b < 0 then none else some (.d (.int k (a.fdiv (2 ^ (min b.toNat k.bits)))))
    | _ => if k = k' then match op with
      | .add => some (.d (.int k (k.wrap (a + b))))
      | .sub => some (.d (.int k (k.wrap (a - b))))
      | .mul => some (.d (.int k (k.wrap (a * b))))
      | .quo => if b = 0 then none else some (.d (.int k (k.wrap (a.tdiv b))))
      | .rem => if b = 0 then none else some (.d (.int k (a.tmod b)))
      | .and => some (.d (.int k (k.wrap (BitVec.ofInt k.bits a &&& BitVec.ofInt k.bits b).toNat)))
      | .or => some (.d (.int k (k.wrap (BitVec.ofInt k.bits a ||| BitVec.ofInt k.bits b).toNat)))
      | .xor => some (.d (.int k (k.wrap (BitVec.ofInt k.bits a ^^^ BitVec.ofInt k.bits b).toNat)))
      | .eql => some (.d (.bool (decide (a = b))))
      | .neq => some (.d (.bool (!decide (a = b))))
      | .lss => some (.d (.bool (decide (a < b))))
      | .leq => some (.d (.bool (decide (a ≤ b))))
      | .gtr => some (.d (.bool (decide (b < a))))
      | .geq => some (.d (.bool (decide (b ≤ a))))
      | _ => none
      else none
  | .d (.str a), .d (.str b) => match op with
    | .eql => some (.d (.bool (decide (a = b))))
    | .neq => some (.d (.bool (!decide (a = b))))
    | _ => none
  | _, _ => none

theorem toList_inj {a b : ByteArray} (h : a.toList = b.toList) : a = b := by
  rw [ByteArray.toList_eq, ByteArray.toList_eq] at h
  cases a; cases b
  simp at h
  simp [h]
theorem toList_beq (a b : ByteArray) : (a.toList == b.toList) = decide (a = b) := by
  by_cases h : a = b
  · subst h; simp
  · rw [decide_eq_false h]
    simpa using fun e => h (toList_inj e)

theorem evalBin_run {P : Program} {g : Gh} {w : World} {op : BinOp} {x y v : V} {a b : Value} (h : evalBin op x y = some v) (hx : RV g w x a) (hy : RV g w y b) (t : TypeId) :
    ∃ v', (Go.binOp op t a b).run P w = .ok v' w ∧ RV g w v v' ∧ (∀ cs, a ≠ .agg cs) ∧ a ≠ .nilIface := by
  unfold evalBin at h
  split at h
  · rename_i k a' k' b'
    cases hx with | d hx => cases hx; cases hy with | d hy => cases hy; cases op with
      | shl | shr =>
        simp at h
        obtain ⟨h1, h⟩ := h
        subst h
        have h2 : ¬ b' < 0 := by omega
        exact ⟨_, by simp [Go.binOp, Op.shift, h2] <;> rfl, .d (.int _ _), by simp, by simp⟩
      | quo | rem =>
        simp at h
        obtain ⟨h1, h2, h⟩ := h
        subst h1 h
        exact ⟨_, by simp [Go.binOp, Op.intDiv, h2] <;> rfl, .d (.int _ _), by simp, by simp⟩
      | eql | neq | lss | leq | gtr | geq =>
        simp at h
        obtain ⟨h1, h⟩ := h
        subst h1 h
        exact ⟨_, by simp [Go.binOp, Op.intCmp] <;> rfl, by first | exact .d (.bool _) | (rw [show (a' == b') = decide (a' = b') from rfl]; exact .d (.bool _)) | (rw [show (a' != b') = !decide (a' = b') from rfl]; exact .d (.bool _)), by simp, by simp⟩
      | add | sub | mul | and | or | xor =>
        simp at h
        obtain ⟨h1, h⟩ := h
        subst h1 h
        exact ⟨_, by simp only [Go.binOp, Op.intArith, Op.intBits, ne_eq, not_true_eq_false, if_false]; rfl, .d (.int _ _), by simp, by simp⟩
      | _ => simp at h
  · rename_i a' b'
    cases hx with
    | d hx => cases hx; cases hy with
      | d hy =>
        cases hy
        cases op <;> simp at h <;> subst h <;> exact ⟨_, by simp only [Go.binOp, Op.stringOp, toList_beq] <;> rfl, .d (.bool _), by simp, by simp⟩
  · cases h

theorem eqGuard_run {P : Program} {w : World} {op : BinOp} {t : TypeId} {x y : Operand} {a b : Value} (h1 : ∀ cs, a ≠ .agg cs) (h2 : a ≠ .nilIface) : (eqGuard op t x y a b).run P w = .ok () w := by
  unfold eqGuard
  cases a with
  | agg cs => exact absurd rfl (h1 cs)
  | nilIface => exact absurd rfl h2
  | _ => cases op <;> simp

def evalUn (op : UnOp) : V → Option V
  | .d (.bool b) => match op with | .not => some (.d (.bool (!b))) | _ => none
  | .d (.int k n) => match op with | .neg => some (.d (.int k (k.wrap (0 - n)))) | _ => none
  | _ => none
theorem evalUn_run {P : Program} {g : Gh} {w : World} {op : UnOp} {x v : V} {a : Value} (h : evalUn op x = some v) (hx : RV g w x a) : ∃ v', (Op.unary op a).run P w = .ok v' w ∧ RV g w v v' := by
  unfold evalUn at h
  split at h
  · cases hx with
    | d hx =>
      cases hx
      cases op <;> simp at h
      subst h
      exact ⟨_, by simp [Op.unary] <;> rfl, .d (.bool _)⟩
  · cases hx with
    | d hx =>
      cases hx
      cases op <;> simp at h
      subst h
      exact ⟨_, by simp [Op.unary, Op.intArith] <;> rfl, .d (.int _ _)⟩
  · cases h

/-- A slice of the right kind of elements, each a row of single cells. -/
def D.one : D → Bool
  | .agg _ => false
  | _ => true
def okEl (sz : Nat) (x : D) : Bool := x.cells.length == sz && x.cells.all D.one

def intOf? : V → Option Int
  | .d (.int _ n) => some n
  | _ => none

def bnd (d : Int) : Option V → Option Int
  | none => some d
  | some v => intOf? v
def evalSlice (P : Program) (t : TypeId) (x : V) (lo hi mx : Option V) : Option V :=
  match x with
  | .d (.str s) => match bnd 0 lo, bnd s.size hi, mx, P.underlying t with
    | some l, some h, none, some .string => if 0 ≤ l ∧ l ≤ h ∧ h ≤ s.size then some (.d (.str (s.extract l.toNat h.toNat))) else none
    | _, _, _, _ => none
  | .d (.sl xs) => match selem P t with
    | some e => match tinf P e with
      | some ti => match mx with
        | none => match bnd 0 lo, bnd xs.length hi with
          | some l, some h => if 0 ≤ l ∧ l ≤ h ∧ h ≤ xs.length then
              if xs.all (okEl ti.size) then some (.d (.sl ((xs.take h.toNat).drop l.toNat))) else none
            else none
          | _, _ => none
        | some m => match lo, bnd 1 hi, intOf? m with
          | none, some 0, some 0 => some .e0
          | _, _, _ => none
      | none => none
    | none => none
  | .ms nm sz o n => match bnd 0 lo, bnd n hi, mx, selem P t with
    | some l, some h, none, some e => match tinf P e with
      | some ti => if 0 ≤ l ∧ l ≤ h ∧ h ≤ n ∧ sz = ti.size then some (.ms nm sz (o + l.toNat) (h.toNat - l.toNat)) else none
      | none => none
    | _, _, _, _ => none
  | _ => none

theorem intOf?_rv {g : Gh} {w : World} {x : V} {v : Value} {n : Int} (h : intOf? x = some n) (hx : RV g w x v) : ∃ k, v = .int k n := by
  unfold intOf? at h
  split at h
  · injection h with h
    subst h
    cases hx with | d hx => cases hx; exact ⟨_, rfl⟩
  · cases h
theorem run_sliceBound {P : Program} {w : World} {k : IntKind} {n : Int} {y : Nat} {c : BoundsCode} (h0 : 0 ≤ n) (h1 : n ≤ y) : (Instr.sliceBound (.int k n) y c).run P w = .ok n.toNat w := by
  simp [Instr.sliceBound, asIntOf, h0, h1]

theorem optInt {g : Gh} {w : World} {d : Int} {lo : Option V} {lov : Option Value} {l : Int} (h : bnd d lo = some l) (hl : OptRV g w lo lov) : (lo = none ∧ lov = none ∧ d = l) ∨ ∃ k, lov = some (.int k l) := by
  cases hl with
  | none => simp [bnd] at h; exact .inl ⟨rfl, rfl, h⟩
  | some hv => obtain ⟨k, rfl⟩ := intOf?_rv h hv; exact .inr ⟨k, rfl⟩

theorem addr_add (b o n : Nat) : (⟨b, o, none⟩ : Addr).add n = ⟨b, o + n, none⟩ := by
  unfold Addr.add
  split <;> simp_all

/-- A part of pure data is pure data. -/
theorem RD.part {F : Nat → Prop} {w : World} {xs : List D} {v : Value} (h : RD F w (.sl xs) v) {l r sz : Nat} (hl : l ≤ r) (hr : r ≤ xs.length) (hsz : xs.all (okEl sz) = true) :
    ∃ a c, v = .slice a xs.length c ∧ xs.length ≤ c ∧ ∀ (a' : Option Addr) (m : Nat), m ≤ c → r ≤ m → a' = (if m = l then a else a.map (·.add (l * sz))) → RD F w (.sl ((xs.take r).drop l)) (.slice a' (r - l) (m - l)) := by
  cases h with
  | slNil a c =>
    refine ⟨a, c, rfl, by simp, fun a' m _ hm _ => ?_⟩
    have hr0 : r = 0 := by simpa using hr
    subst hr0
    simp
    exact .slNil _ _
  | sl _ b o c sz' u hF hc h1 h2 h3 =>
    refine ⟨_, c, rfl, hc, fun a' m hmc hm ha => ?_⟩
    have hlen : ((xs.take r).drop l).length = r - l := by simp; omega
    by_cases hml : r = l
    · subst hml
      have : (xs.take r).drop r = [] := by apply List.eq_nil_of_length_eq_zero; rw [hlen]; omega
      rw [this]
      simp
      exact .slNil _ _
    · rw [if_neg (by omega)] at ha
      simp only [Option.map_some, addr_add] at ha
      subst ha
      have hszz : sz' = sz := by
        have hlt : l < xs.length := by omega
        have e1 := h1 l xs[l] (by simp [hlt])
        have e2 := List.all_eq_true.1 hsz xs[l] (List.getElem_mem _)
        simp [okEl] at e2
        rw [← e1, e2.1]
      subst hszz
      have hi : ∀ (i : Nat) (x : D), ((xs.take r).drop l)[i]? = some x → xs[l + i]? = some x := fun i x hx => by
        rw [List.getElem?_drop, List.getElem?_take] at hx
        split at hx
        · exact hx
        · cases hx
      rw [← hlen]
      refine .sl _ b (o + l * sz') (m - l) sz' (fun i j => u (l + i) j) hF (by rw [hlen]; omega) (fun i x hx => h1 _ x (hi i x hx)) (fun i j x y hx hy => ?_) (fun i j x y hx hy => h3 _ j x y (hi i x hx) hy)
      have := h2 (l + i) j x y (hi i x hx) hy
      rw [← this]
      congr 2
      rw [Nat.add_mul]
      omega

theorem sliceLen {g : Gh} {w : World} {xs : List D} {a : Value} (hx : RV g w (.d (.sl xs)) a) : ∃ A c, a = .slice A xs.length c ∧ xs.length ≤ c := by
  cases hx with | d hx => cases hx with
    | slNil A c => exact ⟨A, c, rfl, by simp⟩
    | sl _ b o c sz u _ hc => exact ⟨_, c, rfl, hc⟩

theorem evalSlice_run {P : Program} {g : Gh} {w : World} {t : TypeId} {x v : V} {a : Value} {lo hi mx : Option V} {lov hiv mxv : Option Value} (h : evalSlice P t x lo hi mx = some v) (hx : RV g w x a) (hl : OptRV g w lo lov) (hh : OptRV g w hi hiv) (hm : OptRV g w mx mxv) :
    ∃ v', (Instr.sliceAt t a lov hiv mxv).run P w = .ok v' w ∧ RV g w v v' := by
  unfold evalSlice at h
  split at h
  · -- a text
    rename_i s
    split at h
    · rename_i l h' hlo hhi hu
      split at h
      · rename_i hc
        injection h with h
        subst h
        cases hm
        obtain ⟨hc1, hc2, hc3⟩ := hc
        have hc4 : (0 : Int) ≤ h' := by omega
        have hc5 : l ≤ (h'.toNat : Int) := by omega
        have e : a = .string s := by cases hx with | d hx => cases hx; rfl
        subst e
        refine ⟨.string (s.extract l.toNat h'.toNat), ?_, .d (.str _)⟩
        rcases optInt hlo hl with ⟨_, rfl, rfl⟩ | ⟨k, rfl⟩ <;> rcases optInt hhi hh with ⟨_, rfl, rfl⟩ | ⟨k', rfl⟩ <;>
          simp (disch := omega) [Instr.sliceAt, run_underlying hu, Instr.slice, Instr.sliceBounds, run_sliceBound, hc1, hc3, hc4, hc5]
      · cases h
    · cases h
  · -- pure data
    rename_i xs
    split at h
    · rename_i e he
      have hu := selem_spec he
      obtain ⟨A, c, rfl, hcc⟩ := sliceLen hx
      split at h
      · rename_i ti hti
        have hsz := run_sizeOf' hti
        split at h
        · cases hm
          split at h
          · rename_i l h' hlo hhi
            split at h
            · rename_i hc
              obtain ⟨hc1, hc2, hc3⟩ := hc
              split at h
              · rename_i hall
                injection h with h
                subst h
                cases hx with | d hx =>
                  obtain ⟨A', c', e1, _, hpart⟩ := hx.part (l := l.toNat) (r := h'.toNat) (sz := ti.size) (by omega) (by omega) hall
                  injection e1 with e1 e2 e3
                  subst e1 e3
                  have hc4 : (0 : Int) ≤ h' := by omega
                  have hc5 : l ≤ (h'.toNat : Int) := by omega
                  have hc6 : h' ≤ (c : Int) := by omega
                  refine ⟨_, ?_, .d (hpart _ c (Nat.le_refl _) (by omega) rfl)⟩
                  rcases optInt hlo hl with ⟨_, rfl, rfl⟩ | ⟨k, rfl⟩ <;> rcases optInt hhi hh with ⟨_, rfl, rfl⟩ | ⟨k', rfl⟩ <;>
                    simp (disch := omega) [Instr.sliceAt, run_underlying hu, Instr.slice, Instr.sliceBounds, run_sliceBound, hsz, hc1, hc3, hc4, hc5, hc6]
              · cases h
            · cases h
          · cases h
        · split at h
          · rename_i m h1 h2 h3
            injection h with h
            subst h
            cases hl
            cases hm with | some hmv =>
              obtain ⟨k, rfl⟩ := intOf?_rv h3 hmv
              rcases optInt h2 hh with ⟨_, rfl, h9⟩ | ⟨k', rfl⟩
              · omega
              · refine ⟨.slice A 0 0, ?_, .e0 A⟩
                simp (disch := omega) [Instr.sliceAt, run_underlying hu, Instr.slice, Instr.sliceBounds, run_sliceBound, hsz]
          · cases h
      · cases h
    · cases h
  · -- a row of one's own
    rename_i nm sz o n
    split at h
    · rename_i l h' e hlo hhi he
      split at h
      case h_2 => cases h
      rename_i ti hti
      split at h
      · rename_i hc
        injection h with h
        subst h
        cases hm
        obtain ⟨hc1, hc2, hc3, hszr⟩ := hc
        have hu := selem_spec he
        have hsz := run_sizeOf' hti
        have hc4 : (0 : Int) ≤ h' := by omega
        have hc5 : l ≤ (h'.toNat : Int) := by omega
        cases hx with
        | ms _ _ _ _ b p c hU hb hs hp hn hc' =>
          have hc6 : h' ≤ (c : Int) := by omega
          refine ⟨.slice (if c = l.toNat then (some ⟨b, p, none⟩) else (some ⟨b, p, none⟩ : Option Addr).map (·.add (l.toNat * ti.size))) (h'.toNat - l.toNat) (c - l.toNat), ?_, ?_⟩
          · rcases optInt hlo hl with ⟨_, rfl, rfl⟩ | ⟨k, rfl⟩ <;> rcases optInt hhi hh with ⟨_, rfl, rfl⟩ | ⟨k', rfl⟩ <;>
              simp (disch := omega) [Instr.sliceAt, run_underlying hu, Instr.slice, Instr.sliceBounds, run_sliceBound, hsz, hc1, hc3, hc4, hc5, hc6]
          · by_cases hcl : c = l.toNat
            · have e1 : h'.toNat - l.toNat = 0 := by omega
              have e2 : c - l.toNat = 0 := by omega
              rw [e1, e2]
              exact .msZero _ _ _ _ hU
            · rw [if_neg hcl]
              simp only [Option.map_some, addr_add]
              refine .ms nm sz (o + l.toNat) _ b _ _ hU hb hs ?_ (by omega) (by omega)
              rw [hp, ← hszr, Nat.add_mul]
              omega
        | msZero _ _ _ a hU =>
          have hl0 : l = 0 := by omega
          have hh0 : h' = 0 := by omega
          subst hl0 hh0
          have hsz := run_sizeOf' (P := P) hti w
          refine ⟨.slice a 0 0, ?_, .msZero _ _ _ _ hU⟩
          rcases optInt hlo hl with ⟨_, rfl, _⟩ | ⟨k, rfl⟩ <;> rcases optInt hhi hh with ⟨_, rfl, _⟩ | ⟨k', rfl⟩ <;>
              simp (disch := omega) [Instr.sliceAt, run_underlying hu, Instr.slice, Instr.sliceBounds, run_sliceBound, hsz]
      · cases h
    · cases h
  · cases h
end Go.Proofs.Ytjjmedgibcffhaa.M
/- The other operations that touch no memory. -/
namespace Go.Proofs.Ytjjmedgibcffhaa.M
open Go.RowKit
set_option linter.unusedVariables false
set_option linter.unusedSimpArgs false

def evalIndexAddr (P : Program) (t : TypeId) (x i : V) : Option V :=
  match intOf? i, selem P t with
  | some n, some e => match tinf P e with
    | some ti => match x with
      | .d (.sl xs) => if 0 ≤ n then match xs[n.toNat]? with
        | some y => if okEl ti.size y then some (.rptr y.cells) else none
        | none => none
        else none
      | .ms nm sz o m => if 0 ≤ n ∧ n < m ∧ sz = ti.size then some (.eptr nm (o + n.toNat) 0) else none
      | _ => none
    | none => none
  | _, _ => none

theorem cast_toNat {n : Int} (h : 0 ≤ n) : ((n.toNat : Nat) : Int) = n := Int.toNat_of_nonneg h

theorem evalIndexAddr_run {P : Program} {g : Gh} {w : World} {t : TypeId} {x i v : V} {a b : Value} (h : evalIndexAddr P t x i = some v) (hx : RV g w x a) (hi : RV g w i b) :
    ∃ v', (Instr.indexAt t a b).run P w = .ok v' w ∧ RV g w v v' := by
  unfold evalIndexAddr at h
  split at h
  case h_2 => cases h
  rename_i n e hn he
  obtain ⟨k, rfl⟩ := intOf?_rv hn hi
  have hu := selem_spec he
  split at h
  case h_2 => cases h
  rename_i ti hti
  have hsz := run_sizeOf' hti
  split at h
  · rename_i xs
    split at h
    case isFalse => cases h
    rename_i h0
    split at h
    case h_2 => cases h
    rename_i y hy
    split at h
    case isFalse => cases h
    rename_i hok
    injection h with h
    subst h
    cases hx with | d hx =>
    have hlt : n.toNat < xs.length := (List.getElem?_eq_some_iff.1 hy).1
    cases hx with
    | slNil => simp at hy
    | sl _ b o c sz u hF hc h1 h2 h3 =>
      have hl := h1 _ _ hy
      have hok' := hok
      simp [okEl] at hok'
      have hs : sz = ti.size := by rw [← hl, hok'.1]
      subst hs
      refine ⟨.pointer (some ⟨b, o + n.toNat * ti.size, none⟩), ?_, .rptr _ b _ (u n.toNat) hF (fun j z hz => by simpa using h2 _ j _ z hy hz) (fun j z hz => h3 _ j _ z hy hz)⟩
      have hlt' : n < (xs.length : Int) := by omega
      simp [Instr.indexAt, asIntOf, run_underlying hu, hsz, h0, hlt', addr_add]
  · rename_i nm sz o m
    split at h
    case isFalse => cases h
    rename_i hc
    injection h with h
    subst h
    obtain ⟨h0, h1, h2⟩ := hc
    cases hx with
    | ms _ _ _ _ b p c hU hb hs hp hn' hc' =>
      refine ⟨.pointer (some ⟨b, p + n.toNat * ti.size, none⟩), ?_, .eptr nm _ 0 b _ hU hb ?_⟩
      · simp [Instr.indexAt, asIntOf, run_underlying hu, hsz, h0, h1, addr_add]
      · rw [hp, hs, h2, Nat.add_mul]
        omega
    | msZero => omega
  · cases h

def evalFieldAddr (P : Program) (s : TypeId) (f : Nat) (x : V) : Option V :=
  match fieldOf P s f, x with
  | some (off, _), .ptr nm o => some (.ptr nm (o + off))
  | some (off, _), .eptr nm i o => some (.eptr nm i (o + off))
  | some (off, _), .rptr cs => some (.rptr (cs.drop off))
  | _, _ => none
theorem evalFieldAddr_run {P : Program} {g : Gh} {w : World} {s : TypeId} {f : Nat} {x v : V} {a : Value} (h : evalFieldAddr P s f x = some v) (hx : RV g w x a) :
    ∃ v', (Instr.fieldAt s a f).run P w = .ok v' w ∧ RV g w v v' := by
  unfold evalFieldAddr at h
  split at h
  case h_4 => cases h
  all_goals
    rename_i off sz hf
    injection h with h
    subst h
    obtain ⟨fs, fd, ti, hu, hfd, hti, hsz, h0, hoff⟩ := fieldOf_spec hf
    have hs := run_sizeOf' hti w
    have h0' : ¬ ti.size = 0 := by omega
    subst hoff
    cases hx
    refine ⟨_, by simp [Instr.fieldAt, run_underlying hu, hfd, Instr.sureAddr, fieldPlace, hs, h0', addr_add] <;> rfl, ?_⟩
  · rename_i b hU hb
    exact .ptr _ _ b hU hb
  · rename_i b p hU hb hp
    exact .eptr _ _ _ b _ hU hb (by omega)
  · rename_i b o u hF h2 h3
    exact .rptr _ b _ (fun j => u (fd.offset + j)) hF (fun j y hy => by rw [List.getElem?_drop] at hy; rw [← h2 _ y hy]; congr 2; omega) (fun j y hy => by rw [List.getElem?_drop] at hy; exact h3 _ y hy)

def evalLen (P : Program) (t : TypeId) (x : V) : Option V :=
  match x, P.underlying t with
  | .d (.str s), some .string => some (.d (.int .i64 s.size))
  | .d (.sl xs), some (.slice _) => some (.d (.int .i64 xs.length))
  | .nil, some (.slice _) => some (.d (.int .i64 0))
  | .e0, some (.slice _) => some (.d (.int .i64 0))
  | .ms _ _ _ n, some (.slice _) => some (.d (.int .i64 n))
  | .d .nil, some (.slice _) => some (.d (.int .i64 0))
  | _, _ => none
theorem evalLen_run {P : Program} {g : Gh} {w : World} {t ty : TypeId} {x v : V} {a : Value} (h : evalLen P t x = some v) (hx : RV g w x a) :
    ∃ v', (Builtin.len_ #[t] ty #[a]).run P w = .ok v' w ∧ RV g w v v' := by
  unfold evalLen at h
  split at h
  case h_7 => cases h
  · rename_i s hu
    injection h with h
    subst h
    cases hx with | d hx =>
    cases hx
    exact ⟨.int .i64 s.size, by simp [Builtin.len_, run_underlying hu, goInt], .d (.int _ _)⟩
  · rename_i xs e hu
    injection h with h
    subst h
    obtain ⟨A, c, rfl, _⟩ := sliceLen hx
    exact ⟨.int .i64 xs.length, by simp [Builtin.len_, run_underlying hu, goInt], .d (.int _ _)⟩
  · rename_i e hu
    injection h with h
    subst h
    cases hx
    exact ⟨.int .i64 0, by simp [Builtin.len_, run_underlying hu, goInt], .d (.int _ _)⟩
  · rename_i e hu
    injection h with h
    subst h
    cases hx
    exact ⟨.int .i64 0, by simp [Builtin.len_, run_underlying hu, goInt], .d (.int _ _)⟩
  · rename_i n e hu
    injection h with h
    subst h
    cases hx <;> exact ⟨_, by simp [Builtin.len_, run_underlying hu, goInt] <;> rfl, .d (.int _ _)⟩
  · rename_i e hu
    injection h with h
    subst h
    cases hx with | d hx =>
    cases hx
    exact ⟨.int .i64 0, by simp [Builtin.len_, run_underlying hu, goInt], .d (.int _ _)⟩

def evalExtract (x : V) (i : Nat) : Option V := match x with | .tup xs => xs[i]? | _ => none
theorem evalExtract_run {P : Program} {g : Gh} {w : World} {i : Nat} {x v : V} {a : Value} (h : evalExtract x i = some v) (hx : RV g w x a) :
    ∃ v', (Instr.extract a i).run P w = .ok v' w ∧ RV g w v v' := by
  unfold evalExtract at h
  split at h
  case h_2 => cases h
  cases hx with
  | tup xs vs hl hr =>
    have := hr i v h
    have hlt : i < vs.size := by rw [hl]; exact (List.getElem?_eq_some_iff.1 h).1
    refine ⟨vs[i], by simp [Instr.extract, hlt], ?_⟩
    simpa [hlt] using this

/-- A struct out of its parts: the cells of its zero, then part by part. -/
def setRange (cs : List V) (o : Nat) (ys : List V) : List V := cs.take o ++ ys ++ cs.drop (o + ys.length)
def fillV (P : Program) (s : TypeId) : List V → List (Nat × V) → Option (List V)
  | cs, [] => some cs
  | cs, (i, x) :: rest => match fieldOf P s i with
    | some (off, sz) => if x.firm = true ∧ x.cells.length = sz ∧ off + sz ≤ cs.length then fillV P s (setRange cs off x.cells) rest else none
    | none => none

/-- The cells of a value. -/
theorem rv_cells {g : Gh} {w : World} {x : V} {v : Value} (h : RV g w x v) (hf : x.firm = true) : v.cells.size = x.cells.length ∧ ∀ (j : Nat) (y : V), x.cells[j]? = some y → RV g w y (v.cells.getD j undef) := by
  have single : ∀ {x : V} {v : Value}, x.cells = [x] → v.cells = #[v] → RV g w x v → v.cells.size = x.cells.length ∧ ∀ (j : Nat) (y : V), x.cells[j]? = some y → RV g w y (v.cells.getD j undef) := by
    intro x v h1 h2 h3
    rw [h1, h2]
    refine ⟨rfl, fun j y hy => ?_⟩
    cases j with
    | zero => simp at hy; subst hy; simpa using h3
    | succ j => simp at hy
  cases h with
  | undef => cases hf
  | tup => cases hf
  | d hd =>
    cases hd with
    | agg xs vs hl hr =>
      refine ⟨by simpa [V.cells, Value.cells] using hl, fun j y hy => ?_⟩
      simp only [V.cells, List.getElem?_map, Option.map_eq_some_iff] at hy
      obtain ⟨z, hz, rfl⟩ := hy
      exact .d (hr j z hz)
    | int k n => exact single rfl rfl (.d (.int k n))
    | nil => exact single rfl rfl (.d .nil)
    | bool b => exact single rfl rfl (.d (.bool b))
    | str s => exact single rfl rfl (.d (.str s))
    | slNil a c => exact single rfl rfl (.d (.slNil a c))
    | sl xs b o c sz u hF hc h1 h2 h3 => exact single rfl rfl (.d (.sl xs b o c sz u hF hc h1 h2 h3))
  | agg xs vs hl hr => exact ⟨by simpa [V.cells, Value.cells] using hl, hr⟩
  | nil => exact single rfl rfl .nil
  | e0 a => exact single rfl rfl (.e0 a)
  | ptr nm o b hU hb => exact single rfl rfl (.ptr nm o b hU hb)
  | eptr nm i o b p hU hb hp => exact single rfl rfl (.eptr nm i o b p hU hb hp)
  | rptr cs b o u hF h2 h3 => exact single rfl rfl (.rptr cs b o u hF h2 h3)
  | ms nm sz o n b p c hU hb hs hp hn hc => exact single rfl rfl (.ms nm sz o n b p c hU hb hs hp hn hc)
  | msZero nm sz o a hU => exact single rfl rfl (.msZero nm sz o a hU)
  | map nm b hU hb => exact single rfl rfl (.map nm b hU hb)
  | fn f cs vs hl hr => exact single rfl rfl (.fn f cs vs hl hr)
  | vs xs b o c sz u hF hc h1 h2 h3 => exact single rfl rfl (.vs xs b o c sz u hF hc h1 h2 h3)

theorem setRange_get (cs ys : List V) (o : Nat) (h : o + ys.length ≤ cs.length) (k : Nat) : (setRange cs o ys)[k]? = if o ≤ k ∧ k < o + ys.length then ys[k - o]? else cs[k]? := by
  unfold setRange
  have hl : (cs.take o).length = o := by simp; omega
  by_cases h1 : k < o
  · rw [if_neg (by omega), List.append_assoc, List.getElem?_append_left (by omega), List.getElem?_take_of_lt h1]
  · by_cases h2 : k < o + ys.length
    · rw [if_pos (by omega), List.append_assoc, List.getElem?_append_right (by omega), hl, List.getElem?_append_left (by omega)]
    · rw [if_neg (by omega), List.append_assoc, List.getElem?_append_right (by omega), hl, List.getElem?_append_right (by omega), List.getElem?_drop]
      congr 1
      omega
theorem setRange_len (cs ys : List V) (o : Nat) (h : o + ys.length ≤ cs.length) : (setRange cs o ys).length = cs.length := by
  unfold setRange
  simp
  omega

/-- A list of cells related to an array. -/
def RA (g : Gh) (w : World) (cs : List V) (vs : Array Value) : Prop := vs.size = cs.length ∧ ∀ (j : Nat) (y : V), cs[j]? = some y → RV g w y (vs.getD j undef)

theorem fold_get (off : Nat) : ∀ (l : List Value) (k : Nat) (cs : Array Value) (i : Nat), ((l.zipIdx k).foldl (fun cs (p : Value × Nat) => cs.setIfInBounds (off + p.2) p.1) cs).getD i undef = if off + k ≤ i ∧ i < off + k + l.length ∧ i < cs.size then l.getD (i - (off + k)) undef else cs.getD i undef
  | [], k, cs, i => by
    simp only [List.zipIdx_nil, List.foldl_nil, List.length_nil]
    rw [if_neg (by omega)]
  | x :: l, k, cs, i => by
    simp only [List.zipIdx_cons, List.foldl_cons]
    rw [fold_get off l (k + 1)]
    simp only [Array.size_setIfInBounds, List.length_cons]
    by_cases h1 : i = off + k
    · subst h1
      rw [if_neg (by omega)]
      by_cases h2 : off + k < cs.size
      · rw [if_pos ⟨by omega, by omega, h2⟩]
        simp [h2]
      · rw [if_neg (by omega)]
        simp [h2]
    · by_cases h2 : off + (k + 1) ≤ i ∧ i < off + (k + 1) + l.length ∧ i < cs.size
      · rw [if_pos h2, if_pos ⟨by omega, by omega, by omega⟩]
        have : i - (off + k) = (i - (off + (k + 1))) + 1 := by omega
        rw [this]
        simp
      · rw [if_neg h2, if_neg (by omega)]
        simp only [Array.getD_eq_getD_getElem?, Array.getElem?_setIfInBounds]
        rw [if_neg (by omega)]
theorem fold_size (off : Nat) : ∀ (l : List (Value × Nat)) (cs : Array Value), (l.foldl (fun cs (p : Value × Nat) => cs.setIfInBounds (off + p.2) p.1) cs).size = cs.size
  | [], cs => rfl
  | x :: l, cs => by simp only [List.foldl_cons]; rw [fold_size off l]; simp

theorem RA.fold {g : Gh} {w : World} {cs : List V} {vs : Array Value} (h : RA g w cs vs) {x : V} {v : Value} (hx : RV g w x v) (hf : x.firm = true) (off : Nat) (hle : off + x.cells.length ≤ cs.length) :
    RA g w (setRange cs off x.cells) (v.cells.zipIdx.foldl (fun cs (p : Value × Nat) => cs.setIfInBounds (off + p.2) p.1) vs) := by
  obtain ⟨h1, h2⟩ := rv_cells hx hf
  refine ⟨?_, fun j y hy => ?_⟩
  · rw [← Array.foldl_toList, Array.toList_zipIdx, fold_size, setRange_len _ _ _ hle]
    exact h.1
  · rw [← Array.foldl_toList, Array.toList_zipIdx, fold_get]
    rw [setRange_get _ _ _ hle] at hy
    have hs : v.cells.toList.length = x.cells.length := by simpa using h1
    rw [hs]
    split at hy
    · rename_i hc
      rw [if_pos ⟨by omega, by omega, by rw [h.1]; omega⟩]
      have := h2 _ y hy
      simpa [List.getD, Array.getD_eq_getD_getElem?] using this
    · rename_i hc
      rw [if_neg (by omega)]
      exact h.2 j y hy

theorem fillV_run {P : Program} {g : Gh} {w : World} {s : TypeId} (pl : Array (Nat × Nat)) (hpl : ∀ i off sz, fieldOf P s i = some (off, sz) → pl[i]? = some (off, sz)) {lk : Operand → V} {ev : Operand → Value} (hev : ∀ x, RV g w (lk x) (ev x)) :
    ∀ (ps : List (Nat × Operand)) (cs cs' : List V) (vs : Array Value), fillV P s cs (ps.map fun p => (p.1, lk p.2)) = some cs' → RA g w cs vs →
      ∃ vs', Instr.fill (pl[·]?) vs (ps.map fun p => (p.1, ev p.2)) = some vs' ∧ RA g w cs' vs'
  | [], cs, cs', vs, h, hr => by
    simp [fillV] at h
    subst h
    exact ⟨vs, rfl, hr⟩
  | (i, x) :: ps, cs, cs', vs, h, hr => by
    simp only [List.map_cons, fillV] at h
    split at h
    case h_2 => cases h
    rename_i off sz hf
    split at h
    case isFalse => cases h
    rename_i hc
    obtain ⟨hc1, hc2, hc3⟩ := hc
    have hx := hev x
    have hcl := (rv_cells hx hc1).1
    have hfold := hr.fold hx hc1 off (by omega)
    obtain ⟨vs', h5, h6⟩ := fillV_run pl hpl hev ps _ cs' _ h hfold
    refine ⟨vs', ?_, h6⟩
    simp only [List.map_cons, Instr.fill]
    rw [show pl[i]? = some (off, sz) from hpl i off sz hf]
    simp only
    rw [if_neg]
    · exact h5
    · rw [hcl, hc2, hr.1]
      simp
      omega

def placesOf (P : Program) (fs : Array Field) : Array (Nat × Nat) := fs.map fun f => (f.offset, ((P.info? f.type).map (·.size)).getD 0)
def bldOk (P : Program) (t : TypeId) : Bool := match P.underlying t with
  | some (.struct fs) => fs.all (fun f => (P.info? f.type).isSome)
  | _ => false
def evalBuild (P : Program) (t : TypeId) (parts : List (Nat × V)) : Option V :=
  match tinf P t with
  | some ti => if bldOk P t = true then (fillV P t (ti.zero.cells.toList.map ofScalar) parts).map mkAgg else none
  | none => none

theorem run_mapM_array {P : Program} {w : World} {α β : Type} (f : α → Sem β) (r : α → β) (xs : Array α) (h : ∀ x ∈ xs, (f x).run P w = .ok (r x) w) : (xs.mapM f).run P w = .ok (xs.map r) w := by
  have key : ∀ (l : List α), (∀ x ∈ l, (f x).run P w = .ok (r x) w) → (l.mapM f).run P w = .ok (l.map r) w := by
    intro l
    induction l with
    | nil => intro _; simp
    | cons x l ih =>
      intro hl
      simp [List.mapM_cons, hl x (by simp), ih (fun y hy => hl y (by simp [hy]))]
  rw [Array.mapM_eq_mapM_toList]
  simp [key xs.toList (fun x hx => h x (by simpa using hx))]
  apply Array.ext'
  simp

theorem evalBuild_run {P : Program} {g : Gh} {w : World} {t : TypeId} {parts : Array (Nat × Operand)} {v : V} {lk : Operand → V} {ev : Operand → Value} (hev : ∀ x, RV g w (lk x) (ev x)) (h : evalBuild P t (parts.toList.map fun p => (p.1, lk p.2)) = some v) :
    ∃ v', (Instr.build t (parts.map fun (i, x) => (i, ev x))).run P w = .ok v' w ∧ RV g w v v' := by
  unfold evalBuild at h
  split at h
  case h_2 => cases h
  rename_i ti hti
  split at h
  case isFalse => cases h
  rename_i hbo
  unfold bldOk at hbo
  split at hbo
  case h_2 => cases hbo
  rename_i fs hu
  have hall := hbo
  obtain ⟨i, d, hi, hd, hz, hzs, hs, _⟩ := tinf_spec hti
  cases hf : fillV P t (ti.zero.cells.toList.map ofScalar) (parts.toList.map fun p => (p.1, lk p.2)) with
  | none => simp [hf] at h
  | some cs' =>
    simp [hf] at h
    subst h
    have hmap : (Array.mapM (fun (f : Field) => (Prod.mk f.offset <$> sizeOf f.type : Sem (Nat × Nat))) fs).run P w = .ok (placesOf P fs) w := by
      refine run_mapM_array _ (fun (f : Field) => (f.offset, ((P.info? f.type).map (·.size)).getD 0)) fs fun f hf => ?_
      have hsome : (P.info? f.type).isSome := by
        rw [Array.all_eq_true_iff_forall_mem] at hall
        exact hall f hf
      obtain ⟨j, hj⟩ := Option.isSome_iff_exists.1 hsome
      simp [sizeOf, typeInfo, hj]
    have hra : RA g w (ti.zero.cells.toList.map ofScalar) ti.zero.cells := by
      refine ⟨by simp, fun j y hy => ?_⟩
      simp only [List.getElem?_map, Option.map_eq_some_iff] at hy
      obtain ⟨c, hc, rfl⟩ := hy
      have : ti.zero.cells.getD j undef = c := by
        simp at hc
        simp [hc]
      rw [this]
      exact ofScalar_rv g w c
    obtain ⟨vs', h5, h6⟩ := fillV_run (P := P) (s := t) (placesOf P fs) (fun i off sz hf => by
      obtain ⟨fs', fd, ti', hu', hfd, hti', hsz', _, ho⟩ := fieldOf_spec hf
      rw [hu] at hu'
      injection hu' with hu'
      injection hu' with hu'
      subst hu'
      obtain ⟨i', d', hi', _, _, _, hs', _⟩ := tinf_spec hti'
      simp [placesOf, hfd, hi', hs', hsz', ho]) hev parts.toList _ _ _ hf hra
    refine ⟨.agg vs', ?_, mkAgg_rv h6.1 h6.2⟩
    have hzr := run_zeroValue' hti w
    have hfill : Instr.fill (fun x => (placesOf P fs)[x]?) ti.zero.cells (parts.map fun (i, x) => (i, ev x)).toList = some vs' := by
      rw [Array.toList_map]
      exact h5
    simp [Instr.build, hzr, run_underlying hu, hmap]
    simp only [Array.toList_map] at hfill
    rw [hfill]
    rfl
end Go.Proofs.Ytjjmedgibcffhaa.M
/- Operations on memory: loads, stores, new blocks. -/
namespace Go.Proofs.Ytjjmedgibcffhaa.M
open Go.RowKit
set_option linter.unusedVariables false
set_option linter.unusedSimpArgs false

theorem rv_one {g : Gh} {w : World} {x : V} {v : Value} (h : RV g w x v) (h1 : x.one = true) : v.oneCell' = true := by
  cases h with
  | d hd => cases hd <;> first | rfl | (simp [V.one] at h1)
  | undef => cases h1
  | tup => cases h1
  | agg => cases h1
  | _ => rfl
theorem ra_one {g : Gh} {w : World} {cs : List V} {vs : Array Value} (h : RA g w cs vs) (h1 : cs.all V.one = true) : ∀ v ∈ vs.toList, v.oneCell' = true := by
  intro v hv
  obtain ⟨i, hi, rfl⟩ := List.getElem_of_mem hv
  have hi' : i < cs.length := by rw [← h.1]; simpa using hi
  have := h.2 i cs[i] (by simp [hi'])
  have hh := rv_one this (List.all_eq_true.1 h1 _ (List.getElem_mem _))
  simp at hi
  simpa [hi] using hh

/-- A new block. -/
def Gh.new (g : Gh) (nm : Nat) (r : Rf) : Gh := { ρ := fun n => if n = nm then r else g.ρ n, U := fun n => g.U n ∨ n = nm, F := g.F }
theorem Gh.new_at (g : Gh) (nm : Nat) (r : Rf) : (g.new nm r).ρ nm = r := by simp [Gh.new]
theorem Gh.new_ne (g : Gh) {nm n : Nat} (r : Rf) (h : n ≠ nm) : (g.new nm r).ρ n = g.ρ n := by simp [Gh.new, h]
theorem ext_new {g : Gh} {w w' : World} {nm : Nat} (r : Rf) (hn : ¬ g.U nm) (hlt : ∀ b, g.F b → b < w.heap.size) (hh : ∀ b, b < w.heap.size → w'.heap[b]? = w.heap[b]?) (ho : w'.os = w.os) (ht : w'.tape = w.tape) (hp : w'.output = w.output) (hs : w.heap.size ≤ w'.heap.size) : Ext g w (g.new nm r) w' :=
  ⟨fun n h => .inl h, fun n h => g.new_ne r (fun e => hn (e ▸ h)), fun b h => h, fun b h => hh b (hlt b h), ho, ht, hp, hs⟩
theorem RS.new {g : Gh} {w w' : World} {H : Nat → Option Blk} {nm : Nat} {r : Rf} {k : Blk} (h : RS g w H) (hn : ¬ g.U nm) (hh : ∀ b, b < w.heap.size → w'.heap[b]? = w.heap[b]?) (ho : w'.os = w.os) (ht : w'.tape = w.tape) (hp : w'.output = w.output) (hs : w.heap.size < w'.heap.size)
    (hr : r.blk = some w.heap.size) (hk : BlkOK (g.new nm r) w' nm k) : Ext g w (g.new nm r) w' ∧ RS (g.new nm r) w' (hset H nm (some k)) := by
  have e : Ext g w (g.new nm r) w' := ext_new r hn h.ltF hh ho ht hp (by omega)
  refine ⟨e, h.put e (fun n b _ hs hb => hh b (h.notF n b hs hb).2) (.inr rfl) hk ?_ ?_⟩
  · intro b hb
    rw [g.new_at, hr] at hb
    injection hb with hb
    subst hb
    exact ⟨fun hf => by have := h.ltF _ hf; omega, hs, fun n _ hsn hb => by have := (h.notF n _ hsn hb).2; omega⟩
  · intro b hb
    exact ⟨by have := h.ltF b hb; omega, fun n _ hsn hbn => (h.notF n b hsn hbn).1 hb⟩
/-- A new block of pure data. -/
def Gh.frz (g : Gh) (b : Nat) : Gh := { g with F := fun i => g.F i ∨ i = b }
theorem RS.newF {g : Gh} {w w' : World} {H : Nat → Option Blk} (h : RS g w H) (hh : ∀ b, b < w.heap.size → w'.heap[b]? = w.heap[b]?) (ho : w'.os = w.os) (ht : w'.tape = w.tape) (hp : w'.output = w.output) (hs : w.heap.size < w'.heap.size) :
    Ext g w (g.frz w.heap.size) w' ∧ RS (g.frz w.heap.size) w' H := by
  have e : Ext g w (g.frz w.heap.size) w' := ⟨fun _ h => h, fun _ _ => rfl, fun _ h => .inl h, fun b hb => hh b (h.ltF b hb), ho, ht, hp, by omega⟩
  refine ⟨e, h.ext e (fun n b hsn hb => hh b (h.notF n b hsn hb).2) ?_⟩
  rintro b (hb | rfl)
  · exact ⟨by have := h.ltF b hb; omega, fun n hsn hbn => (h.notF n b hsn hbn).1 hb⟩
  · exact ⟨hs, fun n hsn hbn => by have := (h.notF n _ hsn hbn).2; omega⟩
/-- A block that is there is written. -/
theorem RS.write {g : Gh} {w w' : World} {H : Nat → Option Blk} {nm b : Nat} {k k' : Blk} (h : RS g w H) (hH : H nm = some k) (hb : (g.ρ nm).blk = some b) (hh : ∀ i, i ≠ b → w'.heap[i]? = w.heap[i]?) (ho : w'.os = w.os) (ht : w'.tape = w.tape) (hp : w'.output = w.output) (hs : w'.heap.size = w.heap.size)
    (hk : Ext g w g w' → BlkOK g w' nm k') : Ext g w g w' ∧ RS g w' (hset H nm (some k')) := by
  have hsome : (H nm).isSome := by simp [hH]
  have hnF := h.notF nm b hsome hb
  have e : Ext g w g w' := ⟨fun _ h => h, fun _ _ => rfl, fun _ h => h, fun i hi => hh i (fun e => hnF.1 (e ▸ hi)), ho, ht, hp, by omega⟩
  refine ⟨e, h.put e (fun n i hn hsn hi => hh i (fun e => hn (h.inj n nm b hsn hsome (e ▸ hi) hb))) (h.ok nm k hH).1 (hk e) ?_ ?_⟩
  · intro i hi
    rw [hb] at hi
    injection hi with hi
    subst hi
    exact ⟨hnF.1, by rw [hs]; exact hnF.2, fun n hn hsn hbn => hn (h.inj n nm b hsn hsome hbn hb)⟩
  · intro i hi
    exact ⟨by rw [hs]; exact h.ltF i hi, fun n hn hsn hbn => (h.notF n i hsn hbn).1 hi⟩

/-- What a pointer points at: the cells from there on. -/
def refOf : V → Option Nat
  | .ptr nm _ | .eptr nm _ _ | .ms nm _ _ _ | .map nm => some nm
  | _ => none
def cellsAt (p : V) (blk : Option Blk) : Option (List V) :=
  match p, blk with
  | .rptr cs, _ => some (cs.map V.d)
  | .ptr _ o, some (.box cs) => some (cs.drop o)
  | .eptr _ i o, some (.row _ xs) => (xs[i]?).map fun x => x.cells.drop o
  | _, _ => none

theorem cellsAt_ok {g : Gh} {w : World} {p : V} {a : Value} {blk : Option Blk} {cs : List V} (h : cellsAt p blk = some cs) (hp : RV g w p a) (hb : ∀ nm k, refOf p = some nm → blk = some k → BlkOK g w nm k) :
    ∃ (b o : Nat) (u : Nat → Value), a = .pointer (some ⟨b, o, none⟩) ∧ ∀ (j : Nat) (y : V), cs[j]? = some y → w.cell? ⟨b, o + j, none⟩ = some (u j) ∧ RV g w y (u j) := by
  unfold cellsAt at h
  split at h
  · rename_i ds _
    injection h with h
    subst h
    cases hp with
    | rptr _ b o u hF h2 h3 =>
      refine ⟨b, o, u, rfl, fun j y hy => ?_⟩
      simp only [List.getElem?_map, Option.map_eq_some_iff] at hy
      obtain ⟨z, hz, rfl⟩ := hy
      exact ⟨h2 j z hz, .d (h3 j z hz)⟩
  · rename_i nm o cs'
    injection h with h
    subst h
    cases hp with
    | ptr _ _ b hU hblk =>
      obtain ⟨b', vs, t, h1, h2, h3, h4⟩ := hb nm _ rfl rfl
      rw [hblk] at h1
      injection h1 with h1
      subst h1
      refine ⟨b, o, fun j => vs.getD (o + j) undef, rfl, fun j y hy => ?_⟩
      rw [List.getElem?_drop] at hy
      have hlt : o + j < vs.size := by rw [h3]; exact (List.getElem?_eq_some_iff.1 hy).1
      exact ⟨by simp [World.cell?, h2, hlt], h4 _ y hy⟩
  · rename_i nm i o sz xs
    simp only [Option.map_eq_some_iff] at h
    obtain ⟨x, hx, rfl⟩ := h
    cases hp with
    | eptr _ _ _ b p hU hblk hp =>
      obtain ⟨h1, h2, h3, h4⟩ := hb nm _ rfl rfl
      rcases h4 with ⟨h4, _⟩ | ⟨b', vs, t, h4, h5, h6, h7⟩
      · rw [h4] at hblk; cases hblk
      · rw [hblk] at h4
        injection h4 with h4
        subst h4
        refine ⟨b, p, fun j => vs.getD (p + j) undef, rfl, fun j y hy => ?_⟩
        rw [List.getElem?_drop] at hy
        have hj : o + j < sz := by rw [← h3 i x hx]; exact (List.getElem?_eq_some_iff.1 hy).1
        have hi : i < (g.ρ nm).tot := Nat.lt_of_lt_of_le (List.getElem?_eq_some_iff.1 hx).1 h2
        have e : p + j = (g.ρ nm).off + i * sz + (o + j) := by rw [hp, h1]; omega
        have hlt : p + j < vs.size := by
          have : (i + 1) * sz ≤ (g.ρ nm).tot * sz := Nat.mul_le_mul_right _ hi
          rw [Nat.add_mul] at this
          omega
        refine ⟨by simp [World.cell?, h5, hlt], ?_⟩
        have := h7 i (o + j) x y hx hy
        simp only
        rw [e]
        exact this
  · cases h

def loadV (ti : TI) (cs : List V) : Option V := if ti.agg then (if ti.size ≤ cs.length then some (mkAgg (cs.take ti.size)) else none) else cs[0]?
def evalLoad (P : Program) (t : TypeId) (p : V) (blk : Option Blk) : Option V :=
  match tinf P t, cellsAt p blk with
  | some ti, some cs => loadV ti cs
  | _, _ => none
theorem evalLoad_run {P : Program} {g : Gh} {w : World} {t : TypeId} {p v : V} {a : Value} {blk : Option Blk} (h : evalLoad P t p blk = some v) (hp : RV g w p a) (hb : ∀ nm k, refOf p = some nm → blk = some k → BlkOK g w nm k) :
    ∃ v', (Instr.loadAt t a).run P w = .ok v' w ∧ RV g w v v' := by
  unfold evalLoad at h
  split at h
  case h_2 => cases h
  rename_i ti cs hti hcs
  obtain ⟨b, o, u, rfl, hu⟩ := cellsAt_ok hcs hp hb
  have hagg := run_isAgg' hti w
  have hsz := run_sizeOf' hti w
  unfold loadV at h
  split at h
  · rename_i ha
    split at h
    case isFalse => cases h
    rename_i hle
    injection h with h
    subst h
    have hl := run_loadCells (P := P) w ⟨b, o, none⟩ ti.size u (fun j hj => by
      rw [addr_add]
      exact (hu j cs[j] (by first | omega | (simp; done) | (simp; omega))).1)
    refine ⟨.agg ((List.range ti.size).map u).toArray, by simp [Instr.loadAt, Instr.sureAddr, loadVar, hagg, ha, hsz, hl], mkAgg_rv (by simp; omega) fun j y hy => ?_⟩
    rw [List.getElem?_take] at hy
    split at hy
    · rename_i hj
      have := (hu j y hy).2
      simpa [hj] using this
    · cases hy
  · rename_i ha
    have := hu 0 v h
    simp at this
    exact ⟨u 0, by simp [Instr.loadAt, Instr.sureAddr, loadVar, hagg, ha, load, Sem.run, this.1], this.2⟩

/-- A store. -/
def ofCells (x : V) (cs : List V) : V :=
  match x with
  | .d (.agg _) | .agg _ => mkAgg cs
  | _ => cs.headD .undef
def storeB (p : V) (blk : Option Blk) (ys : List V) : Option Blk :=
  match p, blk with
  | .ptr _ o, some (.box cs) => if o + ys.length ≤ cs.length then some (.box (setRange cs o ys)) else none
  | .eptr _ i o, some (.row sz xs) => match xs[i]? with
    | some x => if o + ys.length ≤ x.cells.length then some (.row sz (xs.set i (ofCells x (setRange x.cells o ys)))) else none
    | none => none
  | _, _ => none
theorem mkAgg_cells (cs : List V) : (mkAgg cs).cells = cs := by
  unfold mkAgg
  split
  · rename_i ds h
    rw [allD_some h]
    rfl
  · rfl
theorem one_cells {y : V} (h : y.one = true) : y.cells = [y] := by
  cases y with
  | d x => cases x <;> first | rfl | cases h
  | agg => cases h
  | _ => rfl
theorem ofCells_cells {x : V} {cs : List V} (hl : cs.length = x.cells.length) (h1 : ∀ y ∈ cs, y.one = true ∨ y ∈ x.cells) : (ofCells x cs).cells = cs := by
  have single : x.cells = [x] → (cs.headD .undef).cells = cs := by
    intro e
    rw [e] at hl
    match cs, hl with
    | [y], _ =>
      rcases h1 y (by simp) with h | h
      · exact one_cells h
      · rw [e] at h
        simp at h
        subst h
        exact e
  unfold ofCells
  split
  · exact mkAgg_cells cs
  · exact mkAgg_cells cs
  · rename_i ha hb
    refine single ?_
    cases x with
    | d x => cases x with
      | agg xs => exact absurd rfl (ha xs)
      | _ => rfl
    | agg xs => exact absurd rfl (hb xs)
    | _ => rfl
theorem setRange_mem {cs ys : List V} {o : Nat} {y : V} (h : y ∈ setRange cs o ys) : y ∈ ys ∨ y ∈ cs := by
  unfold setRange at h
  simp only [List.mem_append] at h
  rcases h with (h | h) | h
  · exact .inr (List.mem_of_mem_take h)
  · exact .inl h
  · exact .inr (List.mem_of_mem_drop h)

def evalStore (P : Program) (t : TypeId) (p x : V) (blk : Option Blk) : Option Blk :=
  match tinf P t with
  | some ti => if x.firm = true ∧ x.cells.length = ti.size ∧ x.cells.all V.one = true then storeB p blk x.cells else none
  | none => none

theorem take_drop_get (vs : Array Value) (o : Nat) (us : Array Value) (h : o + us.size ≤ vs.size) (i : Nat) :
    (vs.toList.take o ++ us.toList ++ vs.toList.drop (o + us.toList.length)).toArray.getD i undef = if o ≤ i ∧ i < o + us.size then us.getD (i - o) undef else vs.getD i undef := by
  have hl : (vs.toList.take o).length = o := by simp; omega
  simp only [Array.getD_eq_getD_getElem?, List.getElem?_toArray]
  by_cases h1 : i < o
  · rw [if_neg (by omega), List.append_assoc, List.getElem?_append_left (by omega), List.getElem?_take_of_lt h1]
    simp
  · by_cases h2 : i < o + us.size
    · rw [if_pos (by omega), List.append_assoc, List.getElem?_append_right (by omega), hl, List.getElem?_append_left (by simp; omega)]
      simp
    · rw [if_neg (by omega), List.append_assoc, List.getElem?_append_right (by omega), hl, List.getElem?_append_right (by simp; omega), List.getElem?_drop]
      simp
      congr 2
      omega

theorem evalStore_run {P : Program} {g : Gh} {w : World} {H : Nat → Option Blk} {t : TypeId} {p x : V} {a b : Value} {nm : Nat} {k' : Blk} (h : evalStore P t p x (H nm) = some k') (hS : RS g w H) (hnm : refOf p = some nm) (hp : RV g w p a) (hx : RV g w x b) :
    ∃ w', (Instr.storeAt t a b).run P w = .ok () w' ∧ Ext g w g w' ∧ RS g w' (hset H nm (some k')) := by
  unfold evalStore at h
  split at h
  case h_2 => cases h
  rename_i ti hti
  split at h
  case isFalse => cases h
  rename_i hc
  obtain ⟨hf, hlen, hone⟩ := hc
  have hsz := run_sizeOf' hti w
  obtain ⟨hcl, hcr⟩ := rv_cells hx hf
  have hra : RA g w x.cells b.cells := ⟨hcl, hcr⟩
  have hones := ra_one hra hone
  unfold storeB at h
  split at h
  · rename_i nm' o cs hH
    obtain rfl : nm' = nm := by simpa [refOf] using hnm
    split at h
    case isFalse => cases h
    rename_i hle
    injection h with h
    subst h
    obtain ⟨hU, hok⟩ := hS.ok _ _ hH
    obtain ⟨bb, vs, tt, h1, h2, h3, h4⟩ := hok
    cases hp with
    | ptr _ _ b' hU' hblk =>
      rw [h1] at hblk
      injection hblk with hblk
      subst hblk
      have hst := run_storeCells_at P bb o tt b.cells.toList 0 vs w h2 (by simp; omega) hones
      simp only [Nat.add_zero] at hst
      have hget := take_drop_get vs o b.cells (by omega)
      have hnsz : (vs.toList.take o ++ b.cells.toList ++ vs.toList.drop (o + b.cells.toList.length)).toArray.size = vs.size := by simp; omega
      obtain ⟨new, hnew⟩ : ∃ n, n = (vs.toList.take o ++ b.cells.toList ++ vs.toList.drop (o + b.cells.toList.length)).toArray := ⟨_, rfl⟩
      rw [← hnew] at hst hget hnsz
      clear hnew
      refine ⟨_, by simp [Instr.storeAt, Instr.sureAddr, storeVar, hsz, hcl, hlen, hst]; rfl, ?_⟩
      refine hS.write hH h1 (fun i hi => setRow_other _ _ _ _ hi) rfl rfl rfl (by simp) fun e => ?_
      refine ⟨bb, _, tt, h1, setRow_heap _ _ _ _ _ _ h2, ?_, fun j y hy => ?_⟩
      · rw [hnsz, setRange_len _ _ _ hle, h3]
      · rw [hget]
        rw [setRange_get _ _ _ hle] at hy
        rw [hcl]
        split at hy
        · rename_i hc
          rw [if_pos hc]
          exact (hcr _ y hy).mono e
        · rename_i hc
          rw [if_neg hc]
          exact (h4 j y hy).mono e
  · rename_i nm' i o sz xs hH
    obtain rfl : nm' = nm := by simpa [refOf] using hnm
    split at h
    case h_2 => cases h
    rename_i el hel
    split at h
    case isFalse => cases h
    rename_i hle
    injection h with h
    subst h
    obtain ⟨hU, hok⟩ := hS.ok _ _ hH
    obtain ⟨h1, h2, h3, h4⟩ := hok
    cases hp with
    | eptr _ _ _ bb pp hU' hblk hpp =>
      rcases h4 with ⟨h4, _⟩ | ⟨b', vs, tt, h4, h5, h6, h7⟩
      · rw [h4] at hblk; cases hblk
      · rw [hblk] at h4
        injection h4 with h4
        subst h4
        have hi : i < xs.length := (List.getElem?_eq_some_iff.1 hel).1
        have hmul : (i + 1) * sz ≤ (g.ρ nm').tot * sz := Nat.mul_le_mul_right _ (by omega)
        have hels := h3 i el hel
        have hlt : pp + x.cells.length ≤ vs.size := by
          rw [Nat.add_mul] at hmul
          rw [hpp, h1]
          omega
        have hst := run_storeCells_at P bb pp tt b.cells.toList 0 vs w h5 (by simp; omega) hones
        simp only [Nat.add_zero] at hst
        have hget := take_drop_get vs pp b.cells (by omega)
        have hnsz : (vs.toList.take pp ++ b.cells.toList ++ vs.toList.drop (pp + b.cells.toList.length)).toArray.size = vs.size := by simp; omega
        obtain ⟨new, hnew'⟩ : ∃ n, n = (vs.toList.take pp ++ b.cells.toList ++ vs.toList.drop (pp + b.cells.toList.length)).toArray := ⟨_, rfl⟩
        rw [← hnew'] at hst hget hnsz
        clear hnew'
        refine ⟨_, by simp [Instr.storeAt, Instr.sureAddr, storeVar, hsz, hcl, hlen, hst]; rfl, ?_⟩
        refine hS.write hH hblk (fun i hi => setRow_other _ _ _ _ hi) rfl rfl rfl (by simp) fun e => ?_
        have hnew : (ofCells el (setRange el.cells o x.cells)).cells = setRange el.cells o x.cells := by
          refine ofCells_cells (setRange_len _ _ _ hle) fun y hy => ?_
          rcases setRange_mem hy with h | h
          · exact .inl (List.all_eq_true.1 hone y h)
          · exact .inr h
        have hset : ∀ (i' : Nat) (z : V), (xs.set i (ofCells el (setRange el.cells o x.cells)))[i']? = some z → z.cells.length = sz ∧ ∀ (j : Nat) (y : V), z.cells[j]? = some y → RV g (w.setRow bb new) y (new.getD ((g.ρ nm').off + i' * sz + j) undef) := by
          intro i' z hz
          rw [List.getElem?_set] at hz
          split at hz
          · rename_i hii
            subst hii
            simp [hi] at hz
            subst hz
            refine ⟨by rw [hnew, setRange_len _ _ _ hle, hels], fun j y hy => ?_⟩
            rw [hnew, setRange_get _ _ _ hle] at hy
            rw [hget]
            split at hy
            · rename_i hc
              rw [if_pos (by rw [hpp, h1, hcl]; omega)]
              have := (hcr _ y hy).mono e
              have e2 : (g.ρ nm').off + i * sz + j - pp = j - o := by rw [hpp, h1]; omega
              rw [e2]
              exact this
            · rename_i hc
              rw [if_neg (by rw [hpp, h1, hcl]; omega)]
              exact (h7 i j el y hel hy).mono e
          · rename_i hii
            have hzl := h3 i' z hz
            refine ⟨hzl, fun j y hy => ?_⟩
            rw [hget]
            have hj : j < sz := by rw [← hzl]; exact (List.getElem?_eq_some_iff.1 hy).1
            rw [if_neg ?_]
            · exact (h7 i' j z y hz hy).mono e
            · rw [hpp, h1, hcl]
              rcases Nat.lt_or_gt_of_ne hii with hlt | hgt
              · have : (i + 1) * sz ≤ i' * sz := Nat.mul_le_mul_right _ hlt
                rw [Nat.add_mul] at this
                omega
              · have : (i' + 1) * sz ≤ i * sz := Nat.mul_le_mul_right _ hgt
                rw [Nat.add_mul] at this
                omega
        refine ⟨h1, by simpa using h2, fun i' z hz => (hset i' z hz).1, .inr ⟨bb, _, tt, hblk, setRow_heap _ _ _ _ _ _ h5, by rw [hnsz]; exact h6, fun i' j z y hz hy => (hset i' z hz).2 j y hy⟩⟩
  · cases h
end Go.Proofs.Ytjjmedgibcffhaa.M
/- New blocks and append. -/
namespace Go.Proofs.Ytjjmedgibcffhaa.M
open Go.RowKit
set_option linter.unusedVariables false
set_option linter.unusedSimpArgs false

/-- What an operation does to the named blocks. -/
inductive Eff where
  | keep
  | put (nm : Nat) (k : Blk)
  | move (old : Option Nat) (nm : Nat) (k : Blk)
  | drop (nm : Nat)
def Eff.on (e : Eff) (H : Nat → Option Blk) : Nat → Option Blk :=
  match e with
  | .keep => H
  | .put nm k => hset H nm (some k)
  | .move none nm k => hset H nm (some k)
  | .move (some o) nm k => hset (hset H o none) nm (some k)
  | .drop nm => hset H nm none

theorem box_ok {g : Gh} {w : World} {H : Nat → Option Blk} {cs : List V} {vs : Array Value} (t : TypeId) (h : RA g w cs vs) {nm : Nat} (hn : ¬ g.U nm) (hS : RS g w H) :
    Ext g w (g.new nm ⟨some w.heap.size, 0, 0, 0⟩) (w.alloc (.cells vs t)) ∧ RS (g.new nm ⟨some w.heap.size, 0, 0, 0⟩) (w.alloc (.cells vs t)) (hset H nm (some (.box cs))) := by
  have hh : ∀ b, b < w.heap.size → (w.alloc (.cells vs t)).heap[b]? = w.heap[b]? := fun b hb => heap_alloc_old w _ hb
  have e : Ext g w (g.new nm ⟨some w.heap.size, 0, 0, 0⟩) (w.alloc (.cells vs t)) := ext_new _ hn hS.ltF hh rfl rfl rfl (by simp)
  exact hS.new hn hh rfl rfl rfl (by simp) rfl ⟨_, vs, t, by rw [g.new_at], heap_alloc_new _ _, h.1, fun j y hy => (h.2 j y hy).mono e⟩

theorem run_box' {P : Program} (w : World) (t : TypeId) (v : Value) : (Instr.box t v).run P w = .ok (.pointer (some ⟨w.heap.size, 0, none⟩)) (w.alloc (.cells v.cells t)) := by
  simp [Instr.box, newVar, newRow]

theorem evalBox_run {P : Program} {g : Gh} {w : World} {H : Nat → Option Blk} {t : TypeId} {x : V} {a : Value} {nm : Nat} (hf : x.firm = true) (hS : RS g w H) (hn : ¬ g.U nm) (hx : RV g w x a) :
    ∃ v' w' g', (Instr.box t a).run P w = .ok v' w' ∧ Ext g w g' w' ∧ RS g' w' (hset H nm (some (.box x.cells))) ∧ RV g' w' (.ptr nm 0) v' ∧ (∀ k, g'.U k → g.U k ∨ k = nm) := by
  obtain ⟨e, hS'⟩ := box_ok t (rv_cells hx hf) hn hS
  exact ⟨_, _, _, run_box' w t a, e, hS', .ptr nm 0 _ (.inr rfl) (by rw [g.new_at]), fun k hk => hk⟩

def zeroCs (ti : TI) : List V := ti.zero.cells.toList.map ofScalar
theorem zeroCs_ra (g : Gh) (w : World) (ti : TI) : RA g w (zeroCs ti) ti.zero.cells := by
  refine ⟨by simp [zeroCs], fun j y hy => ?_⟩
  simp only [zeroCs, List.getElem?_map, Option.map_eq_some_iff] at hy
  obtain ⟨c, hc, rfl⟩ := hy
  have : ti.zero.cells.getD j undef = c := by
    simp at hc
    simp [hc]
  rw [this]
  exact ofScalar_rv g w c

theorem evalAlloc_run {P : Program} {g : Gh} {w : World} {H : Nat → Option Blk} {t : TypeId} {ti : TI} {nm : Nat} (hti : tinf P t = some ti) (hS : RS g w H) (hn : ¬ g.U nm) :
    ∃ v' w' g', (Instr.alloc t true (.tuple #[])).run P w = .ok v' w' ∧ Ext g w g' w' ∧ RS g' w' (hset H nm (some (.box (zeroCs ti)))) ∧ RV g' w' (.ptr nm 0) v' ∧ (∀ k, g'.U k → g.U k ∨ k = nm) := by
  obtain ⟨e, hS'⟩ := box_ok t (zeroCs_ra g w ti) hn hS
  have hz := run_zeroValue' hti w
  exact ⟨_, _, _, by simp [Instr.alloc, hz, newVar, newRow] <;> rfl, e, hS', .ptr nm 0 _ (.inr rfl) (by rw [g.new_at]), fun k hk => hk⟩

/-- Lists in the order of their places. -/
def enumFrom {α : Type} : Nat → List α → List (Nat × α)
  | _, [] => []
  | k, x :: xs => (k, x) :: enumFrom (k + 1) xs
def isEnum : Nat → List Nat → Bool
  | _, [] => true
  | k, i :: is => i == k && isEnum (k + 1) is

theorem fill_enum {g : Gh} {w : World} {lk : Operand → V} {ev : Operand → Value} (hev : ∀ x, RV g w (lk x) (ev x)) (sz len : Nat) : ∀ (ps : List (Nat × Operand)) (k : Nat) (vs : Array Value),
    isEnum k (ps.map (·.1)) = true → (∀ p ∈ ps, (lk p.2).firm = true ∧ (lk p.2).cells.length = sz) → vs.size = len * sz → k + ps.length ≤ len →
    ∃ vs', Instr.fill (fun i => some (i * sz, sz)) vs (ps.map fun p => (p.1, ev p.2)) = some vs' ∧ vs'.size = vs.size ∧ (∀ m, m < k * sz → vs'.getD m undef = vs.getD m undef) ∧
      ∀ (i j : Nat) (y : V), ((ps[i]?).bind fun p => (lk p.2).cells[j]?) = some y → RV g w y (vs'.getD ((k + i) * sz + j) undef)
  | [], k, vs, _, _, _, _ => ⟨vs, rfl, rfl, fun _ _ => rfl, by simp⟩
  | (i, x) :: ps, k, vs, he, hp, hs, hl => by
    simp only [List.map_cons, isEnum, Bool.and_eq_true, beq_iff_eq] at he
    obtain ⟨rfl, he⟩ := he
    obtain ⟨hf, hc⟩ := hp (i, x) (by simp)
    simp only at hf hc
    obtain ⟨h1, h2⟩ := rv_cells (hev x) hf
    have hmul : (i + 1) * sz ≤ len * sz := Nat.mul_le_mul_right _ (by simp at hl; omega)
    rw [Nat.add_mul] at hmul
    have hsz1 : ((ev x).cells.zipIdx.foldl (fun cs (p : Value × Nat) => cs.setIfInBounds (i * sz + p.2) p.1) vs).size = vs.size := by
      rw [← Array.foldl_toList, fold_size]
    obtain ⟨vs', h3, h4, h5, h6⟩ := fill_enum hev sz len ps (i + 1) _ he (fun p hp' => hp p (by simp [hp'])) (hsz1.trans hs) (by simp at hl; omega)
    refine ⟨vs', ?_, h4.trans hsz1, fun m hm => ?_, fun i' j y hy => ?_⟩
    · simp only [List.map_cons, Instr.fill]
      rw [if_neg]
      · exact h3
      · rw [h1, hc, hs]
        simp
        omega
    · rw [h5 m (by rw [Nat.add_mul]; omega), ← Array.foldl_toList, Array.toList_zipIdx, fold_get, if_neg (by omega)]
    · cases i' with
      | zero =>
        simp at hy
        have hj : j < sz := by rw [← hc]; exact (List.getElem?_eq_some_iff.1 hy).1
        have hsl : (ev x).cells.toList.length = sz := by simp; omega
        rw [show i + 0 = i from rfl]
        rw [h5 _ (by rw [Nat.add_mul]; simp; omega), ← Array.foldl_toList, Array.toList_zipIdx, fold_get, if_pos ⟨by simp, by rw [hsl]; omega, by rw [hs]; omega⟩]
        have := h2 j y hy
        have e : i * sz + j - (i * sz + 0) = j := by omega
        rw [e]
        simpa [List.getD, Array.getD_eq_getD_getElem?] using this
      | succ i' =>
        have := h6 i' j y (by simpa using hy)
        have e : i + (i' + 1) = i + 1 + i' := by omega
        rw [e]
        exact this

/-- A literal slice: pure, if its elements are. -/
def evalBuildSlice0 (P : Program) (t : TypeId) (len : Nat) (parts : List (Nat × V)) (nm : Nat) : Option (V × Eff) :=
  match selem P t with
  | some e => match tinf P e with
    | some ti =>
      if len = parts.length ∧ isEnum 0 (parts.map (·.1)) = true ∧ len * ti.size ≤ 16777216 ∧ parts.all (fun p => p.2.firm && p.2.cells.length == ti.size) = true then
        match parts with
        | [] => some (.e0, .keep)
        | _ => match allD (parts.map (·.2)) with
          | some ds => if ds.all (okEl ti.size) then some (.d (.sl ds), .keep) else none
          | none => some (.vs (parts.map (·.2)), .keep)
      else none
    | none => none
  | none => none

theorem evalBuildSlice0_run {P : Program} {g : Gh} {w : World} {H : Nat → Option Blk} {t : TypeId} {len : Nat} {parts : Array (Nat × Operand)} {nm : Nat} {v : V} {ef : Eff} {lk : Operand → V} {ev : Operand → Value} (hev : ∀ x, RV g w (lk x) (ev x))
    (h : evalBuildSlice0 P t len (parts.toList.map fun p => (p.1, lk p.2)) nm = some (v, ef)) (hS : RS g w H) (hn : ¬ g.U nm) :
    ∃ v' w' g', (Instr.buildSlice t len (parts.map fun (i, x) => (i, ev x))).run P w = .ok v' w' ∧ Ext g w g' w' ∧ RS g' w' (ef.on H) ∧ RV g' w' v v' ∧ (∀ k, g'.U k → g.U k ∨ k = nm) := by
  unfold evalBuildSlice0 at h
  split at h
  case h_2 => cases h
  rename_i e he
  split at h
  case h_2 => cases h
  rename_i ti hti
  split at h
  case isFalse => cases h
  rename_i hc
  obtain ⟨hc1, hc2, hc3, hc4⟩ := hc
  have hu := selem_spec he
  have hsz := run_sizeOf' hti w
  have hz := run_zeroValue' hti w
  obtain ⟨_, _, _, _, _, hzs, _⟩ := tinf_spec hti
  have hmapfst : (parts.toList.map fun p => (p.1, lk p.2)).map (·.1) = parts.toList.map (·.1) := by simp [List.map_map, Function.comp_def]
  rw [hmapfst] at hc2
  have hlen : len = parts.size := by simpa using hc1
  have hall : ∀ p ∈ parts.toList, (lk p.2).firm = true ∧ (lk p.2).cells.length = ti.size := by
    intro p hp
    have := List.all_eq_true.1 hc4 (p.1, lk p.2) (List.mem_map.2 ⟨p, hp, rfl⟩)
    simpa using this
  obtain ⟨z0, hz0, hzz⟩ : ∃ z0 : Array Value, z0.size = len * ti.size ∧ ∀ (ps : Array (Nat × Value)) (vs' : Array Value), Instr.fill (fun i => some (i * ti.size, ti.size)) z0 ps.toList = some vs' → (Instr.buildSlice t len ps).run P w = .ok (.slice (some ⟨w.heap.size, 0, none⟩) len len) (w.alloc (.cells vs' e)) := by
    have h24 : ¬ (len * ti.size > 2 ^ 24) := by omega
    by_cases h0 : len * ti.size = 0
    · refine ⟨(Array.range (len * ti.size)).map ((#[] : Array Value)[· % (#[] : Array Value).size]!), by simp, fun ps vs' hf => ?_⟩
      simp only [Instr.buildSlice, Sem.run_bind, run_underlying hu, hsz, Result.andThen_ok, if_neg h24, if_pos h0, Sem.run_pure, hf]
      simp [newRow]
    · refine ⟨(Array.range (len * ti.size)).map (ti.zero.cells[· % ti.zero.cells.size]!), by simp, fun ps vs' hf => ?_⟩
      simp only [Instr.buildSlice, Sem.run_bind, run_underlying hu, hsz, Result.andThen_ok, if_neg h24, if_neg h0, hz, Sem.run_pure, hf]
      simp [newRow]
  obtain ⟨vs', h3, h4, _, h6⟩ := fill_enum hev ti.size len parts.toList 0 z0 hc2 hall hz0 (by simp; omega)
  have hrun : (Instr.buildSlice t len (parts.map fun (i, x) => (i, ev x))).run P w = .ok (.slice (some ⟨w.heap.size, 0, none⟩) len len) (w.alloc (.cells vs' e)) := by
    refine hzz _ vs' ?_
    rw [Array.toList_map]
    exact h3
  have hh : ∀ b, b < w.heap.size → (w.alloc (.cells vs' e)).heap[b]? = w.heap[b]? := fun b hb => heap_alloc_old w _ hb
  split at h
  · rename_i hnil
    injection h with h
    injection h with h1 h2
    subst h1 h2
    have : parts.toList = [] := by simpa using hnil
    have hl0 : len = 0 := by rw [hlen]; simpa using congrArg List.length this
    obtain ⟨hE, hS'⟩ := hS.newF (w' := w.alloc (.cells vs' e)) hh rfl rfl rfl (by simp)
    exact ⟨_, _, _, hrun, hE, hS', by rw [hl0]; exact .e0 _, fun k hk => .inl hk⟩
  · split at h
    · rename_i ds hds
      split at h
      case isFalse => cases h
      rename_i hok
      injection h with h
      injection h with h1 h2
      subst h1 h2
      have hds' := allD_some hds
      rw [List.map_map] at hds'
      obtain ⟨hE, hS'⟩ := hS.newF (w' := w.alloc (.cells vs' e)) hh rfl rfl rfl (by simp)
      have hdl : ds.length = len := by
        have := congrArg List.length hds'
        simp at this
        omega
      refine ⟨_, _, _, hrun, hE, hS', ?_, fun k hk => .inl hk⟩
      rw [← hdl]
      have hel : ∀ (i : Nat) (x : D), ds[i]? = some x → ∃ p, parts.toList[i]? = some p ∧ lk p.2 = .d x := by
        intro i x hx
        have : (parts.toList.map ((fun x => x.2) ∘ fun p => (p.1, lk p.2)))[i]? = some (.d x) := by rw [hds']; simp [hx]
        simp only [List.getElem?_map, Option.map_eq_some_iff] at this
        obtain ⟨p, hp, hpx⟩ := this
        exact ⟨p, hp, hpx⟩
      have hokl : ∀ x ∈ ds, x.cells.length = ti.size ∧ x.cells.all D.one = true := by
        intro x hx
        have := List.all_eq_true.1 hok x hx
        simpa [okEl] using this
      have hcells : ∀ (x : D) (j : Nat) (y : D), x.cells[j]? = some y → (V.d x).cells[j]? = some (.d y) := by
        intro x j y hy
        cases x <;> simp [V.cells, D.cells] at hy ⊢ <;> first | exact hy | (cases j <;> simp at hy ⊢; exact hy.symm ▸ rfl)
      have hread : ∀ (i j : Nat) (x y : D), ds[i]? = some x → x.cells[j]? = some y → RV g w (.d y) (vs'.getD (0 + i * ti.size + j) undef) := by
        intro i j x y hx hy
        obtain ⟨p, hp, hpx⟩ := hel i x hx
        have := h6 i j (.d y) (by rw [hp]; simp only [Option.bind_some]; rw [hpx]; exact hcells x j y hy)
        simpa using this
      refine .d (.sl ds w.heap.size 0 ds.length ti.size (fun i j => vs'.getD (0 + i * ti.size + j) undef) (.inr rfl) (Nat.le_refl _) (fun i x hx => (hokl x (List.mem_of_getElem? hx)).1) (fun i j x y hx hy => ?_) (fun i j x y hx hy => ?_))
      · have hi : i < len := by rw [← hdl]; exact (List.getElem?_eq_some_iff.1 hx).1
        have hj : j < ti.size := by rw [← (hokl x (List.mem_of_getElem? hx)).1]; exact (List.getElem?_eq_some_iff.1 hy).1
        have hmul : (i + 1) * ti.size ≤ len * ti.size := Nat.mul_le_mul_right _ hi
        rw [Nat.add_mul] at hmul
        have hlt : 0 + i * ti.size + j < vs'.size := by rw [h4, hz0]; omega
        unfold World.cell?
        rw [heap_alloc_new]
        simp at hlt
        simp [hlt]
      · have := hread i j x y hx hy
        cases this with | d h => exact h.mono hE.fz hE.keep
    · injection h with h
      injection h with h1 h2
      subst h1 h2
      obtain ⟨hE, hS'⟩ := hS.newF (w' := w.alloc (.cells vs' e)) hh rfl rfl rfl (by simp)
      refine ⟨_, _, _, hrun, hE, hS', ?_, fun k hk => .inl hk⟩
      have hpl : (((parts.toList.map fun p => (p.1, lk p.2))).map (·.2)).length = len := by simp; omega
      have hel : ∀ (i : Nat) (x : V), (((parts.toList.map fun p => (p.1, lk p.2))).map (·.2))[i]? = some x → ∃ p, parts.toList[i]? = some p ∧ lk p.2 = x ∧ x.cells.length = ti.size := by
        intro i x hx
        simp only [List.map_map, List.getElem?_map, Option.map_eq_some_iff] at hx
        obtain ⟨p, hp, rfl⟩ := hx
        exact ⟨p, hp, rfl, (hall p (List.mem_of_getElem? hp)).2⟩
      have key := RV.vs (g := g.frz w.heap.size) (w := w.alloc (.cells vs' e)) (((parts.toList.map fun p => (p.1, lk p.2))).map (·.2)) w.heap.size 0 len ti.size (fun i j => vs'.getD (0 + i * ti.size + j) undef) (.inr rfl) (by omega) (fun i x hx => by obtain ⟨_, _, _, h⟩ := hel i x hx; exact h)
        (fun i j x y hx hy => ?_) (fun i j x y hx hy => ?_)
      · rw [hpl] at key
        exact key
      · obtain ⟨p, hp, hpx, hcl⟩ := hel i x hx
        have hi : i < len := by rw [← hpl]; exact (List.getElem?_eq_some_iff.1 hx).1
        have hj : j < ti.size := by rw [← hcl]; exact (List.getElem?_eq_some_iff.1 hy).1
        have hmul : (i + 1) * ti.size ≤ len * ti.size := Nat.mul_le_mul_right _ hi
        rw [Nat.add_mul] at hmul
        have hlt : 0 + i * ti.size + j < vs'.size := by rw [h4, hz0]; omega
        unfold World.cell?
        rw [heap_alloc_new]
        simp at hlt
        simp [hlt]
      · obtain ⟨p, hp, hpx, _⟩ := hel i x hx
        subst hpx
        have := (h6 i j y (by rw [hp]; exact hy)).mono hE
        simpa using this
/-- The same, as a row of one's own. -/
def evalBuildOwn (P : Program) (t : TypeId) (len : Nat) (parts : List (Nat × V)) (nm : Nat) : Option (V × Eff) :=
  match selem P t with
  | some e => match tinf P e with
    | some ti =>
      if len = parts.length ∧ isEnum 0 (parts.map (·.1)) = true ∧ len * ti.size ≤ 16777216 ∧ parts.all (fun p => p.2.firm && p.2.cells.length == ti.size) = true then
        some (.ms nm ti.size 0 len, .put nm (.row ti.size (parts.map (·.2))))
      else none
    | none => none
  | none => none
theorem evalBuildOwn_run {P : Program} {g : Gh} {w : World} {H : Nat → Option Blk} {t : TypeId} {len : Nat} {parts : Array (Nat × Operand)} {nm : Nat} {v : V} {ef : Eff} {lk : Operand → V} {ev : Operand → Value} (hev : ∀ x, RV g w (lk x) (ev x))
    (h : evalBuildOwn P t len (parts.toList.map fun p => (p.1, lk p.2)) nm = some (v, ef)) (hS : RS g w H) (hn : ¬ g.U nm) :
    ∃ v' w' g', (Instr.buildSlice t len (parts.map fun (i, x) => (i, ev x))).run P w = .ok v' w' ∧ Ext g w g' w' ∧ RS g' w' (ef.on H) ∧ RV g' w' v v' ∧ (∀ k, g'.U k → g.U k ∨ k = nm) := by
  unfold evalBuildOwn at h
  split at h
  case h_2 => cases h
  rename_i e he
  split at h
  case h_2 => cases h
  rename_i ti hti
  split at h
  case isFalse => cases h
  rename_i hc
  obtain ⟨hc1, hc2, hc3, hc4⟩ := hc
  have hu := selem_spec he
  have hsz := run_sizeOf' hti w
  have hz := run_zeroValue' hti w
  obtain ⟨_, _, _, _, _, hzs, _⟩ := tinf_spec hti
  have hmapfst : (parts.toList.map fun p => (p.1, lk p.2)).map (·.1) = parts.toList.map (·.1) := by simp [List.map_map, Function.comp_def]
  rw [hmapfst] at hc2
  have hlen : len = parts.size := by simpa using hc1
  have hall : ∀ p ∈ parts.toList, (lk p.2).firm = true ∧ (lk p.2).cells.length = ti.size := by
    intro p hp
    have := List.all_eq_true.1 hc4 (p.1, lk p.2) (List.mem_map.2 ⟨p, hp, rfl⟩)
    simpa using this
  obtain ⟨z0, hz0, hzz⟩ : ∃ z0 : Array Value, z0.size = len * ti.size ∧ ∀ (ps : Array (Nat × Value)) (vs' : Array Value), Instr.fill (fun i => some (i * ti.size, ti.size)) z0 ps.toList = some vs' → (Instr.buildSlice t len ps).run P w = .ok (.slice (some ⟨w.heap.size, 0, none⟩) len len) (w.alloc (.cells vs' e)) := by
    have h24 : ¬ (len * ti.size > 2 ^ 24) := by omega
    by_cases h0 : len * ti.size = 0
    · refine ⟨(Array.range (len * ti.size)).map ((#[] : Array Value)[· % (#[] : Array Value).size]!), by simp, fun ps vs' hf => ?_⟩
      simp only [Instr.buildSlice, Sem.run_bind, run_underlying hu, hsz, Result.andThen_ok, if_neg h24, if_pos h0, Sem.run_pure, hf]
      simp [newRow]
    · refine ⟨(Array.range (len * ti.size)).map (ti.zero.cells[· % ti.zero.cells.size]!), by simp, fun ps vs' hf => ?_⟩
      simp only [Instr.buildSlice, Sem.run_bind, run_underlying hu, hsz, Result.andThen_ok, if_neg h24, if_neg h0, hz, Sem.run_pure, hf]
      simp [newRow]
  obtain ⟨vs', h3, h4, _, h6⟩ := fill_enum hev ti.size len parts.toList 0 z0 hc2 hall hz0 (by simp; omega)
  have hrun : (Instr.buildSlice t len (parts.map fun (i, x) => (i, ev x))).run P w = .ok (.slice (some ⟨w.heap.size, 0, none⟩) len len) (w.alloc (.cells vs' e)) := by
    refine hzz _ vs' ?_
    rw [Array.toList_map]
    exact h3
  have hh : ∀ b, b < w.heap.size → (w.alloc (.cells vs' e)).heap[b]? = w.heap[b]? := fun b hb => heap_alloc_old w _ hb
  injection h with h
  injection h with h1 h2
  subst h1 h2
  have hE : Ext g w (g.new nm ⟨some w.heap.size, 0, ti.size, len⟩) (w.alloc (.cells vs' e)) := ext_new _ hn hS.ltF hh rfl rfl rfl (by simp)
  obtain ⟨hE, hS'⟩ := hS.new (k := .row ti.size (((parts.toList.map fun p => (p.1, lk p.2))).map (·.2))) hn hh rfl rfl rfl (by simp) rfl (r := ⟨some w.heap.size, 0, ti.size, len⟩) (by
    refine ⟨by rw [g.new_at], by rw [g.new_at]; simp; omega, fun i x hx => ?_, .inr ⟨w.heap.size, vs', e, by rw [g.new_at], heap_alloc_new _ _, by rw [g.new_at]; simp; omega, fun i j x y hx hy => ?_⟩⟩
    · simp only [List.map_map, List.getElem?_map, Option.map_eq_some_iff] at hx
      obtain ⟨p, hp, rfl⟩ := hx
      exact (hall p (List.mem_of_getElem? hp)).2
    · simp only [List.map_map, List.getElem?_map, Option.map_eq_some_iff] at hx
      obtain ⟨p, hp, rfl⟩ := hx
      rw [g.new_at]
      have := (h6 i j y (by rw [hp]; exact hy)).mono hE
      simpa using this)
  refine ⟨_, _, _, hrun, hE, hS', .ms nm ti.size 0 len w.heap.size 0 len (.inr rfl) (by rw [g.new_at]) (by rw [g.new_at]) (by rw [g.new_at]; simp) (Nat.le_refl _) (by rw [g.new_at]; simp), fun k hk => hk⟩
/-- An element that is nil, as pure data. -/
def nilD : V → V
  | .nil => .d .nil
  | x => x
theorem nilD_rv {g : Gh} {w : World} {x : V} {v : Value} (h : RV g w x v) : RV g w (nilD x) v := by
  cases h with
  | nil => exact .d .nil
  | d h => exact .d h
  | undef => exact .undef _
  | e0 => exact .e0 _
  | ptr a b c d e => exact .ptr a b c d e
  | eptr a b c d e f k l => exact .eptr a b c d e f k l
  | rptr a b c d e f k => exact .rptr a b c d e f k
  | ms a b c d e f k l m n o p q => exact .ms a b c d e f k l m n o p q
  | msZero a b c d e => exact .msZero a b c d e
  | map a b c d => exact .map a b c d
  | fn a b c d e => exact .fn a b c d e
  | agg a b c d => exact .agg a b c d
  | tup a b c d => exact .tup a b c d
  | vs a b c d e f k l m n o => exact .vs a b c d e f k l m n o
def evalBuildSlice (P : Program) (t : TypeId) (len : Nat) (parts : List (Nat × V)) (nm : Nat) : Option (V × Eff) := evalBuildSlice0 P t len (parts.map fun p => (p.1, nilD p.2)) nm
theorem evalBuildSlice_run {P : Program} {g : Gh} {w : World} {H : Nat → Option Blk} {t : TypeId} {len : Nat} {parts : Array (Nat × Operand)} {nm : Nat} {v : V} {ef : Eff} {lk : Operand → V} {ev : Operand → Value} (hev : ∀ x, RV g w (lk x) (ev x))
    (h : evalBuildSlice P t len (parts.toList.map fun p => (p.1, lk p.2)) nm = some (v, ef)) (hS : RS g w H) (hn : ¬ g.U nm) :
    ∃ v' w' g', (Instr.buildSlice t len (parts.map fun (i, x) => (i, ev x))).run P w = .ok v' w' ∧ Ext g w g' w' ∧ RS g' w' (ef.on H) ∧ RV g' w' v v' ∧ (∀ k, g'.U k → g.U k ∨ k = nm) := by
  unfold evalBuildSlice at h
  rw [List.map_map] at h
  exact evalBuildSlice0_run (lk := fun x => nilD (lk x)) (fun x => nilD_rv (hev x)) h hS hn
end Go.Proofs.Ytjjmedgibcffhaa.M
/- Append; make of slices. -/
namespace Go.Proofs.Ytjjmedgibcffhaa.M
open Go.RowKit
set_option linter.unusedVariables false
set_option linter.unusedSimpArgs false

theorem wide_fits {need bytes : Nat} (h : need * bytes ≤ 211106232532992) (hb : bytes ≤ 65536) : (need + need / 4 + 192) * bytes ≤ 281474976710656 := by
  have h1 : need / 4 * 4 ≤ need := Nat.div_mul_le_self _ _
  have h2 := Nat.mul_le_mul_right bytes h1
  rw [Nat.mul_right_comm] at h2
  rw [Nat.add_mul, Nat.add_mul]
  omega
/-- The elements of what is appended. -/
def srcD : V → Option (List D)
  | .d (.sl ys) => some ys
  | .nil | .e0 => some []
  | _ => none
def baseOf (sz : Nat) (s : V) (blk : Option Blk) : Option (List V × Option Nat × Nat) :=
  match s, blk with
  | .nil, _ => some ([], none, 0)
  | .e0, _ => some ([], none, 0)
  | .d .nil, _ => some ([], none, 0)
  | .ms nm sz' o n, some (.row sz'' xs) => if sz' = sz ∧ sz'' = sz ∧ o + n ≤ xs.length then some ((xs.drop o).take n, some nm, n) else none
  | _, _ => none
theorem okEl_spec {sz : Nat} {x : D} (h : okEl sz x = true) : x.cells.length = sz ∧ x.cells.all D.one = true := by simpa [okEl] using h
theorem d_cells (x : D) : (V.d x).cells = x.cells.map V.d := by cases x <;> rfl

/-- An element that may be appended. -/
def okV (sz : Nat) (x : V) : Bool := x.cells.length == sz && x.cells.all V.one
theorem okV_spec {sz : Nat} {x : V} (h : okV sz x = true) : x.cells.length = sz ∧ x.cells.all V.one = true := by simpa [okV] using h
theorem okV_d {sz : Nat} {x : D} (h : okEl sz x = true) : okV sz (.d x) = true := by
  obtain ⟨h1, h2⟩ := okEl_spec h
  unfold okV
  rw [d_cells, List.length_map, h1, Bool.and_eq_true]
  refine ⟨by simp, ?_⟩
  rw [List.all_map, List.all_eq_true]
  intro y hy
  have := List.all_eq_true.1 h2 y hy
  cases y <;> first | rfl | cases this
theorem okV_ms (a b c d : Nat) : okV 1 (.ms a b c d) = true := rfl
theorem okV_agg (sz : Nat) (xs : List V) : okV sz (.agg xs) = (xs.length == sz && xs.all V.one) := rfl
def evalAppend (P : Program) (t : TypeId) (s x : V) (blk : Option Blk) (nm : Nat) : Option (V × Eff) :=
  match selem P t with
  | some e => match tinf P e with
    | some ti => match baseOf ti.size s blk, srcD x with
      | some (es, old, n), some ys => if ys.all (okEl ti.size) = true ∧ (n + ys.length) * ti.bytes ≤ 211106232532992 ∧ ti.bytes ≤ 65536 ∧ ti.size ≠ 0 ∧ ti.bytes ≠ 0 then
          some (.ms nm ti.size 0 (n + ys.length), .move old nm (.row ti.size (es ++ ys.map V.d))) else none
      | some (es, old, n), none => match x with
        | .vs ys => if ys.all (okV ti.size) = true ∧ (n + ys.length) * ti.bytes ≤ 211106232532992 ∧ ti.bytes ≤ 65536 ∧ ti.size ≠ 0 ∧ ti.bytes ≠ 0 then
          some (.ms nm ti.size 0 (n + ys.length), .move old nm (.row ti.size (es ++ ys))) else none
        | _ => none
      | _, _ => none
    | none => none
  | none => none

theorem divmod {sz i j : Nat} (hj : j < sz) : (i * sz + j) / sz = i ∧ (i * sz + j) % sz = j := by
  have h0 : 0 < sz := by omega
  constructor
  · rw [Nat.add_comm, Nat.add_mul_div_right _ _ h0, Nat.div_eq_of_lt hj]; omega
  · rw [Nat.add_comm, Nat.add_mul_mod_self_right, Nat.mod_eq_of_lt hj]

/-- What is appended, as it lies in memory. -/
def SrcOK (P : Program) (g : Gh) (w : World) (v : Value) (ys : List V) (sz : Nat) : Prop :=
  ∃ (a : Option Addr) (c : Nat) (news : List Value), v = .slice a ys.length c ∧ news.length = ys.length * sz ∧ (∀ w' : World, (∀ b, g.F b → w'.heap[b]? = w.heap[b]?) → (Builtin.firstCells sz ys.length v).run P w' = .ok news.toArray w') ∧
      (∀ u ∈ news, u.oneCell' = true) ∧ (∀ (i j : Nat) (z y : V), ys[i]? = some z → z.cells[j]? = some y → RV g w y (news.getD (i * sz + j) undef)) ∧
      (ys ≠ [] → ∃ ad, a = some ad ∧ ∀ w' : World, (∀ b, g.F b → w'.heap[b]? = w.heap[b]?) → ∀ (j : Nat) (u : Value), news[j]? = some u → w'.cell? (ad.add j) = some u)
theorem src_empty {P : Program} {g : Gh} {w : World} {sz : Nat} (a : Option Addr) (c : Nat) : SrcOK P g w (.slice a 0 c) [] sz := by
  refine ⟨a, c, [], rfl, by simp, fun w' _ => ?_, by simp, by simp, fun h => absurd rfl h⟩
  cases a <;> simp [Builtin.firstCells, loadCells, loadCellsFrom]
theorem src_vs {P : Program} {g : Gh} {w : World} {ys : List V} {b o c sz : Nat} {u : Nat → Nat → Value} (hF : g.F b) (h1 : ∀ (i : Nat) (x : V), ys[i]? = some x → x.cells.length = sz)
    (h2 : ∀ (i j : Nat) (x y : V), ys[i]? = some x → x.cells[j]? = some y → w.cell? ⟨b, o + i * sz + j, none⟩ = some (u i j)) (h3 : ∀ (i j : Nat) (x y : V), ys[i]? = some x → x.cells[j]? = some y → RV g w y (u i j))
    (hok : ys.all (okV sz) = true) (h0 : sz ≠ 0) : SrcOK P g w (.slice (some ⟨b, o, none⟩) ys.length c) ys sz := by
  have hel : ∀ (i j : Nat), i < ys.length → j < sz → ∃ z y, ys[i]? = some z ∧ z.cells[j]? = some y ∧ y.one = true := by
    intro i j hi hj
    have e2 := okV_spec (List.all_eq_true.1 hok ys[i] (List.getElem_mem _))
    have hj' : j < ys[i].cells.length := by omega
    exact ⟨ys[i], ys[i].cells[j], by simp, by simp, List.all_eq_true.1 e2.2 _ (List.getElem_mem _)⟩
  let news := (List.range (ys.length * sz)).map fun k => u (k / sz) (k % sz)
  have hk : ∀ k, k < ys.length * sz → k / sz < ys.length ∧ k % sz < sz ∧ k / sz * sz + k % sz = k := by
    intro k hk
    have h0' : 0 < sz := by omega
    exact ⟨Nat.div_lt_of_lt_mul (by rw [Nat.mul_comm]; exact hk), Nat.mod_lt _ h0', by rw [Nat.mul_comm]; exact Nat.div_add_mod k sz⟩
  have hcell : ∀ w' : World, (∀ b, g.F b → w'.heap[b]? = w.heap[b]?) → ∀ (j : Nat) (v : Value), news[j]? = some v → w'.cell? ((⟨b, o, none⟩ : Addr).add j) = some v := by
    intro w' hw j v hv
    simp only [news, List.getElem?_map, Option.map_eq_some_iff] at hv
    obtain ⟨k, hk', rfl⟩ := hv
    have hkk : j < ys.length * sz ∧ k = j := by
      obtain ⟨h1, h2⟩ := List.getElem?_eq_some_iff.1 hk'
      simp at h1 h2
      exact ⟨h1, h2.symm⟩
    obtain ⟨hj, rfl⟩ := hkk
    obtain ⟨e1, e2, e3⟩ := hk k hj
    obtain ⟨z, y, hz, hy, _⟩ := hel _ _ e1 e2
    rw [addr_add, cell_congr (hw b hF)]
    have := h2 _ _ z y hz hy
    rw [show o + k / sz * sz + k % sz = o + k by omega] at this
    exact this
  refine ⟨_, c, news, rfl, by simp [news], fun w' hw => ?_, ?_, ?_, fun _ => ⟨_, rfl, hcell⟩⟩
  · exact run_firstCells_some (P := P) w' sz ys.length ⟨b, o, none⟩ _ c news (by simp [news]) (hcell w' hw)
  · intro q hq
    simp only [news, List.mem_map, List.mem_range] at hq
    obtain ⟨k, hk', rfl⟩ := hq
    obtain ⟨e1, e2, e3⟩ := hk k hk'
    obtain ⟨z, y, hz, hy, hone⟩ := hel _ _ e1 e2
    exact rv_one (h3 _ _ z y hz hy) hone
  · intro i j z y hz hy
    have hi : i < ys.length := (List.getElem?_eq_some_iff.1 hz).1
    have hj : j < sz := by
      rw [← h1 i z hz]
      exact (List.getElem?_eq_some_iff.1 hy).1
    have hlt : i * sz + j < ys.length * sz := by
      have : (i + 1) * sz ≤ ys.length * sz := Nat.mul_le_mul_right _ hi
      rw [Nat.add_mul] at this
      omega
    obtain ⟨e1, e2⟩ := divmod (i := i) hj
    have : news.getD (i * sz + j) undef = u i j := by
      simp [news, List.getD, hlt, e1, e2]
    rw [this]
    exact h3 i j z y hz hy
theorem src_ok {P : Program} {g : Gh} {w : World} {x : V} {v : Value} {ys : List D} {sz : Nat} (h : srcD x = some ys) (hx : RV g w x v) (hok : ys.all (okEl sz) = true) (h0 : sz ≠ 0) : SrcOK P g w v (ys.map V.d) sz := by
  unfold srcD at h
  split at h
  · rename_i ys'
    injection h with h
    subst h
    cases hx with | d hx =>
    cases hx with
    | slNil a c => exact src_empty a c
    | sl _ b o c sz' u hF hc h1 h2 h3 =>
      by_cases hnil : ys' = []
      · subst hnil
        exact src_empty _ c
      · have hszz : sz' = sz := by
          have hlt : 0 < ys'.length := List.length_pos_iff.2 hnil
          have e1 := h1 0 ys'[0] (by simp [hlt])
          have e2 := okEl_spec (List.all_eq_true.1 hok ys'[0] (List.getElem_mem _))
          omega
        subst hszz
        have := src_vs (P := P) (g := g) (w := w) (ys := ys'.map V.d) (b := b) (o := o) (c := c) (sz := sz') (u := u) hF (fun i x hx => ?_) (fun i j x y hx hy => ?_) (fun i j x y hx hy => ?_) ?_ h0
        · rw [List.length_map] at this
          exact this
        · simp only [List.getElem?_map, Option.map_eq_some_iff] at hx
          obtain ⟨z, hz, rfl⟩ := hx
          rw [d_cells, List.length_map]
          exact h1 i z hz
        · simp only [List.getElem?_map, Option.map_eq_some_iff] at hx
          obtain ⟨z, hz, rfl⟩ := hx
          simp only [d_cells, List.getElem?_map, Option.map_eq_some_iff] at hy
          obtain ⟨q, hq, rfl⟩ := hy
          exact h2 i j z q hz hq
        · simp only [List.getElem?_map, Option.map_eq_some_iff] at hx
          obtain ⟨z, hz, rfl⟩ := hx
          simp only [d_cells, List.getElem?_map, Option.map_eq_some_iff] at hy
          obtain ⟨q, hq, rfl⟩ := hy
          exact .d (h3 i j z q hz hq)
        · rw [List.all_map, List.all_eq_true]
          exact fun z hz => okV_d (List.all_eq_true.1 hok z hz)
  · injection h with h
    subst h
    cases hx
    exact src_empty _ _
  · injection h with h
    subst h
    cases hx
    exact src_empty _ _
  · cases h

/-- A row with what was appended, in its new place. -/
theorem row_new {g g' : Gh} {w w' : World} (hE : Ext g w g' w') {es ys : List V} {sz : Nat} {olds news : List Value} (hes : ∀ (i : Nat) (x : V), es[i]? = some x → x.cells.length = sz ∧ ∀ (j : Nat) (y : V), x.cells[j]? = some y → RV g w y (olds.getD (i * sz + j) undef))
    (hol : olds.length = es.length * sz) (hok : ys.all (okV sz) = true) (hnews : ∀ (i j : Nat) (z y : V), ys[i]? = some z → z.cells[j]? = some y → RV g w y (news.getD (i * sz + j) undef)) (hnl : news.length = ys.length * sz)
    (vs : Array Value) (off : Nat) (hvs : ∀ k, k < (es.length + ys.length) * sz → vs.getD (off + k) undef = (olds ++ news).getD k undef) :
    (∀ (i : Nat) (x : V), (es ++ ys)[i]? = some x → x.cells.length = sz) ∧ ∀ (i j : Nat) (x y : V), (es ++ ys)[i]? = some x → x.cells[j]? = some y → RV g' w' y (vs.getD (off + i * sz + j) undef) := by
  have h1 : ∀ (i : Nat) (x : V), (es ++ ys)[i]? = some x → x.cells.length = sz := by
    intro i x hx
    rw [List.getElem?_append] at hx
    split at hx
    · exact (hes i x hx).1
    · exact (okV_spec (List.all_eq_true.1 hok x (List.mem_of_getElem? hx))).1
  refine ⟨h1, fun i j x y hx hy => ?_⟩
  have hj : j < sz := by rw [← h1 i x hx]; exact (List.getElem?_eq_some_iff.1 hy).1
  have hi : i < es.length + ys.length := by have := (List.getElem?_eq_some_iff.1 hx).1; simpa using this
  have hm : (i + 1) * sz ≤ (es.length + ys.length) * sz := Nat.mul_le_mul_right _ hi
  rw [Nat.add_mul] at hm
  rw [show off + i * sz + j = off + (i * sz + j) by omega, hvs _ (by omega)]
  rw [List.getElem?_append] at hx
  split at hx
  · rename_i hlt
    have hm2 : (i + 1) * sz ≤ es.length * sz := Nat.mul_le_mul_right _ hlt
    rw [Nat.add_mul] at hm2
    have := (hes i x hx).2 j y hy
    have e : (olds ++ news).getD (i * sz + j) undef = olds.getD (i * sz + j) undef := by
      simp only [List.getD]
      rw [List.getElem?_append_left (by omega)]
    rw [e]
    exact this.mono hE
  · rename_i hge
    have := hnews _ j x y hx hy
    have hge' : es.length * sz ≤ i * sz := Nat.mul_le_mul_right _ (by omega)
    have e : (olds ++ news).getD (i * sz + j) undef = news.getD ((i - es.length) * sz + j) undef := by
      simp only [List.getD]
      rw [List.getElem?_append_right (by omega)]
      congr 2
      rw [hol, Nat.sub_mul]
      omega
    rw [e]
    exact this.mono hE

theorem append_inplace {P : Program} {g : Gh} {w : World} {H : Nat → Option Blk} {nm0 nm sz o n b c : Nat} {xs ys : List V} {t : TypeId} {vs : Array Value} {news : List Value} (hS : RS g w H) (hH : H nm0 = some (.row sz xs)) (hb : (g.ρ nm0).blk = some b)
    (hsz : (g.ρ nm0).sz = sz) (htot : o + c ≤ (g.ρ nm0).tot) (hfit : n + ys.length ≤ c) (hon : o + n ≤ xs.length) (hhb : w.heap[b]? = some (.cells vs t (0, 0))) (hvs : (g.ρ nm0).off + (g.ρ nm0).tot * sz ≤ vs.size)
    (hxs : ∀ (i : Nat) (x : V), xs[i]? = some x → x.cells.length = sz) (hcells : ∀ (i j : Nat) (x y : V), xs[i]? = some x → x.cells[j]? = some y → RV g w y (vs.getD ((g.ρ nm0).off + i * sz + j) undef))
    (hok : ys.all (okV sz) = true) (hnl : news.length = ys.length * sz) (hone : ∀ u ∈ news, u.oneCell' = true) (hnews : ∀ (i j : Nat) (z y : V), ys[i]? = some z → z.cells[j]? = some y → RV g w y (news.getD (i * sz + j) undef))
    (hn : ¬ g.U nm) :
    ∃ w' g', (storeCells ⟨b, (g.ρ nm0).off + o * sz + n * sz, none⟩ news).run P w = .ok () w' ∧ Ext g w g' w' ∧ RS g' w' (hset (hset H nm0 none) nm (some (.row sz ((xs.drop o).take n ++ ys)))) ∧
      RV g' w' (.ms nm sz 0 (n + ys.length)) (.slice (some ⟨b, (g.ρ nm0).off + o * sz, none⟩) (n + ys.length) c) ∧ (∀ k, g'.U k → g.U k ∨ k = nm) := by
  have hsome : (H nm0).isSome := by simp [hH]
  have hm1 : (o + c) * sz ≤ (g.ρ nm0).tot * sz := Nat.mul_le_mul_right _ htot
  have hm2 : (n + ys.length) * sz ≤ c * sz := Nat.mul_le_mul_right _ hfit
  rw [Nat.add_mul] at hm1 hm2
  have hst := run_storeCells_at P b ((g.ρ nm0).off + o * sz + n * sz) t news 0 vs w hhb (by rw [hnl]; omega) hone
  simp only [Nat.add_zero] at hst
  have hget := take_drop_get vs ((g.ρ nm0).off + o * sz + n * sz) news.toArray (by simp [hnl]; omega)
  simp only [List.toList_toArray, List.size_toArray] at hget
  have hnsz : (vs.toList.take ((g.ρ nm0).off + o * sz + n * sz) ++ news ++ vs.toList.drop ((g.ρ nm0).off + o * sz + n * sz + news.length)).toArray.size = vs.size := by simp; omega
  obtain ⟨new, hnew'⟩ : ∃ q, q = (vs.toList.take ((g.ρ nm0).off + o * sz + n * sz) ++ news ++ vs.toList.drop ((g.ρ nm0).off + o * sz + n * sz + news.length)).toArray := ⟨_, rfl⟩
  rw [← hnew'] at hst hget hnsz
  clear hnew'
  have hnF := hS.notF nm0 b hsome hb
  have hoth : ∀ i, i ≠ b → (w.setRow b new).heap[i]? = w.heap[i]? := fun i hi => setRow_other _ _ _ _ hi
  let r : Rf := ⟨some b, (g.ρ nm0).off + o * sz, sz, c⟩
  have hE : Ext g w (g.new nm r) (w.setRow b new) := ⟨fun k h => .inl h, fun k h => g.new_ne r (fun e => hn (e ▸ h)), fun i h => h, fun i h => hoth i (fun e => hnF.1 (e ▸ h)), rfl, rfl, rfl, by simp⟩
  have hes : ∀ (i : Nat) (x : V), ((xs.drop o).take n)[i]? = some x → x.cells.length = sz ∧ ∀ (j : Nat) (y : V), x.cells[j]? = some y → RV g w y (((List.range (n * sz)).map fun k => vs.getD ((g.ρ nm0).off + o * sz + k) undef).getD (i * sz + j) undef) := by
    intro i x hx
    rw [List.getElem?_take] at hx
    split at hx
    · rename_i hi
      rw [List.getElem?_drop] at hx
      refine ⟨hxs _ x hx, fun j y hy => ?_⟩
      have hj : j < sz := by rw [← hxs _ x hx]; exact (List.getElem?_eq_some_iff.1 hy).1
      have hm3 : (i + 1) * sz ≤ n * sz := Nat.mul_le_mul_right _ hi
      rw [Nat.add_mul] at hm3
      have := hcells (o + i) j x y hx hy
      have hlt : i * sz + j < n * sz := by omega
      simp only [List.getD, List.getElem?_map, List.getElem?_range hlt, Option.map_some, Option.getD_some]
      rw [show (g.ρ nm0).off + o * sz + (i * sz + j) = (g.ρ nm0).off + (o + i) * sz + j by rw [Nat.add_mul]; omega]
      exact this
    · cases hx
  have hlen : ((xs.drop o).take n).length = n := by simp; omega
  obtain ⟨hr1, hr2⟩ := row_new hE hes (by simp [hlen]) hok hnews hnl new ((g.ρ nm0).off + o * sz) (by
    intro k hk
    rw [hlen, Nat.add_mul] at hk
    rw [hget]
    by_cases h1 : k < n * sz
    · rw [if_neg (by omega)]
      simp only [List.getD]
      rw [List.getElem?_append_left (by simpa using h1)]
      simp [h1]
    · rw [if_pos (by omega)]
      simp only [List.getD]
      rw [List.getElem?_append_right (by simp; omega)]
      simp
      congr 2
      omega)
  refine ⟨_, _, hst, hE, ?_, .ms nm sz 0 _ b _ c (.inr rfl) (by rw [g.new_at]) (by rw [g.new_at]) (by rw [g.new_at]; simp [r]) hfit (by rw [g.new_at]; simp [r]), fun k hk => hk⟩
  have hS0 : RS g w (hset H nm0 none) := hS.less fun k q hq => by
    unfold hset at hq
    split at hq
    · cases hq
    · exact hq
  have hne : ∀ k, (hset H nm0 none k).isSome → k ≠ nm0 ∧ (H k).isSome := by
    intro k hk
    unfold hset at hk
    split at hk
    · cases hk
    · exact ⟨by assumption, hk⟩
  refine hS0.put hE (fun k i hk hks hi => hoth i fun e => ?_) (.inr rfl) ?_ ?_ ?_
  · subst e
    exact (hne k hks).1 (hS.inj k nm0 i (hne k hks).2 hsome hi hb)
  · refine ⟨by rw [g.new_at], by rw [g.new_at]; simp [r]; omega, hr1, .inr ⟨b, new, t, by rw [g.new_at], setRow_heap _ _ _ _ _ _ hhb, by rw [g.new_at, hnsz]; simp only [r]; omega, fun i j x y hx hy => by rw [g.new_at]; exact hr2 i j x y hx hy⟩⟩
  · intro i hi
    rw [g.new_at] at hi
    have hi : b = i := by injection hi
    subst hi
    exact ⟨hnF.1, by simpa using hnF.2, fun k _ hks hbk => (hne k hks).1 (hS.inj k nm0 b (hne k hks).2 hsome hbk hb)⟩
  · intro i hi
    exact ⟨by simpa using hS.ltF i hi, fun k _ hks hbk => (hS.notF k i (hne k hks).2 hbk).1 hi⟩

/-- A row that has moved to a new block. -/
theorem append_moved {g : Gh} {w w' : World} {H : Nat → Option Blk} {old : Option Nat} {nm sz cap : Nat} {es ys : List V} {t : TypeId} {olds news zs : List Value} (hS : RS g w H) (hn : ¬ g.U nm)
    (hes : ∀ (i : Nat) (x : V), es[i]? = some x → x.cells.length = sz ∧ ∀ (j : Nat) (y : V), x.cells[j]? = some y → RV g w y (olds.getD (i * sz + j) undef)) (hol : olds.length = es.length * sz)
    (hok : ys.all (okV sz) = true) (hnl : news.length = ys.length * sz) (hnews : ∀ (i j : Nat) (z y : V), ys[i]? = some z → z.cells[j]? = some y → RV g w y (news.getD (i * sz + j) undef))
    (hcap : es.length + ys.length ≤ cap) (hzs : zs.length = (cap - (es.length + ys.length)) * sz) (hw : w' = w.drew.alloc (.cells (olds ++ news ++ zs).toArray t)) :
    Ext g w (g.new nm ⟨some w.heap.size, 0, sz, cap⟩) w' ∧ RS (g.new nm ⟨some w.heap.size, 0, sz, cap⟩) w' ((Eff.move old nm (.row sz (es ++ ys))).on H) ∧ RV (g.new nm ⟨some w.heap.size, 0, sz, cap⟩) w' (.ms nm sz 0 (es.length + ys.length)) (.slice (some ⟨w.heap.size, 0, none⟩) (es.length + ys.length) cap) := by
  subst hw
  have hh : ∀ b, b < w.heap.size → (w.drew.alloc (.cells (olds ++ news ++ zs).toArray t)).heap[b]? = w.heap[b]? := fun b hb => heap_alloc_old w.drew _ hb
  have hE : Ext g w (g.new nm ⟨some w.heap.size, 0, sz, cap⟩) (w.drew.alloc (.cells (olds ++ news ++ zs).toArray t)) := ext_new _ hn hS.ltF hh rfl rfl rfl (by simp)
  obtain ⟨hr1, hr2⟩ := row_new hE hes hol hok hnews hnl (olds ++ news ++ zs).toArray 0 (by
    intro k hk
    rw [Nat.add_mul] at hk
    simp only [Nat.zero_add, Array.getD_eq_getD_getElem?, List.getElem?_toArray, List.getD]
    rw [List.getElem?_append_left (by simp; omega)])
  have hblk : BlkOK (g.new nm ⟨some w.heap.size, 0, sz, cap⟩) (w.drew.alloc (.cells (olds ++ news ++ zs).toArray t)) nm (.row sz (es ++ ys)) := by
    refine ⟨by rw [g.new_at], by rw [g.new_at]; simp; omega, hr1, .inr ⟨w.heap.size, _, t, by rw [g.new_at], heap_alloc_new w.drew _, ?_, fun i j x y hx hy => by rw [g.new_at]; exact hr2 i j x y hx hy⟩⟩
    rw [g.new_at]
    simp only [List.size_toArray, List.length_append]
    have hm : cap * sz = (es.length + ys.length) * sz + (cap - (es.length + ys.length)) * sz := by rw [← Nat.add_mul]; congr 1; omega
    rw [hm, Nat.add_mul]
    omega
  have hRV : RV (g.new nm ⟨some w.heap.size, 0, sz, cap⟩) (w.drew.alloc (.cells (olds ++ news ++ zs).toArray t)) (.ms nm sz 0 (es.length + ys.length)) (.slice (some ⟨w.heap.size, 0, none⟩) (es.length + ys.length) cap) :=
    .ms nm sz 0 _ w.heap.size 0 cap (.inr rfl) (by rw [g.new_at]) (by rw [g.new_at]) (by rw [g.new_at]; simp) hcap (by rw [g.new_at]; simp)
  refine ⟨hE, ?_, hRV⟩
  cases old with
  | none => exact (hS.new hn hh rfl rfl rfl (by simp) rfl hblk).2
  | some o =>
    have hS0 : RS g w (hset H o none) := hS.less fun k q hq => by
      unfold hset at hq
      split at hq
      · cases hq
      · exact hq
    exact (hS0.new hn hh rfl rfl rfl (by simp) rfl hblk).2

theorem append_gen {P : Program} {g : Gh} {w : World} {H : Nat → Option Blk} {t ty e : TypeId} {ti : TI} {s : V} {a b : Value} {nm n : Nat} {old : Option Nat} {es ys : List V} {blk : Option Blk} (he : selem P t = some e) (hti : tinf P e = some ti) (hbase : baseOf ti.size s blk = some (es, old, n))
    (hsrc : SrcOK P g w b ys ti.size) (hc : ys.all (okV ti.size) = true ∧ (n + ys.length) * ti.bytes ≤ 211106232532992 ∧ ti.bytes ≤ 65536 ∧ ti.size ≠ 0 ∧ ti.bytes ≠ 0) (hS : RS g w H) (hn : ¬ g.U nm) (hblk : ∀ m, refOf s = some m → blk = H m) (hs : RV g w s a) :
    ∃ v' w' g', (Builtin.append_ #[t, t] ty #[a, b]).run P w = .ok v' w' ∧ Ext g w g' w' ∧ RS g' w' ((Eff.move old nm (.row ti.size (es ++ ys))).on H) ∧ RV g' w' (.ms nm ti.size 0 (n + ys.length)) v' ∧ (∀ k, g'.U k → g.U k ∨ k = nm) := by
  obtain ⟨hok, hbytes, hb64, h0, hb0⟩ := hc
  have hu := selem_spec he
  obtain ⟨i, d, hi, hd, hz, hzs, hsz, hby, _⟩ := tinf_spec hti
  obtain ⟨A, cx, news, rfl, hnl, hfirst, hone, hnews, haddr⟩ := hsrc
  have hnb : n + ys.length ≤ 211106232532992 := Nat.le_trans (Nat.le_mul_of_pos_right _ (by omega)) hbytes
  have hfirst0 := hfirst w (fun _ _ => rfl)
  have hszr : (sizeOf e).run P w = .ok ti.size w := run_sizeOf' hti w
  -- an empty base
  have empty : ∀ (a0 : Option Addr), a = .slice a0 0 0 → es = [] → n = 0 →
      ∃ v' w' g', (Builtin.append_ #[t, t] ty #[a, .slice A ys.length cx]).run P w = .ok v' w' ∧ Ext g w g' w' ∧ RS g' w' ((Eff.move old nm (.row ti.size (es ++ ys))).on H) ∧ RV g' w' (.ms nm ti.size 0 (n + ys.length)) v' ∧ (∀ k, g'.U k → g.U k ∨ k = nm) := by
    intro a0 ha hes hn0
    subst ha hes hn0
    by_cases hm : ys = []
    · subst hm
      have hnn : news = [] := List.eq_nil_of_length_eq_zero (by simpa using hnl)
      subst hnn
      have hE : Ext g w (g.new nm ⟨none, 0, ti.size, 0⟩) w := ⟨fun k h => .inl h, fun k h => g.new_ne _ (fun e => hn (e ▸ h)), fun b h => h, fun _ _ => rfl, rfl, rfl, rfl, Nat.le_refl _⟩
      have hput : ∀ H', RS g w H' → RS (g.new nm ⟨none, 0, ti.size, 0⟩) w (hset H' nm (some (.row ti.size []))) := by
        intro H' hS'
        refine hS'.put hE (fun _ _ _ _ _ => rfl) (.inr rfl) ?_ ?_ ?_
        · exact ⟨by rw [g.new_at], by simp, by simp, .inl ⟨by rw [g.new_at], rfl⟩⟩
        · intro b hb; rw [g.new_at] at hb; cases hb
        · exact fun b hb => ⟨hS'.ltF b hb, fun k _ hks hbk => (hS'.notF k b hks hbk).1 hb⟩
      refine ⟨.slice a0 0 0, w, _, ?_, hE, ?_, .msZero _ _ _ _ (.inr rfl), fun k hk => hk⟩
      · have hf0 : (Builtin.firstCells ti.size 0 (.slice A 0 cx)).run P w = .ok #[] w := by simpa using hfirst0
        cases a0 <;> simp [Builtin.append_, run_underlying hu, hszr, Builtin.lenOf, storeCells, hf0]
      · cases old with
        | none => exact hput H hS
        | some o => exact hput _ (hS.less fun k q hq => by
            unfold hset at hq
            split at hq
            · cases hq
            · exact hq)
    · obtain ⟨ad, rfl, hcell⟩ := haddr hm
      have hpos : 0 < ys.length := List.length_pos_iff.2 hm
      have hcell0 := hcell w (fun _ _ => rfl)
      have hg0 : ys.length ≤ grownCap w ys.length 0 e := grownCap_ge _ _ _ _
      have hmv := append_moved (old := old) (t := e) (w' := w.drew.alloc (.cells (([] : List Value) ++ news ++ (Builtin.zeroCells ti.zero.cells (grownCap w ys.length 0 e - ys.length)).toList).toArray e)) (cap := grownCap w ys.length 0 e) (es := []) (olds := []) hS hn (by simp) (by simp) hok hnl hnews (by simpa using hg0) (by simp [size_zeroCells, hzs]) rfl
      refine ⟨_, _, _, ?_, hmv.1, by simpa using hmv.2.1, by simpa using hmv.2.2, fun k hk => hk⟩
      cases a0 with
      | none =>
        rw [run_append_nil (P := P) w t ty e i ti.zero hu hi hz ad ys.length cx news (by rw [hnl, hsz]) hcell0 hpos (by omega) (by rw [hby]; simp at hbytes; omega)]
        congr 3
        apply Array.ext'
        simp
      | some b0 =>
        have hg := run_append_grow (P := P) w t ty e i ti.zero hu hi hz b0 0 0 [] (by simp) (by simp) ad ys.length cx news (by rw [hnl, hsz]) hcell0 (by omega) (by simp; omega) (by rw [Nat.zero_add, nextslicecap_zero hpos, hby]; simp at hbytes; omega)
        simp only [Nat.zero_add] at hg
        rw [hg]
        congr 3
        apply Array.ext'
        simp
  unfold baseOf at hbase
  split at hbase
  · injection hbase with hbase
    injection hbase with q1 q2
    injection q2 with q2 q3
    cases hs
    exact empty none rfl q1.symm q3.symm
  · injection hbase with hbase
    injection hbase with q1 q2
    injection q2 with q2 q3
    cases hs
    exact empty _ rfl q1.symm q3.symm
  · injection hbase with hbase
    injection hbase with q1 q2
    injection q2 with q2 q3
    cases hs with | d hs =>
    cases hs
    exact empty none rfl q1.symm q3.symm
  · rename_i nm0 sz' o n' sz'' xs
    split at hbase
    case isFalse => cases hbase
    rename_i hcc
    obtain ⟨rfl, rfl, hon⟩ := hcc
    injection hbase with hbase
    injection hbase with q1 q2
    injection q2 with q2 q3
    subst q1 q2 q3
    have hH : H nm0 = some (.row ti.size xs) := (hblk nm0 rfl).symm
    cases hs with
    | msZero _ _ _ a0 => exact empty a0 rfl (by simp) rfl
    | ms _ _ _ _ bb p c hU hbb hs' hp hnc htot =>
      obtain ⟨_, hBlk⟩ := hS.ok _ _ hH
      obtain ⟨h1, h2, h3, h4⟩ := hBlk
      rcases h4 with ⟨h4, _⟩ | ⟨b', vs, tt, h4, h5, h6, h7⟩
      · rw [h4] at hbb; cases hbb
      · rw [hbb] at h4
        injection h4 with h4
        subst h4
        subst hp
        by_cases hroom : n' + ys.length ≤ c
        · obtain ⟨w', g', e1, e2, e3, e4, e5⟩ := append_inplace (P := P) (nm := nm) hS hH hbb hs' htot hroom hon h5 h6 h3 h7 hok hnl hone hnews hn
          refine ⟨_, w', g', ?_, e2, e3, e4, e5⟩
          have hadd : (⟨bb, (g.ρ nm0).off + o * ti.size, none⟩ : Addr).add (n' * ti.size) = ⟨bb, (g.ρ nm0).off + o * ti.size + n' * ti.size, none⟩ := addr_add _ _ _
          simp [Builtin.append_, run_underlying hu, hszr, Builtin.lenOf, hroom, hfirst0, hadd, e1]
        · have hne : ys ≠ [] := fun e => by subst e; simp at hroom; omega
          obtain ⟨ad, rfl, hcell⟩ := haddr hne
          have hcell0 := hcell w (fun _ _ => rfl)
          have hlt : c < n' + ys.length := by omega
          have hlen : ((xs.drop o).take n').length = n' := by simp; omega
          let olds := (List.range (n' * ti.size)).map fun k => vs.getD ((g.ρ nm0).off + o * ti.size + k) undef
          have hm1 : (o + c) * ti.size ≤ (g.ρ nm0).tot * ti.size := Nat.mul_le_mul_right _ htot
          have hm2 : n' * ti.size ≤ c * ti.size := Nat.mul_le_mul_right _ hnc
          rw [Nat.add_mul] at hm1
          have holds : ∀ (j : Nat) (v : Value), olds[j]? = some v → w.cell? ((⟨bb, (g.ρ nm0).off + o * ti.size, none⟩ : Addr).add j) = some v := by
            intro j v hv
            simp only [olds, List.getElem?_map, Option.map_eq_some_iff] at hv
            obtain ⟨k, hk, rfl⟩ := hv
            obtain ⟨hk1, hk2⟩ := List.getElem?_eq_some_iff.1 hk
            simp at hk1 hk2
            subst hk2
            have hlt : (g.ρ nm0).off + o * ti.size + j < vs.size := by omega
            rw [addr_add]
            simp [World.cell?, h5, hlt]
          have hes : ∀ (i : Nat) (x : V), ((xs.drop o).take n')[i]? = some x → x.cells.length = ti.size ∧ ∀ (j : Nat) (y : V), x.cells[j]? = some y → RV g w y (olds.getD (i * ti.size + j) undef) := by
            intro i x hx
            rw [List.getElem?_take] at hx
            split at hx
            · rename_i hi
              rw [List.getElem?_drop] at hx
              refine ⟨h3 _ x hx, fun j y hy => ?_⟩
              have hj : j < ti.size := by rw [← h3 _ x hx]; exact (List.getElem?_eq_some_iff.1 hy).1
              have hm3 : (i + 1) * ti.size ≤ n' * ti.size := Nat.mul_le_mul_right _ hi
              rw [Nat.add_mul] at hm3
              have := h7 (o + i) j x y hx hy
              have hlt : i * ti.size + j < n' * ti.size := by omega
              simp only [olds, List.getD, List.getElem?_map, List.getElem?_range hlt, Option.map_some, Option.getD_some]
              rw [show (g.ρ nm0).off + o * ti.size + (i * ti.size + j) = (g.ρ nm0).off + (o + i) * ti.size + j by rw [Nat.add_mul]; omega]
              exact this
            · cases hx
          have hg0 : n' + ys.length ≤ grownCap w (n' + ys.length) c e := grownCap_ge _ _ _ _
          have hmv := append_moved (old := some nm0) (t := e) (w' := w.drew.alloc (.cells (olds ++ news ++ (Builtin.zeroCells ti.zero.cells (grownCap w (n' + ys.length) c e - (n' + ys.length))).toList).toArray e)) (cap := grownCap w (n' + ys.length) c e) (es := (xs.drop o).take n') (olds := olds) hS hn hes (by simp [olds, hlen]) hok hnl hnews (by rw [hlen]; exact hg0) (by rw [hlen]; simp [size_zeroCells, hzs]) rfl
          rw [hlen] at hmv
          refine ⟨_, _, _, ?_, hmv.1, hmv.2.1, hmv.2.2, fun k hk => hk⟩
          rw [run_append_grow (P := P) w t ty e i ti.zero hu hi hz ⟨bb, _, none⟩ n' c olds (by simp [olds, hsz]) holds ad ys.length cx news (by rw [hnl, hsz]) hcell0 hlt (by omega) (by rw [hby]; exact growslice_fits_wide hlt (wide_fits hbytes hb64))]
          congr 3
          apply Array.ext'
          simp
  · cases hbase
theorem evalAppend_run {P : Program} {g : Gh} {w : World} {H : Nat → Option Blk} {t ty : TypeId} {s x v : V} {a b : Value} {nm : Nat} {ef : Eff} {blk : Option Blk} (h : evalAppend P t s x blk nm = some (v, ef)) (hS : RS g w H) (hn : ¬ g.U nm) (hblk : ∀ m, refOf s = some m → blk = H m)
    (hs : RV g w s a) (hx : RV g w x b) :
    ∃ v' w' g', (Builtin.append_ #[t, t] ty #[a, b]).run P w = .ok v' w' ∧ Ext g w g' w' ∧ RS g' w' (ef.on H) ∧ RV g' w' v v' ∧ (∀ k, g'.U k → g.U k ∨ k = nm) := by
  unfold evalAppend at h
  split at h
  case h_2 => cases h
  rename_i e he
  split at h
  case h_2 => cases h
  rename_i ti hti
  split at h
  · rename_i es old n ys hbase hsrc
    split at h
    case isFalse => cases h
    rename_i hc
    injection h with h
    injection h with h1 h2
    subst h1 h2
    obtain ⟨hok, hr⟩ := hc
    have := append_gen (ty := ty) he hti hbase (src_ok (P := P) hsrc hx hok hr.2.2.1) ⟨by
      rw [List.all_map, List.all_eq_true]
      exact fun z hz => okV_d (List.all_eq_true.1 hok z hz), by rw [List.length_map]; exact hr⟩ hS hn hblk hs
    rw [List.length_map] at this
    exact this
  · rename_i es old n hbase hsrc
    split at h
    case h_2 => cases h
    rename_i ys
    split at h
    case isFalse => cases h
    rename_i hc
    injection h with h
    injection h with h1 h2
    subst h1 h2
    cases hx with
    | vs _ b' o c sz u hF hcc h1 h2 h3 =>
      by_cases hnil : ys = []
      · subst hnil
        exact append_gen (ty := ty) he hti hbase (src_empty _ c) hc hS hn hblk hs
      · have hszz : sz = ti.size := by
          have hlt : 0 < ys.length := List.length_pos_iff.2 hnil
          have e1 := h1 0 ys[0] (by simp [hlt])
          have e2 := okV_spec (List.all_eq_true.1 hc.1 ys[0] (List.getElem_mem _))
          omega
        subst hszz
        exact append_gen (ty := ty) he hti hbase (src_vs hF h1 h2 h3 hc.1 hc.2.2.2.1) hc hS hn hblk hs
  · cases h
end Go.Proofs.Ytjjmedgibcffhaa.M
