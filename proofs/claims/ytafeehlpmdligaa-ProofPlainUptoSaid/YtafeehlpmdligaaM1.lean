/- Abstract states of a walk: pure data, values and blocks, and what each stands for in memory. Plain lemmas over any program. -/
import Derived.WalkKit
import Derived.WalkSpells
import Derived.WalkLawsBesides
import Derived.Orders
namespace Go.Proofs.Ytafeehlpmdligaa.M
open Go.RowKit
set_option linter.unusedVariables false
set_option linter.unusedSimpArgs false

/-- Pure data: it lies in memory that nobody writes. A struct is the row of its cells. -/
inductive D where
  | int (k : IntKind) (n : Int)
  | bool (b : Bool)
  | str (s : ByteArray)
  | sl (xs : List D)
  | agg (xs : List D)

def D.cells : D → List D
  | .agg xs => xs
  | x => [x]

/-- What pure data stands for, through the blocks of F. -/
inductive RD (F : Nat → Prop) (w : World) : D → Value → Prop
  | int (k : IntKind) (n : Int) : RD F w (.int k n) (.int k n)
  | bool (b : Bool) : RD F w (.bool b) (.bool b)
  | str (s : ByteArray) : RD F w (.str s) (.string s)
  | slNil (a : Option Addr) (c : Nat) : RD F w (.sl []) (.slice a 0 c)
  | sl (xs : List D) (b o c sz : Nat) (u : Nat → Nat → Value) (hF : F b) (hc : xs.length ≤ c)
      (h1 : ∀ (i : Nat) (x : D), xs[i]? = some x → x.cells.length = sz)
      (h2 : ∀ (i j : Nat) (x y : D), xs[i]? = some x → x.cells[j]? = some y → w.cell? ⟨b, o + i * sz + j, none⟩ = some (u i j))
      (h3 : ∀ (i j : Nat) (x y : D), xs[i]? = some x → x.cells[j]? = some y → RD F w y (u i j)) : RD F w (.sl xs) (.slice (some ⟨b, o, none⟩) xs.length c)
  | agg (xs : List D) (vs : Array Value) (hl : vs.size = xs.length) (h : ∀ (j : Nat) (y : D), xs[j]? = some y → RD F w y (vs.getD j undef)) : RD F w (.agg xs) (.agg vs)

theorem cell_congr {w w' : World} {b : Nat} (h : w'.heap[b]? = w.heap[b]?) (o : Nat) : w'.cell? ⟨b, o, none⟩ = w.cell? ⟨b, o, none⟩ := by
  unfold World.cell?
  rw [h]

theorem RD.mono {F F' : Nat → Prop} {w w' : World} (hF : ∀ b, F b → F' b) (hk : ∀ b, F b → w'.heap[b]? = w.heap[b]?) {x : D} {v : Value} (h : RD F w x v) : RD F' w' x v := by
  induction h with
  | int k n => exact .int k n
  | bool b => exact .bool b
  | str s => exact .str s
  | slNil a c => exact .slNil a c
  | sl xs b o c sz u h0 hc h1 h2 h3 ih => exact .sl xs b o c sz u (hF b h0) hc h1 (fun i j x y hx hy => by rw [cell_congr (hk b h0)]; exact h2 i j x y hx hy) ih
  | agg xs vs hl h ih => exact .agg xs vs hl ih

/-- Values of slots and cells. undef: nothing is known. nil, e0: slices without room. ptr: into a block by its name (struct or variable). eptr: into element i of a row. rptr: into pure data, its cells from there on. ms: elements o to o + n of a row by its name. -/
inductive V where
  | undef
  | d (x : D)
  | nil
  | e0
  | ptr (nm o : Nat)
  | eptr (nm i o : Nat)
  | rptr (cs : List D)
  | ms (nm sz o n : Nat)
  | map (nm : Nat)
  | fn (f : FuncId) (cs : List V)
  | agg (xs : List V)
  | tup (xs : List V)
deriving Inhabited

/-- Where a block lies: its number (none: no block yet), where it begins, how many cells an element takes, how many elements it has room for. -/
structure Rf where
  blk : Option Nat
  off : Nat
  sz : Nat
  tot : Nat

/-- Ghost state: where named blocks lie, which names have been used, which blocks hold pure data. -/
structure Gh where
  ρ : Nat → Rf
  U : Nat → Prop
  F : Nat → Prop

inductive RV (g : Gh) (w : World) : V → Value → Prop
  | undef (v : Value) : RV g w .undef v
  | d {x : D} {v : Value} (h : RD g.F w x v) : RV g w (.d x) v
  | nil : RV g w .nil (.slice none 0 0)
  | e0 (a : Option Addr) : RV g w .e0 (.slice a 0 0)
  | ptr (nm o b : Nat) (hU : g.U nm) (hb : (g.ρ nm).blk = some b) : RV g w (.ptr nm o) (.pointer (some ⟨b, o, none⟩))
  | eptr (nm i o b p : Nat) (hU : g.U nm) (hb : (g.ρ nm).blk = some b) (hp : p = (g.ρ nm).off + i * (g.ρ nm).sz + o) : RV g w (.eptr nm i o) (.pointer (some ⟨b, p, none⟩))
  | rptr (cs : List D) (b o : Nat) (u : Nat → Value) (hF : g.F b) (h2 : ∀ (j : Nat) (y : D), cs[j]? = some y → w.cell? ⟨b, o + j, none⟩ = some (u j)) (h3 : ∀ (j : Nat) (y : D), cs[j]? = some y → RD g.F w y (u j)) : RV g w (.rptr cs) (.pointer (some ⟨b, o, none⟩))
  | ms (nm sz o n b p c : Nat) (hU : g.U nm) (hb : (g.ρ nm).blk = some b) (hs : (g.ρ nm).sz = sz) (hp : p = (g.ρ nm).off + o * sz) (hn : n ≤ c) (hc : o + c ≤ (g.ρ nm).tot) : RV g w (.ms nm sz o n) (.slice (some ⟨b, p, none⟩) n c)
  | msZero (nm sz o : Nat) (a : Option Addr) (hU : g.U nm) : RV g w (.ms nm sz o 0) (.slice a 0 0)
  | map (nm b : Nat) (hU : g.U nm) (hb : (g.ρ nm).blk = some b) : RV g w (.map nm) (.map (some b))
  | fn (f : FuncId) (cs : List V) (vs : Array Value) (hl : vs.size = cs.length) (h : ∀ (j : Nat) (y : V), cs[j]? = some y → RV g w y (vs.getD j undef)) : RV g w (.fn f cs) (.func (.func f) #[] vs)
  | agg (xs : List V) (vs : Array Value) (hl : vs.size = xs.length) (h : ∀ (j : Nat) (y : V), xs[j]? = some y → RV g w y (vs.getD j undef)) : RV g w (.agg xs) (.agg vs)
  | tup (xs : List V) (vs : Array Value) (hl : vs.size = xs.length) (h : ∀ (j : Nat) (y : V), xs[j]? = some y → RV g w y (vs.getD j undef)) : RV g w (.tup xs) (.tuple vs)

/-- A later ghost state and world: what is pure stays as it is. -/
structure Ext (g : Gh) (w : World) (g' : Gh) (w' : World) : Prop where
  used : ∀ n, g.U n → g'.U n
  same : ∀ n, g.U n → g'.ρ n = g.ρ n
  fz : ∀ b, g.F b → g'.F b
  keep : ∀ b, g.F b → w'.heap[b]? = w.heap[b]?
  os : w'.os = w.os
  tape : w'.tape = w.tape
  output : w'.output = w.output
  size : w.heap.size ≤ w'.heap.size

theorem Ext.refl (g : Gh) (w : World) : Ext g w g w := ⟨fun _ h => h, fun _ _ => rfl, fun _ h => h, fun _ _ => rfl, rfl, rfl, rfl, Nat.le_refl _⟩
theorem Ext.trans {g g1 g2 : Gh} {w w1 w2 : World} (a : Ext g w g1 w1) (b : Ext g1 w1 g2 w2) : Ext g w g2 w2 :=
  ⟨fun n h => b.used n (a.used n h), fun n h => (b.same n (a.used n h)).trans (a.same n h), fun i h => b.fz i (a.fz i h), fun i h => (b.keep i (a.fz i h)).trans (a.keep i h), b.os.trans a.os, b.tape.trans a.tape, b.output.trans a.output, Nat.le_trans a.size b.size⟩

theorem RV.mono {g g' : Gh} {w w' : World} (e : Ext g w g' w') {x : V} {v : Value} (h : RV g w x v) : RV g' w' x v := by
  induction h with
  | undef v => exact .undef v
  | d h => exact .d (h.mono e.fz e.keep)
  | nil => exact .nil
  | e0 a => exact .e0 a
  | ptr nm o b hU hb => exact .ptr nm o b (e.used nm hU) (by rw [e.same nm hU]; exact hb)
  | eptr nm i o b p hU hb hp => exact .eptr nm i o b p (e.used nm hU) (by rw [e.same nm hU]; exact hb) (by rw [e.same nm hU]; exact hp)
  | rptr cs b o u hF h2 h3 => exact .rptr cs b o u (e.fz b hF) (fun j y hy => by rw [cell_congr (e.keep b hF)]; exact h2 j y hy) (fun j y hy => (h3 j y hy).mono e.fz e.keep)
  | ms nm sz o n b p c hU hb hs hp hn hc => exact .ms nm sz o n b p c (e.used nm hU) (by rw [e.same nm hU]; exact hb) (by rw [e.same nm hU]; exact hs) (by rw [e.same nm hU]; exact hp) hn (by rw [e.same nm hU]; exact hc)
  | msZero nm sz o a hU => exact .msZero nm sz o a (e.used nm hU)
  | map nm b hU hb => exact .map nm b (e.used nm hU) (by rw [e.same nm hU]; exact hb)
  | fn f cs vs hl h ih => exact .fn f cs vs hl ih
  | agg xs vs hl h ih => exact .agg xs vs hl ih
  | tup xs vs hl h ih => exact .tup xs vs hl ih

/-- The pure parts of a list of values, if all are pure. -/
def allD : List V → Option (List D)
  | [] => some []
  | .d x :: xs => (allD xs).map (x :: ·)
  | _ :: _ => none
theorem allD_map (ds : List D) : allD (ds.map V.d) = some ds := by
  induction ds with
  | nil => rfl
  | cons x xs ih => simp [allD, ih]
theorem allD_some : ∀ {xs : List V} {ds : List D}, allD xs = some ds → xs = ds.map V.d
  | [], ds, h => by simp [allD] at h; subst h; rfl
  | x :: xs, ds, h => by
    cases x <;> simp [allD] at h
    rename_i y
    obtain ⟨es, h1, rfl⟩ := h
    simp [allD_some h1]

def V.cells : V → List V
  | .d (.agg xs) => xs.map V.d
  | .agg xs => xs
  | x => [x]
/-- May it stand in memory, as the row of its cells? -/
def V.firm : V → Bool
  | .undef | .tup _ => false
  | _ => true
def V.one : V → Bool
  | .undef | .tup _ | .agg _ | .d (.agg _) => false
  | _ => true
def mkAgg (xs : List V) : V := match allD xs with | some ds => .d (.agg ds) | none => .agg xs

theorem mkAgg_rv {g : Gh} {w : World} {xs : List V} {vs : Array Value} (hl : vs.size = xs.length) (h : ∀ (j : Nat) (y : V), xs[j]? = some y → RV g w y (vs.getD j undef)) : RV g w (mkAgg xs) (.agg vs) := by
  unfold mkAgg
  split
  · rename_i ds hd
    have := allD_some hd
    subst this
    refine .d (.agg ds vs (by simpa using hl) fun j y hy => ?_)
    have := h j (.d y) (by simp [hy])
    cases this
    assumption
  · exact .agg xs vs hl h

/-- Blocks by name: a variable or struct, a row of elements, a map. -/
inductive KK where
  | int (k : IntKind)
  | str
  | pair (k : IntKind)

inductive Blk where
  | box (cs : List V)
  | row (sz : Nat) (xs : List V)
  | map (kk : KK) (m : D → Option V)

/-- Block b holds a map that reads as f. -/
def MapIn {κ : Type} (enc : κ → Value) (w : World) (b : Nat) (f : κ → Option Value) : Prop :=
  ∃ es clock, w.heap[b]? = some (.map es clock) ∧ (∀ e ∈ es.toList, ∃ k, e.key = enc k) ∧ es.toList.Pairwise (fun x y => x.key ≠ y.key) ∧
    ∀ k v, f k = some v ↔ ∃ e ∈ es.toList, e.key = enc k ∧ e.val = v

inductive OptRV (g : Gh) (w : World) : Option V → Option Value → Prop
  | none : OptRV g w none none
  | some {x : V} {v : Value} (h : RV g w x v) : OptRV g w (some x) (some v)

/-- Pairs of a text and a number as keys. -/
def pairKey (k : IntKind) (p : ByteArray × Int) : Value := .agg #[.string p.1, .int k p.2]

def BlkOK (g : Gh) (w : World) (nm : Nat) : Blk → Prop
  | .box cs => ∃ b vs t, (g.ρ nm).blk = some b ∧ w.heap[b]? = some (.cells vs t (0, 0)) ∧ vs.size = cs.length ∧ ∀ (j : Nat) (y : V), cs[j]? = some y → RV g w y (vs.getD j undef)
  | .row sz xs => (g.ρ nm).sz = sz ∧ xs.length ≤ (g.ρ nm).tot ∧ (∀ (i : Nat) (x : V), xs[i]? = some x → x.cells.length = sz) ∧
      ((g.ρ nm).blk = none ∧ xs = [] ∨ ∃ b vs t, (g.ρ nm).blk = some b ∧ w.heap[b]? = some (.cells vs t (0, 0)) ∧ (g.ρ nm).off + (g.ρ nm).tot * sz ≤ vs.size ∧
        ∀ (i j : Nat) (x y : V), xs[i]? = some x → x.cells[j]? = some y → RV g w y (vs.getD ((g.ρ nm).off + i * sz + j) undef))
  | .map kk m => ∃ b, (g.ρ nm).blk = some b ∧ match kk with
      | .int k => ∃ f, MapIn (Value.int k) w b f ∧ ∀ i, OptRV g w (m (.int k i)) (f i)
      | .str => ∃ f, MapIn Value.string w b f ∧ ∀ s, OptRV g w (m (.str s)) (f s)
      | .pair k => ∃ f, MapIn (pairKey k) w b f ∧ ∀ s i, OptRV g w (m (.agg [.str s, .int k i])) (f (s, i))

theorem OptRV.mono {g g' : Gh} {w w' : World} (e : Ext g w g' w') {x : Option V} {v : Option Value} (h : OptRV g w x v) : OptRV g' w' x v := by
  cases h with
  | none => exact .none
  | some h => exact .some (h.mono e)
theorem MapIn.same {κ : Type} {enc : κ → Value} {w w' : World} {b : Nat} {f : κ → Option Value} (h : MapIn enc w b f) (hs : w'.heap[b]? = w.heap[b]?) : MapIn enc w' b f := by
  obtain ⟨es, clock, hb, r⟩ := h
  exact ⟨es, clock, hs.trans hb, r⟩

theorem BlkOK.mono {g g' : Gh} {w w' : World} {nm : Nat} {k : Blk} (h : BlkOK g w nm k) (e : Ext g w g' w') (hU : g.U nm) (hk : ∀ b, (g.ρ nm).blk = some b → w'.heap[b]? = w.heap[b]?) : BlkOK g' w' nm k := by
  have er := e.same nm hU
  cases k with
  | box cs =>
    obtain ⟨b, vs, t, h1, h2, h3, h4⟩ := h
    exact ⟨b, vs, t, by rw [er]; exact h1, (hk b h1).trans h2, h3, fun j y hy => (h4 j y hy).mono e⟩
  | row sz xs =>
    obtain ⟨h1, h2, h3, h4⟩ := h
    refine ⟨by rw [er]; exact h1, by rw [er]; exact h2, h3, ?_⟩
    rcases h4 with ⟨h4, h5⟩ | ⟨b, vs, t, h4, h5, h6, h7⟩
    · exact .inl ⟨by rw [er]; exact h4, h5⟩
    · exact .inr ⟨b, vs, t, by rw [er]; exact h4, (hk b h4).trans h5, by rw [er]; exact h6, fun i j x y hx hy => by rw [er]; exact (h7 i j x y hx hy).mono e⟩
  | map kk m =>
    obtain ⟨b, h1, h2⟩ := h
    refine ⟨b, by rw [er]; exact h1, ?_⟩
    cases kk with
    | int k => obtain ⟨f, h3, h4⟩ := h2; exact ⟨f, h3.same (hk b h1), fun i => (h4 i).mono e⟩
    | str => obtain ⟨f, h3, h4⟩ := h2; exact ⟨f, h3.same (hk b h1), fun i => (h4 i).mono e⟩
    | pair k => obtain ⟨f, h3, h4⟩ := h2; exact ⟨f, h3.same (hk b h1), fun s i => (h4 s i).mono e⟩

/-- The named blocks H lie in memory, apart from each other and from what is pure. -/
structure RS (g : Gh) (w : World) (H : Nat → Option Blk) : Prop where
  ok : ∀ nm k, H nm = some k → g.U nm ∧ BlkOK g w nm k
  inj : ∀ n m b, (H n).isSome → (H m).isSome → (g.ρ n).blk = some b → (g.ρ m).blk = some b → n = m
  notF : ∀ n b, (H n).isSome → (g.ρ n).blk = some b → ¬ g.F b ∧ b < w.heap.size
  ltF : ∀ b, g.F b → b < w.heap.size

def hset (H : Nat → Option Blk) (nm : Nat) (k : Option Blk) : Nat → Option Blk := fun n => if n = nm then k else H n

/-- Fewer blocks. -/
theorem RS.less {g : Gh} {w : World} {H H' : Nat → Option Blk} (h : RS g w H) (hs : ∀ n k, H' n = some k → H n = some k) : RS g w H' := by
  have hi : ∀ n, (H' n).isSome → (H n).isSome := fun n hn => by
    obtain ⟨k, hk⟩ := Option.isSome_iff_exists.1 hn
    simp [hs n k hk]
  exact ⟨fun n k hk => h.ok n k (hs n k hk), fun n m b hn hm => h.inj n m b (hi n hn) (hi m hm), fun n b hn => h.notF n b (hi n hn), h.ltF⟩

/-- One named block has changed (or come anew). -/
theorem RS.put {g g' : Gh} {w w' : World} {H : Nat → Option Blk} {nm : Nat} {k : Blk} (h : RS g w H) (e : Ext g w g' w')
    (hk : ∀ n b, n ≠ nm → (H n).isSome → (g.ρ n).blk = some b → w'.heap[b]? = w.heap[b]?)
    (hU : g'.U nm) (hok : BlkOK g' w' nm k)
    (hnew : ∀ b, (g'.ρ nm).blk = some b → ¬ g'.F b ∧ b < w'.heap.size ∧ ∀ n, n ≠ nm → (H n).isSome → (g.ρ n).blk ≠ some b)
    (hF : ∀ b, g'.F b → b < w'.heap.size ∧ ∀ n, n ≠ nm → (H n).isSome → (g.ρ n).blk ≠ some b) : RS g' w' (hset H nm (some k)) := by
  have hsome : ∀ n, n ≠ nm → (hset H nm (some k) n).isSome → (H n).isSome := fun n hn h' => by simpa [hset, hn] using h'
  have hU' : ∀ n, (H n).isSome → g.U n := fun n hn => by
    obtain ⟨k', hk'⟩ := Option.isSome_iff_exists.1 hn
    exact (h.ok n k' hk').1
  refine ⟨?_, ?_, ?_, fun b hb => (hF b hb).1⟩
  · intro n k' hk'
    by_cases hn : n = nm
    · subst hn
      simp [hset] at hk'
      subst hk'
      exact ⟨hU, hok⟩
    · simp [hset, hn] at hk'
      have hs : (H n).isSome := by simp [hk']
      exact ⟨e.used n (hU' n hs), (h.ok n k' hk').2.mono e (hU' n hs) (fun b hb => hk n b hn hs hb)⟩
  · intro n m b hn hm hbn hbm
    by_cases h1 : n = nm
    · by_cases h2 : m = nm
      · rw [h1, h2]
      · subst h1
        have hs := hsome m h2 hm
        rw [e.same m (hU' m hs)] at hbm
        exact absurd hbm ((hnew b hbn).2.2 m h2 hs)
    · by_cases h2 : m = nm
      · subst h2
        have hs := hsome n h1 hn
        rw [e.same n (hU' n hs)] at hbn
        exact absurd hbn ((hnew b hbm).2.2 n h1 hs)
      · have hs1 := hsome n h1 hn
        have hs2 := hsome m h2 hm
        rw [e.same n (hU' n hs1)] at hbn
        rw [e.same m (hU' m hs2)] at hbm
        exact h.inj n m b hs1 hs2 hbn hbm
  · intro n b hn hb
    by_cases h1 : n = nm
    · subst h1
      exact ⟨(hnew b hb).1, (hnew b hb).2.1⟩
    · have hs := hsome n h1 hn
      rw [e.same n (hU' n hs)] at hb
      exact ⟨fun hf => (hF b hf).2 n h1 hs hb, Nat.lt_of_lt_of_le (h.notF n b hs hb).2 e.size⟩

/-- Nothing has changed but the ghost state. -/
theorem RS.ext {g g' : Gh} {w w' : World} {H : Nat → Option Blk} (h : RS g w H) (e : Ext g w g' w')
    (hk : ∀ n b, (H n).isSome → (g.ρ n).blk = some b → w'.heap[b]? = w.heap[b]?)
    (hF : ∀ b, g'.F b → b < w'.heap.size ∧ ∀ n, (H n).isSome → (g.ρ n).blk ≠ some b) : RS g' w' H := by
  have hU' : ∀ n, (H n).isSome → g.U n := fun n hn => by
    obtain ⟨k', hk'⟩ := Option.isSome_iff_exists.1 hn
    exact (h.ok n k' hk').1
  refine ⟨fun n k hk' => ?_, fun n m b hn hm hbn hbm => ?_, fun n b hn hb => ?_, fun b hb => (hF b hb).1⟩
  · have hs : (H n).isSome := by simp [hk']
    exact ⟨e.used n (hU' n hs), (h.ok n k hk').2.mono e (hU' n hs) (fun b hb => hk n b hs hb)⟩
  · rw [e.same n (hU' n hn)] at hbn
    rw [e.same m (hU' m hm)] at hbm
    exact h.inj n m b hn hm hbn hbm
  · rw [e.same n (hU' n hn)] at hb
    exact ⟨fun hf => (hF b hf).2 n hn hb, Nat.lt_of_lt_of_le (h.notF n b hn hb).2 e.size⟩

end Go.Proofs.Ytafeehlpmdligaa.M
