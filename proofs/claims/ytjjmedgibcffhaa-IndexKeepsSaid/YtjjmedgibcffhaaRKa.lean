/- Kinds of data in memory, read through a set of blocks: plain lemmas, no program in sight. -/
import Derived.Test.YtjjmedgibcffhaaProg
import Derived.WalkKit
import Derived.WalkSpells
import Derived.WalkLawsBesides
import Derived.BigGuardPart
import Derived.Deep.QuietTactic
import Derived.BigQuiet
import Derived.Maps.Own
import Derived.Maps.OwnOps
import Derived.Maps.OwnSet
import Derived.Maps.AppendAt
import Derived.Deep.AppendLies
import Derived.Deep.RegionHeld3
namespace Go.Proofs.Ytjjmedgibcffhaa
open Go.RowKit

theorem hide {p : Prop} (h : p) : Hid p := h

theorem ret_bool {a b : Bool} (h : a = b) : Ending.returned (.bool a) = Ending.returned (.bool b) := by rw [h]
theorem ret_int {k : IntKind} {a b : Int} (h : a = b) : Ending.returned (.int k a) = Ending.returned (.int k b) := by rw [h]

theorem below_drewN {B : Nat} {a w : World} (h : Below B a w) (n : Nat) : Below B a (w.drewN n) := h.trans ⟨rfl, rfl, rfl, Nat.le_refl _, fun _ _ => rfl⟩

theorem Below.then_ {B : Nat} {a W w' : World} (h : Below B a W) (k : Below W.heap.size W w') (hB : B ≤ W.heap.size) : Below B a w' := h.trans (k.mono hB)

/-- The two worlds agree on the blocks of F. -/
def SameOn (F : Nat → Prop) (w w' : World) : Prop := ∀ b, F b → w'.heap[b]? = w.heap[b]?

theorem SameOn.refl (F : Nat → Prop) (w : World) : SameOn F w w := fun _ _ => rfl
theorem SameOn.trans {F : Nat → Prop} {a b c : World} (h : SameOn F a b) (k : SameOn F b c) : SameOn F a c := fun i hi => (k i hi).trans (h i hi)
theorem SameOn.cell {F : Nat → Prop} {w w' : World} (h : SameOn F w w') {a : Addr} (hF : F a.block) : w'.cell? a = w.cell? a := by
  unfold World.cell?
  rw [h a.block hF]

theorem SameOn.of_below {F : Nat → Prop} {w w' : World} (h : Below w.heap.size w w') (hF : ∀ b, F b → b < w.heap.size) : SameOn F w w' := fun b hb => h.block b (hF b hb)

/-- What was there stays, but for the blocks of S. -/
structure Keep (S : Nat → Prop) (w w' : World) : Prop where
  os : w'.os = w.os
  tape : w'.tape = w.tape
  output : w'.output = w.output
  size : w.heap.size ≤ w'.heap.size
  block : ∀ k, k < w.heap.size → ¬ S k → w'.heap[k]? = w.heap[k]?
theorem Keep.refl (S : Nat → Prop) (w : World) : Keep S w w := ⟨rfl, rfl, rfl, Nat.le_refl _, fun _ _ _ => rfl⟩
theorem Keep.trans {S : Nat → Prop} {a b c : World} (h : Keep S a b) (k : Keep S b c) : Keep S a c :=
  ⟨k.os.trans h.os, k.tape.trans h.tape, k.output.trans h.output, Nat.le_trans h.size k.size, fun i hi hS => (k.block i (Nat.lt_of_lt_of_le hi h.size) hS).trans (h.block i hi hS)⟩
theorem Keep.mono {S T : Nat → Prop} {a b : World} (h : Keep S a b) (hST : ∀ k, k < a.heap.size → S k → T k) : Keep T a b :=
  ⟨h.os, h.tape, h.output, h.size, fun i hi hT => h.block i hi (fun hS => hT (hST i hi hS))⟩
theorem Keep.below {S : Nat → Prop} {B : Nat} {a b : World} (h : Keep S a b) (hB : B ≤ a.heap.size) (hS : ∀ k, S k → B ≤ k) : Below B a b :=
  ⟨h.os, h.tape, h.output, h.size, fun i hi => h.block i (by omega) (fun hs => by have := hS i hs; omega)⟩
theorem Keep.of_below {S : Nat → Prop} {a b : World} (h : Below a.heap.size a b) : Keep S a b := ⟨h.os, h.tape, h.output, h.size, fun i hi _ => h.block i hi⟩
theorem Keep.of_grown {a b : World} {row : Option Nat} (h : a.grownBy b row) : Keep (fun k => row = some k) a b := ⟨h.os, h.tape, h.output, h.size, fun i hi hr => h.block i hi (fun e => hr e.symm)⟩
theorem Below.keep_ {S : Nat → Prop} {B : Nat} {a w w' : World} (h : Below B a w) (k : Keep S w w') (hB : B ≤ w.heap.size) (hS : ∀ k, S k → B ≤ k) : Below B a w' := h.trans (k.below hB hS)
theorem Keep.same {S F : Nat → Prop} {w w' : World} (h : Keep S w w') (hF : ∀ b, F b → b < w.heap.size ∧ ¬ S b) : SameOn F w w' := fun b hb => h.block b (hF b hb).1 (hF b hb).2

/-- What a callee leaves of the cells that were there: two rules for the walk. -/
theorem bcell {W w1 : World} (hb : Below W.heap.size W w1) : (∀ b o, b < W.heap.size → w1.cell? ⟨b, o, none⟩ = W.cell? ⟨b, o, none⟩) ∧ (∀ b o, b < W.heap.size → w1.frozen? ⟨b, o, none⟩ = W.frozen? ⟨b, o, none⟩) :=
  ⟨fun b o h => hb.cell (p := ⟨b, o, none⟩) h, fun b o h => hb.frozen (p := ⟨b, o, none⟩) h⟩

theorem Keep.cell {S : Nat → Prop} {w w' : World} (h : Keep S w w') {a : Addr} {v : Value} (hc : w.cell? a = some v) (hS : ¬ S a.block) : w'.cell? a = some v := by
  have hlt := World.block_lt_of_cell? w _ hc
  unfold World.cell? at hc ⊢
  rw [h.block a.block hlt hS]
  exact hc
theorem Keep.frozen {S : Nat → Prop} {w w' : World} (h : Keep S w w') {a : Addr} (hlt : a.block < w.heap.size) (hS : ¬ S a.block) : w'.frozen? a = w.frozen? a := by
  unfold World.frozen?
  rw [h.block a.block hlt hS]

theorem cell_new (w : World) (cs : Array Value) (t : TypeId) (n : Nat) (v : Value) (h : cs[n]? = some v) : (w.alloc (.cells cs t)).cell? ⟨w.heap.size, n, none⟩ = some v := by
  unfold World.cell?
  rw [heap_alloc_new]
  exact h

theorem Below.then2_ {B : Nat} {a W w' : World} (h : Below B a W) (k : Below W.heap.size W w') (hB : B ≤ a.heap.size) : Below B a w' := h.trans (k.mono (Nat.le_trans hB h.size))
theorem Below.alloc2_ {B : Nat} {a w : World} (h : Below B a w) (hB : B ≤ a.heap.size) (o : Obj) : Below B a (w.alloc o) := h.alloc (Nat.le_trans hB h.size) o

/-- A kind of data: how many cells a value takes, and when cells tell a value, through the blocks of F. -/
structure Ty (α : Type) where
  sz : Nat
  bytes : Nat
  V : α → Prop
  K : (Nat → Prop) → World → List Value → α → Prop
  len : ∀ {F w cs x}, K F w cs x → cs.length = sz
  mono : ∀ {F w w' cs x}, K F w cs x → SameOn F w w' → K F w' cs x
  weak : ∀ {F G w cs x}, K F w cs x → (∀ b, F b → G b) → K G w cs x

/-- A slice's elements, through the blocks of F. -/
def Ty.Sl {α : Type} (t : Ty α) (F : Nat → Prop) (w : World) (A : Option Addr) (xs : List α) : Prop :=
  xs.length * t.bytes ≤ 140737488351232 ∧ (xs = [] ∨ ∃ b o, A = some ⟨b, o, none⟩ ∧ F b ∧ ∀ i x, xs[i]? = some x →
    ∃ cs, t.K F w cs x ∧ ∀ j v, cs[j]? = some v → w.cell? ⟨b, o + i * t.sz + j, none⟩ = some v)

theorem Ty.Sl.mono {α : Type} {t : Ty α} {F : Nat → Prop} {w w' : World} {A : Option Addr} {xs : List α} (h : t.Sl F w A xs) (hs : SameOn F w w') : t.Sl F w' A xs := by
  refine ⟨h.1, ?_⟩
  rcases h.2 with h0 | ⟨b, o, hA, hF, hx⟩
  · exact .inl h0
  · refine .inr ⟨b, o, hA, hF, fun i x hi => ?_⟩
    obtain ⟨cs, hK, hc⟩ := hx i x hi
    exact ⟨cs, t.mono hK hs, fun j v hv => by rw [hs.cell (a := ⟨b, _, none⟩) hF]; exact hc j v hv⟩
theorem Ty.Sl.weak {α : Type} {t : Ty α} {F G : Nat → Prop} {w : World} {A : Option Addr} {xs : List α} (h : t.Sl F w A xs) (hs : ∀ b, F b → G b) : t.Sl G w A xs := by
  refine ⟨h.1, ?_⟩
  rcases h.2 with h0 | ⟨b, o, hA, hF, hx⟩
  · exact .inl h0
  · refine .inr ⟨b, o, hA, hs b hF, fun i x hi => ?_⟩
    obtain ⟨cs, hK, hc⟩ := hx i x hi
    exact ⟨cs, t.weak hK hs, hc⟩
theorem Ty.Sl.nil {α : Type} (t : Ty α) (F : Nat → Prop) (w : World) (A : Option Addr) : t.Sl F w A [] := ⟨by simp, .inl rfl⟩

def Ty.scalar {α : Type} (enc : α → Value) (bytes : Nat) (V : α → Prop) : Ty α where
  sz := 1
  bytes := bytes
  V := V
  K := fun _ _ cs x => cs = [enc x]
  len := by rintro F w cs x rfl; rfl
  mono := fun h _ => h
  weak := fun h _ => h
def Ty.int (k : IntKind) : Ty Int := Ty.scalar (Value.int k) (k.bits / 8) (fun x => (Lit.int k x).wf = true)
def Ty.bool : Ty Bool := Ty.scalar Value.bool 1 (fun _ => True)
def Ty.str : Ty ByteArray := Ty.scalar Value.string 16 (fun s => s.size ≤ 140737488351232)
def Ty.slice {α : Type} (t : Ty α) : Ty (List α) where
  sz := 1
  bytes := 24
  V := fun xs => ∀ x ∈ xs, t.V x
  K := fun F w cs xs => ∃ A c, cs = [.slice A xs.length c] ∧ t.Sl F w A xs
  len := by rintro F w cs x ⟨A, c, rfl, _⟩; rfl
  mono := by rintro F w w' cs x ⟨A, c, rfl, h⟩ hs; exact ⟨A, c, rfl, h.mono hs⟩
  weak := by rintro F w w' cs x ⟨A, c, rfl, h⟩ hs; exact ⟨A, c, rfl, h.weak hs⟩

structure CallD where
  kind : Int
  key : ByteArray
  arg : Int
  got : Bool
  vals : List Int
def Ty.call : Ty CallD where
  sz := 5
  bytes := 64
  V := fun x => (Lit.int .i64 x.kind).wf = true ∧ x.key.size ≤ 140737488351232 ∧ (Lit.int .i64 x.arg).wf = true ∧ ∀ v ∈ x.vals, (Lit.int .i64 v).wf = true
  K := fun F w cs x => ∃ A c, cs = [.int .i64 x.kind, .string x.key, .int .i64 x.arg, .bool x.got, .slice A x.vals.length c] ∧ (Ty.int .i64).Sl F w A x.vals
  len := by rintro F w cs x ⟨A, c, rfl, _⟩; rfl
  mono := by rintro F w w' cs x ⟨A, c, rfl, h⟩ hs; exact ⟨A, c, rfl, h.mono hs⟩
  weak := by rintro F w w' cs x ⟨A, c, rfl, h⟩ hs; exact ⟨A, c, rfl, h.weak hs⟩
structure EventD where
  proc : Int
  kind : Int
  calls : List CallD
def Ty.event : Ty EventD where
  sz := 3
  bytes := 40
  V := fun x => (Lit.int .i64 x.proc).wf = true ∧ (Lit.int .i64 x.kind).wf = true ∧ ∀ c ∈ x.calls, Ty.call.V c
  K := fun F w cs x => ∃ A c, cs = [.int .i64 x.proc, .int .i64 x.kind, .slice A x.calls.length c] ∧ Ty.call.Sl F w A x.calls
  len := by rintro F w cs x ⟨A, c, rfl, _⟩; rfl
  mono := by rintro F w w' cs x ⟨A, c, rfl, h⟩ hs; exact ⟨A, c, rfl, h.mono hs⟩
  weak := by rintro F w w' cs x ⟨A, c, rfl, h⟩ hs; exact ⟨A, c, rfl, h.weak hs⟩

theorem Ty.Sl.len_le {α : Type} {t : Ty α} {F : Nat → Prop} {w : World} {A : Option Addr} {xs : List α} (h : t.Sl F w A xs) (hb : 0 < t.bytes) : xs.length ≤ 140737488351232 :=
  Nat.le_trans (Nat.le_mul_of_pos_right _ hb) h.1
/-- One element of a slice of whole numbers. -/
theorem Ty.Sl.int_at {k : IntKind} {F : Nat → Prop} {w : World} {A : Option Addr} {xs : List Int} (h : (Ty.int k).Sl F w A xs) (i : Nat) (hi : i < xs.length) :
    ∃ b o, A = some ⟨b, o, none⟩ ∧ F b ∧ w.cell? ⟨b, o + i, none⟩ = some (.int k xs[i]) := by
  rcases h.2 with h0 | ⟨b, o, hA, hF, hx⟩
  · subst h0; simp at hi
  · obtain ⟨cs, hK, hc⟩ := hx i xs[i] (by simp [hi])
    have hK' : cs = [.int k xs[i]] := hK
    subst hK'
    exact ⟨b, o, hA, hF, by simpa [Ty.int, Ty.scalar] using hc 0 _ rfl⟩
theorem Ty.Sl.call_at {F : Nat → Prop} {w : World} {A : Option Addr} {xs : List CallD} (h : Ty.call.Sl F w A xs) (i : Nat) (hi : i < xs.length) :
    ∃ b o A' c', A = some ⟨b, o, none⟩ ∧ F b ∧ (Ty.int .i64).Sl F w A' xs[i].vals ∧ w.cell? ⟨b, o + i * 5, none⟩ = some (.int .i64 xs[i].kind) ∧ w.cell? ⟨b, o + i * 5 + 1, none⟩ = some (.string xs[i].key) ∧ w.cell? ⟨b, o + i * 5 + 2, none⟩ = some (.int .i64 xs[i].arg) ∧ w.cell? ⟨b, o + i * 5 + 3, none⟩ = some (.bool xs[i].got) ∧ w.cell? ⟨b, o + i * 5 + 4, none⟩ = some (.slice A' xs[i].vals.length c') := by
  rcases h.2 with h0 | ⟨b, o, hA, hF, hx⟩
  · subst h0; simp at hi
  · obtain ⟨cs, ⟨A', c', rfl, hv⟩, hc⟩ := hx i xs[i] (by simp [hi])
    exact ⟨b, o, A', c', hA, hF, hv, hc 0 _ rfl, hc 1 _ rfl, hc 2 _ rfl, hc 3 _ rfl, hc 4 _ rfl⟩
theorem Ty.Sl.event_at {F : Nat → Prop} {w : World} {A : Option Addr} {xs : List EventD} (h : Ty.event.Sl F w A xs) (i : Nat) (hi : i < xs.length) :
    ∃ b o A' c', A = some ⟨b, o, none⟩ ∧ F b ∧ Ty.call.Sl F w A' xs[i].calls ∧ w.cell? ⟨b, o + i * 3, none⟩ = some (.int .i64 xs[i].proc) ∧ w.cell? ⟨b, o + i * 3 + 1, none⟩ = some (.int .i64 xs[i].kind) ∧ w.cell? ⟨b, o + i * 3 + 2, none⟩ = some (.slice A' xs[i].calls.length c') := by
  rcases h.2 with h0 | ⟨b, o, hA, hF, hx⟩
  · subst h0; simp at hi
  · obtain ⟨cs, ⟨A', c', rfl, hv⟩, hc⟩ := hx i xs[i] (by simp [hi])
    exact ⟨b, o, A', c', hA, hF, hv, hc 0 _ rfl, hc 1 _ rfl, hc 2 _ rfl⟩
end Go.Proofs.Ytjjmedgibcffhaa
/- Maps in memory as functions from keys: laws for lookup, store and delete over any key type that can be told apart. -/
namespace Go.Proofs.Ytjjmedgibcffhaa
open Go.RowKit Go.MapKept
set_option linter.unusedSimpArgs false

open Classical in
/-- f, but v at k. -/
noncomputable def upd {κ β : Type} (f : κ → β) (k : κ) (v : β) : κ → β := fun q => if q = k then v else f q
theorem upd_same {κ β : Type} (f : κ → β) (k : κ) (v : β) : upd f k v k = v := by simp [upd]
theorem upd_ne {κ β : Type} (f : κ → β) {k q : κ} (v : β) (h : q ≠ k) : upd f k v q = f q := by simp [upd, h]

structure KeyTy (κ : Type) (P : Program) (kt : TypeId) where
  enc : κ → Value
  inj : ∀ {a b : κ}, enc a = enc b → a = b
  check : ∀ (w : World) (em : Bool) (k : κ), (Instr.checkKey em 10000 kt (enc k)).run P w = .ok () w
  find : ∀ (w : World) (k : κ) (es : List MapEntry), (∀ e ∈ es, ∃ k', e.key = enc k') →
    ((Instr.findKey kt (enc k) es).run P w = .ok none w ∧ ∀ e ∈ es, e.key ≠ enc k) ∨ ∃ j e, (Instr.findKey kt (enc k) es).run P w = .ok (some (j, e.val)) w ∧ es[j]? = some e ∧ e.key = enc k
  stays : ∀ (w : World) (k : κ), (Instr.keyThatStays (enc k) (enc k)).run P w = .ok (enc k) w

theorem wf64 {n : Int} (h1 : -9223372036854775808 ≤ n) (h2 : n ≤ 9223372036854775807) : (Lit.int .i64 n).wf = true := WalkArith.wf_i64 ⟨h1, h2⟩

/-- Whole numbers as keys. -/
def KeyTy.int {P : Program} {kt : TypeId} {q : IntKind} (hk : P.underlying kt = some (.int q)) : KeyTy Int P kt where
  enc := Value.int q
  inj := fun h => by injection h
  check := fun w em k => run_checkKey hk (show IsKey (.int q) (.int q k) from rfl) em 9999
  find := fun w k es hes => by
    have hks : ∀ y ∈ es, IsKey (.int q) y.key := fun y hy => by
      obtain ⟨k', hk'⟩ := hes y hy
      rw [hk']
      exact rfl
    rcases findNow_spec (show IsKey (.int q) (.int q k) from rfl) es 0 hks with ⟨h1, h2⟩ | ⟨j, e0, h1, h2, h3⟩
    · exact Or.inl ⟨run_findKey hk h1, h2⟩
    · exact Or.inr ⟨j, e0, by simpa using run_findKey hk h1, h2, h3⟩
  stays := fun w k => run_keyThatStays (show IsKey (.int q) (.int q k) from rfl)
/-- Texts as keys. -/
def KeyTy.str {P : Program} {kt : TypeId} (hk : P.underlying kt = some .string) : KeyTy ByteArray P kt where
  enc := Value.string
  inj := fun h => by injection h
  check := fun w em k => run_checkKey hk (show IsKey .string (.string k) from trivial) em 9999
  find := fun w k es hes => by
    have hks : ∀ y ∈ es, IsKey .string y.key := fun y hy => by
      obtain ⟨k', hk'⟩ := hes y hy
      rw [hk']
      exact trivial
    rcases findNow_spec (show IsKey .string (.string k) from trivial) es 0 hks with ⟨h1, h2⟩ | ⟨j, e0, h1, h2, h3⟩
    · exact Or.inl ⟨run_findKey hk h1, h2⟩
    · exact Or.inr ⟨j, e0, by simpa using run_findKey hk h1, h2, h3⟩
  stays := fun w k => run_keyThatStays (show IsKey .string (.string k) from trivial)

section
variable {κ : Type} {P : Program} {kt : TypeId}

/-- Block b holds a map that reads as f. -/
def MapAt (K : KeyTy κ P kt) (w : World) (b : Nat) (f : κ → Option Value) : Prop :=
  ∃ es clock, w.heap[b]? = some (.map es clock) ∧ (∀ e ∈ es.toList, ∃ k, e.key = K.enc k) ∧ es.toList.Pairwise (fun x y => x.key ≠ y.key) ∧
    ∀ k v, f k = some v ↔ ∃ e ∈ es.toList, e.key = K.enc k ∧ e.val = v

theorem MapAt.same {K : KeyTy κ P kt} {w w' : World} {b : Nat} {f : κ → Option Value} (h : MapAt K w b f) (hs : w'.heap[b]? = w.heap[b]?) : MapAt K w' b f := by
  obtain ⟨es, clock, hb, h1, h2, h3⟩ := h
  exact ⟨es, clock, hs.trans hb, h1, h2, h3⟩
theorem MapAt.drewN {K : KeyTy κ P kt} {w : World} {b : Nat} {f : κ → Option Value} (h : MapAt K w b f) (n : Nat) : MapAt K (w.drewN n) b f := h.same rfl
theorem MapAt.keep {S : Nat → Prop} {K : KeyTy κ P kt} {w w' : World} {b : Nat} {f : κ → Option Value} (h : MapAt K w b f) (hk : Keep S w w') (hS : ¬ S b) : MapAt K w' b f := by
  have h' := h
  obtain ⟨es, clock, hb, _⟩ := h'
  exact h.same (hk.block b (Array.getElem?_eq_some_iff.1 hb).1 hS)
theorem MapAt.lt {K : KeyTy κ P kt} {w : World} {b : Nat} {f : κ → Option Value} (h : MapAt K w b f) : b < w.heap.size := by
  obtain ⟨es, clock, hb, _⟩ := h
  exact (Array.getElem?_eq_some_iff.1 hb).1
theorem MapAt.ext {K : KeyTy κ P kt} {w : World} {b : Nat} {f g : κ → Option Value} (h : MapAt K w b f) (hfg : ∀ k, f k = g k) : MapAt K w b g := by
  rw [← funext hfg]
  exact h
theorem MapAt.made (K : KeyTy κ P kt) (w : World) : MapAt K (w.alloc (.map #[] 0)) w.heap.size (fun _ => none) :=
  ⟨#[], 0, by show (w.heap.push _)[w.heap.size]? = _; simp, by simp, by simp, by simp⟩

/-- What is found of a key. -/
theorem MapAt.found {K : KeyTy κ P kt} {w : World} {b : Nat} {f : κ → Option Value} (h : MapAt K w b f) (k : κ) :
    ∃ es clock, w.heap[b]? = some (.map es clock) ∧ (((Instr.findKey kt (K.enc k) es.toList).run P w = .ok none w ∧ f k = none ∧ ∀ e ∈ es.toList, e.key ≠ K.enc k) ∨
      ∃ j e, (Instr.findKey kt (K.enc k) es.toList).run P w = .ok (some (j, e.val)) w ∧ f k = some e.val ∧ es.toList[j]? = some e ∧ e.key = K.enc k) := by
  obtain ⟨es, clock, hb, h1, h2, h3⟩ := h
  refine ⟨es, clock, hb, ?_⟩
  rcases K.find w k es.toList h1 with ⟨hr, hn⟩ | ⟨j, e, hr, hj, he⟩
  · refine .inl ⟨hr, ?_, hn⟩
    cases hf : f k with
    | none => rfl
    | some v =>
      obtain ⟨e, he, hk, _⟩ := (h3 k v).1 hf
      exact absurd hk (hn e he)
  · exact .inr ⟨j, e, hr, (h3 k e.val).2 ⟨e, List.mem_of_getElem? hj, he, rfl⟩, hj, he⟩

theorem MapAt.run_lookup {K : KeyTy κ P kt} {w : World} {b : Nat} {f : κ → Option Value} (h : MapAt K w b f) {t et : TypeId} (ht : P.underlying t = some (.map kt et)) {z : Value} (hz : (zeroValue et).run P w = .ok z w) (k : κ) :
    (Instr.lookup t (.map (some b)) (K.enc k) true).run P w = .ok (.tuple #[(f k).getD z, .bool (f k).isSome]) w := by
  obtain ⟨es, clock, hb, hc⟩ := h.found k
  rcases hc with ⟨hr, hf, _⟩ | ⟨j, e, hr, hf, _, _⟩
  · simp [Instr.lookup, run_underlying ht, getObj, Sem.run, hb, K.check, hr, hf, hz, Result.andThen]
  · simp [Instr.lookup, run_underlying ht, getObj, Sem.run, hb, K.check, hr, hf, Result.andThen]
theorem MapAt.run_lookup1 {K : KeyTy κ P kt} {w : World} {b : Nat} {f : κ → Option Value} (h : MapAt K w b f) {t et : TypeId} (ht : P.underlying t = some (.map kt et)) {z : Value} (hz : (zeroValue et).run P w = .ok z w) (k : κ) :
    (Instr.lookup t (.map (some b)) (K.enc k) false).run P w = .ok ((f k).getD z) w := by
  obtain ⟨es, clock, hb, hc⟩ := h.found k
  rcases hc with ⟨hr, hf, _⟩ | ⟨j, e, hr, hf, _, _⟩
  · simp [Instr.lookup, run_underlying ht, getObj, Sem.run, hb, K.check, hr, hf, hz, Result.andThen]
  · simp [Instr.lookup, run_underlying ht, getObj, Sem.run, hb, K.check, hr, hf, Result.andThen]

theorem getElem?_lt {α : Type} {l : List α} {j : Nat} {e : α} (h : l[j]? = some e) : j < l.length := (List.getElem?_eq_some_iff.1 h).1

theorem setObj_keep {w : World} {b : Nat} {o : Obj} (_h : b < w.heap.size) : Keep (fun k => k = b) w { w with heap := w.heap.setIfInBounds b o } :=
  ⟨rfl, rfl, rfl, by simp, fun k _ hk => by simp [Array.getElem?_setIfInBounds]; intro e; exact absurd e.symm hk⟩

theorem setObj_at {w : World} {b : Nat} (o : Obj) (h : b < w.heap.size) : ({ w with heap := w.heap.setIfInBounds b o } : World).heap[b]? = some o := by
  simp [Array.getElem?_setIfInBounds, h]

open Classical in
/-- m[k] = v. -/
theorem MapAt.run_update {K : KeyTy κ P kt} {w : World} {b : Nat} {f : κ → Option Value} (h : MapAt K w b f) {t et : TypeId} (ht : P.underlying t = some (.map kt et)) (k : κ) (v : Value) :
    ∃ w', (Instr.mapUpdate t (.map (some b)) (K.enc k) v).run P w = .ok () w' ∧ MapAt K w' b (upd f k (some v)) ∧ Keep (fun i => i = b) w w' ∧ w'.heap.size = w.heap.size := by
  have h' := h
  obtain ⟨es0, clock0, hb0, h1, h2, h3⟩ := h'
  obtain ⟨es, clock, hb, hc⟩ := h.found k
  obtain ⟨rfl, rfl⟩ : es = es0 ∧ clock = clock0 := by
    rw [hb0] at hb
    injection hb with hb
    injection hb with e1 e2
    exact ⟨e1.symm, e2.symm⟩
  have hlt := h.lt
  rcases hc with ⟨hr, hf, hno⟩ | ⟨j, e, hr, hf, hj, he⟩
  · refine ⟨{ w with heap := w.heap.setIfInBounds b (.map (es.push { key := K.enc k, val := v, born := clock }) (clock + 1)) }, ?_, ?_, setObj_keep hlt, by simp⟩
    · simp [Instr.mapUpdate, run_underlying ht, getObj, setObj, Sem.run, hb, K.check, hr, Result.andThen]
    · refine ⟨_, _, setObj_at _ hlt, ?_, ?_, ?_⟩
      · intro x hx
        simp at hx
        rcases hx with hx | rfl
        · exact h1 x (by simpa using hx)
        · exact ⟨k, rfl⟩
      · simp only [Array.toList_push]
        rw [List.pairwise_append]
        refine ⟨h2, by simp, ?_⟩
        intro x hx y hy
        simp at hy
        subst hy
        exact hno x hx
      · intro k' v'
        by_cases hk : k' = k
        · subst hk
          simp only [upd_same, Option.some.injEq]
          constructor
          · rintro rfl
            exact ⟨{ key := K.enc k', val := v, born := clock }, by simp, rfl, rfl⟩
          · rintro ⟨x, hx, hk2, rfl⟩
            simp at hx
            rcases hx with hx | rfl
            · exact absurd hk2 (hno x (by simpa using hx))
            · rfl
        · rw [upd_ne _ _ hk, h3]
          constructor
          · rintro ⟨x, hx, r⟩
            exact ⟨x, by simp at hx ⊢; exact .inl hx, r⟩
          · rintro ⟨x, hx, hk2, r⟩
            simp at hx
            rcases hx with hx | rfl
            · exact ⟨x, by simpa using hx, hk2, r⟩
            · exact absurd (K.inj hk2).symm hk
  · have hjl : j < es.size := by have := getElem?_lt hj; simpa using this
    have hje : es[j]? = some e := by simpa using hj
    refine ⟨{ w with heap := w.heap.setIfInBounds b (.map (es.modify j fun e => { e with key := K.enc k, val := v }) clock) }, ?_, ?_, setObj_keep hlt, by simp⟩
    · simp [Instr.mapUpdate, run_underlying ht, getObj, setObj, Sem.run, hb, K.check, hr, Result.andThen, hje, he, K.stays]
    · have hmod : (es.modify j fun e => { e with key := K.enc k, val := v }).toList = es.toList.set j { e with key := K.enc k, val := v } := by
        apply List.ext_getElem?
        intro i
        simp only [Array.getElem?_toList, Array.getElem?_modify, List.getElem?_set]
        by_cases hij : j = i
        · subst hij
          have := (Array.getElem?_eq_some_iff.1 hje).2
          simp [hjl, this]
        · simp [hij]
      have hmem : ∀ x, x ∈ es.toList.set j { e with key := K.enc k, val := v } ↔ x = { e with key := K.enc k, val := v } ∨ (x ∈ es.toList ∧ x.key ≠ K.enc k) := by
        intro x
        constructor
        · intro hx
          obtain ⟨i, hi, rfl⟩ := List.getElem_of_mem hx
          rw [List.getElem_set]
          split
          · exact .inl rfl
          · rename_i hne
            refine .inr ⟨List.getElem_mem _, fun hk => ?_⟩
            have hil : i < es.toList.length := by simpa using hi
            have := List.pairwise_iff_getElem.1 h2
            have ej : es.toList[j]'(by simpa using hjl) = e := (List.getElem?_eq_some_iff.1 hj).2
            rcases Nat.lt_or_ge i j with hij | hij
            · exact this i j hil (by simpa using hjl) hij (by rw [ej, he, hk])
            · exact this j i (by simpa using hjl) hil (by omega) (by rw [ej, he, hk])
        · rintro (rfl | ⟨hx, hk⟩)
          · exact List.mem_iff_getElem.2 ⟨j, by simpa using hjl, by simp⟩
          · obtain ⟨i, hi, rfl⟩ := List.getElem_of_mem hx
            have hne : j ≠ i := by
              rintro rfl
              exact hk (by rw [(List.getElem?_eq_some_iff.1 hj).2, he])
            exact List.mem_iff_getElem.2 ⟨i, by simpa using hi, by rw [List.getElem_set, if_neg hne]⟩
      refine ⟨_, _, setObj_at _ hlt, ?_, ?_, ?_⟩
      · rw [hmod]
        intro x hx
        rcases (hmem x).1 hx with rfl | ⟨hx, _⟩
        · exact ⟨k, rfl⟩
        · exact h1 x hx
      · rw [hmod, List.pairwise_iff_getElem]
        intro i i' hi hi' hii
        have h2' := List.pairwise_iff_getElem.1 h2
        have ej : es.toList[j]'(by simpa using hjl) = e := (List.getElem?_eq_some_iff.1 hj).2
        have hil : i < es.toList.length := by simpa using hi
        have hil' : i' < es.toList.length := by simpa using hi'
        rw [List.getElem_set, List.getElem_set]
        split
        · rename_i e1
          subst e1
          rw [if_neg (by omega)]
          have := h2' j i' hil hil' hii
          rw [ej, he] at this
          exact this
        · split
          · rename_i e1 e2
            subst e2
            have := h2' i j hil hil' hii
            rw [ej, he] at this
            exact this
          · exact h2' i i' hil hil' hii
      · intro k' v'
        rw [hmod]
        by_cases hk : k' = k
        · subst hk
          simp only [upd_same, Option.some.injEq]
          constructor
          · rintro rfl
            exact ⟨_, (hmem _).2 (.inl rfl), rfl, rfl⟩
          · rintro ⟨x, hx, hk2, rfl⟩
            rcases (hmem x).1 hx with rfl | ⟨_, hne⟩
            · rfl
            · exact absurd hk2 hne
        · rw [upd_ne _ _ hk, h3]
          constructor
          · rintro ⟨x, hx, hk2, r⟩
            exact ⟨x, (hmem x).2 (.inr ⟨hx, fun h => hk (K.inj (hk2.symm.trans h))⟩), hk2, r⟩
          · rintro ⟨x, hx, hk2, r⟩
            rcases (hmem x).1 hx with rfl | ⟨hx, _⟩
            · exact absurd (K.inj hk2).symm hk
            · exact ⟨x, hx, hk2, r⟩

open Classical in
/-- delete(m, k). -/
theorem MapAt.run_delete {K : KeyTy κ P kt} {w : World} {b : Nat} {f : κ → Option Value} (h : MapAt K w b f) {t et : TypeId} (ht : P.underlying t = some (.map kt et)) (k : κ) (ty : TypeId) :
    ∃ w', (Builtin.delete_ #[t, kt] ty #[.map (some b), K.enc k]).run P w = .ok (.tuple #[]) w' ∧ MapAt K w' b (upd f k none) ∧ Keep (fun i => i = b) w w' ∧ w'.heap.size = w.heap.size := by
  have h' := h
  obtain ⟨es0, clock0, hb0, h1, h2, h3⟩ := h'
  obtain ⟨es, clock, hb, hc⟩ := h.found k
  obtain ⟨rfl, rfl⟩ : es = es0 ∧ clock = clock0 := by
    rw [hb0] at hb
    injection hb with hb
    injection hb with e1 e2
    exact ⟨e1.symm, e2.symm⟩
  have hlt := h.lt
  rcases hc with ⟨hr, hf, hno⟩ | ⟨j, e, hr, hf, hj, he⟩
  · refine ⟨{ w with heap := w.heap.setIfInBounds b (.map es clock) }, ?_, ⟨es, clock, setObj_at _ hlt, h1, h2, ?_⟩, setObj_keep hlt, by simp⟩
    · simp [Builtin.delete_, run_underlying ht, getObj, setObj, Sem.run, hb, K.check, hr, Result.andThen]
    · intro k' v'
      by_cases hk : k' = k
      · subst hk
        simp only [upd_same]
        constructor
        · intro h; cases h
        · rintro ⟨x, hx, hk2, _⟩
          exact absurd hk2 (hno x hx)
      · rw [upd_ne _ _ hk, h3]
  · have hjl : j < es.size := by have := getElem?_lt hj; simpa using this
    refine ⟨{ w with heap := w.heap.setIfInBounds b (.map (es.eraseIdxIfInBounds j) clock) }, ?_, ?_, setObj_keep hlt, by simp⟩
    · simp [Builtin.delete_, run_underlying ht, getObj, setObj, Sem.run, hb, K.check, hr, Result.andThen]
    · have hmod : (es.eraseIdxIfInBounds j).toList = es.toList.eraseIdx j := by simp [Array.eraseIdxIfInBounds, hjl]
      have hmem : ∀ x, x ∈ es.toList.eraseIdx j ↔ (x ∈ es.toList ∧ x.key ≠ K.enc k) := by
        intro x
        have ej : es.toList[j]'(by simpa using hjl) = e := (List.getElem?_eq_some_iff.1 hj).2
        rw [List.mem_eraseIdx_iff_getElem]
        constructor
        · rintro ⟨i, hi, hij, rfl⟩
          refine ⟨List.getElem_mem _, fun hk => ?_⟩
          have := List.pairwise_iff_getElem.1 h2
          rcases Nat.lt_or_ge i j with hlt' | hge
          · exact this i j hi (by simpa using hjl) hlt' (by rw [ej, he, hk])
          · exact this j i (by simpa using hjl) hi (by omega) (by rw [ej, he, hk])
        · rintro ⟨hx, hk⟩
          obtain ⟨i, hi, rfl⟩ := List.getElem_of_mem hx
          exact ⟨i, hi, by rintro rfl; exact hk (by rw [ej, he]), rfl⟩
      refine ⟨_, _, setObj_at _ hlt, ?_, ?_, ?_⟩
      · rw [hmod]
        intro x hx
        exact h1 x ((hmem x).1 hx).1
      · rw [hmod]
        exact h2.sublist (List.eraseIdx_sublist _ _)
      · intro k' v'
        rw [hmod]
        by_cases hk : k' = k
        · subst hk
          simp only [upd_same]
          constructor
          · intro h; cases h
          · rintro ⟨x, hx, hk2, _⟩
            exact absurd hk2 ((hmem x).1 hx).2
        · rw [upd_ne _ _ hk, h3]
          constructor
          · rintro ⟨x, hx, hk2, r⟩
            exact ⟨x, (hmem x).2 ⟨hx, fun h => hk (K.inj (hk2.symm.trans h))⟩, hk2, r⟩
          · rintro ⟨x, hx, hk2, r⟩
            exact ⟨x, ((hmem x).1 hx).1, hk2, r⟩
end

/-! The laws at an operation of a walk. -/
section
variable {κ : Type} {P : Program} {kt : TypeId} {ops : Array Oper} {rest : List Oper} {o : Oper} {a : Act} {Q : Exit → Act → World → Prop} {w : World}

theorem wp_lookup2 (K : KeyTy κ P kt) {b : Nat} {f : κ → Option Value} (h : MapAt K w b f) (hg : o.guard = none) (m x : Operand) (t : TypeId) (hop : o.op = Op.lookup t m x true) {et : TypeId} (ht : P.underlying t = some (.map kt et))
    {z : Value} (hz : (zeroValue et).run P w = .ok z w) (k : κ) (hm : a.eval m = .map (some b)) (hx : a.eval x = K.enc k)
    (hK : wpList P ops Q rest (a.put o.dst (.tuple #[(f k).getD z, .bool (f k).isSome])) w) : wpList P ops Q (o :: rest) a w := by
  refine wpList_plain hg fun K' hK' => ?_
  unfold Oper.wp
  simp [execOp, hop, hm, hx, h.run_lookup ht hz k, Result.andThen]
  exact hK' _ _ hK
theorem wp_lookup1 (K : KeyTy κ P kt) {b : Nat} {f : κ → Option Value} (h : MapAt K w b f) (hg : o.guard = none) (m x : Operand) (t : TypeId) (hop : o.op = Op.lookup t m x false) {et : TypeId} (ht : P.underlying t = some (.map kt et))
    {z : Value} (hz : (zeroValue et).run P w = .ok z w) (k : κ) (hm : a.eval m = .map (some b)) (hx : a.eval x = K.enc k)
    (hK : wpList P ops Q rest (a.put o.dst ((f k).getD z)) w) : wpList P ops Q (o :: rest) a w := by
  refine wpList_plain hg fun K' hK' => ?_
  unfold Oper.wp
  simp [execOp, hop, hm, hx, h.run_lookup1 ht hz k, Result.andThen]
  exact hK' _ _ hK
open Classical in
theorem wp_update (K : KeyTy κ P kt) {b : Nat} {f : κ → Option Value} (h : MapAt K w b f) (hg : o.guard = none) (m x y : Operand) (t : TypeId) (hop : o.op = Op.mapUpdate t m x y) {et : TypeId} (ht : P.underlying t = some (.map kt et))
    (k : κ) (v : Value) (hm : a.eval m = .map (some b)) (hx : a.eval x = K.enc k) (hv : a.eval y = v)
    (hK : ∀ w', MapAt K w' b (upd f k (some v)) → Keep (fun i => i = b) w w' → w'.heap.size = w.heap.size → wpList P ops Q rest (a.put o.dst undef) w') : wpList P ops Q (o :: rest) a w := by
  refine wpList_plain hg fun K' hK' => ?_
  obtain ⟨w', hr, h1, h2, h3⟩ := h.run_update ht k v
  unfold Oper.wp
  simp [execOp, hop, hm, hx, hv, hr, Result.andThen]
  exact hK' _ _ (hK w' h1 h2 h3)
open Classical in
theorem wp_delete (K : KeyTy κ P kt) {b : Nat} {f : κ → Option Value} (h : MapAt K w b f) (hg : o.guard = none) (m x : Operand) (t : TypeId) (hop : o.op = Op.call { callee := Callee.builtin Builtin.delete, args := #[m, x], argTypes := #[t, kt] }) {et : TypeId} (ht : P.underlying t = some (.map kt et))
    (k : κ) (hm : a.eval m = .map (some b)) (hx : a.eval x = K.enc k)
    (hK : ∀ w', MapAt K w' b (upd f k none) → Keep (fun i => i = b) w w' → w'.heap.size = w.heap.size → wpList P ops Q rest (a.put o.dst (.tuple #[])) w') : wpList P ops Q (o :: rest) a w := by
  refine wpList_plain hg fun K' hK' => ?_
  obtain ⟨w', hr, h1, h2, h3⟩ := h.run_delete ht k o.type
  unfold Oper.wp
  simp [execOp, hop, resolve, invoke, builtin, hm, hx, hr, Result.andThen]
  exact hK' _ _ (hK w' h1 h2 h3)
end
end Go.Proofs.Ytjjmedgibcffhaa
/- Rows of the call's own with typed elements: append, read, store. -/
namespace Go.Proofs.Ytjjmedgibcffhaa
open Go.RowKit Go.MapKept
set_option linter.unusedSimpArgs false

section
variable {α : Type} {enc : α → List Value} {sz : Nat}
theorem flat_length (h : ∀ x, (enc x).length = sz) (xs : List α) : (xs.flatMap enc).length = xs.length * sz := by
  induction xs with
  | nil => simp
  | cons x xs ih => simp [List.flatMap_cons, h, ih, Nat.succ_mul]; omega
theorem flat_get (h : ∀ x, (enc x).length = sz) (xs : List α) (i j : Nat) (hi : i < xs.length) (hj : j < sz) : (xs.flatMap enc)[i * sz + j]? = (enc xs[i])[j]? := by
  induction xs generalizing i with
  | nil => simp at hi
  | cons x xs ih =>
    rw [List.flatMap_cons]
    cases i with
    | zero =>
      rw [List.getElem?_append_left (by rw [h]; omega)]
      simp
    | succ i =>
      rw [List.getElem?_append_right (by rw [h, Nat.succ_mul]; omega), h]
      have : (i + 1) * sz + j - sz = i * sz + j := by rw [Nat.succ_mul]; omega
      rw [this]
      simpa using ih i (by simpa using hi)
theorem flat_set (h : ∀ x, (enc x).length = sz) (xs : List α) (i j : Nat) (y : α) (v : Value) (hi : i < xs.length) (hj : j < sz) (hy : enc y = (enc xs[i]).set j v) : (xs.flatMap enc).set (i * sz + j) v = (xs.set i y).flatMap enc := by
  induction xs generalizing i with
  | nil => simp at hi
  | cons x xs ih =>
    cases i with
    | zero =>
      simp only [List.set_cons_zero, List.flatMap_cons]
      rw [List.set_append_left _ _ (by rw [h]; omega)]
      simp only [List.getElem_cons_zero] at hy
      rw [hy]
      simp
    | succ i =>
      simp only [List.set_cons_succ, List.flatMap_cons]
      rw [List.set_append_right _ _ (by rw [h, Nat.succ_mul]; omega), h]
      have : (i + 1) * sz + j - sz = i * sz + j := by rw [Nat.succ_mul]; omega
      rw [this, ih i (by simpa using hi) (by simpa using hy)]
end

theorem own_keep {S : Nat → Prop} {w w' : World} {base n : Nat} {e : TypeId} {sz : Nat} {v : Value} {xs : List Value} (h : w.ownsRow base e sz v n xs) (hk : Keep S w w') (hS : ∀ k, v.ownBlock = some k → ¬ S k) : w'.ownsRow base e sz v n xs := by
  refine ⟨h.1, ?_⟩
  rcases h.2 with hn | ⟨g, cap, cur, rfl, hb, hg, rest⟩
  · exact .inl hn
  · exact .inr ⟨g, cap, cur, rfl, hb, (hk.block g (Array.getElem?_eq_some_iff.1 hg).1 (hS g rfl)).trans hg, rest⟩
theorem own_slice {w : World} {base n : Nat} {e : TypeId} {sz : Nat} {v : Value} {xs : List Value} (h : w.ownsRow base e sz v n xs) (hn : 0 < n) : ∃ g cap, v = .slice (some ⟨g, 0, none⟩) n cap ∧ base ≤ g ∧ g < w.heap.size ∧ n ≤ cap ∧ (∀ j u, xs[j]? = some u → w.cell? ⟨g, j, none⟩ = some u) ∧ (∀ j, w.frozen? ⟨g, j, none⟩ = false) := by
  have h' := h
  rcases h.2 with ⟨_, h0⟩ | ⟨g, cap, cur, rfl, hb, hg, hc, _⟩
  · omega
  · refine ⟨g, cap, rfl, hb, (Array.getElem?_eq_some_iff.1 hg).1, hc, fun j u hu => ?_, fun j => h'.frozenAt j⟩
    have hj : j < n * sz := by
      have := (List.getElem?_eq_some_iff.1 hu).1
      rw [h'.1] at this
      exact this
    rw [h'.cellAt j hj]
    exact hu
theorem own_shape {w : World} {base n : Nat} {e : TypeId} {sz : Nat} {v : Value} {xs : List Value} (h : w.ownsRow base e sz v n xs) : ∃ A c, v = .slice A n c := by
  rcases h.2 with ⟨rfl, rfl⟩ | ⟨g, cap, cur, rfl, _⟩
  · exact ⟨_, _, rfl⟩
  · exact ⟨_, _, rfl⟩

section
variable {P : Program} {ops : Array Oper} {rest : List Oper} {o : Oper} {a : Act} {Q : Exit → Act → World → Prop} {α : Type}
/-- append(v, y), behind at_builtin: y's cells have just been made. -/
theorem wp_append {enc : α → List Value} {sz : Nat} (hsz : ∀ x, (enc x).length = sz) (hone : ∀ x, ∀ u ∈ enc x, u.oneCell' = true) {W : World} (base : Nat) (hgd : o.guard = none) (s x : Operand) (t e : TypeId) (z : Value) (bytes : Nat)
    (ho : o.op = .call { callee := .builtin .append, args := #[s, x], argTypes := #[t, t] })
    (ht : P.underlying t = some (.slice e)) (hinfo : (P.info? e).map (fun i => (i.zero, i.size, i.bytes)) = some (some z, sz, bytes)) (hz : z.cells.size = sz) (hs0 : 0 < sz) (hb0 : 0 < bytes)
    (v : Value) (xs : List α) (y : α) (hs : a.eval s = v) (hx : a.eval x = .slice (some ⟨W.heap.size, 0, none⟩) 1 1)
    (HO : W.ownsRow base e sz v xs.length (xs.flatMap enc)) (hbase : base ≤ W.heap.size) (hl : (xs.length + 1) * bytes ≤ 140737488355328)
    (h : ∀ v1 w1, w1.ownsRow base e sz v1 (xs ++ [y]).length ((xs ++ [y]).flatMap enc) → Keep (fun k => v.ownBlock = some k) W w1 → (v1.ownBlock = v.ownBlock ∨ ∃ b, v1.ownBlock = some b ∧ W.heap.size ≤ b) → W.heap.size < w1.heap.size → wpList P ops Q rest (a.put o.dst v1) w1) :
    wpList P ops Q (o :: rest) a (W.alloc (.cells (enc y).toArray e)) := by
  obtain ⟨i0, hi, hzz⟩ := Option.map_eq_some_iff.1 hinfo
  simp only [Prod.mk.injEq] at hzz
  obtain ⟨hz0, hz1, hz2⟩ := hzz
  have hlen : xs.length + 1 ≤ 140737488355328 := Nat.le_trans (Nat.le_mul_of_pos_right _ hb0) hl
  refine wpList_append_own_at (W.alloc (.cells (enc y).toArray e)) hgd s x t ho base e i0 z sz bytes ht hi hz0 hz1 hz2 hz hs0 v xs.length _ hs (HO.alloc _) ⟨W.heap.size, 0, none⟩ 1 1 (enc y) hx (by rw [hsz]; omega)
    (World.news_of_block (cs := (enc y).toArray) (t := e) (fr := (0, 0)) (heap_alloc_new W _)) (hone y) (by simp only [maxLen]; omega) hl (by simp; omega) ?_
  intro v1 w1 hown hg _ hat
  have hk : Keep (fun k => v.ownBlock = some k) W w1 := (Keep.of_below ((Below.refl _ _).alloc (Nat.le_refl _) _)).trans (Keep.of_grown hg)
  refine h v1 w1 (by simpa using hown) hk ?_ (by have := hg.size; simp at this; omega)
  rcases hat with hat | hat
  · exact .inl hat
  · exact .inr ⟨_, hat, by simp⟩
end
end Go.Proofs.Ytjjmedgibcffhaa
