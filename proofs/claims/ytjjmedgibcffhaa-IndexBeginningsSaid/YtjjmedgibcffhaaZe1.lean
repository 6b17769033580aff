/- Part 1 of the texts that stand behind this law. -/
import Derived.Test.YtjjmedgibcffhaaProg
import Derived.WalkKit
import Derived.WalkSpells
import Derived.WalkLawsBesides
import Derived.BigGuardPart
import Derived.Deep.QuietTactic
import Derived.BigQuiet
import Derived.Maps.Own
import Derived.Maps.OwnOps
import Derived.Maps.OwnSet
import Derived.Maps.AppendAt
import Derived.Deep.AppendLies
import Derived.Deep.RegionHeld3
import Derived.Test.YtjjmedgibcffhaaRows
import Derived.ProofKit
import Derived.SizedLaws
/- Kinds of data in memory, read through a set of blocks: plain lemmas, no program in sight. -/
namespace Go.Proofs.Ytjjmedgibcffhaa
open Go.RowKit

theorem hide {p : Prop} (h : p) : Hid p := h

theorem ret_bool {a b : Bool} (h : a = b) : Ending.returned (.bool a) = Ending.returned (.bool b) := by rw [h]
theorem ret_int {k : IntKind} {a b : Int} (h : a = b) : Ending.returned (.int k a) = Ending.returned (.int k b) := by rw [h]

theorem below_drewN {B : Nat} {a w : World} (h : Below B a w) (n : Nat) : Below B a (w.drewN n) := h.trans ⟨rfl, rfl, rfl, Nat.le_refl _, fun _ _ => rfl⟩

theorem Below.then_ {B : Nat} {a W w' : World} (h : Below B a W) (k : Below W.heap.size W w') (hB : B ≤ W.heap.size) : Below B a w' := h.trans (k.mono hB)

/-- The two worlds agree on the blocks of F. -/
def SameOn (F : Nat → Prop) (w w' : World) : Prop := ∀ b, F b → w'.heap[b]? = w.heap[b]?

theorem SameOn.refl (F : Nat → Prop) (w : World) : SameOn F w w := fun _ _ => rfl
theorem SameOn.trans {F : Nat → Prop} {a b c : World} (h : SameOn F a b) (k : SameOn F b c) : SameOn F a c := fun i hi => (k i hi).trans (h i hi)
theorem SameOn.cell {F : Nat → Prop} {w w' : World} (h : SameOn F w w') {a : Addr} (hF : F a.block) : w'.cell? a = w.cell? a := by
  unfold World.cell?
  rw [h a.block hF]

theorem SameOn.of_below {F : Nat → Prop} {w w' : World} (h : Below w.heap.size w w') (hF : ∀ b, F b → b < w.heap.size) : SameOn F w w' := fun b hb => h.block b (hF b hb)

/-- What was there stays, but for the blocks of S. -/
structure Keep (S : Nat → Prop) (w w' : World) : Prop where
  os : w'.os = w.os
  tape : w'.tape = w.tape
  output : w'.output = w.output
  size : w.heap.size ≤ w'.heap.size
  block : ∀ k, k < w.heap.size → ¬ S k → w'.heap[k]? = w.heap[k]?
theorem Keep.refl (S : Nat → Prop) (w : World) : Keep S w w := ⟨rfl, rfl, rfl, Nat.le_refl _, fun _ _ _ => rfl⟩
theorem Keep.trans {S : Nat → Prop} {a b c : World} (h : Keep S a b) (k : Keep S b c) : Keep S a c :=
  ⟨k.os.trans h.os, k.tape.trans h.tape, k.output.trans h.output, Nat.le_trans h.size k.size, fun i hi hS => (k.block i (Nat.lt_of_lt_of_le hi h.size) hS).trans (h.block i hi hS)⟩
theorem Keep.mono {S T : Nat → Prop} {a b : World} (h : Keep S a b) (hST : ∀ k, k < a.heap.size → S k → T k) : Keep T a b :=
  ⟨h.os, h.tape, h.output, h.size, fun i hi hT => h.block i hi (fun hS => hT (hST i hi hS))⟩
theorem Keep.below {S : Nat → Prop} {B : Nat} {a b : World} (h : Keep S a b) (hB : B ≤ a.heap.size) (hS : ∀ k, S k → B ≤ k) : Below B a b :=
  ⟨h.os, h.tape, h.output, h.size, fun i hi => h.block i (by omega) (fun hs => by have := hS i hs; omega)⟩
theorem Keep.of_below {S : Nat → Prop} {a b : World} (h : Below a.heap.size a b) : Keep S a b := ⟨h.os, h.tape, h.output, h.size, fun i hi _ => h.block i hi⟩
theorem Keep.of_grown {a b : World} {row : Option Nat} (h : a.grownBy b row) : Keep (fun k => row = some k) a b := ⟨h.os, h.tape, h.output, h.size, fun i hi hr => h.block i hi (fun e => hr e.symm)⟩
theorem Below.keep_ {S : Nat → Prop} {B : Nat} {a w w' : World} (h : Below B a w) (k : Keep S w w') (hB : B ≤ w.heap.size) (hS : ∀ k, S k → B ≤ k) : Below B a w' := h.trans (k.below hB hS)
theorem Keep.same {S F : Nat → Prop} {w w' : World} (h : Keep S w w') (hF : ∀ b, F b → b < w.heap.size ∧ ¬ S b) : SameOn F w w' := fun b hb => h.block b (hF b hb).1 (hF b hb).2

/-- What a callee leaves of the cells that were there: two rules for the walk. -/
theorem bcell {W w1 : World} (hb : Below W.heap.size W w1) : (∀ b o, b < W.heap.size → w1.cell? ⟨b, o, none⟩ = W.cell? ⟨b, o, none⟩) ∧ (∀ b o, b < W.heap.size → w1.frozen? ⟨b, o, none⟩ = W.frozen? ⟨b, o, none⟩) :=
  ⟨fun b o h => hb.cell (p := ⟨b, o, none⟩) h, fun b o h => hb.frozen (p := ⟨b, o, none⟩) h⟩

theorem Keep.cell {S : Nat → Prop} {w w' : World} (h : Keep S w w') {a : Addr} {v : Value} (hc : w.cell? a = some v) (hS : ¬ S a.block) : w'.cell? a = some v := by
  have hlt := World.block_lt_of_cell? w _ hc
  unfold World.cell? at hc ⊢
  rw [h.block a.block hlt hS]
  exact hc
theorem Keep.frozen {S : Nat → Prop} {w w' : World} (h : Keep S w w') {a : Addr} (hlt : a.block < w.heap.size) (hS : ¬ S a.block) : w'.frozen? a = w.frozen? a := by
  unfold World.frozen?
  rw [h.block a.block hlt hS]

theorem cell_new (w : World) (cs : Array Value) (t : TypeId) (n : Nat) (v : Value) (h : cs[n]? = some v) : (w.alloc (.cells cs t)).cell? ⟨w.heap.size, n, none⟩ = some v := by
  unfold World.cell?
  rw [heap_alloc_new]
  exact h

theorem Below.then2_ {B : Nat} {a W w' : World} (h : Below B a W) (k : Below W.heap.size W w') (hB : B ≤ a.heap.size) : Below B a w' := h.trans (k.mono (Nat.le_trans hB h.size))
theorem Below.alloc2_ {B : Nat} {a w : World} (h : Below B a w) (hB : B ≤ a.heap.size) (o : Obj) : Below B a (w.alloc o) := h.alloc (Nat.le_trans hB h.size) o

/-- A kind of data: how many cells a value takes, and when cells tell a value, through the blocks of F. -/
structure Ty (α : Type) where
  sz : Nat
  bytes : Nat
  V : α → Prop
  K : (Nat → Prop) → World → List Value → α → Prop
  len : ∀ {F w cs x}, K F w cs x → cs.length = sz
  mono : ∀ {F w w' cs x}, K F w cs x → SameOn F w w' → K F w' cs x
  weak : ∀ {F G w cs x}, K F w cs x → (∀ b, F b → G b) → K G w cs x

/-- A slice's elements, through the blocks of F. -/
def Ty.Sl {α : Type} (t : Ty α) (F : Nat → Prop) (w : World) (A : Option Addr) (xs : List α) : Prop :=
  xs.length * t.bytes ≤ 140737488351232 ∧ (xs = [] ∨ ∃ b o, A = some ⟨b, o, none⟩ ∧ F b ∧ ∀ i x, xs[i]? = some x →
    ∃ cs, t.K F w cs x ∧ ∀ j v, cs[j]? = some v → w.cell? ⟨b, o + i * t.sz + j, none⟩ = some v)

theorem Ty.Sl.mono {α : Type} {t : Ty α} {F : Nat → Prop} {w w' : World} {A : Option Addr} {xs : List α} (h : t.Sl F w A xs) (hs : SameOn F w w') : t.Sl F w' A xs := by
  refine ⟨h.1, ?_⟩
  rcases h.2 with h0 | ⟨b, o, hA, hF, hx⟩
  · exact .inl h0
  · refine .inr ⟨b, o, hA, hF, fun i x hi => ?_⟩
    obtain ⟨cs, hK, hc⟩ := hx i x hi
    exact ⟨cs, t.mono hK hs, fun j v hv => by rw [hs.cell (a := ⟨b, _, none⟩) hF]; exact hc j v hv⟩
theorem Ty.Sl.weak {α : Type} {t : Ty α} {F G : Nat → Prop} {w : World} {A : Option Addr} {xs : List α} (h : t.Sl F w A xs) (hs : ∀ b, F b → G b) : t.Sl G w A xs := by
  refine ⟨h.1, ?_⟩
  rcases h.2 with h0 | ⟨b, o, hA, hF, hx⟩
  · exact .inl h0
  · refine .inr ⟨b, o, hA, hs b hF, fun i x hi => ?_⟩
    obtain ⟨cs, hK, hc⟩ := hx i x hi
    exact ⟨cs, t.weak hK hs, hc⟩
theorem Ty.Sl.nil {α : Type} (t : Ty α) (F : Nat → Prop) (w : World) (A : Option Addr) : t.Sl F w A [] := ⟨by simp, .inl rfl⟩

def Ty.scalar {α : Type} (enc : α → Value) (bytes : Nat) (V : α → Prop) : Ty α where
  sz := 1
  bytes := bytes
  V := V
  K := fun _ _ cs x => cs = [enc x]
  len := by rintro F w cs x rfl; rfl
  mono := fun h _ => h
  weak := fun h _ => h
def Ty.int (k : IntKind) : Ty Int := Ty.scalar (Value.int k) (k.bits / 8) (fun x => (Lit.int k x).wf = true)
def Ty.bool : Ty Bool := Ty.scalar Value.bool 1 (fun _ => True)
def Ty.str : Ty ByteArray := Ty.scalar Value.string 16 (fun s => s.size ≤ 140737488351232)
def Ty.slice {α : Type} (t : Ty α) : Ty (List α) where
  sz := 1
  bytes := 24
  V := fun xs => ∀ x ∈ xs, t.V x
  K := fun F w cs xs => ∃ A c, cs = [.slice A xs.length c] ∧ t.Sl F w A xs
  len := by rintro F w cs x ⟨A, c, rfl, _⟩; rfl
  mono := by rintro F w w' cs x ⟨A, c, rfl, h⟩ hs; exact ⟨A, c, rfl, h.mono hs⟩
  weak := by rintro F w w' cs x ⟨A, c, rfl, h⟩ hs; exact ⟨A, c, rfl, h.weak hs⟩

structure CallD where
  kind : Int
  key : ByteArray
  arg : Int
  got : Bool
  vals : List Int
def Ty.call : Ty CallD where
  sz := 5
  bytes := 64
  V := fun x => (Lit.int .i64 x.kind).wf = true ∧ x.key.size ≤ 140737488351232 ∧ (Lit.int .i64 x.arg).wf = true ∧ ∀ v ∈ x.vals, (Lit.int .i64 v).wf = true
  K := fun F w cs x => ∃ A c, cs = [.int .i64 x.kind, .string x.key, .int .i64 x.arg, .bool x.got, .slice A x.vals.length c] ∧ (Ty.int .i64).Sl F w A x.vals
  len := by rintro F w cs x ⟨A, c, rfl, _⟩; rfl
  mono := by rintro F w w' cs x ⟨A, c, rfl, h⟩ hs; exact ⟨A, c, rfl, h.mono hs⟩
  weak := by rintro F w w' cs x ⟨A, c, rfl, h⟩ hs; exact ⟨A, c, rfl, h.weak hs⟩
structure EventD where
  proc : Int
  kind : Int
  calls : List CallD
def Ty.event : Ty EventD where
  sz := 3
  bytes := 40
  V := fun x => (Lit.int .i64 x.proc).wf = true ∧ (Lit.int .i64 x.kind).wf = true ∧ ∀ c ∈ x.calls, Ty.call.V c
  K := fun F w cs x => ∃ A c, cs = [.int .i64 x.proc, .int .i64 x.kind, .slice A x.calls.length c] ∧ Ty.call.Sl F w A x.calls
  len := by rintro F w cs x ⟨A, c, rfl, _⟩; rfl
  mono := by rintro F w w' cs x ⟨A, c, rfl, h⟩ hs; exact ⟨A, c, rfl, h.mono hs⟩
  weak := by rintro F w w' cs x ⟨A, c, rfl, h⟩ hs; exact ⟨A, c, rfl, h.weak hs⟩

theorem Ty.Sl.len_le {α : Type} {t : Ty α} {F : Nat → Prop} {w : World} {A : Option Addr} {xs : List α} (h : t.Sl F w A xs) (hb : 0 < t.bytes) : xs.length ≤ 140737488351232 :=
  Nat.le_trans (Nat.le_mul_of_pos_right _ hb) h.1
/-- One element of a slice of whole numbers. -/
theorem Ty.Sl.int_at {k : IntKind} {F : Nat → Prop} {w : World} {A : Option Addr} {xs : List Int} (h : (Ty.int k).Sl F w A xs) (i : Nat) (hi : i < xs.length) :
    ∃ b o, A = some ⟨b, o, none⟩ ∧ F b ∧ w.cell? ⟨b, o + i, none⟩ = some (.int k xs[i]) := by
  rcases h.2 with h0 | ⟨b, o, hA, hF, hx⟩
  · subst h0; simp at hi
  · obtain ⟨cs, hK, hc⟩ := hx i xs[i] (by simp [hi])
    have hK' : cs = [.int k xs[i]] := hK
    subst hK'
    exact ⟨b, o, hA, hF, by simpa [Ty.int, Ty.scalar] using hc 0 _ rfl⟩
theorem Ty.Sl.call_at {F : Nat → Prop} {w : World} {A : Option Addr} {xs : List CallD} (h : Ty.call.Sl F w A xs) (i : Nat) (hi : i < xs.length) :
    ∃ b o A' c', A = some ⟨b, o, none⟩ ∧ F b ∧ (Ty.int .i64).Sl F w A' xs[i].vals ∧ w.cell? ⟨b, o + i * 5, none⟩ = some (.int .i64 xs[i].kind) ∧ w.cell? ⟨b, o + i * 5 + 1, none⟩ = some (.string xs[i].key) ∧ w.cell? ⟨b, o + i * 5 + 2, none⟩ = some (.int .i64 xs[i].arg) ∧ w.cell? ⟨b, o + i * 5 + 3, none⟩ = some (.bool xs[i].got) ∧ w.cell? ⟨b, o + i * 5 + 4, none⟩ = some (.slice A' xs[i].vals.length c') := by
  rcases h.2 with h0 | ⟨b, o, hA, hF, hx⟩
  · subst h0; simp at hi
  · obtain ⟨cs, ⟨A', c', rfl, hv⟩, hc⟩ := hx i xs[i] (by simp [hi])
    exact ⟨b, o, A', c', hA, hF, hv, hc 0 _ rfl, hc 1 _ rfl, hc 2 _ rfl, hc 3 _ rfl, hc 4 _ rfl⟩
theorem Ty.Sl.event_at {F : Nat → Prop} {w : World} {A : Option Addr} {xs : List EventD} (h : Ty.event.Sl F w A xs) (i : Nat) (hi : i < xs.length) :
    ∃ b o A' c', A = some ⟨b, o, none⟩ ∧ F b ∧ Ty.call.Sl F w A' xs[i].calls ∧ w.cell? ⟨b, o + i * 3, none⟩ = some (.int .i64 xs[i].proc) ∧ w.cell? ⟨b, o + i * 3 + 1, none⟩ = some (.int .i64 xs[i].kind) ∧ w.cell? ⟨b, o + i * 3 + 2, none⟩ = some (.slice A' xs[i].calls.length c') := by
  rcases h.2 with h0 | ⟨b, o, hA, hF, hx⟩
  · subst h0; simp at hi
  · obtain ⟨cs, ⟨A', c', rfl, hv⟩, hc⟩ := hx i xs[i] (by simp [hi])
    exact ⟨b, o, A', c', hA, hF, hv, hc 0 _ rfl, hc 1 _ rfl, hc 2 _ rfl⟩
end Go.Proofs.Ytjjmedgibcffhaa
/- Maps in memory as functions from keys: laws for lookup, store and delete over any key type that can be told apart. -/
namespace Go.Proofs.Ytjjmedgibcffhaa
open Go.RowKit Go.MapKept
set_option linter.unusedSimpArgs false

open Classical in
/-- f, but v at k. -/
noncomputable def upd {κ β : Type} (f : κ → β) (k : κ) (v : β) : κ → β := fun q => if q = k then v else f q
theorem upd_same {κ β : Type} (f : κ → β) (k : κ) (v : β) : upd f k v k = v := by simp [upd]
theorem upd_ne {κ β : Type} (f : κ → β) {k q : κ} (v : β) (h : q ≠ k) : upd f k v q = f q := by simp [upd, h]

structure KeyTy (κ : Type) (P : Program) (kt : TypeId) where
  enc : κ → Value
  inj : ∀ {a b : κ}, enc a = enc b → a = b
  check : ∀ (w : World) (em : Bool) (k : κ), (Instr.checkKey em 10000 kt (enc k)).run P w = .ok () w
  find : ∀ (w : World) (k : κ) (es : List MapEntry), (∀ e ∈ es, ∃ k', e.key = enc k') →
    ((Instr.findKey kt (enc k) es).run P w = .ok none w ∧ ∀ e ∈ es, e.key ≠ enc k) ∨ ∃ j e, (Instr.findKey kt (enc k) es).run P w = .ok (some (j, e.val)) w ∧ es[j]? = some e ∧ e.key = enc k
  stays : ∀ (w : World) (k : κ), (Instr.keyThatStays (enc k) (enc k)).run P w = .ok (enc k) w

theorem wf64 {n : Int} (h1 : -9223372036854775808 ≤ n) (h2 : n ≤ 9223372036854775807) : (Lit.int .i64 n).wf = true := WalkArith.wf_i64 ⟨h1, h2⟩

/-- Whole numbers as keys. -/
def KeyTy.int {P : Program} {kt : TypeId} {q : IntKind} (hk : P.underlying kt = some (.int q)) : KeyTy Int P kt where
  enc := Value.int q
  inj := fun h => by injection h
  check := fun w em k => run_checkKey hk (show IsKey (.int q) (.int q k) from rfl) em 9999
  find := fun w k es hes => by
    have hks : ∀ y ∈ es, IsKey (.int q) y.key := fun y hy => by
      obtain ⟨k', hk'⟩ := hes y hy
      rw [hk']
      exact rfl
    rcases findNow_spec (show IsKey (.int q) (.int q k) from rfl) es 0 hks with ⟨h1, h2⟩ | ⟨j, e0, h1, h2, h3⟩
    · exact Or.inl ⟨run_findKey hk h1, h2⟩
    · exact Or.inr ⟨j, e0, by simpa using run_findKey hk h1, h2, h3⟩
  stays := fun w k => run_keyThatStays (show IsKey (.int q) (.int q k) from rfl)
/-- Texts as keys. -/
def KeyTy.str {P : Program} {kt : TypeId} (hk : P.underlying kt = some .string) : KeyTy ByteArray P kt where
  enc := Value.string
  inj := fun h => by injection h
  check := fun w em k => run_checkKey hk (show IsKey .string (.string k) from trivial) em 9999
  find := fun w k es hes => by
    have hks : ∀ y ∈ es, IsKey .string y.key := fun y hy => by
      obtain ⟨k', hk'⟩ := hes y hy
      rw [hk']
      exact trivial
    rcases findNow_spec (show IsKey .string (.string k) from trivial) es 0 hks with ⟨h1, h2⟩ | ⟨j, e0, h1, h2, h3⟩
    · exact Or.inl ⟨run_findKey hk h1, h2⟩
    · exact Or.inr ⟨j, e0, by simpa using run_findKey hk h1, h2, h3⟩
  stays := fun w k => run_keyThatStays (show IsKey .string (.string k) from trivial)

section
variable {κ : Type} {P : Program} {kt : TypeId}

/-- Block b holds a map that reads as f. -/
def MapAt (K : KeyTy κ P kt) (w : World) (b : Nat) (f : κ → Option Value) : Prop :=
  ∃ es clock, w.heap[b]? = some (.map es clock) ∧ (∀ e ∈ es.toList, ∃ k, e.key = K.enc k) ∧ es.toList.Pairwise (fun x y => x.key ≠ y.key) ∧
    ∀ k v, f k = some v ↔ ∃ e ∈ es.toList, e.key = K.enc k ∧ e.val = v

theorem MapAt.same {K : KeyTy κ P kt} {w w' : World} {b : Nat} {f : κ → Option Value} (h : MapAt K w b f) (hs : w'.heap[b]? = w.heap[b]?) : MapAt K w' b f := by
  obtain ⟨es, clock, hb, h1, h2, h3⟩ := h
  exact ⟨es, clock, hs.trans hb, h1, h2, h3⟩
theorem MapAt.drewN {K : KeyTy κ P kt} {w : World} {b : Nat} {f : κ → Option Value} (h : MapAt K w b f) (n : Nat) : MapAt K (w.drewN n) b f := h.same rfl
theorem MapAt.keep {S : Nat → Prop} {K : KeyTy κ P kt} {w w' : World} {b : Nat} {f : κ → Option Value} (h : MapAt K w b f) (hk : Keep S w w') (hS : ¬ S b) : MapAt K w' b f := by
  have h' := h
  obtain ⟨es, clock, hb, _⟩ := h'
  exact h.same (hk.block b (Array.getElem?_eq_some_iff.1 hb).1 hS)
theorem MapAt.lt {K : KeyTy κ P kt} {w : World} {b : Nat} {f : κ → Option Value} (h : MapAt K w b f) : b < w.heap.size := by
  obtain ⟨es, clock, hb, _⟩ := h
  exact (Array.getElem?_eq_some_iff.1 hb).1
theorem MapAt.ext {K : KeyTy κ P kt} {w : World} {b : Nat} {f g : κ → Option Value} (h : MapAt K w b f) (hfg : ∀ k, f k = g k) : MapAt K w b g := by
  rw [← funext hfg]
  exact h
theorem MapAt.made (K : KeyTy κ P kt) (w : World) : MapAt K (w.alloc (.map #[] 0)) w.heap.size (fun _ => none) :=
  ⟨#[], 0, by show (w.heap.push _)[w.heap.size]? = _; simp, by simp, by simp, by simp⟩

/-- What is found of a key. -/
theorem MapAt.found {K : KeyTy κ P kt} {w : World} {b : Nat} {f : κ → Option Value} (h : MapAt K w b f) (k : κ) :
    ∃ es clock, w.heap[b]? = some (.map es clock) ∧ (((Instr.findKey kt (K.enc k) es.toList).run P w = .ok none w ∧ f k = none ∧ ∀ e ∈ es.toList, e.key ≠ K.enc k) ∨
      ∃ j e, (Instr.findKey kt (K.enc k) es.toList).run P w = .ok (some (j, e.val)) w ∧ f k = some e.val ∧ es.toList[j]? = some e ∧ e.key = K.enc k) := by
  obtain ⟨es, clock, hb, h1, h2, h3⟩ := h
  refine ⟨es, clock, hb, ?_⟩
  rcases K.find w k es.toList h1 with ⟨hr, hn⟩ | ⟨j, e, hr, hj, he⟩
  · refine .inl ⟨hr, ?_, hn⟩
    cases hf : f k with
    | none => rfl
    | some v =>
      obtain ⟨e, he, hk, _⟩ := (h3 k v).1 hf
      exact absurd hk (hn e he)
  · exact .inr ⟨j, e, hr, (h3 k e.val).2 ⟨e, List.mem_of_getElem? hj, he, rfl⟩, hj, he⟩

theorem MapAt.run_lookup {K : KeyTy κ P kt} {w : World} {b : Nat} {f : κ → Option Value} (h : MapAt K w b f) {t et : TypeId} (ht : P.underlying t = some (.map kt et)) {z : Value} (hz : (zeroValue et).run P w = .ok z w) (k : κ) :
    (Instr.lookup t (.map (some b)) (K.enc k) true).run P w = .ok (.tuple #[(f k).getD z, .bool (f k).isSome]) w := by
  obtain ⟨es, clock, hb, hc⟩ := h.found k
  rcases hc with ⟨hr, hf, _⟩ | ⟨j, e, hr, hf, _, _⟩
  · simp [Instr.lookup, run_underlying ht, getObj, Sem.run, hb, K.check, hr, hf, hz, Result.andThen]
  · simp [Instr.lookup, run_underlying ht, getObj, Sem.run, hb, K.check, hr, hf, Result.andThen]
theorem MapAt.run_lookup1 {K : KeyTy κ P kt} {w : World} {b : Nat} {f : κ → Option Value} (h : MapAt K w b f) {t et : TypeId} (ht : P.underlying t = some (.map kt et)) {z : Value} (hz : (zeroValue et).run P w = .ok z w) (k : κ) :
    (Instr.lookup t (.map (some b)) (K.enc k) false).run P w = .ok ((f k).getD z) w := by
  obtain ⟨es, clock, hb, hc⟩ := h.found k
  rcases hc with ⟨hr, hf, _⟩ | ⟨j, e, hr, hf, _, _⟩
  · simp [Instr.lookup, run_underlying ht, getObj, Sem.run, hb, K.check, hr, hf, hz, Result.andThen]
  · simp [Instr.lookup, run_underlying ht, getObj, Sem.run, hb, K.check, hr, hf, Result.andThen]

theorem getElem?_lt {α : Type} {l : List α} {j : Nat} {e : α} (h : l[j]? = some e) : j < l.length := (List.getElem?_eq_some_iff.1 h).1

theorem setObj_keep {w : World} {b : Nat} {o : Obj} (_h : b < w.heap.size) : Keep (fun k => k = b) w { w with heap := w.heap.setIfInBounds b o } :=
  ⟨rfl, rfl, rfl, by simp, fun k _ hk => by simp [Array.getElem?_setIfInBounds]; intro e; exact absurd e.symm hk⟩

theorem setObj_at {w : World} {b : Nat} (o : Obj) (h : b < w.heap.size) : ({ w with heap := w.heap.setIfInBounds b o } : World).heap[b]? = some o := by
  simp [Array.getElem?_setIfInBounds, h]

open Classical in
/-- m[k] = v. -/
theorem MapAt.run_update {K : KeyTy κ P kt} {w : World} {b : Nat} {f : κ → Option Value} (h : MapAt K w b f) {t et : TypeId} (ht : P.underlying t = some (.map kt et)) (k : κ) (v : Value) :
    ∃ w', (Instr.mapUpdate t (.map (some b)) (K.enc k) v).run P w = .ok () w' ∧ MapAt K w' b (upd f k (some v)) ∧ Keep (fun i => i = b) w w' ∧ w'.heap.size = w.heap.size := by
  have h' := h
  obtain ⟨es0, clock0, hb0, h1, h2, h3⟩ := h'
  obtain ⟨es, clock, hb, hc⟩ := h.found k
  obtain ⟨rfl, rfl⟩ : es = es0 ∧ clock = clock0 := by
    rw [hb0] at hb
    injection hb with hb
    injection hb with e1 e2
    exact ⟨e1.symm, e2.symm⟩
  have hlt := h.lt
  rcases hc with ⟨hr, hf, hno⟩ | ⟨j, e, hr, hf, hj, he⟩
  · refine ⟨{ w with heap := w.heap.setIfInBounds b (.map (es.push { key := K.enc k, val := v, born := clock }) (clock + 1)) }, ?_, ?_, setObj_keep hlt, by simp⟩
    · simp [Instr.mapUpdate, run_underlying ht, getObj, setObj, Sem.run, hb, K.check, hr, Result.andThen]
    · refine ⟨_, _, setObj_at _ hlt, ?_, ?_, ?_⟩
      · intro x hx
        simp at hx
        rcases hx with hx | rfl
        · exact h1 x (by simpa using hx)
        · exact ⟨k, rfl⟩
      · simp only [Array.toList_push]
        rw [List.pairwise_append]
        refine ⟨h2, by simp, ?_⟩
        intro x hx y hy
        simp at hy
        subst hy
        exact hno x hx
      · intro k' v'
        by_cases hk : k' = k
        · subst hk
          simp only [upd_same, Option.some.injEq]
          constructor
          · rintro rfl
            exact ⟨{ key := K.enc k', val := v, born := clock }, by simp, rfl, rfl⟩
          · rintro ⟨x, hx, hk2, rfl⟩
            simp at hx
            rcases hx with hx | rfl
            · exact absurd hk2 (hno x (by simpa using hx))
            · rfl
        · rw [upd_ne _ _ hk, h3]
          constructor
          · rintro ⟨x, hx, r⟩
            exact ⟨x, by simp at hx ⊢; exact .inl hx, r⟩
          · rintro ⟨x, hx, hk2, r⟩
            simp at hx
            rcases hx with hx | rfl
            · exact ⟨x, by simpa using hx, hk2, r⟩
            · exact absurd (K.inj hk2).symm hk
  · have hjl : j < es.size := by have := getElem?_lt hj; simpa using this
    have hje : es[j]? = some e := by simpa using hj
    refine ⟨{ w with heap := w.heap.setIfInBounds b (.map (es.modify j fun e => { e with key := K.enc k, val := v }) clock) }, ?_, ?_, setObj_keep hlt, by simp⟩
    · simp [Instr.mapUpdate, run_underlying ht, getObj, setObj, Sem.run, hb, K.check, hr, Result.andThen, hje, he, K.stays]
    · have hmod : (es.modify j fun e => { e with key := K.enc k, val := v }).toList = es.toList.set j { e with key := K.enc k, val := v } := by
        apply List.ext_getElem?
        intro i
        simp only [Array.getElem?_toList, Array.getElem?_modify, List.getElem?_set]
        by_cases hij : j = i
        · subst hij
          have := (Array.getElem?_eq_some_iff.1 hje).2
          simp [hjl, this]
        · simp [hij]
      have hmem : ∀ x, x ∈ es.toList.set j { e with key := K.enc k, val := v } ↔ x = { e with key := K.enc k, val := v } ∨ (x ∈ es.toList ∧ x.key ≠ K.enc k) := by
        intro x
        constructor
        · intro hx
          obtain ⟨i, hi, rfl⟩ := List.getElem_of_mem hx
          rw [List.getElem_set]
          split
          · exact .inl rfl
          · rename_i hne
            refine .inr ⟨List.getElem_mem _, fun hk => ?_⟩
            have hil : i < es.toList.length := by simpa using hi
            have := List.pairwise_iff_getElem.1 h2
            have ej : es.toList[j]'(by simpa using hjl) = e := (List.getElem?_eq_some_iff.1 hj).2
            rcases Nat.lt_or_ge i j with hij | hij
            · exact this i j hil (by simpa using hjl) hij (by rw [ej, he, hk])
            · exact this j i (by simpa using hjl) hil (by omega) (by rw [ej, he, hk])
        · rintro (rfl | ⟨hx, hk⟩)
          · exact List.mem_iff_getElem.2 ⟨j, by simpa using hjl, by simp⟩
          · obtain ⟨i, hi, rfl⟩ := List.getElem_of_mem hx
            have hne : j ≠ i := by
              rintro rfl
              exact hk (by rw [(List.getElem?_eq_some_iff.1 hj).2, he])
            exact List.mem_iff_getElem.2 ⟨i, by simpa using hi, by rw [List.getElem_set, if_neg hne]⟩
      refine ⟨_, _, setObj_at _ hlt, ?_, ?_, ?_⟩
      · rw [hmod]
        intro x hx
        rcases (hmem x).1 hx with rfl | ⟨hx, _⟩
        · exact ⟨k, rfl⟩
        · exact h1 x hx
      · rw [hmod, List.pairwise_iff_getElem]
        intro i i' hi hi' hii
        have h2' := List.pairwise_iff_getElem.1 h2
        have ej : es.toList[j]'(by simpa using hjl) = e := (List.getElem?_eq_some_iff.1 hj).2
        have hil : i < es.toList.length := by simpa using hi
        have hil' : i' < es.toList.length := by simpa using hi'
        rw [List.getElem_set, List.getElem_set]
        split
        · rename_i e1
          subst e1
          rw [if_neg (by omega)]
          have := h2' j i' hil hil' hii
          rw [ej, he] at this
          exact this
        · split
          · rename_i e1 e2
            subst e2
            have := h2' i j hil hil' hii
            rw [ej, he] at this
            exact this
          · exact h2' i i' hil hil' hii
      · intro k' v'
        rw [hmod]
        by_cases hk : k' = k
        · subst hk
          simp only [upd_same, Option.some.injEq]
          constructor
          · rintro rfl
            exact ⟨_, (hmem _).2 (.inl rfl), rfl, rfl⟩
          · rintro ⟨x, hx, hk2, rfl⟩
            rcases (hmem x).1 hx with rfl | ⟨_, hne⟩
            · rfl
            · exact absurd hk2 hne
        · rw [upd_ne _ _ hk, h3]
          constructor
          · rintro ⟨x, hx, hk2, r⟩
            exact ⟨x, (hmem x).2 (.inr ⟨hx, fun h => hk (K.inj (hk2.symm.trans h))⟩), hk2, r⟩
          · rintro ⟨x, hx, hk2, r⟩
            rcases (hmem x).1 hx with rfl | ⟨hx, _⟩
            · exact absurd (K.inj hk2).symm hk
            · exact ⟨x, hx, hk2, r⟩

open Classical in
/-- delete(m, k). -/
theorem MapAt.run_delete {K : KeyTy κ P kt} {w : World} {b : Nat} {f : κ → Option Value} (h : MapAt K w b f) {t et : TypeId} (ht : P.underlying t = some (.map kt et)) (k : κ) (ty : TypeId) :
    ∃ w', (Builtin.delete_ #[t, kt] ty #[.map (some b), K.enc k]).run P w = .ok (.tuple #[]) w' ∧ MapAt K w' b (upd f k none) ∧ Keep (fun i => i = b) w w' ∧ w'.heap.size = w.heap.size := by
  have h' := h
  obtain ⟨es0, clock0, hb0, h1, h2, h3⟩ := h'
  obtain ⟨es, clock, hb, hc⟩ := h.found k
  obtain ⟨rfl, rfl⟩ : es = es0 ∧ clock = clock0 := by
    rw [hb0] at hb
    injection hb with hb
    injection hb with e1 e2
    exact ⟨e1.symm, e2.symm⟩
  have hlt := h.lt
  rcases hc with ⟨hr, hf, hno⟩ | ⟨j, e, hr, hf, hj, he⟩
  · refine ⟨{ w with heap := w.heap.setIfInBounds b (.map es clock) }, ?_, ⟨es, clock, setObj_at _ hlt, h1, h2, ?_⟩, setObj_keep hlt, by simp⟩
    · simp [Builtin.delete_, run_underlying ht, getObj, setObj, Sem.run, hb, K.check, hr, Result.andThen]
    · intro k' v'
      by_cases hk : k' = k
      · subst hk
        simp only [upd_same]
        constructor
        · intro h; cases h
        · rintro ⟨x, hx, hk2, _⟩
          exact absurd hk2 (hno x hx)
      · rw [upd_ne _ _ hk, h3]
  · have hjl : j < es.size := by have := getElem?_lt hj; simpa using this
    refine ⟨{ w with heap := w.heap.setIfInBounds b (.map (es.eraseIdxIfInBounds j) clock) }, ?_, ?_, setObj_keep hlt, by simp⟩
    · simp [Builtin.delete_, run_underlying ht, getObj, setObj, Sem.run, hb, K.check, hr, Result.andThen]
    · have hmod : (es.eraseIdxIfInBounds j).toList = es.toList.eraseIdx j := by simp [Array.eraseIdxIfInBounds, hjl]
      have hmem : ∀ x, x ∈ es.toList.eraseIdx j ↔ (x ∈ es.toList ∧ x.key ≠ K.enc k) := by
        intro x
        have ej : es.toList[j]'(by simpa using hjl) = e := (List.getElem?_eq_some_iff.1 hj).2
        rw [List.mem_eraseIdx_iff_getElem]
        constructor
        · rintro ⟨i, hi, hij, rfl⟩
          refine ⟨List.getElem_mem _, fun hk => ?_⟩
          have := List.pairwise_iff_getElem.1 h2
          rcases Nat.lt_or_ge i j with hlt' | hge
          · exact this i j hi (by simpa using hjl) hlt' (by rw [ej, he, hk])
          · exact this j i (by simpa using hjl) hi (by omega) (by rw [ej, he, hk])
        · rintro ⟨hx, hk⟩
          obtain ⟨i, hi, rfl⟩ := List.getElem_of_mem hx
          exact ⟨i, hi, by rintro rfl; exact hk (by rw [ej, he]), rfl⟩
      refine ⟨_, _, setObj_at _ hlt, ?_, ?_, ?_⟩
      · rw [hmod]
        intro x hx
        exact h1 x ((hmem x).1 hx).1
      · rw [hmod]
        exact h2.sublist (List.eraseIdx_sublist _ _)
      · intro k' v'
        rw [hmod]
        by_cases hk : k' = k
        · subst hk
          simp only [upd_same]
          constructor
          · intro h; cases h
          · rintro ⟨x, hx, hk2, _⟩
            exact absurd hk2 ((hmem x).1 hx).2
        · rw [upd_ne _ _ hk, h3]
          constructor
          · rintro ⟨x, hx, hk2, r⟩
            exact ⟨x, (hmem x).2 ⟨hx, fun h => hk (K.inj (hk2.symm.trans h))⟩, hk2, r⟩
          · rintro ⟨x, hx, hk2, r⟩
            exact ⟨x, ((hmem x).1 hx).1, hk2, r⟩
end

/-! The laws at an operation of a walk. -/
section
variable {κ : Type} {P : Program} {kt : TypeId} {ops : Array Oper} {rest : List Oper} {o : Oper} {a : Act} {Q : Exit → Act → World → Prop} {w : World}

theorem wp_lookup2 (K : KeyTy κ P kt) {b : Nat} {f : κ → Option Value} (h : MapAt K w b f) (hg : o.guard = none) (m x : Operand) (t : TypeId) (hop : o.op = Op.lookup t m x true) {et : TypeId} (ht : P.underlying t = some (.map kt et))
    {z : Value} (hz : (zeroValue et).run P w = .ok z w) (k : κ) (hm : a.eval m = .map (some b)) (hx : a.eval x = K.enc k)
    (hK : wpList P ops Q rest (a.put o.dst (.tuple #[(f k).getD z, .bool (f k).isSome])) w) : wpList P ops Q (o :: rest) a w := by
  refine wpList_plain hg fun K' hK' => ?_
  unfold Oper.wp
  simp [execOp, hop, hm, hx, h.run_lookup ht hz k, Result.andThen]
  exact hK' _ _ hK
theorem wp_lookup1 (K : KeyTy κ P kt) {b : Nat} {f : κ → Option Value} (h : MapAt K w b f) (hg : o.guard = none) (m x : Operand) (t : TypeId) (hop : o.op = Op.lookup t m x false) {et : TypeId} (ht : P.underlying t = some (.map kt et))
    {z : Value} (hz : (zeroValue et).run P w = .ok z w) (k : κ) (hm : a.eval m = .map (some b)) (hx : a.eval x = K.enc k)
    (hK : wpList P ops Q rest (a.put o.dst ((f k).getD z)) w) : wpList P ops Q (o :: rest) a w := by
  refine wpList_plain hg fun K' hK' => ?_
  unfold Oper.wp
  simp [execOp, hop, hm, hx, h.run_lookup1 ht hz k, Result.andThen]
  exact hK' _ _ hK
open Classical in
theorem wp_update (K : KeyTy κ P kt) {b : Nat} {f : κ → Option Value} (h : MapAt K w b f) (hg : o.guard = none) (m x y : Operand) (t : TypeId) (hop : o.op = Op.mapUpdate t m x y) {et : TypeId} (ht : P.underlying t = some (.map kt et))
    (k : κ) (v : Value) (hm : a.eval m = .map (some b)) (hx : a.eval x = K.enc k) (hv : a.eval y = v)
    (hK : ∀ w', MapAt K w' b (upd f k (some v)) → Keep (fun i => i = b) w w' → w'.heap.size = w.heap.size → wpList P ops Q rest (a.put o.dst undef) w') : wpList P ops Q (o :: rest) a w := by
  refine wpList_plain hg fun K' hK' => ?_
  obtain ⟨w', hr, h1, h2, h3⟩ := h.run_update ht k v
  unfold Oper.wp
  simp [execOp, hop, hm, hx, hv, hr, Result.andThen]
  exact hK' _ _ (hK w' h1 h2 h3)
open Classical in
theorem wp_delete (K : KeyTy κ P kt) {b : Nat} {f : κ → Option Value} (h : MapAt K w b f) (hg : o.guard = none) (m x : Operand) (t : TypeId) (hop : o.op = Op.call { callee := Callee.builtin Builtin.delete, args := #[m, x], argTypes := #[t, kt] }) {et : TypeId} (ht : P.underlying t = some (.map kt et))
    (k : κ) (hm : a.eval m = .map (some b)) (hx : a.eval x = K.enc k)
    (hK : ∀ w', MapAt K w' b (upd f k none) → Keep (fun i => i = b) w w' → w'.heap.size = w.heap.size → wpList P ops Q rest (a.put o.dst (.tuple #[])) w') : wpList P ops Q (o :: rest) a w := by
  refine wpList_plain hg fun K' hK' => ?_
  obtain ⟨w', hr, h1, h2, h3⟩ := h.run_delete ht k o.type
  unfold Oper.wp
  simp [execOp, hop, resolve, invoke, builtin, hm, hx, hr, Result.andThen]
  exact hK' _ _ (hK w' h1 h2 h3)
end
end Go.Proofs.Ytjjmedgibcffhaa
/- Rows of the call's own with typed elements: append, read, store. -/
namespace Go.Proofs.Ytjjmedgibcffhaa
open Go.RowKit Go.MapKept
set_option linter.unusedSimpArgs false

section
variable {α : Type} {enc : α → List Value} {sz : Nat}
theorem flat_length (h : ∀ x, (enc x).length = sz) (xs : List α) : (xs.flatMap enc).length = xs.length * sz := by
  induction xs with
  | nil => simp
  | cons x xs ih => simp [List.flatMap_cons, h, ih, Nat.succ_mul]; omega
theorem flat_get (h : ∀ x, (enc x).length = sz) (xs : List α) (i j : Nat) (hi : i < xs.length) (hj : j < sz) : (xs.flatMap enc)[i * sz + j]? = (enc xs[i])[j]? := by
  induction xs generalizing i with
  | nil => simp at hi
  | cons x xs ih =>
    rw [List.flatMap_cons]
    cases i with
    | zero =>
      rw [List.getElem?_append_left (by rw [h]; omega)]
      simp
    | succ i =>
      rw [List.getElem?_append_right (by rw [h, Nat.succ_mul]; omega), h]
      have : (i + 1) * sz + j - sz = i * sz + j := by rw [Nat.succ_mul]; omega
      rw [this]
      simpa using ih i (by simpa using hi)
theorem flat_set (h : ∀ x, (enc x).length = sz) (xs : List α) (i j : Nat) (y : α) (v : Value) (hi : i < xs.length) (hj : j < sz) (hy : enc y = (enc xs[i]).set j v) : (xs.flatMap enc).set (i * sz + j) v = (xs.set i y).flatMap enc := by
  induction xs generalizing i with
  | nil => simp at hi
  | cons x xs ih =>
    cases i with
    | zero =>
      simp only [List.set_cons_zero, List.flatMap_cons]
      rw [List.set_append_left _ _ (by rw [h]; omega)]
      simp only [List.getElem_cons_zero] at hy
      rw [hy]
      simp
    | succ i =>
      simp only [List.set_cons_succ, List.flatMap_cons]
      rw [List.set_append_right _ _ (by rw [h, Nat.succ_mul]; omega), h]
      have : (i + 1) * sz + j - sz = i * sz + j := by rw [Nat.succ_mul]; omega
      rw [this, ih i (by simpa using hi) (by simpa using hy)]
end

theorem own_keep {S : Nat → Prop} {w w' : World} {base n : Nat} {e : TypeId} {sz : Nat} {v : Value} {xs : List Value} (h : w.ownsRow base e sz v n xs) (hk : Keep S w w') (hS : ∀ k, v.ownBlock = some k → ¬ S k) : w'.ownsRow base e sz v n xs := by
  refine ⟨h.1, ?_⟩
  rcases h.2 with hn | ⟨g, cap, cur, rfl, hb, hg, rest⟩
  · exact .inl hn
  · exact .inr ⟨g, cap, cur, rfl, hb, (hk.block g (Array.getElem?_eq_some_iff.1 hg).1 (hS g rfl)).trans hg, rest⟩
theorem own_slice {w : World} {base n : Nat} {e : TypeId} {sz : Nat} {v : Value} {xs : List Value} (h : w.ownsRow base e sz v n xs) (hn : 0 < n) : ∃ g cap, v = .slice (some ⟨g, 0, none⟩) n cap ∧ base ≤ g ∧ g < w.heap.size ∧ n ≤ cap ∧ (∀ j u, xs[j]? = some u → w.cell? ⟨g, j, none⟩ = some u) ∧ (∀ j, w.frozen? ⟨g, j, none⟩ = false) := by
  have h' := h
  rcases h.2 with ⟨_, h0⟩ | ⟨g, cap, cur, rfl, hb, hg, hc, _⟩
  · omega
  · refine ⟨g, cap, rfl, hb, (Array.getElem?_eq_some_iff.1 hg).1, hc, fun j u hu => ?_, fun j => h'.frozenAt j⟩
    have hj : j < n * sz := by
      have := (List.getElem?_eq_some_iff.1 hu).1
      rw [h'.1] at this
      exact this
    rw [h'.cellAt j hj]
    exact hu
theorem own_shape {w : World} {base n : Nat} {e : TypeId} {sz : Nat} {v : Value} {xs : List Value} (h : w.ownsRow base e sz v n xs) : ∃ A c, v = .slice A n c := by
  rcases h.2 with ⟨rfl, rfl⟩ | ⟨g, cap, cur, rfl, _⟩
  · exact ⟨_, _, rfl⟩
  · exact ⟨_, _, rfl⟩

section
variable {P : Program} {ops : Array Oper} {rest : List Oper} {o : Oper} {a : Act} {Q : Exit → Act → World → Prop} {α : Type}
/-- append(v, y), behind at_builtin: y's cells have just been made. -/
theorem wp_append {enc : α → List Value} {sz : Nat} (hsz : ∀ x, (enc x).length = sz) (hone : ∀ x, ∀ u ∈ enc x, u.oneCell' = true) {W : World} (base : Nat) (hgd : o.guard = none) (s x : Operand) (t e : TypeId) (z : Value) (bytes : Nat)
    (ho : o.op = .call { callee := .builtin .append, args := #[s, x], argTypes := #[t, t] })
    (ht : P.underlying t = some (.slice e)) (hinfo : (P.info? e).map (fun i => (i.zero, i.size, i.bytes)) = some (some z, sz, bytes)) (hz : z.cells.size = sz) (hs0 : 0 < sz) (hb0 : 0 < bytes)
    (v : Value) (xs : List α) (y : α) (hs : a.eval s = v) (hx : a.eval x = .slice (some ⟨W.heap.size, 0, none⟩) 1 1)
    (HO : W.ownsRow base e sz v xs.length (xs.flatMap enc)) (hbase : base ≤ W.heap.size) (hl : (xs.length + 1) * bytes ≤ 140737488355328)
    (h : ∀ v1 w1, w1.ownsRow base e sz v1 (xs ++ [y]).length ((xs ++ [y]).flatMap enc) → Keep (fun k => v.ownBlock = some k) W w1 → (v1.ownBlock = v.ownBlock ∨ ∃ b, v1.ownBlock = some b ∧ W.heap.size ≤ b) → W.heap.size < w1.heap.size → wpList P ops Q rest (a.put o.dst v1) w1) :
    wpList P ops Q (o :: rest) a (W.alloc (.cells (enc y).toArray e)) := by
  obtain ⟨i0, hi, hzz⟩ := Option.map_eq_some_iff.1 hinfo
  simp only [Prod.mk.injEq] at hzz
  obtain ⟨hz0, hz1, hz2⟩ := hzz
  have hlen : xs.length + 1 ≤ 140737488355328 := Nat.le_trans (Nat.le_mul_of_pos_right _ hb0) hl
  refine wpList_append_own_at (W.alloc (.cells (enc y).toArray e)) hgd s x t ho base e i0 z sz bytes ht hi hz0 hz1 hz2 hz hs0 v xs.length _ hs (HO.alloc _) ⟨W.heap.size, 0, none⟩ 1 1 (enc y) hx (by rw [hsz]; omega)
    (World.news_of_block (cs := (enc y).toArray) (t := e) (fr := (0, 0)) (heap_alloc_new W _)) (hone y) (by simp only [maxLen]; omega) hl (by simp; omega) ?_
  intro v1 w1 hown hg _ hat
  have hk : Keep (fun k => v.ownBlock = some k) W w1 := (Keep.of_below ((Below.refl _ _).alloc (Nat.le_refl _) _)).trans (Keep.of_grown hg)
  refine h v1 w1 (by simpa using hown) hk ?_ (by have := hg.size; simp at this; omega)
  rcases hat with hat | hat
  · exact .inl hat
  · exact .inr ⟨_, hat, by simp⟩
end
end Go.Proofs.Ytjjmedgibcffhaa
namespace Go.Proofs.Ytjjmedgibcffhaa
open Go.RowKit
set_option linter.unusedSimpArgs false

def shapeF (k : Int) : Int × Int := if k = 5 then (0, 1) else if k = 8 then (1, 1) else (0, 64)

set_option maxHeartbeats 400000 in
theorem shape_calls (k : Int) (w : World) :
    Calls Try.prog 69 #[.int .i64 k] w fun e w' => e = .returned (.tuple #[.int .i64 (shapeF k).1, .int .i64 (shapeF k).2]) ∧ w = w' := by
  unfold shapeF
  by_cases h5 : k = 5
  · subst h5
    go_enter Try.func69, Try.ntmps69
    go_wp2
    go_ret2
    exact ⟨rfl, rfl⟩
  · by_cases h8 : k = 8
    · subst h8
      go_enter Try.func69, Try.ntmps69
      go_wp2
      go_ret2
      exact ⟨rfl, rfl⟩
    · go_enter Try.func69, Try.ntmps69
      go_wp2
      go_ret2
      exact ⟨by simp [h5, h8], rfl⟩

def risesB (l : List Int) : Bool := (List.range (l.length - 1)).all fun i => decide (l.getD i 0 < l.getD (i + 1) 0)
theorem risesB_false {l : List Int} {j : Nat} (h : j + 1 < l.length) (hle : l[j + 1] ≤ l[j]) : risesB l = false := by
  unfold risesB
  rw [List.all_eq_false]
  refine ⟨j, by simp; omega, ?_⟩
  simp [List.getD_eq_getElem?_getD, List.getElem?_eq_getElem h, List.getElem?_eq_getElem (show j < l.length by omega)]
  omega
theorem risesB_true {l : List Int} (h : ∀ i, i + 1 < l.length → l.getD i 0 < l.getD (i + 1) 0) : risesB l = true := by
  unfold risesB
  rw [List.all_eq_true]
  intro i hi
  simp at hi
  exact decide_eq_true (h i (by omega))
def callOk (c : CallD) (ev : Int) : Bool :=
  if c.kind < 1 then false else if 8 < c.kind then false else if c.key.toList.isEmpty = true then false else if 32 < (c.key.size : Int) then false
  else if c.kind ≤ 4 then !c.got && decide (c.vals.length = 0) && (decide (c.kind ≠ 4) || decide (-1048576 ≤ c.arg ∧ c.arg ≤ 1048576))
  else if c.arg ≠ 0 then false else if (!c.got == (ev == 1)) = true then false
  else if (!c.got) = true then decide (c.vals.length = 0)
  else if (c.vals.length : Int) < (shapeF c.kind).1 then false else if (shapeF c.kind).2 < (c.vals.length : Int) then false
  else if c.kind = 7 then risesB c.vals else true

set_option maxHeartbeats 1000000 in
set_option maxRecDepth 100000 in
theorem sound_calls (x : CallD) (F : Nat → Prop) (ev : Int) (w : World) (cs : List Value) (hx : Ty.call.K F w cs x) (hF : ∀ b, F b → b < w.heap.size) :
    Calls Try.prog 62 #[.agg cs.toArray, .int .i64 ev] w fun e w' => e = .returned (.bool (callOk x ev)) ∧ Below w.heap.size w w' := by
  obtain ⟨k, key, arg, got, vals⟩ := x
  obtain ⟨A, c, rfl, hv⟩ := hx
  dsimp only at hv ⊢
  have HV := hide hv
  clear hv
  go_enter Try.func62, Try.ntmps62
  go_wp2_with (go_at_call 69; refine (shape_calls _ _).mono ?_; rintro e w' ⟨rfl, rfl⟩)
  any_goals (go_ret; exact ⟨ret_bool (by grind [callOk]), (Below.refl _ _).alloc (Nat.le_refl _) _⟩)
  have hlen := HV.out.len_le (by decide)
  obtain rfl : arg = 0 := by assumption
  obtain rfl : got = true := by simpa using (by assumption : (!got) = false)
  go_loopw [7] (fun i wr => ∃ j : Nat, (j < vals.length ∨ j = 0) ∧ i = .int .i64 (j + 1) ∧ Hid (k = 7 → ∀ i, i < j → vals.getD i 0 < vals.getD (i + 1) 0) ∧ Hid (∃ n, wr = World.drewN (w.alloc (.cells #[.int .i64 k, .string key, .int .i64 0, .bool true, .slice A vals.length c] 67)) n)) (fun i _ => vals.length - (intOf i).toNat)
  case atStart => exact ⟨0, .inr rfl, rfl, fun _ i hi => absurd hi (by omega), 0, rfl⟩
  case round =>
    obtain ⟨j, hj, rfl, hr, hw⟩ := hrel
    obtain ⟨n, rfl⟩ := hw.out
    clear hw
    by_cases h7 : k = 7
    · subst h7
      by_cases hlt : j + 1 < vals.length
      · obtain ⟨b, o, rfl, hFb, hc0⟩ := HV.out.int_at j (by omega)
        obtain ⟨b', o', hA', -, hc1⟩ := HV.out.int_at (j + 1) hlt
        obtain ⟨rfl, rfl⟩ : b' = b ∧ o' = o := by simpa using hA'.symm
        have hbb := hF _ hFb
        clear hA'
        go_wp2
        go_quiet (fail)
        go_wp2
        · have hle : vals[j + 1] ≤ vals[j] := by assumption
          have hR := hide (risesB_false hlt hle)
          go_ret
          exact ⟨ret_bool (by have := hR.out; grind [callOk]), (by repeat (first | exact Below.refl _ _ | apply below_drewN | apply Below.drew | (refine Below.alloc ?_ (by simp) _) | (refine Below.setCell ?_ (by simp) _)))⟩
        · have hle : vals[j] < vals[j + 1] := by assumption
          refine ⟨?_, ?measure⟩
          repeat apply Exists.intro
          refine ⟨?rel, rfl⟩
          case rel => exact ⟨j + 1, .inl hlt, by go_num, fun h7 i hi => (by
            rcases Nat.lt_or_ge i j with hij | hij
            · exact hr.out h7 i hij
            · obtain rfl : i = j := by omega
              simpa [List.getD_eq_getElem?_getD, List.getElem?_eq_getElem hlt, List.getElem?_eq_getElem (show i < vals.length by omega)] using hle), _, rfl⟩
          case measure => simp [intOf]; omega
      · have hR : Hid (risesB vals = true) := risesB_true fun i hi => hr.out rfl i (by omega)
        go_wp2
        go_ret
        exact ⟨ret_bool (by have := hR.out; grind [callOk]), (by repeat (first | exact Below.refl _ _ | apply below_drewN | apply Below.drew | (refine Below.alloc ?_ (by simp) _) | (refine Below.setCell ?_ (by simp) _)))⟩
    · go_wp2
      go_ret
      exact ⟨ret_bool (by grind [callOk]), (by repeat (first | exact Below.refl _ _ | apply below_drewN | apply Below.drew | (refine Below.alloc ?_ (by simp) _) | (refine Below.setCell ?_ (by simp) _)))⟩
end Go.Proofs.Ytjjmedgibcffhaa
namespace Go.Proofs.Ytjjmedgibcffhaa
open Go.RowKit
set_option linter.unusedSimpArgs false

set_option maxHeartbeats 400000 in
theorem check1_calls (x : CallD) (F : Nat → Prop) (ev : Int) (w : World) (cs : List Value) (B : Nat) (hx : Ty.call.K F w cs x) (hF : ∀ b, F b → b < w.heap.size) (hB : w.cell? ⟨B, 1, none⟩ = some (.int .i64 ev)) :
    Calls Try.prog 61 #[.agg cs.toArray, .pointer (some ⟨B, 0, none⟩)] w fun e w' => e = .returned (.bool (!callOk x ev)) ∧ Below w.heap.size w w' := by
  have hx' := hide hx
  obtain ⟨A, c, rfl, -⟩ := hx
  have hBl := World.block_lt_of_cell? w _ hB
  have hS := fun cs' (h : Ty.call.K F w cs' x) (o : Obj) => sound_calls x F ev (w.alloc o) cs' (Ty.call.mono h (fun b hb => Below.heap_alloc _ _ _ (hF b hb))) (fun b hb => by have := hF b hb; simp; omega)
  have HS := hide hS
  clear hS
  have HF := hide hF
  clear hF
  go_enter Try.func61, Try.ntmps61
  go_wp2_with (go_at_call 62; refine (HS.out _ hx'.out _).mono ?_; rintro e w' ⟨rfl, hb⟩)
  go_ret
  exact ⟨rfl, ((Below.refl _ _).alloc (Nat.le_refl _) _).trans (hb.mono (by simp))⟩

def idxOf {α : Type} (p : α → Bool) (l : List α) : Int := if (l.findIdx p) < l.length then l.findIdx p else -1
theorem idxOf_hit {α : Type} {p : α → Bool} {l : List α} {j : Nat} (h : j < l.length) (hp : p l[j] = true) (hn : ∀ i (hi : i < j), p (l[i]'(by omega)) = false) : idxOf p l = j := by
  have h1 : l.findIdx p = j := by
    rw [List.findIdx_eq h]
    exact ⟨hp, hn⟩
  unfold idxOf
  rw [h1, if_pos h]
theorem idxOf_none {α : Type} {p : α → Bool} {l : List α} (h : ∀ i (hi : i < l.length), p l[i] = false) : idxOf p l = -1 := by
  unfold idxOf
  rw [if_neg]
  intro hlt
  have := List.findIdx_getElem (p := p) (w := hlt)
  rw [h] at this
  cases this
theorem idxOf_ge {α : Type} (p : α → Bool) (l : List α) : decide (0 ≤ idxOf p l) = l.any p := by
  rw [Bool.eq_iff_iff]
  simp only [decide_eq_true_eq, List.any_eq_true]
  unfold idxOf
  constructor
  · intro h
    split at h
    · rename_i hlt
      exact ⟨l[l.findIdx p], by simp, List.findIdx_getElem⟩
    · omega
  · rintro ⟨x, hx, hp⟩
    rw [if_pos (List.findIdx_lt_length_of_exists ⟨x, hx, hp⟩)]
    omega

set_option maxHeartbeats 400000 in
theorem idx68_calls (xs : List CallD) (F : Nat → Prop) (ev : Int) (w : World) (A : Option Addr) (c B : Nat) (hx : Ty.call.Sl F w A xs) (hF : ∀ b, F b → b < w.heap.size) (hB : w.cell? ⟨B, 1, none⟩ = some (.int .i64 ev)) :
    Calls Try.prog 68 #[.slice A xs.length c, .func (.func 61) #[] #[.pointer (some ⟨B, 0, none⟩)]] w fun e w' => e = .returned (.int .i64 (idxOf (fun x => !callOk x ev) xs)) ∧ Below w.heap.size w w' := by
  have HX := hide hx
  clear hx
  have HF := hide hF
  clear hF
  have HB := hide hB
  clear hB
  have hlen := HX.out.len_le (by decide)
  go_enter Try.func68, Try.ntmps68
  go_wp2
  go_loopw [8] (fun i wr => ∃ j : Nat, j ≤ xs.length ∧ i = .int .i64 j ∧ Hid (∀ i (hi : i < xs.length), i < j → callOk xs[i] ev = true) ∧ Hid (Below w.heap.size w wr)) (fun i _ => xs.length - (intOf i).toNat)
  case atStart => exact ⟨0, by omega, rfl, fun i _ hi => absurd hi (by omega), Below.refl _ _⟩
  case round =>
    obtain ⟨j, hj, rfl, hr, hb⟩ := hrel
    by_cases hlt : j < xs.length
    · obtain ⟨b, o, A', c', rfl, hFb, hv, hc0, hc1, hc2, hc3, hc4⟩ := (HX.out.mono (w' := wr) (fun b hb' => hb.out.block b (HF.out b hb'))).call_at j hlt
      have HV := hide hv
      clear hv
      go_wp2_with (go_at_call 61; refine (check1_calls xs[j] F ev _ _ B ⟨A', c', rfl, HV.out⟩ (fun b hb' => Nat.lt_of_lt_of_le (HF.out b hb') hb.out.size) ((hb.out.cell (World.block_lt_of_cell? w _ HB.out)).trans HB.out)).mono ?_; rintro e w' ⟨rfl, hb1⟩)
      · have hp : (!callOk xs[j] ev) = true := by assumption
        go_ret
        exact ⟨ret_int (idxOf_hit hlt hp fun i hi => by rw [hr.out i (by omega) hi]; rfl).symm, hb.out.trans (hb1.mono hb.out.size)⟩
      · have hp : (!callOk xs[j] ev) = false := by assumption
        refine ⟨⟨j + 1, by omega, by go_num, fun i h1 h2 => ?_, hb.out.trans (hb1.mono hb.out.size)⟩, by simp [intOf]; omega⟩
        rcases Nat.lt_or_ge i j with hij | hij
        · exact hr.out i h1 hij
        · obtain rfl : i = j := by omega
          simpa using hp
    · go_wp2
      go_ret
      exact ⟨ret_int (idxOf_none fun i hi => by rw [hr.out i hi (by omega)]; rfl).symm, hb.out⟩

set_option maxHeartbeats 400000 in
theorem contains60_calls (xs : List CallD) (F : Nat → Prop) (ev : Int) (w : World) (A : Option Addr) (c B : Nat) (hx : Ty.call.Sl F w A xs) (hF : ∀ b, F b → b < w.heap.size) (hB : w.cell? ⟨B, 1, none⟩ = some (.int .i64 ev)) :
    Calls Try.prog 60 #[.slice A xs.length c, .func (.func 61) #[] #[.pointer (some ⟨B, 0, none⟩)]] w fun e w' => e = .returned (.bool (xs.any fun x => !callOk x ev)) ∧ Below w.heap.size w w' := by
  have H := hide (idx68_calls xs F ev w A c B hx hF hB)
  clear hx hF hB
  go_enter Try.func60, Try.ntmps60
  go_wp2_with (go_at_call 68; refine H.out.mono ?_; rintro e w' ⟨rfl, hb⟩)
  go_ret
  exact ⟨ret_bool (idxOf_ge _ _), hb⟩

def eventOk (e : EventD) : Bool := decide (0 ≤ e.kind) && decide (e.kind ≤ 3) && decide (e.calls.length ≤ 16) && e.calls.all fun x => callOk x e.kind
def errnoOf (b : Bool) : Int := if b then 0 else 1
def listOk (l : List EventD) : Bool := decide (l.length ≤ 256) && l.all eventOk

theorem listOk_long {l : List EventD} (h : 256 < l.length) : errnoOf (listOk l) = 1 := by
  unfold errnoOf listOk
  rw [if_neg (by simp; omega)]
theorem listOk_bad {l : List EventD} (j : Nat) (h : j < l.length) (hb : eventOk l[j] = false) : errnoOf (listOk l) = 1 := by
  unfold errnoOf listOk
  rw [if_neg]
  simp only [Bool.and_eq_true, List.all_eq_true, not_and]
  intro _ ha
  have := ha l[j] (by simp)
  rw [hb] at this
  cases this
theorem listOk_good {l : List EventD} (h : l.length ≤ 256) (hb : ∀ i (hi : i < l.length), eventOk l[i] = true) : errnoOf (listOk l) = 0 := by
  unfold errnoOf listOk
  rw [if_pos]
  simp only [Bool.and_eq_true, List.all_eq_true, decide_eq_true_eq]
  refine ⟨h, fun x hx => ?_⟩
  obtain ⟨i, hi, rfl⟩ := List.getElem_of_mem hx
  exact hb i hi
theorem any_not {α : Type} {p : α → Bool} (l : List α) : (l.any fun x => !p x) = !l.all p := by
  induction l with
  | nil => rfl
  | cons x l ih => simp [List.any_cons, List.all_cons, ih]

set_option maxHeartbeats 400000 in
theorem check_calls (xs : List EventD) (F : Nat → Prop) (w : World) (A : Option Addr) (c : Nat) (hx : Ty.event.Sl F w A xs) (hF : ∀ b, F b → b < w.heap.size) :
    Calls Try.prog 44 #[.slice A xs.length c] w fun e w' => e = .returned (.int .i64 (errnoOf (listOk xs))) ∧ Below w.heap.size w w' := by
  have HX := hide hx
  clear hx
  have HF := hide hF
  clear hF
  have hlen := HX.out.len_le (by decide)
  by_cases hl : 256 < xs.length
  · go_enter Try.func44, Try.ntmps44
    go_wp2
    go_ret
    exact ⟨ret_int (listOk_long hl).symm, Below.refl _ _⟩
  · go_enter Try.func44, Try.ntmps44
    go_wp2
    go_loopw [10] (fun i wr => ∃ j : Nat, j ≤ xs.length ∧ i = .int .i64 j ∧ Hid (∀ i (hi : i < xs.length), i < j → eventOk xs[i] = true) ∧ Hid (Below w.heap.size w wr)) (fun i _ => xs.length - (intOf i).toNat)
    case atStart => exact ⟨0, by omega, rfl, fun i _ hi => absurd hi (by omega), Below.refl _ _⟩
    case round =>
      obtain ⟨j, hj, rfl, hr, hb⟩ := hrel
      have hb := hb.out
      have hsz := hb.size
      by_cases hlt : j < xs.length
      · obtain ⟨b, o, A', c', rfl, hFb, hv, hc0, hc1, hc2⟩ := (HX.out.mono (w' := wr) (fun b hb' => hb.block b (HF.out b hb'))).event_at j hlt
        have HV := hide hv
        clear hv
        go_wp2_with (go_at_call 60; refine (contains60_calls xs[j].calls F xs[j].kind _ _ _ _ (HV.out.mono (SameOn.of_below (by refine (Below.refl _ _).alloc (Nat.le_refl _) _) fun b hb' => Nat.lt_of_lt_of_le (HF.out b hb') hb.size)) (fun b hb' => by have := HF.out b hb'; simp; omega) (by go_simp)).mono ?_; rintro e w' ⟨rfl, hb1⟩)
        any_goals (go_ret; exact ⟨ret_int (listOk_bad j hlt (by grind [eventOk])).symm, (show Below _ _ _ by repeat (first | assumption | (with_reducible exact Below.refl _ _) | (with_reducible apply below_drewN) | (with_reducible apply Below.drew) | (with_reducible refine Below.alloc2_ ?_ (by first | assumption | exact Nat.le_refl _ | omega | (simp; done) | (simp; omega)) _) | (with_reducible refine Below.setCell ?_ (by first | assumption | exact Nat.le_refl _ | omega | (simp; done) | (simp; omega)) _) | (with_reducible refine Below.then2_ ?_ (by assumption) (by first | assumption | exact Nat.le_refl _ | omega | (simp; done) | (simp; omega))) | exact Below.drew (by assumption) | exact Below.drew (Below.refl _ _)))⟩)
        have hp : (xs[j].calls.any fun x => !callOk x xs[j].kind) = false := by assumption
        rw [any_not] at hp
        refine ⟨⟨j + 1, by omega, by go_num, fun i h1 h2 => ?_, (show Below _ _ _ by repeat (first | assumption | (with_reducible exact Below.refl _ _) | (with_reducible apply below_drewN) | (with_reducible apply Below.drew) | (with_reducible refine Below.alloc2_ ?_ (by first | assumption | exact Nat.le_refl _ | omega | (simp; done) | (simp; omega)) _) | (with_reducible refine Below.setCell ?_ (by first | assumption | exact Nat.le_refl _ | omega | (simp; done) | (simp; omega)) _) | (with_reducible refine Below.then2_ ?_ (by assumption) (by first | assumption | exact Nat.le_refl _ | omega | (simp; done) | (simp; omega))) | exact Below.drew (by assumption) | exact Below.drew (Below.refl _ _)))⟩, by simp [intOf]; omega⟩
        rcases Nat.lt_or_ge i j with hij | hij
        · exact hr.out i h1 hij
        · obtain rfl : i = j := by omega
          grind [eventOk]
      · go_wp2
        go_ret
        exact ⟨ret_int (listOk_good (by omega) fun i hi => hr.out i hi (by omega)).symm, hb⟩
end Go.Proofs.Ytjjmedgibcffhaa
/- pair.Match, walked: what it computes of any two events. -/
namespace Go.Proofs.Ytjjmedgibcffhaa
open Go.RowKit
set_option linter.unusedSimpArgs false

def callEq (c d : CallD) : Bool := decide (c.kind = d.kind) && decide (c.key.toList = d.key.toList) && decide (c.arg = d.arg)
def callsEq (l m : List CallD) : Bool := decide (l.length = m.length) && (l.zip m).all fun p => callEq p.1 p.2
def matchB (a b : EventD) : Bool := decide (a.proc = b.proc) && callsEq a.calls b.calls

set_option maxHeartbeats 400000 in
theorem match1_calls (x y : CallD) (F : Nat → Prop) (w : World) (cs ds : List Value) (hx : Ty.call.K F w cs x) (hy : Ty.call.K F w ds y) :
    Calls Try.prog 43 #[.agg cs.toArray, .agg ds.toArray] w fun e w' => e = .returned (.bool (callEq x y)) ∧ Below w.heap.size w w' := by
  obtain ⟨A, c, rfl, -⟩ := hx
  obtain ⟨A', c', rfl, -⟩ := hy
  go_enter Try.func43, Try.ntmps43
  go_wp2
  all_goals go_ret
  all_goals exact ⟨ret_bool (by grind [callEq]), (show Below _ _ _ by repeat (first | assumption | (with_reducible exact Below.refl _ _) | (with_reducible apply below_drewN) | (with_reducible apply Below.drew) | (with_reducible refine Below.alloc2_ ?_ (by first | assumption | exact Nat.le_refl _ | omega | (simp; done) | (simp; omega)) _) | (with_reducible refine Below.setCell ?_ (by first | assumption | exact Nat.le_refl _ | omega | (simp; done) | (simp; omega)) _) | (with_reducible refine Below.then2_ ?_ (by assumption) (by first | assumption | exact Nat.le_refl _ | omega | (simp; done) | (simp; omega))) | exact Below.drew (by assumption) | exact Below.drew (Below.refl _ _)))⟩

theorem callsEq_len {l m : List CallD} (h : l.length ≠ m.length) : callsEq l m = false := by simp [callsEq, h]
theorem callsEq_bad {l m : List CallD} (j : Nat) (h : j < l.length) (h' : j < m.length) (hb : callEq l[j] m[j] = false) : callsEq l m = false := by
  unfold callsEq
  rw [Bool.and_eq_false_iff]
  right
  rw [List.all_eq_false]
  exact ⟨(l[j], m[j]), by rw [List.mem_iff_getElem]; exact ⟨j, by simp; omega, by simp⟩, by simp [hb]⟩
theorem callsEq_good {l m : List CallD} (hl : l.length = m.length) (hb : ∀ i (h : i < l.length), callEq l[i] (m[i]'(by omega)) = true) : callsEq l m = true := by
  unfold callsEq
  rw [Bool.and_eq_true]
  refine ⟨by simp [hl], ?_⟩
  rw [List.all_eq_true]
  intro x hx
  obtain ⟨i, hi, rfl⟩ := List.getElem_of_mem hx
  simp at hi
  simpa using hb i (by omega)

set_option maxHeartbeats 1000000 in
theorem equal42_calls (xs ys : List CallD) (F : Nat → Prop) (w : World) (A A1 : Option Addr) (c c1 : Nat) (hx : Ty.call.Sl F w A xs) (hy : Ty.call.Sl F w A1 ys) (hF : ∀ b, F b → b < w.heap.size) :
    Calls Try.prog 42 #[.slice A xs.length c, .slice A1 ys.length c1, .func (.func 43) #[] #[]] w fun e w' => e = .returned (.bool (callsEq xs ys)) ∧ Below w.heap.size w w' := by
  have HX := hide hx
  clear hx
  have HY := hide hy
  clear hy
  have HF := hide hF
  clear hF
  have hlen := HX.out.len_le (by decide)
  have hlen' := HY.out.len_le (by decide)
  by_cases hl : xs.length = ys.length
  · have HL := hide hl
    have hl1 : xs.length ≤ ys.length := by omega
    have hl2 : ((xs.length : Int) != (ys.length : Int)) = false := by rw [hl]; simp
    clear hl
    go_enter Try.func42, Try.ntmps42
    go_wp2
    go_loopw [17] (fun i wr => ∃ j : Nat, j ≤ xs.length ∧ i = .int .i64 j ∧ Hid (∀ i (hi : i < xs.length) (hi' : i < ys.length), i < j → callEq xs[i] ys[i] = true) ∧ Hid (Below w.heap.size w wr)) (fun i _ => xs.length - (intOf i).toNat)
    case atStart => exact ⟨0, by omega, rfl, fun i _ _ hi => absurd hi (by omega), Below.refl _ _⟩
    case round =>
      obtain ⟨j, hj, rfl, hr, hb⟩ := hrel
      have hb := hb.out
      have hsz := hb.size
      by_cases hlt : j < xs.length
      · obtain ⟨b, o, A', c', rfl, hFb, hv, hc0, hc1, hc2, hc3, hc4⟩ := (HX.out.mono (w' := wr) (fun b hb' => hb.block b (HF.out b hb'))).call_at j hlt
        obtain ⟨b', o', A1', c1', rfl, hFb', hv', hd0, hd1, hd2, hd3, hd4⟩ := (HY.out.mono (w' := wr) (fun b hb' => hb.block b (HF.out b hb'))).call_at j (by omega)
        have hbb : b < wr.heap.size := by have := HF.out b hFb; omega
        have hbb' : b' < wr.heap.size := by have := HF.out b' hFb'; omega
        have hlt' : j < ys.length := by omega
        have HV := hide hv
        clear hv
        have HV' := hide hv'
        clear hv'
        go_wp2_with (go_at_call 43; refine (match1_calls xs[j] ys[j] F _ _ _ ⟨A', c', rfl, HV.out.mono (SameOn.of_below (show Below _ _ _ by repeat (first | assumption | (with_reducible exact Below.refl _ _) | (with_reducible apply below_drewN) | (with_reducible apply Below.drew) | (with_reducible refine Below.alloc2_ ?_ (by first | assumption | exact Nat.le_refl _ | omega | (simp; done) | (simp; omega)) _) | (with_reducible refine Below.setCell ?_ (by first | assumption | exact Nat.le_refl _ | omega | (simp; done) | (simp; omega)) _) | (with_reducible refine Below.then2_ ?_ (by assumption) (by first | assumption | exact Nat.le_refl _ | omega | (simp; done) | (simp; omega))) | exact Below.drew (by assumption) | exact Below.drew (Below.refl _ _))) fun b hb' => by have := HF.out b hb'; omega)⟩ ⟨A1', c1', rfl, HV'.out.mono (SameOn.of_below (show Below _ _ _ by repeat (first | assumption | (with_reducible exact Below.refl _ _) | (with_reducible apply below_drewN) | (with_reducible apply Below.drew) | (with_reducible refine Below.alloc2_ ?_ (by first | assumption | exact Nat.le_refl _ | omega | (simp; done) | (simp; omega)) _) | (with_reducible refine Below.setCell ?_ (by first | assumption | exact Nat.le_refl _ | omega | (simp; done) | (simp; omega)) _) | (with_reducible refine Below.then2_ ?_ (by assumption) (by first | assumption | exact Nat.le_refl _ | omega | (simp; done) | (simp; omega))) | exact Below.drew (by assumption) | exact Below.drew (Below.refl _ _))) fun b hb' => by have := HF.out b hb'; omega)⟩).mono ?_; rintro e w' ⟨rfl, hb1⟩)
        · have hp : callEq xs[j] ys[j] = false := by first | assumption | simpa using (by assumption : (!callEq xs[j] ys[j]) = true)
          go_ret
          exact ⟨ret_bool (callsEq_bad j hlt hlt' hp).symm, (show Below _ _ _ by repeat (first | assumption | (with_reducible exact Below.refl _ _) | (with_reducible apply below_drewN) | (with_reducible apply Below.drew) | (with_reducible refine Below.alloc2_ ?_ (by first | assumption | exact Nat.le_refl _ | omega | (simp; done) | (simp; omega)) _) | (with_reducible refine Below.setCell ?_ (by first | assumption | exact Nat.le_refl _ | omega | (simp; done) | (simp; omega)) _) | (with_reducible refine Below.then2_ ?_ (by assumption) (by first | assumption | exact Nat.le_refl _ | omega | (simp; done) | (simp; omega))) | exact Below.drew (by assumption) | exact Below.drew (Below.refl _ _)))⟩
        · have hp : callEq xs[j] ys[j] = true := by first | assumption | simpa using (by assumption : (!callEq xs[j] ys[j]) = false)
          have hn : ∀ i (hi : i < xs.length) (hi' : i < ys.length), i < j + 1 → callEq xs[i] ys[i] = true := fun i h1 h1' h2 => (by
            rcases Nat.lt_or_ge i j with hij | hij
            · exact hr.out i h1 h1' hij
            · obtain rfl : i = j := by omega
              exact hp)
          first | exact ⟨⟨j + 1, by omega, by go_num, hn, (show Below _ _ _ by repeat (first | assumption | (with_reducible exact Below.refl _ _) | (with_reducible apply below_drewN) | (with_reducible apply Below.drew) | (with_reducible refine Below.alloc2_ ?_ (by first | assumption | exact Nat.le_refl _ | omega | (simp; done) | (simp; omega)) _) | (with_reducible refine Below.setCell ?_ (by first | assumption | exact Nat.le_refl _ | omega | (simp; done) | (simp; omega)) _) | (with_reducible refine Below.then2_ ?_ (by assumption) (by first | assumption | exact Nat.le_refl _ | omega | (simp; done) | (simp; omega))) | exact Below.drew (by assumption) | exact Below.drew (Below.refl _ _)))⟩, by simp [intOf]; omega⟩ | exact ⟨by ((repeat apply Exists.intro); refine ⟨?_, rfl⟩; exact ⟨j + 1, by omega, by go_num, hn, (show Below _ _ _ by repeat (first | assumption | (with_reducible exact Below.refl _ _) | (with_reducible apply below_drewN) | (with_reducible apply Below.drew) | (with_reducible refine Below.alloc2_ ?_ (by first | assumption | exact Nat.le_refl _ | omega | (simp; done) | (simp; omega)) _) | (with_reducible refine Below.setCell ?_ (by first | assumption | exact Nat.le_refl _ | omega | (simp; done) | (simp; omega)) _) | (with_reducible refine Below.then2_ ?_ (by assumption) (by first | assumption | exact Nat.le_refl _ | omega | (simp; done) | (simp; omega))) | exact Below.drew (by assumption) | exact Below.drew (Below.refl _ _)))⟩), by simp [intOf]; omega⟩
      · go_wp2
        go_ret
        exact ⟨ret_bool (callsEq_good HL.out fun i hi => hr.out i hi (by omega) (by omega)).symm, hb⟩
  · go_enter Try.func42, Try.ntmps42
    go_wp2
    go_ret
    exact ⟨ret_bool (callsEq_len hl).symm, Below.refl _ _⟩

set_option maxHeartbeats 400000 in
theorem match_calls (x y : EventD) (F : Nat → Prop) (w : World) (cs ds : List Value) (hx : Ty.event.K F w cs x) (hy : Ty.event.K F w ds y) (hF : ∀ b, F b → b < w.heap.size) :
    Calls Try.prog 17 #[.agg cs.toArray, .agg ds.toArray] w fun e w' => e = .returned (.bool (matchB x y)) ∧ Below w.heap.size w w' := by
  obtain ⟨A, c, rfl, hx⟩ := hx
  obtain ⟨A', c', rfl, hy⟩ := hy
  have HX := hide hx
  clear hx
  have HY := hide hy
  clear hy
  have HF := hide hF
  clear hF
  go_enter Try.func17, Try.ntmps17
  go_wp2_with (go_at_call 42; refine (equal42_calls x.calls y.calls F _ _ _ _ _ (HX.out.mono (SameOn.of_below (show Below _ _ _ by repeat (first | assumption | (with_reducible exact Below.refl _ _) | (with_reducible apply below_drewN) | (with_reducible apply Below.drew) | (with_reducible refine Below.alloc2_ ?_ (by first | assumption | exact Nat.le_refl _ | omega | (simp; done) | (simp; omega)) _) | (with_reducible refine Below.setCell ?_ (by first | assumption | exact Nat.le_refl _ | omega | (simp; done) | (simp; omega)) _) | (with_reducible refine Below.then2_ ?_ (by assumption) (by first | assumption | exact Nat.le_refl _ | omega | (simp; done) | (simp; omega))) | exact Below.drew (by assumption) | exact Below.drew (Below.refl _ _))) HF.out)) (HY.out.mono (SameOn.of_below (show Below _ _ _ by repeat (first | assumption | (with_reducible exact Below.refl _ _) | (with_reducible apply below_drewN) | (with_reducible apply Below.drew) | (with_reducible refine Below.alloc2_ ?_ (by first | assumption | exact Nat.le_refl _ | omega | (simp; done) | (simp; omega)) _) | (with_reducible refine Below.setCell ?_ (by first | assumption | exact Nat.le_refl _ | omega | (simp; done) | (simp; omega)) _) | (with_reducible refine Below.then2_ ?_ (by assumption) (by first | assumption | exact Nat.le_refl _ | omega | (simp; done) | (simp; omega))) | exact Below.drew (by assumption) | exact Below.drew (Below.refl _ _))) HF.out)) (fun b hb' => by have := HF.out b hb'; simp; omega)).mono ?_; rintro e w' ⟨rfl, hb1⟩)
  all_goals go_ret
  all_goals exact ⟨ret_bool (by grind [matchB]), (show Below _ _ _ by repeat (first | assumption | (with_reducible exact Below.refl _ _) | (with_reducible apply below_drewN) | (with_reducible apply Below.drew) | (with_reducible refine Below.alloc2_ ?_ (by first | assumption | exact Nat.le_refl _ | omega | (simp; done) | (simp; omega)) _) | (with_reducible refine Below.setCell ?_ (by first | assumption | exact Nat.le_refl _ | omega | (simp; done) | (simp; omega)) _) | (with_reducible refine Below.then2_ ?_ (by assumption) (by first | assumption | exact Nat.le_refl _ | omega | (simp; done) | (simp; omega))) | exact Below.drew (by assumption) | exact Below.drew (Below.refl _ _)))⟩
end Go.Proofs.Ytjjmedgibcffhaa
/- pair.Pairs, walked: what it computes of any list of events. -/
namespace Go.Proofs.Ytjjmedgibcffhaa
open Go.RowKit Go.MapKept
set_option linter.unusedSimpArgs false
set_option linter.unusedVariables false

structure PairD where
  from_ : Nat
  to_ : Int
  status : Int
def encP (p : PairD) : List Value := [.int .i64 p.from_, .int .i64 p.to_, .int .i64 p.status]
theorem encP_len (p : PairD) : (encP p).length = 3 := rfl
theorem encP_one (p : PairD) : ∀ u ∈ encP p, u.oneCell' = true := by
  intro u hu
  simp [encP] at hu
  rcases hu with rfl | rfl | rfl <;> rfl

open Classical in
/-- One more event: the pairs, and the pair of each busy process. -/
noncomputable def pairStep (l : List EventD) (i : Nat) (e : EventD) (ps : List PairD) (op : Int → Option Nat) : Option (List PairD × (Int → Option Nat)) :=
  match op e.proc with
  | some k => if e.kind = 0 then none else
      match ps[k]? with
      | none => none
      | some p => match l[p.from_]? with
        | none => none
        | some b => if matchB b e then some (ps.set k ⟨p.from_, i, e.kind⟩, upd op e.proc none) else none
  | none => if e.kind = 0 then some (ps ++ [⟨i, -1, 3⟩], upd op e.proc (some ps.length)) else none
/-- After j events; the other answer is the place of the first fault. -/
noncomputable def pairsSt (l : List EventD) : Nat → Except Nat (List PairD × (Int → Option Nat))
  | 0 => .ok ([], fun _ => none)
  | j + 1 => match pairsSt l j with
    | .error e => .error e
    | .ok s => match l[j]? with
      | none => .ok s
      | some e => match pairStep l j e s.1 s.2 with
        | none => .error j
        | some s' => .ok s'
noncomputable def pairsF (l : List EventD) : Except (Int × Int) (List PairD) :=
  if listOk l then match pairsSt l l.length with
    | .error j => .error (40, j)
    | .ok s => .ok s.1
  else .error (1, 0)
theorem pairsSt_succ {l : List EventD} {j : Nat} {ps : List PairD} {op : Int → Option Nat} (h : pairsSt l j = .ok (ps, op)) (hj : j < l.length) :
    pairsSt l (j + 1) = match pairStep l j l[j] ps op with | none => .error j | some s' => .ok s' := by
  simp only [pairsSt, h, List.getElem?_eq_getElem hj]
theorem pairsSt_bad {l : List EventD} {j e : Nat} (h : pairsSt l j = .error e) : ∀ m, j ≤ m → pairsSt l m = .error e := by
  intro m hm
  induction m with
  | zero => obtain rfl : j = 0 := by omega
            exact h
  | succ m ih =>
    rcases Nat.lt_or_ge m j with hl | hl
    · obtain rfl : j = m + 1 := by omega
      exact h
    · simp only [pairsSt, ih hl]
/-- What holds of the state. -/
def PInv (j : Nat) (ps : List PairD) (op : Int → Option Nat) : Prop :=
  ps.length ≤ j ∧ (∀ q k, op q = some k → k < ps.length) ∧ ∀ k (h : k < ps.length), ps[k].from_ < j

def PairsPost (w : World) (r : Except (Int × Int) (List PairD)) (e : Ending) (w' : World) : Prop :=
  Below w.heap.size w w' ∧ match r with
  | .error (c, a) => e = .returned (.tuple #[.slice none 0 0, .agg #[.int .i64 c, .int .i64 a]])
  | .ok ps => ∃ v, e = .returned (.tuple #[v, .agg #[.int .i64 0, .int .i64 0]]) ∧ w'.ownsRow w.heap.size 37 3 v ps.length (ps.flatMap encP)

def opMap (op : Int → Option Nat) : Int → Option Value := fun q => (op q).map fun k : Nat => Value.int .i64 (k : Int)
theorem opMap_upd (op : Int → Option Nat) (k : Int) (x : Option Nat) : opMap (upd op k x) = upd (opMap op) k (x.map fun k : Nat => Value.int .i64 (k : Int)) := by
  funext q
  unfold opMap
  by_cases h : q = k
  · subst h
    rw [upd_same, upd_same]
  · rw [upd_ne _ _ h, upd_ne _ _ h]
def key2 : KeyTy Int Try.prog 2 := KeyTy.int Try.underlying2

/-- The cells of the Fault that will be answered. -/
def RCells (b : Nat) (w : World) : Prop := w.cell? ⟨b, 0, none⟩ = some (.int .i64 0) ∧ w.cell? ⟨b, 1, none⟩ = some (.int .i64 0) ∧ w.frozen? ⟨b, 0, none⟩ = false ∧ w.frozen? ⟨b, 1, none⟩ = false
theorem RCells.lt {b : Nat} {w : World} (h : RCells b w) : b < w.heap.size := World.block_lt_of_cell? w _ h.1
theorem RCells.keep {S : Nat → Prop} {b : Nat} {w w' : World} (h : RCells b w) (hk : Keep S w w') (hS : ¬ S b) : RCells b w' :=
  ⟨hk.cell h.1 hS, hk.cell h.2.1 hS, (hk.frozen h.lt hS).trans h.2.2.1, (hk.frozen h.lt hS).trans h.2.2.2⟩
/-- What holds at the head of a round. -/
structure PRel (l : List EventD) (w : World) (M : Nat) (v : Value) (wr : World) (j : Nat) (ps : List PairD) (op : Int → Option Nat) : Prop where
  st : pairsSt l j = .ok (ps, op)
  inv : PInv j ps op
  own : wr.ownsRow w.heap.size 37 3 v ps.length (ps.flatMap encP)
  ne : ∀ k, v.ownBlock = some k → k ≠ M ∧ k ≠ w.heap.size
  map : MapAt key2 wr M (opMap op)
  M_lt : w.heap.size < M
  r : RCells w.heap.size wr
  bel : Below w.heap.size w wr
theorem PRel.push {l : List EventD} {w : World} {M : Nat} {v v3 : Value} {wr w2 w3 : World} {j : Nat} {ps : List PairD} {op : Int → Option Nat} (h : PRel l w M v wr j ps op) (hj : j < l.length)
    (hop : op l[j].proc = none) (hk : l[j].kind = 0) (hmap : MapAt key2 w2 M (upd (opMap op) l[j].proc (some (.int .i64 (ps.length : Int))))) (hk2 : Keep (fun i => i = M) wr w2)
    (hown : w3.ownsRow w.heap.size 37 3 v3 (ps ++ [(⟨j, -1, 3⟩ : PairD)]).length ((ps ++ [(⟨j, -1, 3⟩ : PairD)]).flatMap encP)) (hk3 : Keep (fun k => v.ownBlock = some k) w2 w3) (hat : v3.ownBlock = v.ownBlock ∨ ∃ b, v3.ownBlock = some b ∧ w2.heap.size ≤ b) :
    ∃ ps' op', PRel l w M v3 w3 (j + 1) ps' op' := by
  refine ⟨ps ++ [⟨j, -1, 3⟩], upd op l[j].proc (some ps.length), ?_, ⟨?_, ?_, ?_⟩, hown, ?_, ?_, h.M_lt, ?_, ?_⟩
  · rw [pairsSt_succ h.st hj]
    simp only [pairStep, hop, hk, if_true]
  · have := h.inv.1; simp; omega
  · intro q k hq
    by_cases e : q = l[j].proc
    · subst e
      rw [upd_same] at hq
      injection hq with hq
      simp
      omega
    · rw [upd_ne _ _ e] at hq
      have := h.inv.2.1 q k hq
      simp
      omega
  · intro k hk'
    rcases Nat.lt_or_ge k ps.length with hlt | hge
    · rw [List.getElem_append_left hlt]
      have := h.inv.2.2 k hlt
      omega
    · rw [List.getElem_append_right hge]
      simp
  · intro k hk'
    rcases hat with hat | ⟨b, hb, hle⟩
    · exact h.ne k (hat ▸ hk')
    · rw [hb] at hk'
      injection hk' with hk'
      have := hmap.lt
      have := h.M_lt
      omega
  · refine (hmap.keep hk3 (fun e => (h.ne _ e).1 rfl)).ext fun q => ?_
    rw [opMap_upd]
    rfl
  · refine (h.r.keep hk2 ?_).keep hk3 (fun e => (h.ne _ e).2 rfl)
    have := h.M_lt
    omega
  · have hs := h.bel.size
    refine Below.keep_ (Below.keep_ h.bel hk2 hs (fun k hk => by have := h.M_lt; omega)) hk3 (Nat.le_trans hs hk2.size) (fun k hk => ?_)
    exact (h.own.lt k hk).1
theorem PRel.bad {l : List EventD} {w : World} {M : Nat} {v : Value} {wr : World} {j : Nat} {ps : List PairD} {op : Int → Option Nat} (h : PRel l w M v wr j ps op) (hok : listOk l = true) (hj : j < l.length)
    (hs : pairStep l j l[j] ps op = none) {w' : World} (hb : Below w.heap.size w w') : PairsPost w (pairsF l) (.returned (.tuple #[.slice none 0 0, .agg #[.int .i64 40, .int .i64 j]])) w' := by
  refine ⟨hb, ?_⟩
  have h1 : pairsSt l (j + 1) = .error j := by rw [pairsSt_succ h.st hj, hs]
  rw [pairsF, if_pos hok, pairsSt_bad h1 l.length (by omega)]
theorem PRel.same {l : List EventD} {w : World} {M : Nat} {v : Value} {wr w3 : World} {j : Nat} {ps : List PairD} {op : Int → Option Nat} (h : PRel l w M v wr j ps op) (hk : Keep (fun _ => False) wr w3) : PRel l w M v w3 j ps op :=
  ⟨h.st, h.inv, own_keep h.own hk (fun _ _ => id), h.ne, h.map.keep hk id, h.M_lt, h.r.keep hk id, Below.keep_ h.bel hk h.bel.size (fun _ => False.elim)⟩
theorem PRel.set {l : List EventD} {w : World} {M : Nat} {wr w2 w3 : World} {j k f g cap : Nat} {ps : List PairD} {op : Int → Option Nat} (h : PRel l w M (.slice (some ⟨g, 0, none⟩) ps.length cap) wr j ps op) (hj : j < l.length)
    (hop : op l[j].proc = some k) (hk : ¬ l[j].kind = 0) (hkp : k < ps.length) (hf : f = ps[k].from_) (hfl : f < l.length) (hm : matchB l[f] l[j] = true)
    (hw : w2.heap = ((wr.setCell ⟨g, k * 3 + 1, none⟩ (.int .i64 j)).setCell ⟨g, k * 3 + 2, none⟩ (.int .i64 l[j].kind)).heap) (hw' : Below 0 wr w2)
    (hmap : MapAt key2 w3 M (upd (opMap op) l[j].proc none)) (hk3 : Keep (fun i => i = M) w2 w3) :
    ∃ ps' op', ps'.length = ps.length ∧ PRel l w M (.slice (some ⟨g, 0, none⟩) ps.length cap) w3 (j + 1) ps' op' := by
  have hgM := (h.ne g rfl).1
  have hgR := (h.ne g rfl).2
  have hset : ∀ b, b ≠ g → w2.heap[b]? = wr.heap[b]? := by
    intro b hb
    rw [hw]
    rw [Below.heap_setCell _ _ _ _ hb, Below.heap_setCell _ _ _ _ hb]
  have hk2 : Keep (fun i => i = g) wr w2 := ⟨hw'.os, hw'.tape, hw'.output, hw'.size, fun b _ hb => hset b hb⟩
  refine ⟨ps.set k ⟨ps[k].from_, j, l[j].kind⟩, upd op l[j].proc none, by simp, ?_, ⟨?_, ?_, ?_⟩, ?_, h.ne, ?_, h.M_lt, ?_, ?_⟩
  · rw [pairsSt_succ h.st hj]
    have h1 : ps[k]? = some ps[k] := List.getElem?_eq_getElem hkp
    have h2 : l[ps[k].from_]? = some l[f] := by rw [← hf]; exact List.getElem?_eq_getElem hfl
    simp only [pairStep, hop, hk, if_false, h1, h2, hm, if_true]
  · have := h.inv.1; simp; omega
  · intro q k' hq
    by_cases e : q = l[j].proc
    · subst e
      rw [upd_same] at hq
      cases hq
    · rw [upd_ne _ _ e] at hq
      have := h.inv.2.1 q k' hq
      simpa using this
  · intro k' hk'
    have hk2' : k' < ps.length := by simpa using hk'
    rw [List.getElem_set]
    split
    · have := h.inv.2.2 k hkp
      simp
      omega
    · have := h.inv.2.2 k' hk2'
      omega
  · refine own_keep ?_ hk3 (fun i hi (e : i = M) => hgM ((show g = i by injection hi).trans e))
    have e1 := (h.own.stored (k * 3 + 1) (.int .i64 j)).1
    have e2 := (e1.stored (k * 3 + 2) (.int .i64 l[j].kind)).1
    rw [flat_set encP_len ps k 1 ⟨ps[k].from_, j, ps[k].status⟩ _ hkp (by omega) rfl] at e2
    rw [flat_set encP_len _ k 2 ⟨ps[k].from_, j, l[j].kind⟩ _ (by simpa using hkp) (by omega) (by simp [encP])] at e2
    simp only [List.set_set, List.length_set] at e2 ⊢
    obtain ⟨a1, a2⟩ := e2
    refine ⟨a1, ?_⟩
    rcases a2 with ⟨a2, _⟩ | ⟨g', cap', cur, a2, a3, a4, a5⟩
    · cases a2
    · exact .inr ⟨g', cap', cur, a2, a3, by rw [hw]; exact a4, a5⟩
  · refine hmap.ext fun q => ?_
    rw [opMap_upd]
    rfl
  · refine (h.r.keep hk2 (fun e => hgR e.symm)).keep hk3 ?_
    have := h.M_lt
    omega
  · have hs := h.bel.size
    refine Below.keep_ (Below.keep_ h.bel hk2 hs (fun i hi => by have := (h.own.lt g rfl).1; omega)) hk3 (Nat.le_trans hs hk2.size) (fun i hi => by have := h.M_lt; omega)
theorem info37 : (Try.prog.info? 37).map (fun i => (i.zero, i.size, i.bytes)) = some (some (.agg #[.int .i64 0, .int .i64 0, .int .i64 0]), 3, 24) := by kernel_rfl
theorem listOk_len {l : List EventD} (h : listOk l = true) : l.length ≤ 256 := by
  unfold listOk at h
  simp only [Bool.and_eq_true, decide_eq_true_eq] at h
  exact h.1
theorem zero3 (w : World) : (zeroValue 3).run Try.prog w = .ok (.int .i64 0) w := by kernel_rfl

set_option maxHeartbeats 1000000 in
set_option maxRecDepth 100000 in
theorem pairs_calls (xs : List EventD) (F : Nat → Prop) (w : World) (A : Option Addr) (c : Nat) (hx : Ty.event.Sl F w A xs) (hF : ∀ b, F b → b < w.heap.size) :
    Calls Try.prog 19 #[.slice A xs.length c] w (PairsPost w (pairsF xs)) := by
  have HX := hide hx
  clear hx
  have HF := hide hF
  clear hF
  have hC := hide (fun o : Obj => check_calls xs F (w.alloc o) A c (HX.out.mono (SameOn.of_below ((Below.refl _ _).alloc (Nat.le_refl _) _) HF.out)) (fun b hb => by have := HF.out b hb; simp; omega))
  have hmm := @run_makeMap Try.prog
  by_cases hok : listOk xs = true
  · have hok' : errnoOf (listOk xs) = 0 := by rw [hok]; rfl
    rw [hok'] at hC
    go_enter Try.func19, Try.ntmps19
    go_wp2_with (go_at_call 44; refine (hC.out _).mono ?_; rintro e w1 ⟨rfl, hb1⟩; obtain ⟨hc1, hf1⟩ := bcell hb1; have hz1 : w.heap.size + 1 ≤ w1.heap.size := by have := hb1.size; simpa using this)
    have hR0 : w1.cell? ⟨w.heap.size, 0, none⟩ = some (.int .i64 0) ∧ w1.cell? ⟨w.heap.size, 1, none⟩ = some (.int .i64 0) ∧ w1.frozen? ⟨w.heap.size, 0, none⟩ = false ∧ w1.frozen? ⟨w.heap.size, 1, none⟩ = false := by
      rw [hc1 _ _ (by simp), hc1 _ _ (by simp), hf1 _ _ (by simp), hf1 _ _ (by simp)]
      simp [go_sem]
    clear hc1 hf1
    have HR0 := hide hR0
    clear hR0 hmm
    have hlen : xs.length ≤ 256 := listOk_len hok
    go_loopw [5, 20] (fun v i wr => ∃ (j : Nat), j ≤ xs.length ∧ i = .int .i64 j ∧ Hid (∃ (ps : List PairD) (op : Int → Option Nat), PRel xs w w1.heap.size v wr j ps op)) (fun _ i _ => xs.length - (intOf i).toNat)
    case atStart =>
      refine ⟨0, by omega, rfl, [], fun _ => none, rfl, ⟨by simp, by simp, by simp⟩, ⟨rfl, .inl ⟨rfl, rfl⟩⟩, fun k hk => by simp [Value.ownBlock] at hk, (MapAt.made key2 w1).ext (fun _ => rfl), by omega, ?_, (show Below _ _ _ by repeat (first | assumption | (with_reducible exact Below.refl _ _) | (with_reducible apply below_drewN) | (with_reducible apply Below.drew) | (with_reducible refine Below.alloc2_ ?_ (by first | assumption | exact Nat.le_refl _ | omega | (simp; done) | (simp; omega)) _) | (with_reducible refine Below.setCell ?_ (by first | assumption | exact Nat.le_refl _ | omega | (simp; done) | (simp; omega)) _) | (with_reducible refine Below.then2_ ?_ (by assumption) (by first | assumption | exact Nat.le_refl _ | omega | (simp; done) | (simp; omega))) | exact Below.drew (by assumption) | exact Below.drew (Below.refl _ _)))⟩
      exact RCells.keep (S := fun _ => False) (by exact HR0.out) (Keep.of_below (show Below _ _ _ by repeat (first | assumption | (with_reducible exact Below.refl _ _) | (with_reducible apply below_drewN) | (with_reducible apply Below.drew) | (with_reducible refine Below.alloc2_ ?_ (by first | assumption | exact Nat.le_refl _ | omega | (simp; done) | (simp; omega)) _) | (with_reducible refine Below.setCell ?_ (by first | assumption | exact Nat.le_refl _ | omega | (simp; done) | (simp; omega)) _) | (with_reducible refine Below.then2_ ?_ (by assumption) (by first | assumption | exact Nat.le_refl _ | omega | (simp; done) | (simp; omega))) | exact Below.drew (by assumption) | exact Below.drew (Below.refl _ _)))) id
    case round =>
      obtain ⟨j, hj, rfl, hrel⟩ := hrel
      obtain ⟨ps, op, hp⟩ := hrel.out
      have HP := hide hp
      clear hp hrel
      clear HR0
      have hb := HP.out.bel
      have hsz := hb.size
      obtain ⟨A5, c5, rfl⟩ := own_shape HP.out.own
      by_cases hlt : j < xs.length
      · obtain ⟨b, o, A', c', rfl, hFb, hv, hc0, hc1, hc2⟩ := (HX.out.mono (w' := wr) (fun b hb' => hb.block b (HF.out b hb'))).event_at j hlt
        have hbb : b < wr.heap.size := by have := HF.out b hFb; omega
        have HV := hide hv
        clear hv
        cases hop : op xs[j].proc with
        | none =>
          have hl := hide (show opMap op xs[j].proc = none by simp [opMap, hop])
          have HOP := hide hop
          clear hop
          by_cases hk : xs[j].kind = 0
          · have hk1 : (xs[j].kind == 0) = true := by simpa using hk
            have HK := hide hk
            clear hk
            go_wp2_with (at_lookup; refine wp_lookup2 key2 (HP.out.map.same (Below.heap_alloc _ _ _ HP.out.map.lt)) rfl _ _ 35 rfl Try.underlying35 (zero3 _) xs[j].proc rfl rfl ?_; rw [hl.out])
            go_quiet (fail)
            go_wp2_with (first
              | (at_mapUpdate; refine wp_update key2 ((HP.out.map.same (Below.heap_alloc _ _ _ HP.out.map.lt)).drewN _) rfl _ _ _ 35 rfl Try.underlying35 xs[j].proc (.int .i64 ps.length) rfl rfl rfl ?_; intro w2 hmap2 hk2 hs2; have HS2 := hide hs2; clear hs2; have hkk := hide ((Keep.of_below (a := wr) (show Below _ _ _ by repeat (first | assumption | (with_reducible exact Below.refl _ _) | (with_reducible apply below_drewN) | (with_reducible apply Below.drew) | (with_reducible refine Below.alloc2_ ?_ (by first | assumption | exact Nat.le_refl _ | omega | (simp; done) | (simp; omega)) _) | (with_reducible refine Below.setCell ?_ (by first | assumption | exact Nat.le_refl _ | omega | (simp; done) | (simp; omega)) _) | (with_reducible refine Below.then2_ ?_ (by assumption) (by first | assumption | exact Nat.le_refl _ | omega | (simp; done) | (simp; omega))) | exact Below.drew (by assumption) | exact Below.drew (Below.refl _ _)))).trans hk2))
              | (at_builtin; go_loud (refine wp_append (enc := encP) encP_len encP_one (W := w2) w.heap.size rfl _ _ 28 37 _ 24 rfl Try.underlying28 info37 rfl (by decide) (by decide) (.slice A5 ps.length c5) ps ⟨j, -1, 3⟩ rfl rfl (own_keep HP.out.own hkk.out fun k hk => (HP.out.ne k hk).1) (by have := hkk.out.size; omega) (by have := HP.out.inv.1; omega) ?_); intro v3 w3 hown3 hk3 hat3 hs3))
            obtain ⟨ps', op', hp'⟩ := HP.out.push hlt HOP.out HK.out hmap2 hkk.out hown3 hk3 hat3
            first | exact ⟨⟨j + 1, by omega, by go_num, ⟨ps', op', hp'⟩⟩, by simp [intOf]; omega⟩ | exact ⟨by ((repeat apply Exists.intro); refine ⟨?_, rfl⟩; exact ⟨j + 1, by omega, by go_num, ⟨ps', op', hp'⟩⟩), by simp [intOf]; omega⟩
          · have hk1 : (xs[j].kind == 0) = false := by simpa using hk
            have HK := hide hk
            clear hk
            obtain ⟨hr0, hr1, hr2, hr3⟩ := HP.out.r
            have hrlt := HP.out.r.lt
            go_wp2_with (at_lookup; refine wp_lookup2 key2 (HP.out.map.same (Below.heap_alloc _ _ _ HP.out.map.lt)) rfl _ _ 35 rfl Try.underlying35 (zero3 _) xs[j].proc rfl rfl ?_; rw [hl.out])
            go_quiet (fail)
            go_wp2
            refine bodyPost_ret (v := .tuple #[.slice none 0 0, .agg #[.int .i64 40, .int .i64 j]]) (by simp [results, Try.results19, go_sem, hr0, hr1, hrlt]) rfl (HP.out.bad hok hlt ?_ (show Below _ _ _ by repeat (first | assumption | (with_reducible exact Below.refl _ _) | (with_reducible apply below_drewN) | (with_reducible apply Below.drew) | (with_reducible refine Below.alloc2_ ?_ (by first | assumption | exact Nat.le_refl _ | omega | (simp; done) | (simp; omega)) _) | (with_reducible refine Below.setCell ?_ (by first | assumption | exact Nat.le_refl _ | omega | (simp; done) | (simp; omega)) _) | (with_reducible refine Below.then2_ ?_ (by assumption) (by first | assumption | exact Nat.le_refl _ | omega | (simp; done) | (simp; omega))) | exact Below.drew (by assumption) | exact Below.drew (Below.refl _ _))))
            simp only [pairStep, HOP.out, HK.out, if_false]
        | some k =>
          have hl := hide (show opMap op xs[j].proc = some (.int .i64 k) by simp [opMap, hop])
          have HOP := hide hop
          clear hop
          obtain ⟨hr0, hr1, hr2, hr3⟩ := HP.out.r
          have hrlt := HP.out.r.lt
          by_cases hk : xs[j].kind = 0
          · have hk1 : (xs[j].kind == 0) = true := by simpa using hk
            have HK := hide hk
            clear hk
            go_wp2_with (at_lookup; refine wp_lookup2 key2 (HP.out.map.same (Below.heap_alloc _ _ _ HP.out.map.lt)) rfl _ _ 35 rfl Try.underlying35 (zero3 _) xs[j].proc rfl rfl ?_; rw [hl.out])
            go_quiet (fail)
            go_wp2
            refine bodyPost_ret (v := .tuple #[.slice none 0 0, .agg #[.int .i64 40, .int .i64 j]]) (by simp [results, Try.results19, go_sem, hr0, hr1, hrlt]) rfl (HP.out.bad hok hlt ?_ (show Below _ _ _ by repeat (first | assumption | (with_reducible exact Below.refl _ _) | (with_reducible apply below_drewN) | (with_reducible apply Below.drew) | (with_reducible refine Below.alloc2_ ?_ (by first | assumption | exact Nat.le_refl _ | omega | (simp; done) | (simp; omega)) _) | (with_reducible refine Below.setCell ?_ (by first | assumption | exact Nat.le_refl _ | omega | (simp; done) | (simp; omega)) _) | (with_reducible refine Below.then2_ ?_ (by assumption) (by first | assumption | exact Nat.le_refl _ | omega | (simp; done) | (simp; omega))) | exact Below.drew (by assumption) | exact Below.drew (Below.refl _ _))))
            simp only [pairStep, HOP.out, HK.out, if_true]
          · have hk1 : (xs[j].kind == 0) = false := by simpa using hk
            have HK := hide hk
            clear hk
            go_wp2_with (at_lookup; refine wp_lookup2 key2 (HP.out.map.same (Below.heap_alloc _ _ _ HP.out.map.lt)) rfl _ _ 35 rfl Try.underlying35 (zero3 _) xs[j].proc rfl rfl ?_; rw [hl.out])
            obtain ⟨g, cap, hA5, hgb, hgw, hcap, hcell, hfro⟩ := own_slice HP.out.own (by have := HP.out.inv.2.1 _ _ HOP.out; omega)
            obtain ⟨rfl, rfl⟩ : A5 = some ⟨g, 0, none⟩ ∧ c5 = cap := by simpa using hA5
            clear hA5
            have hkp := HP.out.inv.2.1 _ _ HOP.out
            have hfj := HP.out.inv.2.2 k hkp
            obtain ⟨f, hf⟩ : ∃ f, f = ps[k].from_ := ⟨_, rfl⟩
            rw [← hf] at hfj
            have hg0 : wr.cell? ⟨g, k * 3, none⟩ = some (.int .i64 (f : Int)) := by
              rw [hf]
              exact hcell (k * 3) _ (by have := flat_get encP_len ps k 0 hkp (by omega); simpa [encP] using this)
            have HF' := hide hf
            clear hf
            have HCELL := hide hcell
            have HFRO := hide hfro
            clear hcell hfro
            obtain ⟨bf, of, Af, cf, hAf, -, hvf, hd0, hd1, hd2⟩ := (HX.out.mono (w' := wr) (fun b hb' => hb.block b (HF.out b hb'))).event_at f (by omega)
            obtain ⟨rfl, rfl⟩ : b = bf ∧ o = of := by simpa using hAf
            clear hAf
            have HVF := hide hvf
            clear hvf
            have hfx : f < xs.length := by omega
            have hf0 : (0 : Int) ≤ (f : Int) := Int.natCast_nonneg _
            have hk0 : (0 : Int) ≤ (k : Int) := Int.natCast_nonneg _
            have hf1 : (f : Int) < (xs.length : Int) := by omega
            have hkp1 : (k : Int) < (ps.length : Int) := by omega
            by_cases hm : matchB xs[f] xs[j] = true
            · have hm1 : (!matchB xs[f] xs[j]) = false := by simpa using hm
              have HM := hide hm
              go_region_held3 (fun w' => w'.cell? ⟨g, k * 3, none⟩ = some (.int .i64 (f : Int)) ∧ w'.cell? ⟨b, o + f * 3, none⟩ = some (.int .i64 xs[f].proc) ∧ w'.cell? ⟨b, o + f * 3 + 1, none⟩ = some (.int .i64 xs[f].kind) ∧ w'.cell? ⟨b, o + f * 3 + 2, none⟩ = some (.slice Af xs[f].calls.length cf) ∧
                  w'.cell? ⟨wr.heap.size, 0, none⟩ = some (.int .i64 xs[j].proc) ∧ w'.cell? ⟨wr.heap.size, 1, none⟩ = some (.int .i64 xs[j].kind) ∧ w'.cell? ⟨wr.heap.size, 2, none⟩ = some (.slice A' xs[j].calls.length c'))
                (first | go_keep | (obtain ⟨q1, q2⟩ := bcell hb3; refine ⟨?_, ?_, ?_, ?_, ?_, ?_, ?_⟩ <;> (rw [q1 _ _ (by first | (simp; done) | (simp; omega))]; (first | (simp [go_sem, *]; done) | (go_simp; done)))))
                ((go_at_call 17; refine (match_calls xs[f] xs[j] F _ _ _ ⟨Af, cf, rfl, HVF.out.mono (SameOn.of_below (show Below _ _ _ by repeat (first | assumption | (with_reducible exact Below.refl _ _) | (with_reducible apply below_drewN) | (with_reducible apply Below.drew) | (with_reducible refine Below.alloc2_ ?_ (by first | assumption | exact Nat.le_refl _ | omega | (simp; done) | (simp; omega)) _) | (with_reducible refine Below.setCell ?_ (by first | assumption | exact Nat.le_refl _ | omega | (simp; done) | (simp; omega)) _) | (with_reducible refine Below.then2_ ?_ (by assumption) (by first | assumption | exact Nat.le_refl _ | omega | (simp; done) | (simp; omega))) | exact Below.drew (by assumption) | exact Below.drew (Below.refl _ _))) fun b hb' => by have := HF.out b hb'; omega)⟩ ⟨A', c', rfl, HV.out.mono (SameOn.of_below (show Below _ _ _ by repeat (first | assumption | (with_reducible exact Below.refl _ _) | (with_reducible apply below_drewN) | (with_reducible apply Below.drew) | (with_reducible refine Below.alloc2_ ?_ (by first | assumption | exact Nat.le_refl _ | omega | (simp; done) | (simp; omega)) _) | (with_reducible refine Below.setCell ?_ (by first | assumption | exact Nat.le_refl _ | omega | (simp; done) | (simp; omega)) _) | (with_reducible refine Below.then2_ ?_ (by assumption) (by first | assumption | exact Nat.le_refl _ | omega | (simp; done) | (simp; omega))) | exact Below.drew (by assumption) | exact Below.drew (Below.refl _ _))) fun b hb' => by have := HF.out b hb'; omega)⟩ (fun b hb' => by have := HF.out b hb'; simp; omega)).mono ?_; rintro e w3 ⟨rfl, hb3⟩))
              have hk3 : Keep (fun _ => False) wr w3 := Keep.of_below (show Below _ _ _ by repeat (first | assumption | (with_reducible exact Below.refl _ _) | (with_reducible apply below_drewN) | (with_reducible apply Below.drew) | (with_reducible refine Below.alloc2_ ?_ (by first | assumption | exact Nat.le_refl _ | omega | (simp; done) | (simp; omega)) _) | (with_reducible refine Below.setCell ?_ (by first | assumption | exact Nat.le_refl _ | omega | (simp; done) | (simp; omega)) _) | (with_reducible refine Below.then2_ ?_ (by assumption) (by first | assumption | exact Nat.le_refl _ | omega | (simp; done) | (simp; omega))) | exact Below.drew (by assumption) | exact Below.drew (Below.refl _ _)))
              have HP3 := hide (HP.out.same hk3)
              obtain ⟨g', cap', hA5, -, hgw3, -, hcell, hfro⟩ := own_slice HP3.out.own (by omega)
              obtain ⟨rfl, rfl⟩ : g = g' ∧ c5 = cap' := by simpa using hA5
              clear hA5
              obtain ⟨hS0, -, -, -, hS4, hS5, hS6⟩ : _ ∧ _ ∧ _ ∧ _ ∧ _ ∧ _ ∧ _ := by assumption
              have hg1 : w3.cell? ⟨g, k * 3 + 1, none⟩ = some (.int .i64 ps[k].to_) := hcell _ _ (by have := flat_get encP_len ps k 1 hkp (by omega); simpa [encP] using this)
              have hg2 : w3.cell? ⟨g, k * 3 + 2, none⟩ = some (.int .i64 ps[k].status) := hcell _ _ (by have := flat_get encP_len ps k 2 hkp (by omega); simpa [encP] using this)
              have hfr1 := hfro (k * 3 + 1)
              have hfr2 := hfro (k * 3 + 2)
              clear hcell hfro
              go_wp2
              go_region
              obtain ⟨W, hW⟩ : ∃ W, W = ((w3.setCell ⟨g, k * 3 + 1, none⟩ (.int .i64 j)).setCell ⟨g, k * 3 + 2, none⟩ (.int .i64 xs[j].kind)).drew := ⟨_, rfl⟩
              have hgM := (HP3.out.ne g rfl).1
              have hMW : W.heap[w1.heap.size]? = w3.heap[w1.heap.size]? := by
                rw [hW]
                exact (Below.heap_setCell _ _ _ _ (Ne.symm hgM)).trans (Below.heap_setCell _ _ _ _ (Ne.symm hgM))
              have hmapW := HP3.out.map.same hMW
              have hEW : W.cell? ⟨wr.heap.size, 0, none⟩ = some (.int .i64 xs[j].proc) := by
                rw [hW]
                have : g ≠ wr.heap.size := by omega
                simp [go_sem, this, hS4]
              have HW := hide hW
              rw [← hW]
              clear hW hMW
              go_wp2_with (at_delete; refine wp_delete key2 hmapW rfl _ _ 35 rfl Try.underlying35 xs[j].proc rfl rfl ?_; intro w4 hmap4 hk4 hs4; have HS4 := hide hs4; clear hs4)
              obtain ⟨ps', op', hl', hp'⟩ := HP3.out.set hlt HOP.out HK.out hkp HF'.out hfx HM.out (w2 := W) (by rw [HW.out]; rfl) (by rw [HW.out]; exact (show Below _ _ _ by repeat (first | assumption | (with_reducible exact Below.refl _ _) | (with_reducible apply below_drewN) | (with_reducible apply Below.drew) | (with_reducible refine Below.alloc2_ ?_ (by first | assumption | exact Nat.le_refl _ | omega | (simp; done) | (simp; omega)) _) | (with_reducible refine Below.setCell ?_ (by first | assumption | exact Nat.le_refl _ | omega | (simp; done) | (simp; omega)) _) | (with_reducible refine Below.then2_ ?_ (by assumption) (by first | assumption | exact Nat.le_refl _ | omega | (simp; done) | (simp; omega))) | exact Below.drew (by assumption) | exact Below.drew (Below.refl _ _)))) hmap4 hk4
              rw [← hl'] at hp'
              first | exact ⟨⟨j + 1, by omega, by go_num, ⟨ps', op', by rw [← hl']; exact hp'⟩⟩, by simp [intOf]; omega⟩ | exact ⟨by ((repeat apply Exists.intro); refine ⟨?_, rfl⟩; exact ⟨j + 1, by omega, by go_num, ⟨ps', op', by rw [← hl']; exact hp'⟩⟩), by simp [intOf]; omega⟩
            · have hm1 : (!matchB xs[f] xs[j]) = true := by simpa using hm
              have HM := hide hm
              go_region_held3 (fun w' => w'.cell? ⟨g, k * 3, none⟩ = some (.int .i64 (f : Int)) ∧ w'.cell? ⟨b, o + f * 3, none⟩ = some (.int .i64 xs[f].proc) ∧ w'.cell? ⟨b, o + f * 3 + 1, none⟩ = some (.int .i64 xs[f].kind) ∧ w'.cell? ⟨b, o + f * 3 + 2, none⟩ = some (.slice Af xs[f].calls.length cf) ∧
                  w'.cell? ⟨wr.heap.size, 0, none⟩ = some (.int .i64 xs[j].proc) ∧ w'.cell? ⟨wr.heap.size, 1, none⟩ = some (.int .i64 xs[j].kind) ∧ w'.cell? ⟨wr.heap.size, 2, none⟩ = some (.slice A' xs[j].calls.length c'))
                (first | go_keep | (obtain ⟨q1, q2⟩ := bcell hb3; refine ⟨?_, ?_, ?_, ?_, ?_, ?_, ?_⟩ <;> (rw [q1 _ _ (by first | (simp; done) | (simp; omega))]; (first | (simp [go_sem, *]; done) | (go_simp; done)))))
                ((go_at_call 17; refine (match_calls xs[f] xs[j] F _ _ _ ⟨Af, cf, rfl, HVF.out.mono (SameOn.of_below (show Below _ _ _ by repeat (first | assumption | (with_reducible exact Below.refl _ _) | (with_reducible apply below_drewN) | (with_reducible apply Below.drew) | (with_reducible refine Below.alloc2_ ?_ (by first | assumption | exact Nat.le_refl _ | omega | (simp; done) | (simp; omega)) _) | (with_reducible refine Below.setCell ?_ (by first | assumption | exact Nat.le_refl _ | omega | (simp; done) | (simp; omega)) _) | (with_reducible refine Below.then2_ ?_ (by assumption) (by first | assumption | exact Nat.le_refl _ | omega | (simp; done) | (simp; omega))) | exact Below.drew (by assumption) | exact Below.drew (Below.refl _ _))) fun b hb' => by have := HF.out b hb'; omega)⟩ ⟨A', c', rfl, HV.out.mono (SameOn.of_below (show Below _ _ _ by repeat (first | assumption | (with_reducible exact Below.refl _ _) | (with_reducible apply below_drewN) | (with_reducible apply Below.drew) | (with_reducible refine Below.alloc2_ ?_ (by first | assumption | exact Nat.le_refl _ | omega | (simp; done) | (simp; omega)) _) | (with_reducible refine Below.setCell ?_ (by first | assumption | exact Nat.le_refl _ | omega | (simp; done) | (simp; omega)) _) | (with_reducible refine Below.then2_ ?_ (by assumption) (by first | assumption | exact Nat.le_refl _ | omega | (simp; done) | (simp; omega))) | exact Below.drew (by assumption) | exact Below.drew (Below.refl _ _))) fun b hb' => by have := HF.out b hb'; omega)⟩ (fun b hb' => by have := HF.out b hb'; simp; omega)).mono ?_; rintro e w3 ⟨rfl, hb3⟩))
              have hk3 : Keep (fun _ => False) wr w3 := Keep.of_below (show Below _ _ _ by repeat (first | assumption | (with_reducible exact Below.refl _ _) | (with_reducible apply below_drewN) | (with_reducible apply Below.drew) | (with_reducible refine Below.alloc2_ ?_ (by first | assumption | exact Nat.le_refl _ | omega | (simp; done) | (simp; omega)) _) | (with_reducible refine Below.setCell ?_ (by first | assumption | exact Nat.le_refl _ | omega | (simp; done) | (simp; omega)) _) | (with_reducible refine Below.then2_ ?_ (by assumption) (by first | assumption | exact Nat.le_refl _ | omega | (simp; done) | (simp; omega))) | exact Below.drew (by assumption) | exact Below.drew (Below.refl _ _)))
              obtain ⟨hr0', hr1', hr2', hr3'⟩ := HP.out.r.keep hk3 id
              have hrlt' := (HP.out.r.keep hk3 id).lt
              go_wp2
              refine bodyPost_ret (v := .tuple #[.slice none 0 0, .agg #[.int .i64 40, .int .i64 j]]) (by simp [results, Try.results19, go_sem, hr0', hr1', hrlt']) rfl (HP.out.bad hok hlt ?_ (show Below _ _ _ by repeat (first | assumption | (with_reducible exact Below.refl _ _) | (with_reducible apply below_drewN) | (with_reducible apply Below.drew) | (with_reducible refine Below.alloc2_ ?_ (by first | assumption | exact Nat.le_refl _ | omega | (simp; done) | (simp; omega)) _) | (with_reducible refine Below.setCell ?_ (by first | assumption | exact Nat.le_refl _ | omega | (simp; done) | (simp; omega)) _) | (with_reducible refine Below.then2_ ?_ (by assumption) (by first | assumption | exact Nat.le_refl _ | omega | (simp; done) | (simp; omega))) | exact Below.drew (by assumption) | exact Below.drew (Below.refl _ _))))
              have h1 : ps[k]? = some ps[k] := List.getElem?_eq_getElem hkp
              have h2 : xs[ps[k].from_]? = some xs[f] := by rw [← HF'.out]; exact List.getElem?_eq_getElem hfx
              simp only [pairStep, HOP.out, HK.out, h1, h2]
              rw [if_neg (by exact id), if_neg HM.out]
      · obtain rfl : j = xs.length := by omega
        obtain ⟨hr0, hr1, hr2, hr3⟩ := HP.out.r
        have hrlt := HP.out.r.lt
        go_wp2
        refine bodyPost_ret (v := .tuple #[.slice A5 ps.length c5, .agg #[.int .i64 0, .int .i64 0]]) (by simp [results, Try.results19, go_sem, hr0, hr1, hrlt]) rfl ⟨(show Below _ _ _ by repeat (first | assumption | (with_reducible exact Below.refl _ _) | (with_reducible apply below_drewN) | (with_reducible apply Below.drew) | (with_reducible refine Below.alloc2_ ?_ (by first | assumption | exact Nat.le_refl _ | omega | (simp; done) | (simp; omega)) _) | (with_reducible refine Below.setCell ?_ (by first | assumption | exact Nat.le_refl _ | omega | (simp; done) | (simp; omega)) _) | (with_reducible refine Below.then2_ ?_ (by assumption) (by first | assumption | exact Nat.le_refl _ | omega | (simp; done) | (simp; omega))) | exact Below.drew (by assumption) | exact Below.drew (Below.refl _ _))), ?_⟩
        rw [pairsF, if_pos hok, HP.out.st]
        refine ⟨_, rfl, ?_⟩
        exact ownsRow_setCell_other (ownsRow_setCell_other HP.out.own (fun e => (HP.out.ne _ e).2 rfl) _) (fun e => (HP.out.ne _ e).2 rfl) _
  · have hok' : errnoOf (listOk xs) = 1 := by unfold errnoOf; rw [if_neg hok]
    rw [hok'] at hC
    go_enter Try.func19, Try.ntmps19
    go_wp2_with (go_at_call 44; refine (hC.out _).mono ?_; rintro e w1 ⟨rfl, hb1⟩; obtain ⟨hc1, hf1⟩ := bcell hb1; have hz1 : w.heap.size + 1 ≤ w1.heap.size := by have := hb1.size; simpa using this)
    refine bodyPost_ret (v := .tuple #[.slice none 0 0, .agg #[.int .i64 1, .int .i64 0]]) (by simp [results, Try.results19, go_sem, hc1, hf1]) rfl ⟨?_, ?_⟩
    · exact (show Below _ _ _ by repeat (first | assumption | (with_reducible exact Below.refl _ _) | (with_reducible apply below_drewN) | (with_reducible apply Below.drew) | (with_reducible refine Below.alloc2_ ?_ (by first | assumption | exact Nat.le_refl _ | omega | (simp; done) | (simp; omega)) _) | (with_reducible refine Below.setCell ?_ (by first | assumption | exact Nat.le_refl _ | omega | (simp; done) | (simp; omega)) _) | (with_reducible refine Below.then2_ ?_ (by assumption) (by first | assumption | exact Nat.le_refl _ | omega | (simp; done) | (simp; omega))) | exact Below.drew (by assumption) | exact Below.drew (Below.refl _ _)))
    · rw [pairsF, if_neg hok]
end Go.Proofs.Ytjjmedgibcffhaa
/- assizelaw04.alive, walked: true. -/
namespace Go.Proofs.Ytjjmedgibcffhaa
open Go.RowKit Go.MapKept
set_option linter.unusedSimpArgs false
set_option linter.unusedVariables false

def aliveL : List EventD := [⟨0, 0, []⟩, ⟨0, 1, []⟩, ⟨0, 0, []⟩]
theorem aliveL_pairs : pairsF aliveL = .ok [⟨0, 1, 1⟩, ⟨2, -1, 3⟩] := by
  have hok : listOk aliveL = true := by decide
  have h1 : pairsSt aliveL 1 = .ok ([⟨0, -1, 3⟩], upd (fun _ => none) 0 (some 0)) := by
    rw [pairsSt_succ (ps := []) (op := fun _ => none) rfl (by decide)]
    simp [pairStep, aliveL]
  have h2 : pairsSt aliveL 2 = .ok ([⟨0, 1, 1⟩], upd (upd (fun _ => none) 0 (some 0)) 0 none) := by
    rw [pairsSt_succ h1 (by decide)]
    simp [pairStep, aliveL, upd_same, matchB, callsEq]
  have h3 : pairsSt aliveL 3 = .ok ([⟨0, 1, 1⟩, ⟨2, -1, 3⟩], upd (upd (upd (fun _ => none) 0 (some 0)) 0 none) 0 (some 1)) := by
    rw [pairsSt_succ h2 (by decide)]
    simp [pairStep, aliveL, upd_same]
  rw [pairsF, if_pos hok]
  show (match pairsSt aliveL 3 with | .error j => _ | .ok s => _) = _
  rw [h3]

set_option maxHeartbeats 1000000 in
set_option maxRecDepth 100000 in
theorem alive4_calls (w : World) : Calls Try.prog 16 #[] w fun e w' => e = .returned (.bool true) ∧ Below w.heap.size w w' := by
  have hS := hide (show Ty.event.Sl (· = w.heap.size) (w.alloc (.cells #[.int .i64 0, .int .i64 0, .slice none 0 0, .int .i64 0, .int .i64 1, .slice none 0 0, .int .i64 0, .int .i64 0, .slice none 0 0] 24)) (some ⟨w.heap.size, 0, none⟩) aliveL from by
    refine ⟨by decide, .inr ⟨_, _, rfl, rfl, fun i x hi => ?_⟩⟩
    have key : ∀ (i : Nat) (x : EventD) (k : Int), i < 3 → x = ⟨0, k, []⟩ → (∀ j v, [Value.int .i64 0, .int .i64 k, .slice none 0 0][j]? = some v → (w.alloc (.cells #[.int .i64 0, .int .i64 0, .slice none 0 0, .int .i64 0, .int .i64 1, .slice none 0 0, .int .i64 0, .int .i64 0, .slice none 0 0] 24)).cell? ⟨w.heap.size, 0 + i * 3 + j, none⟩ = some v) →
        ∃ cs, Ty.event.K (· = w.heap.size) (w.alloc (.cells #[.int .i64 0, .int .i64 0, .slice none 0 0, .int .i64 0, .int .i64 1, .slice none 0 0, .int .i64 0, .int .i64 0, .slice none 0 0] 24)) cs x ∧ ∀ j v, cs[j]? = some v → (w.alloc (.cells #[.int .i64 0, .int .i64 0, .slice none 0 0, .int .i64 0, .int .i64 1, .slice none 0 0, .int .i64 0, .int .i64 0, .slice none 0 0] 24)).cell? ⟨w.heap.size, 0 + i * Ty.event.sz + j, none⟩ = some v := by
      intro i x k _ hx hc
      subst hx
      exact ⟨_, ⟨none, 0, rfl, Ty.Sl.nil _ _ _ _⟩, hc⟩
    have cell : ∀ (n : Nat) (v : Value), (#[Value.int .i64 0, .int .i64 0, .slice none 0 0, .int .i64 0, .int .i64 1, .slice none 0 0, .int .i64 0, .int .i64 0, .slice none 0 0] : Array Value)[n]? = some v → (w.alloc (.cells #[.int .i64 0, .int .i64 0, .slice none 0 0, .int .i64 0, .int .i64 1, .slice none 0 0, .int .i64 0, .int .i64 0, .slice none 0 0] 24)).cell? ⟨w.heap.size, n, none⟩ = some v := by
      exact fun n v hv => cell_new w _ _ n v hv
    match i, hi with
    | 0, hi => exact key 0 x 0 (by omega) (by simpa [aliveL] using hi.symm) fun j v hj => cell _ _ (by match j, hj with | 0, hj => simpa using hj | 1, hj => simpa using hj | 2, hj => simpa using hj | j + 3, hj => simp at hj)
    | 1, hi => exact key 1 x 1 (by omega) (by simpa [aliveL] using hi.symm) fun j v hj => cell _ _ (by match j, hj with | 0, hj => simpa using hj | 1, hj => simpa using hj | 2, hj => simpa using hj | j + 3, hj => simp at hj)
    | 2, hi => exact key 2 x 0 (by omega) (by simpa [aliveL] using hi.symm) fun j v hj => cell _ _ (by match j, hj with | 0, hj => simpa using hj | 1, hj => simpa using hj | 2, hj => simpa using hj | j + 3, hj => simp at hj)
    | i + 3, hi => simp [aliveL] at hi)
  have hP := hide (pairs_calls aliveL (· = w.heap.size) _ _ 3 hS.out (fun b hb => by rw [hb]; simp))
  go_enter Try.func16, Try.ntmps16
  go_wp2_with (go_at_call 19; go_loud (refine hP.out.mono ?_); rintro e w1 ⟨hb1, hr⟩; have hz1 : w.heap.size + 1 ≤ w1.heap.size := (by have := hb1.size; simpa using this); rw [aliveL_pairs] at hr; obtain ⟨v, rfl, hown⟩ := hr; obtain ⟨g, cap, rfl, -, hg, -, hcell, -⟩ := own_slice hown (by decide); have c0 := hcell 0 _ rfl; have c1 := hcell 1 _ rfl; have c2 := hcell 2 _ rfl; have c3 := hcell 3 _ rfl; have c4 := hcell 4 _ rfl; have c5 := hcell 5 _ rfl; clear hcell)
  go_ret
  exact ⟨by first | rfl | (simp; done), (show Below _ _ _ by repeat (first | assumption | (with_reducible exact Below.refl _ _) | (with_reducible apply below_drewN) | (with_reducible apply Below.drew) | (with_reducible refine Below.alloc2_ ?_ (by first | assumption | exact Nat.le_refl _ | omega | (simp; done) | (simp; omega)) _) | (with_reducible refine Below.setCell ?_ (by first | assumption | exact Nat.le_refl _ | omega | (simp; done) | (simp; omega)) _) | (with_reducible refine Below.then2_ ?_ (by assumption) (by first | assumption | exact Nat.le_refl _ | omega | (simp; done) | (simp; omega))) | exact Below.drew (by assumption) | exact Below.drew (Below.refl _ _)))⟩
end Go.Proofs.Ytjjmedgibcffhaa
/- What comes in as data, opened: the cells of arguments as kinds of data. -/
namespace Go.Proofs.Ytjjmedgibcffhaa
open Go.RowKit Go.MapKept
set_option linter.unusedSimpArgs false

def Opens {α : Type} (t : Ty α) (P : Program) (T : TypeId) : Prop :=
  ∀ {H : Type} {enc : TypeId × Value → H} {w : World} {base : Nat} {spare : Nat → Bool} {held : Bool} {fuel : Nat} {cs : List Value} {x : DataW H × List MemPlace},
    DataW.trod enc P w base spare held fuel T cs = some x → (∀ n ∈ x.1.weights P T, n ≤ reachBytes) → ∃ a, t.K (fun b => b < w.heap.size) w cs a ∧ t.V a

section
variable {P : Program} {T : TypeId}
theorem opens_int {k : IntKind} (hu : P.underlying T = some (.int k)) : Opens (Ty.int k) P T := by
  intro H enc w base spare held fuel cs x h _
  obtain ⟨n, rfl, _, hw⟩ := DataW.trod_int hu h
  exact ⟨n, rfl, hw⟩
theorem opens_bool (hu : P.underlying T = some .bool) : Opens Ty.bool P T := by
  intro H enc w base spare held fuel cs x h _
  obtain ⟨b, rfl, _⟩ := DataW.trod_bool hu h
  exact ⟨b, rfl, trivial⟩
theorem opens_str (hu : P.underlying T = some .string) : Opens Ty.str P T := by
  intro H enc w base spare held fuel cs x h hz
  obtain ⟨s, rfl, rfl, _⟩ := DataW.trod_string hu h
  refine ⟨s, rfl, ?_⟩
  have := hz s.data.toList.length (by simp [DataW.weights])
  have h1 := Nat.le_trans this (Nat.le_of_lt reachBytes_lt)
  have h2 : s.data.toList.length = s.size := by rw [Array.length_toList]; rfl
  show s.size ≤ 140737488351232
  have h3 : reachBytes = 140737488351232 := by decide
  omega

theorem add_plain (b o n : Nat) : (⟨b, o, none⟩ : Addr).add n = ⟨b, o + n, none⟩ := by
  unfold Addr.add
  split
  · rename_i h; subst h; rfl
  · rfl
theorem cells_of {w : World} {base : Nat} {a : Addr} {n : Nat} {cs : List Value} (h : w.cells? base a n = some cs) : base ≤ a.block ∧ cs.length = n ∧ ∀ j v, cs[j]? = some v → w.cell? (a.add j) = some v := by
  unfold World.cells? at h
  split at h
  · rename_i hb
    refine ⟨hb, by simpa using mapM_some_length h, fun j v hv => ?_⟩
    have hj : j < n := by
      have := mapM_some_length h
      have h2 := (List.getElem?_eq_some_iff.1 hv).1
      simp at this
      omega
    rw [← hv]
    exact mapM_some_get h j j (by simp [hj])
  · cases h
theorem weights_all {H : Type} {e : TypeId} {l : List (DataW H)} {d : DataW H} (h : d ∈ l) : ∀ n ∈ d.weights P e, n ∈ DataW.weightsAll P e l := by
  induction l with
  | nil => cases h
  | cons x l ih =>
    intro n hn
    simp only [DataW.weightsAll, List.mem_append]
    rcases List.mem_cons.1 h with rfl | h
    · exact .inl hn
    · exact .inr (ih h n hn)
theorem reach_val : reachBytes = 140737488351232 := by decide

/-- A slice, element by element. -/
theorem opens_sl {α : Type} {t : Ty α} {e : TypeId} (hu : P.underlying T = some (.slice e)) (ho : Opens t P e) (hsz : P.cellsOf e = t.sz) (hby : P.bytesOf e = t.bytes) (hs : 0 < t.sz)
    {H : Type} {enc : TypeId × Value → H} {w : World} {base : Nat} {spare : Nat → Bool} {held : Bool} {fuel : Nat} {cs : List Value} {x : DataW H × List MemPlace}
    (h : DataW.trod enc P w base spare held fuel T cs = some x) (hz : ∀ n ∈ x.1.weights P T, n ≤ reachBytes) :
    ∃ (A : Option Addr) (c : Nat) (xs : List α), cs = [.slice A xs.length c] ∧ t.Sl (fun b => b < w.heap.size) w A xs ∧ (∀ a ∈ xs, t.V a) ∧ xs.length ≤ c := by
  rcases DataW.trod_slice hu h with ⟨rfl, _⟩ | ⟨a, len, cap, elems, rest, n, _, rfl, rfl, hb, hl, hm, hlen, hel, _, _⟩
  · exact ⟨none, 0, [], rfl, Ty.Sl.nil _ _ _ _, by simp, by simp⟩
  · have each : ∀ i (hi : i < len), ∃ y : α, t.V y ∧ ∃ cs, t.K (fun b => b < w.heap.size) w cs y ∧ ∀ j v, cs[j]? = some v → w.cell? ((a.add (i * t.sz)).add j) = some v := by
      intro i hi
      have h1 := hel i hi
      rw [List.getElem?_eq_getElem (by omega), Option.bind_eq_some_iff, hsz] at h1
      obtain ⟨cs, hcs, htr⟩ := h1
      obtain ⟨_, _, hc⟩ := cells_of hcs
      obtain ⟨y, hK, hV⟩ := ho htr (fun n hn => hz n (by
        simp only [DataW.weights, hu, List.mem_cons, List.mem_append]
        exact .inr (.inl (weights_all (List.mem_map.2 ⟨_, List.getElem_mem _, rfl⟩) n hn))))
      exact ⟨y, hV, cs, hK, hc⟩
    classical
    let f : Fin len → α := fun i => Classical.choose (each i.1 i.2)
    have hf : ∀ i : Fin len, t.V (f i) ∧ ∃ cs, t.K (fun b => b < w.heap.size) w cs (f i) ∧ ∀ j v, cs[j]? = some v → w.cell? ((a.add (i.1 * t.sz)).add j) = some v := fun i => Classical.choose_spec (each i.1 i.2)
    have hsize : len * t.bytes ≤ 140737488351232 := by
      have := hz ((elems.length + rest.length) * P.bytesOf e) (by simp [DataW.weights, hu])
      rw [hby, reach_val] at this
      refine Nat.le_trans (Nat.mul_le_mul_right _ ?_) this
      omega
    refine ⟨some a, cap, List.ofFn f, by simp, ⟨by simpa using hsize, ?_⟩, ?_, by simpa using hl⟩
    · rcases Nat.eq_zero_or_pos len with h0 | h0
      · left
        subst h0
        simp
      · right
        have hspot : a.spot = none ∧ a.block < w.heap.size := by
          obtain ⟨_, cs, hK, hc⟩ := hf ⟨0, h0⟩
          have hl0 := t.len hK
          cases hcs : cs with
          | nil => rw [hcs] at hl0; simp at hl0; omega
          | cons v r =>
            have h1 := hc 0 v (by rw [hcs]; rfl)
            have e0 : (a.add (0 * t.sz)).add 0 = a := by rw [Nat.zero_mul]; rfl
            rw [e0] at h1
            refine ⟨?_, World.block_lt_of_cell? w _ h1⟩
            unfold World.cell? at h1
            split at h1
            · split at h1
              · cases h1
              · rename_i hs; cases hsp : a.spot with
                | none => rfl
                | some s => simp [hsp] at hs
            · cases h1
        obtain ⟨b, o, sp⟩ := a
        obtain ⟨hsp, hbl⟩ := hspot
        subst hsp
        refine ⟨b, o, rfl, hbl, fun i y hy => ?_⟩
        have hi : i < len := by
          have := (List.getElem?_eq_some_iff.1 hy).1
          simpa using this
        have hy' : y = f ⟨i, hi⟩ := by
          rw [List.getElem?_eq_getElem (by simpa using hi)] at hy
          injection hy with hy
          rw [← hy]
          simp
        subst hy'
        obtain ⟨_, cs, hK, hc⟩ := hf ⟨i, hi⟩
        refine ⟨cs, hK, fun j v hv => ?_⟩
        have := hc j v hv
        rw [add_plain, add_plain] at this
        exact this
    · intro y hy
      obtain ⟨i, rfl⟩ := (List.mem_ofFn).1 hy
      exact (hf i).1
theorem opens_slice {α : Type} {t : Ty α} {e : TypeId} (hu : P.underlying T = some (.slice e)) (ho : Opens t P e) (hsz : P.cellsOf e = t.sz) (hby : P.bytesOf e = t.bytes) (hs : 0 < t.sz) : Opens (Ty.slice t) P T := by
  intro H enc w base spare held fuel cs x h hz
  obtain ⟨A, c, xs, rfl, h1, h2, _⟩ := opens_sl hu ho hsz hby hs h hz
  exact ⟨xs, ⟨A, c, rfl, h1⟩, h2⟩

/-- A field of a struct. -/
theorem opens_field {fs : Array Field} (hu : P.underlying T = some (.struct fs)) {H : Type} {enc : TypeId × Value → H} {w : World} {base : Nat} {spare : Nat → Bool} {held : Bool} {fuel : Nat} {cs : List Value} {x : DataW H × List MemPlace}
    (h : DataW.trod enc P w base spare held fuel T cs = some x) (hz : ∀ n ∈ x.1.weights P T, n ≤ reachBytes) :
    cs.length = P.cellsOf T ∧ ∀ (i : Nat) (e off k : Nat), (fs[i]?).map (fun f => (f.type, f.offset)) = some (e, off) → P.cellsOf e = k → ∃ (m : Nat) (y : DataW H × List MemPlace), DataW.trod enc P w base spare held m e ((cs.drop off).take k) = some y ∧ ∀ n ∈ y.1.weights P e, n ≤ reachBytes := by
  obtain ⟨xs, n, _, rfl, hl, hlen, hf⟩ := DataW.trod_struct hu h
  refine ⟨hl, fun i e off k hi hk => ?_⟩
  obtain ⟨f, hfi, he⟩ := Option.map_eq_some_iff.1 hi
  injection he with he ho
  subst he ho hk
  have hil : i < fs.size := (Array.getElem?_eq_some_iff.1 hfi).1
  refine ⟨n, xs[i], ?_, fun m hm => hz m ?_⟩
  · rw [hf i f hfi, List.getElem?_eq_getElem]
  · simp only [DataW.weights, hu]
    refine DataW.weights_mem_each (j := i) (t := f.type) (d := xs[i].1) ?_ ?_ m hm
    · simp only [List.getElem?_map]
      rw [Array.getElem?_toList, hfi]
      rfl
    · simp [List.getElem?_map, List.getElem?_eq_getElem (show i < xs.length by omega)]
end

theorem list5 {α : Type} : ∀ {l : List α}, l.length = 5 → ∃ a b c d e, l = [a, b, c, d, e]
  | [a, b, c, d, e], _ => ⟨a, b, c, d, e, rfl⟩
theorem list3 {α : Type} : ∀ {l : List α}, l.length = 3 → ∃ a b c, l = [a, b, c]
  | [a, b, c], _ => ⟨a, b, c, rfl⟩
set_option maxRecDepth 100000 in
theorem opens_call : Opens Ty.call Try.prog 67 := by
  intro H enc w base spare held fuel cs x h hz
  obtain ⟨hl, hf⟩ := opens_field Try.underlying67 h hz
  have hl5 : cs.length = 5 := hl.trans (by kernel_rfl)
  obtain ⟨c0, c1, c2, c3, c4, rfl⟩ := list5 hl5
  obtain ⟨m0, y0, h0, z0⟩ := hf 0 3 0 1 rfl (by kernel_rfl)
  obtain ⟨m1, y1, h1, z1⟩ := hf 1 9 1 1 rfl (by kernel_rfl)
  obtain ⟨m2, y2, h2, z2⟩ := hf 2 2 2 1 rfl (by kernel_rfl)
  obtain ⟨m3, y3, h3, z3⟩ := hf 3 4 3 1 rfl (by kernel_rfl)
  obtain ⟨m4, y4, h4, z4⟩ := hf 4 44 4 1 rfl (by kernel_rfl)
  obtain ⟨a0, k0, v0⟩ := opens_int Try.underlying3 h0 z0
  obtain ⟨a1, k1, v1⟩ := opens_str Try.underlying9 h1 z1
  obtain ⟨a2, k2, v2⟩ := opens_int Try.underlying2 h2 z2
  obtain ⟨a3, k3, v3⟩ := opens_bool Try.underlying4 h3 z3
  obtain ⟨a4, k4, v4⟩ := opens_slice Try.underlying44 (opens_int Try.underlying2) (by kernel_rfl) (by kernel_rfl) (by decide) h4 z4
  obtain ⟨A, c, k4, hs⟩ := k4
  obtain rfl : c0 = Value.int .i64 a0 := (List.cons.inj (k0 : [c0] = [Value.int .i64 a0])).1
  obtain rfl : c1 = Value.string a1 := (List.cons.inj (k1 : [c1] = [Value.string a1])).1
  obtain rfl : c2 = Value.int .i64 a2 := (List.cons.inj (k2 : [c2] = [Value.int .i64 a2])).1
  obtain rfl : c3 = Value.bool a3 := (List.cons.inj (k3 : [c3] = [Value.bool a3])).1
  obtain rfl : c4 = Value.slice A a4.length c := (List.cons.inj (k4 : [c4] = [Value.slice A a4.length c])).1
  exact ⟨⟨a0, a1, a2, a3, a4⟩, ⟨A, c, rfl, hs⟩, v0, v1, v2, v4⟩
set_option maxRecDepth 100000 in
theorem opens_event : Opens Ty.event Try.prog 24 := by
  intro H enc w base spare held fuel cs x h hz
  obtain ⟨hl, hf⟩ := opens_field Try.underlying24 h hz
  have hl3 : cs.length = 3 := hl.trans (by kernel_rfl)
  obtain ⟨c0, c1, c2, rfl⟩ := list3 hl3
  obtain ⟨m0, y0, h0, z0⟩ := hf 0 2 0 1 rfl (by kernel_rfl)
  obtain ⟨m1, y1, h1, z1⟩ := hf 1 3 1 1 rfl (by kernel_rfl)
  obtain ⟨m2, y2, h2, z2⟩ := hf 2 22 2 1 rfl (by kernel_rfl)
  obtain ⟨a0, k0, v0⟩ := opens_int Try.underlying2 h0 z0
  obtain ⟨a1, k1, v1⟩ := opens_int Try.underlying3 h1 z1
  obtain ⟨a2, k2, v2⟩ := opens_slice Try.underlying22 opens_call (by kernel_rfl) (by kernel_rfl) (by decide) h2 z2
  obtain ⟨A, c, k2, hs⟩ := k2
  obtain rfl : c0 = Value.int .i64 a0 := (List.cons.inj (k0 : [c0] = [Value.int .i64 a0])).1
  obtain rfl : c1 = Value.int .i64 a1 := (List.cons.inj (k1 : [c1] = [Value.int .i64 a1])).1
  obtain rfl : c2 = Value.slice A a2.length c := (List.cons.inj (k2 : [c2] = [Value.slice A a2.length c])).1
  exact ⟨⟨a0, a1, a2⟩, ⟨A, c, rfl, hs⟩, v0, v1, v2⟩
end Go.Proofs.Ytjjmedgibcffhaa
/- From a contract 'true, and nothing that was there has changed' to what a law's row asks. -/
namespace Go.Proofs.Ytjjmedgibcffhaa
open Go.RowKit Go.MapKept Go.ChangeShapes Go.WideShapes Go.ChangeAt
set_option linter.unusedSimpArgs false
set_option linter.unusedVariables false

theorem own : ownKnob Try.prog.godebug = none := by kernel_rfl
theorem laidOut : laidOutB Try.prog = true := by kernel_rfl

theorem trodAll_below {H : Type} {enc : TypeId × Value → H} {P : Program} (hl : laidOutB P = true) {W W' : World} (hb : Below W.heap.size W W') : ∀ {ts : List TypeId} {vs : List Value} {ds : List (DataW H)} {ps : List MemPlace},
    (∀ t ∈ ts, P.readableRec t = true ∧ t < P.types.size) → DataW.TrodAll enc P W 0 (fun _ => true) true ts vs ds ps → (∀ x ∈ ps, x.block < W.heap.size) → DataW.TrodAll enc P W' 0 (fun b => decide (b < W.heap.size)) true ts vs ds ps
  | [], [], [], ps, _, h, _ => h
  | t :: ts, v :: vs, d :: ds, ps, ht, h, hlt => by
    obtain ⟨p, q, h1, h2, rfl⟩ := h
    exact ⟨p, q, Below.trod hl (ht t List.mem_cons_self).1 (ht t List.mem_cons_self).2 h1 hb (fun x hx => hlt x (List.mem_append_left _ hx)), trodAll_below hl hb (fun t' ht' => ht t' (List.mem_cons_of_mem _ ht')) h2 (fun x hx => hlt x (List.mem_append_right _ hx)), rfl⟩
  | [], [], _ :: _, _, _, h, _ => h.elim
  | [], _ :: _, _, _, _, h, _ => h.elim
  | _ :: _, [], _, _, _, h, _ => h.elim
  | _ :: _, _ :: _, [], _, _, h, _ => h.elim

/-- What a law's row asks of the call. -/
theorem law_post {H : Type} {enc : TypeId × Value → H} {f : Func} {s : ChangeSpec} {W W' : World} {args : Array Value} {ds gs : List (DataW H)} {before : List MemPlace} {apart : Bool}
    (hW : DataW.Whole enc Try.prog f.params.toList s.vars apart W args.toList ds gs before) (hv : s.vars = []) (hr : f.resultTypes = #[4]) (hp : ∀ t ∈ f.params.toList, Try.prog.readableRec t = true ∧ t < Try.prog.types.size)
    (hfn : s.fn H (ds ++ gs) = { results := [.lit (.bool true)], args := ds }) (hb : Below W.heap.size W W') : s.post enc Try.prog f apart true false false W args (.bool true) W' := by
  have hlt : ∀ x ∈ before, x.block < W.heap.size := fun x hx => hW.lt x hx
  have hW0 := hW
  obtain ⟨p, q, hA, hV, rfl, hz, hn⟩ := hW
  rw [hv] at hV
  obtain ⟨rfl, rfl⟩ := trodVars_none hV
  refine ⟨ds, [], p ++ [], [], p, [], hW0, ?_, ?_, ?_, ?_, fun h => by cases h⟩
  · rw [hfn, hr]
    exact trodAll_mk1 (shut_bool Try.underlying4 _)
  · rw [hfn]
    exact trodAll_below laidOut hb hp hA (fun x hx => hlt x (by simpa using hx))
  · rw [hfn, hv]
    rfl
  · exact hb.frame _
set_option maxRecDepth 100000 in
/-- A list of events that comes in. -/
theorem open_events {H : Type} {enc : TypeId × Value → H} {W : World} {base : Nat} {v : Value} {d : DataW H} {p : List MemPlace} (hval : Value.okWide Try.prog W .any base 27 v)
    (h : DataW.Trod enc Try.prog W 0 (fun _ => true) true 27 v d p) (hz : ∀ n ∈ d.weights Try.prog 27, n ≤ reachBytes) :
    ∃ A c xs, v = .slice A xs.length c ∧ Ty.event.Sl (fun b => b < W.heap.size) W A xs ∧ xs.length ≤ c ∧ ∀ x ∈ xs, Ty.event.V x := by
  obtain ⟨a, len, cap, rfl⟩ := okWide_slice Try.underlying27 hval
  obtain ⟨_, h⟩ := h
  obtain ⟨A, c, xs, hcs, h1, h2, h3⟩ := opens_sl Try.underlying27 opens_event (by kernel_rfl) (by kernel_rfl) (by decide) h hz
  exact ⟨A, c, xs, (List.cons.inj hcs).1, h1, h3, h2⟩

set_option maxRecDepth 100000 in
/-- The rows of laws over one list of events, and over a list and a number. -/
theorem events_contract (N : Nat) (f : Func) (s : ChangeSpec) (hf : Try.prog.funcs[N]? = some f) (hp : f.params = #[27]) (hr : f.resultTypes = #[4]) (hv : s.vars = []) (hfn : ∀ (H : Type) (d : DataW H), s.fn H [d] = { results := [.lit (.bool true)], args := [d] })
    (hcalls : ∀ (xs : List EventD) (w : World) (A : Option Addr) (c : Nat), Ty.event.Sl (fun b => b < w.heap.size) w A xs → xs.length ≤ c → (∀ x ∈ xs, Ty.event.V x) → Calls Try.prog N #[.slice A xs.length c] w fun e w' => e = .returned (.bool true) ∧ Below w.heap.size w w')
    {H : Type} {enc : TypeId × Value → H} {W : World} {base : Nat} {args : Array Value} {ds gs : List (DataW H)} {before : List MemPlace} {apart : Bool}
    (hval : ∀ (j : Nat) t v, f.params[j]? = some t → args[j]? = some v → Value.okWide Try.prog W .any base t v) (hW : DataW.Whole enc Try.prog f.params.toList s.vars apart W args.toList ds gs before)
    (hz : (DataW.weightsEach Try.prog (f.params.toList ++ s.plain.varTypes Try.prog) (ds ++ gs)).all (· ≤ reachBytes) = true) :
    Calls Try.prog N args W fun e W' => ∃ v, e = .returned v ∧ s.post enc Try.prog f apart true false false W args v W' := by
  have hW' := hW
  obtain ⟨p, q, hA, hV, rfl, hfz, hnd⟩ := hW
  rw [hv] at hV
  obtain ⟨rfl, rfl⟩ := trodVars_none hV
  have hvt : s.plain.varTypes Try.prog = [] := by simp [DataSpec.varTypes, ChangeSpec.plain, hv]
  rw [hp] at hA hz hval
  rw [hvt] at hz
  obtain ⟨v0, d0, rfl, rfl, h0⟩ := trodAll_one hA
  have hall : ∀ n ∈ d0.weights Try.prog 27, n ≤ reachBytes := by
    intro n hn
    have := List.all_eq_true.1 hz n (by simpa [DataW.weightsEach] using hn)
    simpa using this
  obtain ⟨A, c, xs, rfl, h1, h2, h3⟩ := open_events (hval 0 27 v0 rfl rfl) h0 hall
  refine (hcalls xs W A c h1 h2 h3).mono fun e W' ⟨he, hb⟩ => ?_
  refine ⟨_, he, law_post hW' hv hr ?_ (hfn H d0) hb⟩
  rw [hp]
  decide +kernel
set_option maxRecDepth 100000 in
theorem events_int_contract (N : Nat) (f : Func) (s : ChangeSpec) (T : TypeId) (hT : Try.prog.underlying T = some (.int .i64)) (hTr : Try.prog.readableRec T = true ∧ T < Try.prog.types.size) (hf : Try.prog.funcs[N]? = some f) (hp : f.params = #[27, T]) (hr : f.resultTypes = #[4]) (hv : s.vars = []) (hfn : ∀ (H : Type) (d e : DataW H), s.fn H [d, e] = { results := [.lit (.bool true)], args := [d, e] })
    (hcalls : ∀ (xs : List EventD) (k : Int) (w : World) (A : Option Addr) (c : Nat), Ty.event.Sl (fun b => b < w.heap.size) w A xs → xs.length ≤ c → (∀ x ∈ xs, Ty.event.V x) → -9223372036854775808 ≤ k ∧ k ≤ 9223372036854775807 → Calls Try.prog N #[.slice A xs.length c, .int .i64 k] w fun e w' => e = .returned (.bool true) ∧ Below w.heap.size w w')
    {H : Type} {enc : TypeId × Value → H} {W : World} {base : Nat} {args : Array Value} {ds gs : List (DataW H)} {before : List MemPlace} {apart : Bool}
    (hval : ∀ (j : Nat) t v, f.params[j]? = some t → args[j]? = some v → Value.okWide Try.prog W .any base t v) (hW : DataW.Whole enc Try.prog f.params.toList s.vars apart W args.toList ds gs before)
    (hz : (DataW.weightsEach Try.prog (f.params.toList ++ s.plain.varTypes Try.prog) (ds ++ gs)).all (· ≤ reachBytes) = true) :
    Calls Try.prog N args W fun e W' => ∃ v, e = .returned v ∧ s.post enc Try.prog f apart true false false W args v W' := by
  have hW' := hW
  obtain ⟨p, q, hA, hV, rfl, hfz, hnd⟩ := hW
  rw [hv] at hV
  obtain ⟨rfl, rfl⟩ := trodVars_none hV
  have hvt : s.plain.varTypes Try.prog = [] := by simp [DataSpec.varTypes, ChangeSpec.plain, hv]
  rw [hp] at hA hz hval
  rw [hvt] at hz
  obtain ⟨v0, v1, d0, d1, p0, p1, rfl, rfl, rfl, h0, h1⟩ := trodAll_two hA
  have hall : ∀ n ∈ d0.weights Try.prog 27, n ≤ reachBytes := by
    intro n hn
    have := List.all_eq_true.1 hz n (by simp only [DataW.weightsEach, List.cons_append, List.nil_append, List.append_nil]; exact List.mem_append_left _ hn)
    simpa using this
  obtain ⟨A, c, xs, rfl, g1, g2, g3⟩ := open_events (hval 0 27 v0 rfl rfl) h0 hall
  obtain ⟨k, rfl, _, _, hk⟩ := open_int hT (hval 1 T v1 rfl rfl) h1
  have hk' : -9223372036854775808 ≤ k ∧ k ≤ 9223372036854775807 := by
    simpa [Lit.wf, IntKind.min, IntKind.max, IntKind.signed, IntKind.bits] using hk
  refine (hcalls xs k W A c g1 g2 g3 hk').mono fun e W' ⟨he, hb⟩ => ?_
  refine ⟨_, he, law_post hW' hv hr ?_ (hfn H d0 d1) hb⟩
  rw [hp]
  intro t ht
  simp at ht
  rcases ht with rfl | rfl
  · decide +kernel
  · exact hTr
end Go.Proofs.Ytjjmedgibcffhaa
/- Append, where the world's size is spelled otherwise; small things for later walks. -/
namespace Go.Proofs.Ytjjmedgibcffhaa
open Go.RowKit Go.MapKept
section
variable {P : Program} {ops : Array Oper} {rest : List Oper} {o : Oper} {a : Act} {Q : Exit → Act → World → Prop} {α : Type}
theorem wp_append_at {enc : α → List Value} {sz : Nat} (hsz : ∀ x, (enc x).length = sz) (hone : ∀ x, ∀ u ∈ enc x, u.oneCell' = true) {W : World} (base : Nat) (hgd : o.guard = none) (s x : Operand) (t e : TypeId) (z : Value) (bytes : Nat)
    (ho : o.op = .call { callee := .builtin .append, args := #[s, x], argTypes := #[t, t] })
    (ht : P.underlying t = some (.slice e)) (hinfo : (P.info? e).map (fun i => (i.zero, i.size, i.bytes)) = some (some z, sz, bytes)) (hz : z.cells.size = sz) (hs0 : 0 < sz) (hb0 : 0 < bytes)
    (v : Value) (xs : List α) (y : α) (q : Nat) (hs : a.eval s = v) (hx : a.eval x = .slice (some ⟨q, 0, none⟩) 1 1) (hq : W.heap.size = q)
    (HO : W.ownsRow base e sz v xs.length (xs.flatMap enc)) (hbase : base ≤ W.heap.size) (hl : (xs.length + 1) * bytes ≤ 140737488355328)
    (h : ∀ v1 w1, w1.ownsRow base e sz v1 (xs ++ [y]).length ((xs ++ [y]).flatMap enc) → Keep (fun k => v.ownBlock = some k) W w1 → (v1.ownBlock = v.ownBlock ∨ ∃ b, v1.ownBlock = some b ∧ W.heap.size ≤ b) → W.heap.size < w1.heap.size → wpList P ops Q rest (a.put o.dst v1) w1) :
    wpList P ops Q (o :: rest) a (W.alloc (.cells (enc y).toArray e)) := by
  subst hq
  exact wp_append hsz hone base hgd s x t e z bytes ho ht hinfo hz hs0 hb0 v xs y hs hx HO hbase hl h
end
/-- What a callee that only makes memory leaves of an own row. -/
theorem own_below {w w' : World} {base n : Nat} {e : TypeId} {sz : Nat} {v : Value} {xs : List Value} (h : w.ownsRow base e sz v n xs) (hb : Below w.heap.size w w') : w'.ownsRow base e sz v n xs := own_keep (S := fun _ => False) h (Keep.of_below hb) (fun _ _ => id)
/-! The laws at guarded operations. -/
section
variable {κ : Type} {P : Program} {kt : TypeId} {ops : Array Oper} {rest : List Oper} {o : Oper} {a : Act} {Q : Exit → Act → World → Prop} {w : World}
theorem wp_lookup1_g (K : KeyTy κ P kt) {b : Nat} {f : κ → Option Value} (h : MapAt K w b f) (hw : Region.wanted o (yielded ops a.tmps) = true) (m x : Operand) (t : TypeId) (hop : o.op = Op.lookup t m x false) {et : TypeId} (ht : P.underlying t = some (.map kt et))
    {z : Value} (hz : (zeroValue et).run P w = .ok z w) (k : κ) (hm : a.eval m = .map (some b)) (hx : a.eval x = K.enc k)
    (hK : wpList P ops Q rest (a.put o.dst ((f k).getD z)) w) : wpList P ops Q (o :: rest) a w := by
  refine wpList_step fun K' hK' => ?_
  rw [if_pos hw]
  unfold Oper.wp
  simp [execOp, hop, hm, hx, h.run_lookup1 ht hz k, Result.andThen]
  exact hK' _ _ hK
end
end Go.Proofs.Ytjjmedgibcffhaa
/- pair.Pairs and pair.Busy for their callers: the answers as kinds of data. -/
namespace Go.Proofs.Ytjjmedgibcffhaa
open Go.RowKit Go.MapKept
set_option linter.unusedSimpArgs false
set_option linter.unusedVariables false

def Ty.pair : Ty PairD where
  sz := 3
  bytes := 24
  V := fun _ => True
  K := fun F w cs x => cs = encP x
  len := by rintro F w cs x rfl; rfl
  mono := fun h _ => h
  weak := fun h _ => h
/-- The blocks that a call has made. -/
def Fresh (w w' : World) : Nat → Prop := fun b => w.heap.size ≤ b ∧ b < w'.heap.size

/-- An own row of flat elements, as what is read. -/
theorem own_sl {α : Type} {t : Ty α} {enc : α → List Value} (hsz : ∀ x, (enc x).length = t.sz) (hs : 0 < t.sz) (hK : ∀ F w x, t.K F w (enc x) x) {w : World} {base : Nat} {e : TypeId} {v : Value} {xs : List α} {F : Nat → Prop}
    (h : w.ownsRow base e t.sz v xs.length (xs.flatMap enc)) (hF : ∀ b, base ≤ b → b < w.heap.size → F b) (hl : xs.length * t.bytes ≤ 140737488351232) :
    ∃ A c, v = .slice A xs.length c ∧ xs.length ≤ c ∧ t.Sl F w A xs := by
  rcases Nat.eq_zero_or_pos xs.length with h0 | h0
  · obtain ⟨A, c, rfl⟩ := own_shape h
    refine ⟨A, c, rfl, by omega, hl, .inl (List.eq_nil_of_length_eq_zero h0)⟩
  · obtain ⟨g, cap, rfl, hb, hg, hc, hcell, _⟩ := own_slice h h0
    refine ⟨_, cap, rfl, hc, hl, .inr ⟨g, 0, rfl, hF g hb hg, fun i x hi => ⟨enc x, hK _ _ _, fun j v hv => ?_⟩⟩⟩
    obtain ⟨hil, rfl⟩ := List.getElem?_eq_some_iff.1 hi
    have hj : j < t.sz := by
      have := (List.getElem?_eq_some_iff.1 hv).1
      rwa [hsz] at this
    have := hcell (i * t.sz + j) v (by rw [flat_get hsz xs i j hil hj]; exact hv)
    simpa using this

theorem Ty.Sl.pair_at {F : Nat → Prop} {w : World} {A : Option Addr} {xs : List PairD} (h : Ty.pair.Sl F w A xs) (i : Nat) (hi : i < xs.length) :
    ∃ b o, A = some ⟨b, o, none⟩ ∧ F b ∧ w.cell? ⟨b, o + i * 3, none⟩ = some (.int .i64 (xs[i].from_ : Int)) ∧ w.cell? ⟨b, o + i * 3 + 1, none⟩ = some (.int .i64 xs[i].to_) ∧ w.cell? ⟨b, o + i * 3 + 2, none⟩ = some (.int .i64 xs[i].status) := by
  rcases h.2 with h0 | ⟨b, o, hA, hF, hx⟩
  · subst h0; simp at hi
  · obtain ⟨cs, hK, hc⟩ := hx i xs[i] (by simp [hi])
    have hK : cs = encP xs[i] := hK
    subst hK
    exact ⟨b, o, hA, hF, hc 0 _ rfl, hc 1 _ rfl, hc 2 _ rfl⟩

theorem pairsSt_inv (l : List EventD) : ∀ j ps op, pairsSt l j = .ok (ps, op) → j ≤ l.length → PInv j ps op := by
  intro j
  induction j with
  | zero =>
    intro ps op h _
    simp only [pairsSt, Except.ok.injEq, Prod.mk.injEq] at h
    obtain ⟨rfl, rfl⟩ := h
    exact ⟨by simp, by simp, by simp⟩
  | succ j ih =>
    intro ps' op' h hj
    have hjl : j < l.length := by omega
    cases hst : pairsSt l j with
    | error e => simp only [pairsSt, hst] at h; cases h
    | ok s =>
      obtain ⟨ps, op⟩ := s
      have hi := ih ps op hst (by omega)
      rw [pairsSt_succ hst hjl] at h
      unfold pairStep at h
      split at h
      · cases h
      · rename_i s hs
        injection h with h
        subst h
        split at hs
        · rename_i k hk
          split at hs
          · cases hs
          · split at hs
            · cases hs
            · rename_i p hp
              split at hs
              · cases hs
              · split at hs
                · simp only [Option.some.injEq, Prod.mk.injEq] at hs
                  obtain ⟨rfl, rfl⟩ := hs
                  obtain ⟨hkl, rfl⟩ := List.getElem?_eq_some_iff.1 hp
                  refine ⟨by have := hi.1; simp; omega, fun q k' hq => ?_, fun k' hk' => ?_⟩
                  · by_cases e : q = l[j].proc
                    · subst e
                      rw [upd_same] at hq
                      cases hq
                    · rw [upd_ne _ _ e] at hq
                      simpa using hi.2.1 q k' hq
                  · have hk2 : k' < ps.length := by simpa using hk'
                    rw [List.getElem_set]
                    split
                    · have := hi.2.2 k hkl
                      simp
                      omega
                    · have := hi.2.2 k' hk2
                      omega
                · cases hs
        · split at hs
          · simp only [Option.some.injEq, Prod.mk.injEq] at hs
            obtain ⟨rfl, rfl⟩ := hs
            refine ⟨by have := hi.1; simp; omega, fun q k' hq => ?_, fun k' hk' => ?_⟩
            · by_cases e : q = l[j].proc
              · subst e
                rw [upd_same] at hq
                injection hq with hq
                simp
                omega
              · rw [upd_ne _ _ e] at hq
                have := hi.2.1 q k' hq
                simp
                omega
            · rcases Nat.lt_or_ge k' ps.length with hlt | hge
              · rw [List.getElem_append_left hlt]
                have := hi.2.2 k' hlt
                omega
              · rw [List.getElem_append_right hge]
                simp
          · cases hs

def psOf (r : Except (Int × Int) (List PairD)) : List PairD := match r with | .ok ps => ps | .error _ => []
def flOf (r : Except (Int × Int) (List PairD)) : Int × Int := match r with | .ok _ => (0, 0) | .error e => e
theorem pairsF_ok {l : List EventD} {ps : List PairD} (h : pairsF l = .ok ps) : listOk l = true ∧ ∃ op, pairsSt l l.length = .ok (ps, op) := by
  unfold pairsF at h
  split at h
  · rename_i hok
    refine ⟨hok, ?_⟩
    split at h
    · cases h
    · rename_i s hs
      injection h with h
      subst h
      exact ⟨s.2, hs⟩
  · cases h
theorem psOf_len (l : List EventD) : (psOf (pairsF l)).length ≤ 256 := by
  cases h : pairsF l with
  | error e => simp [psOf]
  | ok ps =>
    obtain ⟨hok, op, hst⟩ := pairsF_ok h
    have := (pairsSt_inv l _ _ _ hst (Nat.le_refl _)).1
    have := listOk_len hok
    simp [psOf]
    omega
theorem psOf_from (l : List EventD) (k : Nat) (hk : k < (psOf (pairsF l)).length) : (psOf (pairsF l))[k].from_ < l.length := by
  revert hk
  cases h : pairsF l with
  | error e => simp [psOf]
  | ok ps =>
    intro hk
    obtain ⟨hok, op, hst⟩ := pairsF_ok h
    exact (pairsSt_inv l _ _ _ hst (Nat.le_refl _)).2.2 k hk

def PairsRes (xs : List EventD) (w : World) (e : Ending) (w' : World) : Prop :=
  ∃ A c, e = .returned (.tuple #[.slice A (psOf (pairsF xs)).length c, .agg #[.int .i64 (flOf (pairsF xs)).1, .int .i64 (flOf (pairsF xs)).2]]) ∧ Ty.pair.Sl (Fresh w w') w' A (psOf (pairsF xs)) ∧ Below w.heap.size w w'
theorem pairs_res (xs : List EventD) (F : Nat → Prop) (w : World) (A : Option Addr) (c : Nat) (hx : Ty.event.Sl F w A xs) (hF : ∀ b, F b → b < w.heap.size) :
    Calls Try.prog 19 #[.slice A xs.length c] w (PairsRes xs w) := by
  refine (pairs_calls xs F w A c hx hF).mono fun e w' ⟨hb, h⟩ => ?_
  have hlen := psOf_len xs
  unfold PairsRes
  revert h hlen
  cases pairsF xs with
  | error ea =>
    intro h _
    exact ⟨none, 0, h, Ty.Sl.nil _ _ _ _, hb⟩
  | ok ps =>
    rintro ⟨v, rfl, hown⟩ hlen
    have hlen : ps.length ≤ 256 := hlen
    obtain ⟨A', c', rfl, _, hs⟩ := own_sl (t := Ty.pair) (enc := encP) encP_len (by decide) (fun _ _ _ => rfl) (F := Fresh w w') hown (fun b h1 h2 => ⟨h1, h2⟩) (show ps.length * 24 ≤ _ by omega)
    exact ⟨A', c', rfl, hs, hb⟩
theorem pairs_res_n (xs : List EventD) (n : Nat) (hn : xs.length = n) (F : Nat → Prop) (w : World) (A : Option Addr) (c : Nat) (hx : Ty.event.Sl F w A xs) (hF : ∀ b, F b → b < w.heap.size) :
    Calls Try.prog 19 #[.slice A n c] w (PairsRes xs w) := by
  subst hn
  exact pairs_res xs F w A c hx hF
theorem Ty.Sl.take {α : Type} {t : Ty α} {F : Nat → Prop} {w : World} {A : Option Addr} {xs : List α} (h : t.Sl F w A xs) (n : Nat) : t.Sl F w A (xs.take n) := by
  refine ⟨Nat.le_trans (Nat.mul_le_mul_right _ (by simp; omega)) h.1, ?_⟩
  rcases h.2 with h0 | ⟨b, o, hA, hF, hx⟩
  · subst h0; exact .inl (by simp)
  · refine .inr ⟨b, o, hA, hF, fun i x hi => hx i x ?_⟩
    rw [List.getElem?_take] at hi
    split at hi
    · exact hi
    · cases hi
theorem flOf_cases (l : List EventD) : (flOf (pairsF l) = (0, 0) ∧ ∃ ps, pairsF l = .ok ps) ∨ (flOf (pairsF l) = (1, 0) ∧ pairsF l = .error (1, 0)) ∨ ∃ j : Nat, flOf (pairsF l) = (40, (j : Int)) ∧ pairsF l = .error (40, (j : Int)) ∧ listOk l = true ∧ pairsSt l l.length = .error j := by
  unfold pairsF
  split
  · rename_i hok
    cases h : pairsSt l l.length with
    | error j => exact .inr (.inr ⟨j, rfl, rfl, hok, rfl⟩)
    | ok s => exact .inl ⟨rfl, _, rfl⟩
  · exact .inr (.inl ⟨rfl, rfl⟩)
theorem listOk_take {l : List EventD} (h : listOk l = true) (n : Nat) : listOk (l.take n) = true := by
  unfold listOk at *
  simp only [Bool.and_eq_true, decide_eq_true_eq, List.all_eq_true] at *
  exact ⟨by simp; omega, fun x hx => h.2 x (List.mem_of_mem_take hx)⟩
theorem pairsSt_take (l : List EventD) (n : Nat) : ∀ j, j ≤ n → j ≤ l.length → pairsSt (l.take n) j = pairsSt l j := by
  intro j
  induction j with
  | zero => intros; rfl
  | succ j ih =>
    intro hj hl
    have ih := ih (by omega) (by omega)
    have hjt : j < (l.take n).length := by simp; omega
    have hjl : j < l.length := by omega
    cases hst : pairsSt l j with
    | error e => rw [hst] at ih; simp only [pairsSt, hst, ih]
    | ok s =>
      obtain ⟨ps, op⟩ := s
      rw [hst] at ih
      rw [pairsSt_succ hst hjl, pairsSt_succ ih hjt]
      have e1 : (l.take n)[j] = l[j] := by simp
      rw [e1]
      have hi := pairsSt_inv l j ps op hst (by omega)
      have : pairStep (l.take n) j l[j] ps op = pairStep l j l[j] ps op := by
        unfold pairStep
        split
        · rename_i k hk
          split
          · rfl
          · have hkl := hi.2.1 _ _ hk
            have hf := hi.2.2 k hkl
            rw [List.getElem?_eq_getElem hkl]
            simp only
            rw [List.getElem?_eq_getElem (show ps[k].from_ < l.length by omega), List.getElem?_eq_getElem (show ps[k].from_ < (l.take n).length by simp; omega)]
            simp
        · rfl
      rw [this]
/-- An error is of one of the events that have been looked at. -/
theorem pairsSt_err (l : List EventD) (e : Nat) : ∀ j, pairsSt l j = .error e → e < j ∧ e < l.length ∧ pairsSt l (e + 1) = .error e ∧ ∃ s, pairsSt l e = .ok s := by
  intro j
  induction j with
  | zero => intro h; cases h
  | succ j ih =>
    intro h
    cases hst : pairsSt l j with
    | error e' =>
      have h' := h
      simp only [pairsSt, hst, Except.error.injEq] at h'
      subst h'
      obtain ⟨h1, h2, h3, h4⟩ := ih hst
      exact ⟨by omega, h2, h3, h4⟩
    | ok s =>
      have h' := h
      simp only [pairsSt, hst] at h'
      split at h'
      · cases h'
      · rename_i x hx
        split at h'
        · injection h' with h'
          subst h'
          exact ⟨by omega, (List.getElem?_eq_some_iff.1 hx).1, h, s, hst⟩
        · cases h'
theorem take_ok {l : List EventD} {ps : List PairD} (h : pairsF l = .ok ps) (n : Nat) (hn : n ≤ l.length) : ∃ ps', pairsF (l.take n) = .ok ps' := by
  obtain ⟨hok, op, hst⟩ := pairsF_ok h
  have : ∃ s, pairsSt l n = .ok s := by
    cases hs : pairsSt l n with
    | error e => rw [pairsSt_bad hs _ hn] at hst; cases hst
    | ok s => exact ⟨s, rfl⟩
  obtain ⟨s, hs⟩ := this
  unfold pairsF
  rw [if_pos (listOk_take hok n)]
  have : (l.take n).length = n := by simp; omega
  rw [this, pairsSt_take l n n (Nat.le_refl _) hn, hs]
  exact ⟨_, rfl⟩
theorem take_bad {l : List EventD} {j : Nat} (hok : listOk l = true) (h : pairsSt l l.length = .error j) (n : Nat) (hn : n ≤ l.length) :
    (j < n → pairsF (l.take n) = .error (40, (j : Int))) ∧ (n ≤ j → ∃ ps', pairsF (l.take n) = .ok ps') := by
  obtain ⟨h1, h2, h3, s, h4⟩ := pairsSt_err l j _ h
  have hl : (l.take n).length = n := by simp; omega
  unfold pairsF
  rw [if_pos (listOk_take hok n), hl, pairsSt_take l n n (Nat.le_refl _) hn]
  refine ⟨fun hj => ?_, fun hj => ?_⟩
  · rw [pairsSt_bad h3 n (by omega)]
  · cases hs : pairsSt l n with
    | error e => rw [pairsSt_bad hs j hj] at h4; cases h4
    | ok s' => exact ⟨_, rfl⟩
end Go.Proofs.Ytjjmedgibcffhaa
