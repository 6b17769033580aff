/- Kinds of data in memory, read through a set of blocks: plain lemmas, no program in sight. -/
import Derived.Test.YtjjmedgibcffhaaProg
import Derived.WalkKit
import Derived.WalkSpells
import Derived.WalkLawsBesides
import Derived.BigGuardPart
import Derived.Deep.QuietTactic
import Derived.BigQuiet
namespace Go.Proofs.Ytjjmedgibcffhaa
open Go.RowKit

theorem hide {p : Prop} (h : p) : Hid p := h

theorem ret_bool {a b : Bool} (h : a = b) : Ending.returned (.bool a) = Ending.returned (.bool b) := by rw [h]
theorem ret_int {k : IntKind} {a b : Int} (h : a = b) : Ending.returned (.int k a) = Ending.returned (.int k b) := by rw [h]

theorem below_drewN {B : Nat} {a w : World} (h : Below B a w) (n : Nat) : Below B a (w.drewN n) := h.trans ⟨rfl, rfl, rfl, Nat.le_refl _, fun _ _ => rfl⟩

theorem Below.then_ {B : Nat} {a W w' : World} (h : Below B a W) (k : Below W.heap.size W w') (hB : B ≤ W.heap.size) : Below B a w' := h.trans (k.mono hB)

/-- The two worlds agree on the blocks of F. -/
def SameOn (F : Nat → Prop) (w w' : World) : Prop := ∀ b, F b → w'.heap[b]? = w.heap[b]?

theorem SameOn.refl (F : Nat → Prop) (w : World) : SameOn F w w := fun _ _ => rfl
theorem SameOn.trans {F : Nat → Prop} {a b c : World} (h : SameOn F a b) (k : SameOn F b c) : SameOn F a c := fun i hi => (k i hi).trans (h i hi)
theorem SameOn.cell {F : Nat → Prop} {w w' : World} (h : SameOn F w w') {a : Addr} (hF : F a.block) : w'.cell? a = w.cell? a := by
  unfold World.cell?
  rw [h a.block hF]

theorem SameOn.of_below {F : Nat → Prop} {w w' : World} (h : Below w.heap.size w w') (hF : ∀ b, F b → b < w.heap.size) : SameOn F w w' := fun b hb => h.block b (hF b hb)

/-- What was there stays, but for the blocks of S. -/
structure Keep (S : Nat → Prop) (w w' : World) : Prop where
  os : w'.os = w.os
  tape : w'.tape = w.tape
  output : w'.output = w.output
  size : w.heap.size ≤ w'.heap.size
  block : ∀ k, k < w.heap.size → ¬ S k → w'.heap[k]? = w.heap[k]?
theorem Keep.refl (S : Nat → Prop) (w : World) : Keep S w w := ⟨rfl, rfl, rfl, Nat.le_refl _, fun _ _ _ => rfl⟩
theorem Keep.trans {S : Nat → Prop} {a b c : World} (h : Keep S a b) (k : Keep S b c) : Keep S a c :=
  ⟨k.os.trans h.os, k.tape.trans h.tape, k.output.trans h.output, Nat.le_trans h.size k.size, fun i hi hS => (k.block i (Nat.lt_of_lt_of_le hi h.size) hS).trans (h.block i hi hS)⟩
theorem Keep.mono {S T : Nat → Prop} {a b : World} (h : Keep S a b) (hST : ∀ k, k < a.heap.size → S k → T k) : Keep T a b :=
  ⟨h.os, h.tape, h.output, h.size, fun i hi hT => h.block i hi (fun hS => hT (hST i hi hS))⟩
theorem Keep.below {S : Nat → Prop} {B : Nat} {a b : World} (h : Keep S a b) (hB : B ≤ a.heap.size) (hS : ∀ k, S k → B ≤ k) : Below B a b :=
  ⟨h.os, h.tape, h.output, h.size, fun i hi => h.block i (by omega) (fun hs => by have := hS i hs; omega)⟩
theorem Keep.of_below {S : Nat → Prop} {a b : World} (h : Below a.heap.size a b) : Keep S a b := ⟨h.os, h.tape, h.output, h.size, fun i hi _ => h.block i hi⟩
theorem Keep.of_grown {a b : World} {row : Option Nat} (h : a.grownBy b row) : Keep (fun k => row = some k) a b := ⟨h.os, h.tape, h.output, h.size, fun i hi hr => h.block i hi (fun e => hr e.symm)⟩
theorem Below.keep_ {S : Nat → Prop} {B : Nat} {a w w' : World} (h : Below B a w) (k : Keep S w w') (hB : B ≤ w.heap.size) (hS : ∀ k, S k → B ≤ k) : Below B a w' := h.trans (k.below hB hS)
theorem Keep.same {S F : Nat → Prop} {w w' : World} (h : Keep S w w') (hF : ∀ b, F b → b < w.heap.size ∧ ¬ S b) : SameOn F w w' := fun b hb => h.block b (hF b hb).1 (hF b hb).2

/-- What a callee leaves of the cells that were there: two rules for the walk. -/
theorem bcell {W w1 : World} (hb : Below W.heap.size W w1) : (∀ b o, b < W.heap.size → w1.cell? ⟨b, o, none⟩ = W.cell? ⟨b, o, none⟩) ∧ (∀ b o, b < W.heap.size → w1.frozen? ⟨b, o, none⟩ = W.frozen? ⟨b, o, none⟩) :=
  ⟨fun b o h => hb.cell (p := ⟨b, o, none⟩) h, fun b o h => hb.frozen (p := ⟨b, o, none⟩) h⟩

theorem Keep.cell {S : Nat → Prop} {w w' : World} (h : Keep S w w') {a : Addr} {v : Value} (hc : w.cell? a = some v) (hS : ¬ S a.block) : w'.cell? a = some v := by
  have hlt := World.block_lt_of_cell? w _ hc
  unfold World.cell? at hc ⊢
  rw [h.block a.block hlt hS]
  exact hc
theorem Keep.frozen {S : Nat → Prop} {w w' : World} (h : Keep S w w') {a : Addr} (hlt : a.block < w.heap.size) (hS : ¬ S a.block) : w'.frozen? a = w.frozen? a := by
  unfold World.frozen?
  rw [h.block a.block hlt hS]

theorem cell_new (w : World) (cs : Array Value) (t : TypeId) (n : Nat) (v : Value) (h : cs[n]? = some v) : (w.alloc (.cells cs t)).cell? ⟨w.heap.size, n, none⟩ = some v := by
  unfold World.cell?
  rw [heap_alloc_new]
  exact h

theorem Below.then2_ {B : Nat} {a W w' : World} (h : Below B a W) (k : Below W.heap.size W w') (hB : B ≤ a.heap.size) : Below B a w' := h.trans (k.mono (Nat.le_trans hB h.size))
theorem Below.alloc2_ {B : Nat} {a w : World} (h : Below B a w) (hB : B ≤ a.heap.size) (o : Obj) : Below B a (w.alloc o) := h.alloc (Nat.le_trans hB h.size) o

/-- A kind of data: how many cells a value takes, and when cells tell a value, through the blocks of F. -/
structure Ty (α : Type) where
  sz : Nat
  bytes : Nat
  V : α → Prop
  K : (Nat → Prop) → World → List Value → α → Prop
  len : ∀ {F w cs x}, K F w cs x → cs.length = sz
  mono : ∀ {F w w' cs x}, K F w cs x → SameOn F w w' → K F w' cs x
  weak : ∀ {F G w cs x}, K F w cs x → (∀ b, F b → G b) → K G w cs x

/-- A slice's elements, through the blocks of F. -/
def Ty.Sl {α : Type} (t : Ty α) (F : Nat → Prop) (w : World) (A : Option Addr) (xs : List α) : Prop :=
  xs.length * t.bytes ≤ 140737488351232 ∧ (xs = [] ∨ ∃ b o, A = some ⟨b, o, none⟩ ∧ F b ∧ ∀ i x, xs[i]? = some x →
    ∃ cs, t.K F w cs x ∧ ∀ j v, cs[j]? = some v → w.cell? ⟨b, o + i * t.sz + j, none⟩ = some v)

theorem Ty.Sl.mono {α : Type} {t : Ty α} {F : Nat → Prop} {w w' : World} {A : Option Addr} {xs : List α} (h : t.Sl F w A xs) (hs : SameOn F w w') : t.Sl F w' A xs := by
  refine ⟨h.1, ?_⟩
  rcases h.2 with h0 | ⟨b, o, hA, hF, hx⟩
  · exact .inl h0
  · refine .inr ⟨b, o, hA, hF, fun i x hi => ?_⟩
    obtain ⟨cs, hK, hc⟩ := hx i x hi
    exact ⟨cs, t.mono hK hs, fun j v hv => by rw [hs.cell (a := ⟨b, _, none⟩) hF]; exact hc j v hv⟩
theorem Ty.Sl.weak {α : Type} {t : Ty α} {F G : Nat → Prop} {w : World} {A : Option Addr} {xs : List α} (h : t.Sl F w A xs) (hs : ∀ b, F b → G b) : t.Sl G w A xs := by
  refine ⟨h.1, ?_⟩
  rcases h.2 with h0 | ⟨b, o, hA, hF, hx⟩
  · exact .inl h0
  · refine .inr ⟨b, o, hA, hs b hF, fun i x hi => ?_⟩
    obtain ⟨cs, hK, hc⟩ := hx i x hi
    exact ⟨cs, t.weak hK hs, hc⟩
theorem Ty.Sl.nil {α : Type} (t : Ty α) (F : Nat → Prop) (w : World) (A : Option Addr) : t.Sl F w A [] := ⟨by simp, .inl rfl⟩

def Ty.scalar {α : Type} (enc : α → Value) (bytes : Nat) (V : α → Prop) : Ty α where
  sz := 1
  bytes := bytes
  V := V
  K := fun _ _ cs x => cs = [enc x]
  len := by rintro F w cs x rfl; rfl
  mono := fun h _ => h
  weak := fun h _ => h
def Ty.int (k : IntKind) : Ty Int := Ty.scalar (Value.int k) (k.bits / 8) (fun x => (Lit.int k x).wf = true)
def Ty.bool : Ty Bool := Ty.scalar Value.bool 1 (fun _ => True)
def Ty.str : Ty ByteArray := Ty.scalar Value.string 16 (fun s => s.size ≤ 140737488351232)
def Ty.slice {α : Type} (t : Ty α) : Ty (List α) where
  sz := 1
  bytes := 24
  V := fun xs => ∀ x ∈ xs, t.V x
  K := fun F w cs xs => ∃ A c, cs = [.slice A xs.length c] ∧ t.Sl F w A xs
  len := by rintro F w cs x ⟨A, c, rfl, _⟩; rfl
  mono := by rintro F w w' cs x ⟨A, c, rfl, h⟩ hs; exact ⟨A, c, rfl, h.mono hs⟩
  weak := by rintro F w w' cs x ⟨A, c, rfl, h⟩ hs; exact ⟨A, c, rfl, h.weak hs⟩

structure CallD where
  kind : Int
  key : ByteArray
  arg : Int
  got : Bool
  vals : List Int
def Ty.call : Ty CallD where
  sz := 5
  bytes := 64
  V := fun x => (Lit.int .i64 x.kind).wf = true ∧ x.key.size ≤ 140737488351232 ∧ (Lit.int .i64 x.arg).wf = true ∧ ∀ v ∈ x.vals, (Lit.int .i64 v).wf = true
  K := fun F w cs x => ∃ A c, cs = [.int .i64 x.kind, .string x.key, .int .i64 x.arg, .bool x.got, .slice A x.vals.length c] ∧ (Ty.int .i64).Sl F w A x.vals
  len := by rintro F w cs x ⟨A, c, rfl, _⟩; rfl
  mono := by rintro F w w' cs x ⟨A, c, rfl, h⟩ hs; exact ⟨A, c, rfl, h.mono hs⟩
  weak := by rintro F w w' cs x ⟨A, c, rfl, h⟩ hs; exact ⟨A, c, rfl, h.weak hs⟩
structure EventD where
  proc : Int
  kind : Int
  calls : List CallD
def Ty.event : Ty EventD where
  sz := 3
  bytes := 40
  V := fun x => (Lit.int .i64 x.proc).wf = true ∧ (Lit.int .i64 x.kind).wf = true ∧ ∀ c ∈ x.calls, Ty.call.V c
  K := fun F w cs x => ∃ A c, cs = [.int .i64 x.proc, .int .i64 x.kind, .slice A x.calls.length c] ∧ Ty.call.Sl F w A x.calls
  len := by rintro F w cs x ⟨A, c, rfl, _⟩; rfl
  mono := by rintro F w w' cs x ⟨A, c, rfl, h⟩ hs; exact ⟨A, c, rfl, h.mono hs⟩
  weak := by rintro F w w' cs x ⟨A, c, rfl, h⟩ hs; exact ⟨A, c, rfl, h.weak hs⟩

theorem Ty.Sl.len_le {α : Type} {t : Ty α} {F : Nat → Prop} {w : World} {A : Option Addr} {xs : List α} (h : t.Sl F w A xs) (hb : 0 < t.bytes) : xs.length ≤ 140737488351232 :=
  Nat.le_trans (Nat.le_mul_of_pos_right _ hb) h.1
/-- One element of a slice of whole numbers. -/
theorem Ty.Sl.int_at {k : IntKind} {F : Nat → Prop} {w : World} {A : Option Addr} {xs : List Int} (h : (Ty.int k).Sl F w A xs) (i : Nat) (hi : i < xs.length) :
    ∃ b o, A = some ⟨b, o, none⟩ ∧ F b ∧ w.cell? ⟨b, o + i, none⟩ = some (.int k xs[i]) := by
  rcases h.2 with h0 | ⟨b, o, hA, hF, hx⟩
  · subst h0; simp at hi
  · obtain ⟨cs, hK, hc⟩ := hx i xs[i] (by simp [hi])
    have hK' : cs = [.int k xs[i]] := hK
    subst hK'
    exact ⟨b, o, hA, hF, by simpa [Ty.int, Ty.scalar] using hc 0 _ rfl⟩
theorem Ty.Sl.call_at {F : Nat → Prop} {w : World} {A : Option Addr} {xs : List CallD} (h : Ty.call.Sl F w A xs) (i : Nat) (hi : i < xs.length) :
    ∃ b o A' c', A = some ⟨b, o, none⟩ ∧ F b ∧ (Ty.int .i64).Sl F w A' xs[i].vals ∧ w.cell? ⟨b, o + i * 5, none⟩ = some (.int .i64 xs[i].kind) ∧ w.cell? ⟨b, o + i * 5 + 1, none⟩ = some (.string xs[i].key) ∧ w.cell? ⟨b, o + i * 5 + 2, none⟩ = some (.int .i64 xs[i].arg) ∧ w.cell? ⟨b, o + i * 5 + 3, none⟩ = some (.bool xs[i].got) ∧ w.cell? ⟨b, o + i * 5 + 4, none⟩ = some (.slice A' xs[i].vals.length c') := by
  rcases h.2 with h0 | ⟨b, o, hA, hF, hx⟩
  · subst h0; simp at hi
  · obtain ⟨cs, ⟨A', c', rfl, hv⟩, hc⟩ := hx i xs[i] (by simp [hi])
    exact ⟨b, o, A', c', hA, hF, hv, hc 0 _ rfl, hc 1 _ rfl, hc 2 _ rfl, hc 3 _ rfl, hc 4 _ rfl⟩
theorem Ty.Sl.event_at {F : Nat → Prop} {w : World} {A : Option Addr} {xs : List EventD} (h : Ty.event.Sl F w A xs) (i : Nat) (hi : i < xs.length) :
    ∃ b o A' c', A = some ⟨b, o, none⟩ ∧ F b ∧ Ty.call.Sl F w A' xs[i].calls ∧ w.cell? ⟨b, o + i * 3, none⟩ = some (.int .i64 xs[i].proc) ∧ w.cell? ⟨b, o + i * 3 + 1, none⟩ = some (.int .i64 xs[i].kind) ∧ w.cell? ⟨b, o + i * 3 + 2, none⟩ = some (.slice A' xs[i].calls.length c') := by
  rcases h.2 with h0 | ⟨b, o, hA, hF, hx⟩
  · subst h0; simp at hi
  · obtain ⟨cs, ⟨A', c', rfl, hv⟩, hc⟩ := hx i xs[i] (by simp [hi])
    exact ⟨b, o, A', c', hA, hF, hv, hc 0 _ rfl, hc 1 _ rfl, hc 2 _ rfl⟩
end Go.Proofs.Ytjjmedgibcffhaa
