/- Maps in memory: laws for lookup, store and delete over any key type that can be told apart; the same on abstract values. -/
import Derived.Maps.Own
import Derived.Maps.OwnOps
import Derived.Maps.OwnSet
import Derived.LoopN
import Derived.Test.YtjjmedgibcffhaaRMa
namespace Go.Proofs.Ytjjmedgibcffhaa.M
open Go.RowKit Go.MapKept
set_option linter.unusedVariables false
set_option linter.unusedSimpArgs false

/-- What was there stays, but for the blocks of S. -/
structure Keep (S : Nat → Prop) (w w' : World) : Prop where
  os : w'.os = w.os
  tape : w'.tape = w.tape
  output : w'.output = w.output
  size : w.heap.size ≤ w'.heap.size
  block : ∀ k, k < w.heap.size → ¬ S k → w'.heap[k]? = w.heap[k]?

open Classical in
/-- f, but v at k. -/
noncomputable def upd {κ β : Type} (f : κ → β) (k : κ) (v : β) : κ → β := fun q => if q = k then v else f q
theorem upd_same {κ β : Type} (f : κ → β) (k : κ) (v : β) : upd f k v k = v := by simp [upd]
theorem upd_ne {κ β : Type} (f : κ → β) {k q : κ} (v : β) (h : q ≠ k) : upd f k v q = f q := by simp [upd, h]

structure KeyTy (κ : Type) (P : Program) (kt : TypeId) where
  enc : κ → Value
  inj : ∀ {a b : κ}, enc a = enc b → a = b
  check : ∀ (w : World) (em : Bool) (k : κ), (Instr.checkKey em 10000 kt (enc k)).run P w = .ok () w
  find : ∀ (w : World) (k : κ) (es : List MapEntry), (∀ e ∈ es, ∃ k', e.key = enc k') →
    ((Instr.findKey kt (enc k) es).run P w = .ok none w ∧ ∀ e ∈ es, e.key ≠ enc k) ∨ ∃ j e, (Instr.findKey kt (enc k) es).run P w = .ok (some (j, e.val)) w ∧ es[j]? = some e ∧ e.key = enc k
  stays : ∀ (w : World) (k : κ), (Instr.keyThatStays (enc k) (enc k)).run P w = .ok (enc k) w

/-- Equality of structs of plain fields. -/
def plainFields (P : Program) : Nat → List Field → Option (List TypeDesc)
  | _, [] => some []
  | k, f :: fs => if f.name ≠ "_" ∧ f.offset = k then match P.underlying f.type with
      | some (.int q) => (plainFields P (k + 1) fs).map (.int q :: ·)
      | some .bool => (plainFields P (k + 1) fs).map (.bool :: ·)
      | some .string => (plainFields P (k + 1) fs).map (.string :: ·)
      | _ => none
    else none
def eqTys (P : Program) (t : TypeId) : Option (List TypeDesc) :=
  match P.underlying t with
  | some (.struct fs) => if P.stoodInHeld t = false ∧ P.eqGuardType P.depth t = false then plainFields P 0 fs.toList else none
  | _ => none
def scEq : TypeDesc → D → D → Option Bool
  | .int _, .int k a, .int k' b => if k = k' then some (decide (a = b)) else none
  | .bool, .bool a, .bool b => some (a == b)
  | .string, .str a, .str b => some (decide (a = b))
  | _, _, _ => none
def eqCells : List TypeDesc → List D → List D → Option Bool
  | [], [], [] => some true
  | t :: ts, x :: xs, y :: ys => match scEq t x y, eqCells ts xs ys with
    | some a, some b => some (a && b)
    | _, _ => none
  | _, _, _ => none

theorem eqCells_run {P : Program} {g : Gh} {w : World} : ∀ (fs : List Field) (k : Nat) (ts : List TypeDesc) (xs ys : List D) (a_s bs : Array Value) (r : Bool), plainFields P k fs = some ts → eqCells ts xs ys = some r →
    (∀ (j : Nat) (y : D), xs[j]? = some y → RD g.F w y (a_s.getD (k + j) undef)) → (∀ (j : Nat) (y : D), ys[j]? = some y → RD g.F w y (bs.getD (k + j) undef)) → a_s.size = k + xs.length → bs.size = k + ys.length →
    (Op.eqFields 9999 a_s bs fs).run P w = .ok r w
  | [], k, ts, xs, ys, a_s, bs, r, h1, h2, _, _, _, _ => by
    simp [plainFields] at h1
    subst h1
    cases xs <;> cases ys <;> simp [eqCells] at h2
    subst h2
    simp [Op.eqFields]
  | f :: fs, k, ts, xs, ys, a_s, bs, r, h1, h2, ha, hb, hsa, hsb => by
    simp only [plainFields] at h1
    split at h1
    case isFalse => cases h1
    rename_i hc
    obtain ⟨hname, hoff⟩ := hc
    -- the rest
    have rest : ∀ (d : TypeDesc) (ts' : List TypeDesc), P.underlying f.type = some d → (match d with | .struct _ | .array _ _ => true | _ => false) = false → plainFields P (k + 1) fs = some ts' → eqCells (d :: ts') xs ys = some r →
        (∀ (x y : D) (a b : Value) (q : Bool), RD g.F w x a → RD g.F w y b → scEq d x y = some q → (Op.equalIn 9999 f.type a b).run P w = .ok q w) → (Op.eqFields 9999 a_s bs (f :: fs)).run P w = .ok r w := by
      intro d ts' hu hag hts heq hone
      cases xs with
      | nil => simp [eqCells] at heq
      | cons x xs => cases ys with
        | nil => simp [eqCells] at heq
        | cons y ys =>
          simp only [eqCells] at heq
          cases hq : scEq d x y with
          | none => simp [hq] at heq
          | some q => cases hq2 : eqCells ts' xs ys with
            | none => simp [hq, hq2] at heq
            | some q2 =>
              simp [hq, hq2] at heq
              have hka : k < a_s.size := by rw [hsa]; simp
              have hkb : k < bs.size := by rw [hsb]; simp
              have e1 : (part f.type a_s f.offset).run P w = .ok (a_s.getD k undef) w := by
                rw [hoff]
                simp [part, isAgg, run_underlying hu]
                cases d <;> simp_all
              have e2 : (part f.type bs f.offset).run P w = .ok (bs.getD k undef) w := by
                rw [hoff]
                simp [part, isAgg, run_underlying hu]
                cases d <;> simp_all
              have e3 := hone x y _ _ q (ha 0 x (by simp)) (hb 0 y (by simp)) hq
              have ih := eqCells_run fs (k + 1) ts' xs ys a_s bs q2 hts hq2 (fun j z hz => by have := ha (j + 1) z (by simpa using hz); rw [show k + 1 + j = k + (j + 1) by omega]; exact this) (fun j z hz => by have := hb (j + 1) z (by simpa using hz); rw [show k + 1 + j = k + (j + 1) by omega]; exact this) (by rw [hsa]; simp; omega) (by rw [hsb]; simp; omega)
              simp only [Op.eqFields, if_pos hname, Sem.run_bind, e1, e2, Result.andThen_ok]
              simp only [Nat.add_zero] at e3
              rw [e3]
              cases q
              · simp only [Result.andThen_ok, Bool.not_false, if_true, Sem.run_pure]
                simp at heq
                rw [heq]
              · simp only [Result.andThen_ok, Bool.not_true, Bool.false_eq_true, if_false]
                simp at heq
                rw [ih, heq]
    split at h1
    · rename_i q hq
      simp only [Option.map_eq_some_iff] at h1
      obtain ⟨ts', hts, rfl⟩ := h1
      refine rest _ ts' hq rfl hts h2 fun x y a b r hx hy he => ?_
      cases hx <;> cases hy <;> simp [scEq] at he
      obtain ⟨rfl, rfl⟩ := he
      rename_i k' n m
      rw [run_equalIn_int w 9998 f.type k' q n m hq]
      rfl
    · rename_i hq
      simp only [Option.map_eq_some_iff] at h1
      obtain ⟨ts', hts, rfl⟩ := h1
      refine rest _ ts' hq rfl hts h2 fun x y a b r hx hy he => ?_
      cases hx <;> cases hy <;> simp [scEq] at he
      subst he
      exact run_equalIn_bool' w 9998 f.type _ _ hq
    · rename_i hq
      simp only [Option.map_eq_some_iff] at h1
      obtain ⟨ts', hts, rfl⟩ := h1
      refine rest _ ts' hq rfl hts h2 fun x y a b r hx hy he => ?_
      cases hx <;> cases hy <;> simp [scEq] at he
      subst he
      rw [run_equalIn_string w 9998 f.type _ _ hq, toList_beq]
    · cases h1

theorem wf64 {n : Int} (h1 : -9223372036854775808 ≤ n) (h2 : n ≤ 9223372036854775807) : (Lit.int .i64 n).wf = true := WalkArith.wf_i64 ⟨h1, h2⟩

/-- Whole numbers a_s keys. -/
def KeyTy.int {P : Program} {kt : TypeId} {q : IntKind} (hk : P.underlying kt = some (.int q)) : KeyTy Int P kt where
  enc := Value.int q
  inj := fun h => by injection h
  check := fun w em k => run_checkKey hk (show IsKey (.int q) (.int q k) from rfl) em 9999
  find := fun w k es hes => by
    have hks : ∀ y ∈ es, IsKey (.int q) y.key := fun y hy => by
      obtain ⟨k', hk'⟩ := hes y hy
      rw [hk']
      exact rfl
    rcases findNow_spec (show IsKey (.int q) (.int q k) from rfl) es 0 hks with ⟨h1, h2⟩ | ⟨j, e0, h1, h2, h3⟩
    · exact Or.inl ⟨run_findKey hk h1, h2⟩
    · exact Or.inr ⟨j, e0, by simpa using run_findKey hk h1, h2, h3⟩
  stays := fun w k => run_keyThatStays (show IsKey (.int q) (.int q k) from rfl)
/-- Texts a_s keys. -/
def KeyTy.str {P : Program} {kt : TypeId} (hk : P.underlying kt = some .string) : KeyTy ByteArray P kt where
  enc := Value.string
  inj := fun h => by injection h
  check := fun w em k => run_checkKey hk (show IsKey .string (.string k) from trivial) em 9999
  find := fun w k es hes => by
    have hks : ∀ y ∈ es, IsKey .string y.key := fun y hy => by
      obtain ⟨k', hk'⟩ := hes y hy
      rw [hk']
      exact trivial
    rcases findNow_spec (show IsKey .string (.string k) from trivial) es 0 hks with ⟨h1, h2⟩ | ⟨j, e0, h1, h2, h3⟩
    · exact Or.inl ⟨run_findKey hk h1, h2⟩
    · exact Or.inr ⟨j, e0, by simpa using run_findKey hk h1, h2, h3⟩
  stays := fun w k => run_keyThatStays (show IsKey .string (.string k) from trivial)

/-- Structs of a text and a number a_s keys. -/
theorem pair_spec {P : Program} {kt : TypeId} {q : IntKind} (h : eqTys P kt = some [.string, .int q]) : ∃ (fs : Array Field) (f1 f2 : Field), P.underlying kt = some (.struct fs) ∧ fs.toList = [f1, f2] ∧ P.stoodInHeld kt = false ∧ plainFields P 0 fs.toList = some [.string, .int q] ∧
    f1.name ≠ "_" ∧ f1.offset = 0 ∧ P.underlying f1.type = some .string ∧ f2.name ≠ "_" ∧ f2.offset = 1 ∧ P.underlying f2.type = some (.int q) := by
  unfold eqTys at h
  split at h
  case h_2 => cases h
  rename_i fs hu
  split at h
  case isFalse => cases h
  rename_i hc
  have key : ∀ l : List Field, plainFields P 0 l = some [.string, .int q] → ∃ f1 f2, l = [f1, f2] ∧ f1.name ≠ "_" ∧ f1.offset = 0 ∧ P.underlying f1.type = some .string ∧ f2.name ≠ "_" ∧ f2.offset = 1 ∧ P.underlying f2.type = some (.int q) := by
    intro l hl
    cases l with
    | nil => simp [plainFields] at hl
    | cons f1 l =>
      simp only [plainFields] at hl
      split at hl
      case isFalse => cases hl
      rename_i h1
      split at hl
      · simp only [Option.map_eq_some_iff] at hl
        obtain ⟨_, _, e⟩ := hl
        simp at e
      · simp only [Option.map_eq_some_iff] at hl
        obtain ⟨_, _, e⟩ := hl
        simp at e
      · rename_i hu1
        simp only [Option.map_eq_some_iff] at hl
        obtain ⟨ts, hl, e⟩ := hl
        injection e with e1 e2
        subst e2
        cases l with
        | nil => simp [plainFields] at hl
        | cons f2 l =>
          simp only [plainFields] at hl
          split at hl
          case isFalse => cases hl
          rename_i h2
          split at hl
          · rename_i q' hu2
            simp only [Option.map_eq_some_iff] at hl
            obtain ⟨ts, hl, e⟩ := hl
            injection e with e1 e2
            injection e1 with e1
            subst e1 e2
            cases l with
            | nil => exact ⟨f1, f2, rfl, h1.1, h1.2, hu1, h2.1, h2.2, hu2⟩
            | cons f3 l =>
              simp only [plainFields] at hl
              split at hl
              · split at hl <;> simp at hl
              · cases hl
          · simp only [Option.map_eq_some_iff] at hl
            obtain ⟨_, _, e⟩ := hl
            simp at e
          · simp only [Option.map_eq_some_iff] at hl
            obtain ⟨_, _, e⟩ := hl
            simp at e
          · cases hl
      · cases hl
  obtain ⟨f1, f2, e, r⟩ := key _ h
  exact ⟨fs, f1, f2, hu, e, hc.1, h, r⟩
theorem pair_inj {q : IntKind} {a b : ByteArray × Int} (h : pairKey q a = pairKey q b) : a = b := by
  obtain ⟨a1, a2⟩ := a
  obtain ⟨b1, b2⟩ := b
  simpa [pairKey] using h
theorem pair_check {P : Program} {kt : TypeId} {q : IntKind} (h : eqTys P kt = some [.string, .int q]) (w : World) (em : Bool) (k : ByteArray × Int) : (Instr.checkKey em 10000 kt (pairKey q k)).run P w = .ok () w := by
  obtain ⟨fs, f1, f2, hu, e, _, _, n1, o1, u1, n2, o2, u2⟩ := pair_spec h
  have p1 : (part f1.type #[.string k.1, .int q k.2] f1.offset).run P w = .ok (.string k.1) w := by
    rw [o1]
    simp [part, isAgg, run_underlying u1]
  have p2 : (part f2.type #[.string k.1, .int q k.2] f2.offset).run P w = .ok (.int q k.2) w := by
    rw [o2]
    simp [part, isAgg, run_underlying u2]
  have c1 : (Instr.checkKey em 9999 f1.type (.string k.1)).run P w = .ok () w := run_checkKey u1 (show IsKey .string (.string k.1) from trivial) em 9998
  have c2 : (Instr.checkKey em 9999 f2.type (.int q k.2)).run P w = .ok () w := run_checkKey u2 (show IsKey (.int q) (.int q k.2) from rfl) em 9998
  rw [show (10000 : Nat) = 9999 + 1 from rfl, Instr.checkKey]
  simp only [pairKey, Sem.run_bind, run_underlying hu, Result.andThen_ok]
  rw [← Array.forIn_toList, e]
  simp only [List.forIn_cons, List.forIn_nil, Sem.run_bind, n1, n2, ne_eq, not_false_eq_true, if_true, Result.andThen_ok, p1, p2, c1, c2, Sem.run_pure]
theorem pair_equal {P : Program} {kt : TypeId} {q : IntKind} (h : eqTys P kt = some [.string, .int q]) (w : World) (a b : ByteArray × Int) : (Op.equal kt (pairKey q a) (pairKey q b)).run P w = .ok (decide (a = b)) w := by
  obtain ⟨fs, f1, f2, hu, e, hst, hpf, _⟩ := pair_spec h
  have hfo : P.fieldsOf kt = fs := by simp [Program.fieldsOf, hu]
  have hu' : P.underlying kt = some (.struct (P.fieldsOf kt)) := by rw [hfo]; exact hu
  have hr : ∀ (c : ByteArray × Int) (j : Nat) (y : D), [D.str c.1, .int q c.2][j]? = some y → RD (fun _ => False) w y ((#[Value.string c.1, .int q c.2] : Array Value).getD (0 + j) undef) := fun c j y hy => by
    match j, hy with
    | 0, hy => simp at hy; subst hy; exact .str _
    | 1, hy => simp at hy; subst hy; exact .int _ _
    | j + 2, hy => simp at hy
  have := eqCells_run (P := P) (g := ⟨fun _ => ⟨none, 0, 0, 0⟩, fun _ => False, fun _ => False⟩) (w := w) fs.toList 0 _ [.str a.1, .int q a.2] [.str b.1, .int q b.2] #[.string a.1, .int q a.2] #[.string b.1, .int q b.2] (decide (a = b)) hpf
    (by obtain ⟨a1, a2⟩ := a; obtain ⟨b1, b2⟩ := b; simp [eqCells, scEq]) (hr a) (hr b) (by simp) (by simp)
  show (Op.equalIn (9999 + 1) kt (.agg #[.string a.1, .int q a.2]) (.agg #[.string b.1, .int q b.2])).run P w = _
  rw [run_equalIn_struct w 9999 kt _ _ hu' hst, hfo]
  exact this
theorem pair_find {P : Program} {kt : TypeId} {q : IntKind} (h : eqTys P kt = some [.string, .int q]) (w : World) (k : ByteArray × Int) (es : List MapEntry) (hes : ∀ e ∈ es, ∃ k', e.key = pairKey q k') :
    ((Instr.findKey kt (pairKey q k) es).run P w = .ok none w ∧ ∀ e ∈ es, e.key ≠ pairKey q k) ∨ ∃ j e, (Instr.findKey kt (pairKey q k) es).run P w = .ok (some (j, e.val)) w ∧ es[j]? = some e ∧ e.key = pairKey q k := by
  obtain ⟨fs, f1, f2, hu, _⟩ := pair_spec h
  have ask : ∀ (es : List MapEntry) (i : Nat), (∀ e ∈ es, ∃ k', e.key = pairKey q k') →
      ((Instr.findAsking kt (pairKey q k) es i).run P w = .ok none w ∧ ∀ e ∈ es, e.key ≠ pairKey q k) ∨ ∃ j e, (Instr.findAsking kt (pairKey q k) es i).run P w = .ok (some (i + j, e.val)) w ∧ es[j]? = some e ∧ e.key = pairKey q k := by
    intro es
    induction es with
    | nil => intro i _; exact .inl ⟨by simp [Instr.findAsking], by simp⟩
    | cons e es ih =>
      intro i hall
      obtain ⟨k', hk'⟩ := hall e (by simp)
      have he := pair_equal h w k k'
      rw [← hk'] at he
      by_cases hkk : k = k'
      · refine .inr ⟨0, e, ?_, rfl, by rw [hk', hkk]⟩
        have hd : decide (k = k') = true := by simp [hkk]
        simp [Instr.findAsking, he, hd]
      · have hne : e.key ≠ pairKey q k := fun h' => hkk (pair_inj (h'.symm.trans hk'))
        have hd : decide (k = k') = false := by simp [hkk]
        rcases ih (i + 1) (fun y hy => hall y (by simp [hy])) with ⟨h1, h2⟩ | ⟨j, e', h1, h2, h3⟩
        · refine .inl ⟨by simp [Instr.findAsking, he, hd, h1], fun y hy => ?_⟩
          rcases List.mem_cons.1 hy with rfl | hy
          · exact hne
          · exact h2 y hy
        · exact .inr ⟨j + 1, e', by simp [Instr.findAsking, he, hd, h1, Nat.add_assoc, Nat.add_comm 1 j], by simpa using h2, h3⟩
  have hf : (Instr.findKey kt (pairKey q k) es).run P w = (Instr.findAsking kt (pairKey q k) es 0).run P w := by
    cases es with
    | nil => simp [Instr.findKey, run_underlying hu, Instr.findNow, Instr.findAsking]
    | cons e es => simp [Instr.findKey, run_underlying hu, Instr.findNow, Instr.sameNow]
  rw [hf]
  simpa using ask es 0 hes
theorem pair_stays {P : Program} {q : IntKind} (w : World) (k : ByteArray × Int) : (Instr.keyThatStays (pairKey q k) (pairKey q k)).run P w = .ok (pairKey q k) w := by
  have : Instr.sameBits 10000 (pairKey q k) (pairKey q k) = true := by
    rw [show (10000 : Nat) = 9999 + 1 from rfl]
    simp [pairKey, Instr.sameBits, bytes_beq]
  simp [Instr.keyThatStays, this]
def KeyTy.pair {P : Program} {kt : TypeId} {q : IntKind} (h : eqTys P kt = some [.string, .int q]) : KeyTy (ByteArray × Int) P kt where
  enc := pairKey q
  inj := pair_inj
  check := pair_check h
  find := pair_find h
  stays := pair_stays

section
variable {κ : Type} {P : Program} {kt : TypeId}

/-- Block b holds a map that reads a_s f. -/
def MapAt (K : KeyTy κ P kt) (w : World) (b : Nat) (f : κ → Option Value) : Prop := MapIn K.enc w b f

theorem MapAt.same {K : KeyTy κ P kt} {w w' : World} {b : Nat} {f : κ → Option Value} (h : MapAt K w b f) (hs : w'.heap[b]? = w.heap[b]?) : MapAt K w' b f := by
  obtain ⟨es, clock, hb, h1, h2, h3⟩ := h
  exact ⟨es, clock, hs.trans hb, h1, h2, h3⟩
theorem MapAt.lt {K : KeyTy κ P kt} {w : World} {b : Nat} {f : κ → Option Value} (h : MapAt K w b f) : b < w.heap.size := by
  obtain ⟨es, clock, hb, _⟩ := h
  exact (Array.getElem?_eq_some_iff.1 hb).1
theorem MapAt.ext {K : KeyTy κ P kt} {w : World} {b : Nat} {f g : κ → Option Value} (h : MapAt K w b f) (hfg : ∀ k, f k = g k) : MapAt K w b g := by
  rw [← funext hfg]
  exact h
theorem MapAt.made (K : KeyTy κ P kt) (w : World) : MapAt K (w.alloc (.map #[] 0)) w.heap.size (fun _ => none) :=
  ⟨#[], 0, by show (w.heap.push _)[w.heap.size]? = _; simp, by simp, by simp, by simp⟩

/-- What is found of a key. -/
theorem MapAt.found {K : KeyTy κ P kt} {w : World} {b : Nat} {f : κ → Option Value} (h : MapAt K w b f) (k : κ) :
    ∃ es clock, w.heap[b]? = some (.map es clock) ∧ (((Instr.findKey kt (K.enc k) es.toList).run P w = .ok none w ∧ f k = none ∧ ∀ e ∈ es.toList, e.key ≠ K.enc k) ∨
      ∃ j e, (Instr.findKey kt (K.enc k) es.toList).run P w = .ok (some (j, e.val)) w ∧ f k = some e.val ∧ es.toList[j]? = some e ∧ e.key = K.enc k) := by
  obtain ⟨es, clock, hb, h1, h2, h3⟩ := h
  refine ⟨es, clock, hb, ?_⟩
  rcases K.find w k es.toList h1 with ⟨hr, hn⟩ | ⟨j, e, hr, hj, he⟩
  · refine .inl ⟨hr, ?_, hn⟩
    cases hf : f k with
    | none => rfl
    | some v =>
      obtain ⟨e, he, hk, _⟩ := (h3 k v).1 hf
      exact absurd hk (hn e he)
  · exact .inr ⟨j, e, hr, (h3 k e.val).2 ⟨e, List.mem_of_getElem? hj, he, rfl⟩, hj, he⟩

theorem MapAt.run_lookup {K : KeyTy κ P kt} {w : World} {b : Nat} {f : κ → Option Value} (h : MapAt K w b f) {t et : TypeId} (ht : P.underlying t = some (.map kt et)) {z : Value} (hz : (zeroValue et).run P w = .ok z w) (k : κ) :
    (Instr.lookup t (.map (some b)) (K.enc k) true).run P w = .ok (.tuple #[(f k).getD z, .bool (f k).isSome]) w := by
  obtain ⟨es, clock, hb, hc⟩ := h.found k
  rcases hc with ⟨hr, hf, _⟩ | ⟨j, e, hr, hf, _, _⟩
  · simp [Instr.lookup, run_underlying ht, getObj, Sem.run, hb, K.check, hr, hf, hz, Result.andThen]
  · simp [Instr.lookup, run_underlying ht, getObj, Sem.run, hb, K.check, hr, hf, Result.andThen]
theorem MapAt.run_lookup1 {K : KeyTy κ P kt} {w : World} {b : Nat} {f : κ → Option Value} (h : MapAt K w b f) {t et : TypeId} (ht : P.underlying t = some (.map kt et)) {z : Value} (hz : (zeroValue et).run P w = .ok z w) (k : κ) :
    (Instr.lookup t (.map (some b)) (K.enc k) false).run P w = .ok ((f k).getD z) w := by
  obtain ⟨es, clock, hb, hc⟩ := h.found k
  rcases hc with ⟨hr, hf, _⟩ | ⟨j, e, hr, hf, _, _⟩
  · simp [Instr.lookup, run_underlying ht, getObj, Sem.run, hb, K.check, hr, hf, hz, Result.andThen]
  · simp [Instr.lookup, run_underlying ht, getObj, Sem.run, hb, K.check, hr, hf, Result.andThen]

theorem getElem?_lt {α : Type} {l : List α} {j : Nat} {e : α} (h : l[j]? = some e) : j < l.length := (List.getElem?_eq_some_iff.1 h).1

theorem setObj_keep {w : World} {b : Nat} {o : Obj} (_h : b < w.heap.size) : Keep (fun k => k = b) w { w with heap := w.heap.setIfInBounds b o } :=
  ⟨rfl, rfl, rfl, by simp, fun k _ hk => by simp [Array.getElem?_setIfInBounds]; intro e; exact absurd e.symm hk⟩

theorem setObj_at {w : World} {b : Nat} (o : Obj) (h : b < w.heap.size) : ({ w with heap := w.heap.setIfInBounds b o } : World).heap[b]? = some o := by
  simp [Array.getElem?_setIfInBounds, h]

open Classical in
/-- m[k] = v. -/
theorem MapAt.run_update {K : KeyTy κ P kt} {w : World} {b : Nat} {f : κ → Option Value} (h : MapAt K w b f) {t et : TypeId} (ht : P.underlying t = some (.map kt et)) (k : κ) (v : Value) :
    ∃ w', (Instr.mapUpdate t (.map (some b)) (K.enc k) v).run P w = .ok () w' ∧ MapAt K w' b (upd f k (some v)) ∧ Keep (fun i => i = b) w w' ∧ w'.heap.size = w.heap.size := by
  have h' := h
  obtain ⟨es0, clock0, hb0, h1, h2, h3⟩ := h'
  obtain ⟨es, clock, hb, hc⟩ := h.found k
  obtain ⟨rfl, rfl⟩ : es = es0 ∧ clock = clock0 := by
    rw [hb0] at hb
    injection hb with hb
    injection hb with e1 e2
    exact ⟨e1.symm, e2.symm⟩
  have hlt := h.lt
  rcases hc with ⟨hr, hf, hno⟩ | ⟨j, e, hr, hf, hj, he⟩
  · refine ⟨{ w with heap := w.heap.setIfInBounds b (.map (es.push { key := K.enc k, val := v, born := clock }) (clock + 1)) }, ?_, ?_, setObj_keep hlt, by simp⟩
    · simp [Instr.mapUpdate, run_underlying ht, getObj, setObj, Sem.run, hb, K.check, hr, Result.andThen]
    · refine ⟨_, _, setObj_at _ hlt, ?_, ?_, ?_⟩
      · intro x hx
        simp at hx
        rcases hx with hx | rfl
        · exact h1 x (by simpa using hx)
        · exact ⟨k, rfl⟩
      · simp only [Array.toList_push]
        rw [List.pairwise_append]
        refine ⟨h2, by simp, ?_⟩
        intro x hx y hy
        simp at hy
        subst hy
        exact hno x hx
      · intro k' v'
        by_cases hk : k' = k
        · subst hk
          simp only [upd_same, Option.some.injEq]
          constructor
          · rintro rfl
            exact ⟨{ key := K.enc k', val := v, born := clock }, by simp, rfl, rfl⟩
          · rintro ⟨x, hx, hk2, rfl⟩
            simp at hx
            rcases hx with hx | rfl
            · exact absurd hk2 (hno x (by simpa using hx))
            · rfl
        · rw [upd_ne _ _ hk, h3]
          constructor
          · rintro ⟨x, hx, r⟩
            exact ⟨x, by simp at hx ⊢; exact .inl hx, r⟩
          · rintro ⟨x, hx, hk2, r⟩
            simp at hx
            rcases hx with hx | rfl
            · exact ⟨x, by simpa using hx, hk2, r⟩
            · exact absurd (K.inj hk2).symm hk
  · have hjl : j < es.size := by have := getElem?_lt hj; simpa using this
    have hje : es[j]? = some e := by simpa using hj
    refine ⟨{ w with heap := w.heap.setIfInBounds b (.map (es.modify j fun e => { e with key := K.enc k, val := v }) clock) }, ?_, ?_, setObj_keep hlt, by simp⟩
    · simp [Instr.mapUpdate, run_underlying ht, getObj, setObj, Sem.run, hb, K.check, hr, Result.andThen, hje, he, K.stays]
    · have hmod : (es.modify j fun e => { e with key := K.enc k, val := v }).toList = es.toList.set j { e with key := K.enc k, val := v } := by
        apply List.ext_getElem?
        intro i
        simp only [Array.getElem?_toList, Array.getElem?_modify, List.getElem?_set]
        by_cases hij : j = i
        · subst hij
          have := (Array.getElem?_eq_some_iff.1 hje).2
          simp [hjl, this]
        · simp [hij]
      have hmem : ∀ x, x ∈ es.toList.set j { e with key := K.enc k, val := v } ↔ x = { e with key := K.enc k, val := v } ∨ (x ∈ es.toList ∧ x.key ≠ K.enc k) := by
        intro x
        constructor
        · intro hx
          obtain ⟨i, hi, rfl⟩ := List.getElem_of_mem hx
          rw [List.getElem_set]
          split
          · exact .inl rfl
          · rename_i hne
            refine .inr ⟨List.getElem_mem _, fun hk => ?_⟩
            have hil : i < es.toList.length := by simpa using hi
            have := List.pairwise_iff_getElem.1 h2
            have ej : es.toList[j]'(by simpa using hjl) = e := (List.getElem?_eq_some_iff.1 hj).2
            rcases Nat.lt_or_ge i j with hij | hij
            · exact this i j hil (by simpa using hjl) hij (by rw [ej, he, hk])
            · exact this j i (by simpa using hjl) hil (by omega) (by rw [ej, he, hk])
        · rintro (rfl | ⟨hx, hk⟩)
          · exact List.mem_iff_getElem.2 ⟨j, by simpa using hjl, by simp⟩
          · obtain ⟨i, hi, rfl⟩ := List.getElem_of_mem hx
            have hne : j ≠ i := by
              rintro rfl
              exact hk (by rw [(List.getElem?_eq_some_iff.1 hj).2, he])
            exact List.mem_iff_getElem.2 ⟨i, by simpa using hi, by rw [List.getElem_set, if_neg hne]⟩
      refine ⟨_, _, setObj_at _ hlt, ?_, ?_, ?_⟩
      · rw [hmod]
        intro x hx
        rcases (hmem x).1 hx with rfl | ⟨hx, _⟩
        · exact ⟨k, rfl⟩
        · exact h1 x hx
      · rw [hmod, List.pairwise_iff_getElem]
        intro i i' hi hi' hii
        have h2' := List.pairwise_iff_getElem.1 h2
        have ej : es.toList[j]'(by simpa using hjl) = e := (List.getElem?_eq_some_iff.1 hj).2
        have hil : i < es.toList.length := by simpa using hi
        have hil' : i' < es.toList.length := by simpa using hi'
        rw [List.getElem_set, List.getElem_set]
        split
        · rename_i e1
          subst e1
          rw [if_neg (by omega)]
          have := h2' j i' hil hil' hii
          rw [ej, he] at this
          exact this
        · split
          · rename_i e1 e2
            subst e2
            have := h2' i j hil hil' hii
            rw [ej, he] at this
            exact this
          · exact h2' i i' hil hil' hii
      · intro k' v'
        rw [hmod]
        by_cases hk : k' = k
        · subst hk
          simp only [upd_same, Option.some.injEq]
          constructor
          · rintro rfl
            exact ⟨_, (hmem _).2 (.inl rfl), rfl, rfl⟩
          · rintro ⟨x, hx, hk2, rfl⟩
            rcases (hmem x).1 hx with rfl | ⟨_, hne⟩
            · rfl
            · exact absurd hk2 hne
        · rw [upd_ne _ _ hk, h3]
          constructor
          · rintro ⟨x, hx, hk2, r⟩
            exact ⟨x, (hmem x).2 (.inr ⟨hx, fun h => hk (K.inj (hk2.symm.trans h))⟩), hk2, r⟩
          · rintro ⟨x, hx, hk2, r⟩
            rcases (hmem x).1 hx with rfl | ⟨hx, _⟩
            · exact absurd (K.inj hk2).symm hk
            · exact ⟨x, hx, hk2, r⟩

open Classical in
/-- delete(m, k). -/
theorem MapAt.run_delete {K : KeyTy κ P kt} {w : World} {b : Nat} {f : κ → Option Value} (h : MapAt K w b f) {t et : TypeId} (ht : P.underlying t = some (.map kt et)) (k : κ) (ty : TypeId) :
    ∃ w', (Builtin.delete_ #[t, kt] ty #[.map (some b), K.enc k]).run P w = .ok (.tuple #[]) w' ∧ MapAt K w' b (upd f k none) ∧ Keep (fun i => i = b) w w' ∧ w'.heap.size = w.heap.size := by
  have h' := h
  obtain ⟨es0, clock0, hb0, h1, h2, h3⟩ := h'
  obtain ⟨es, clock, hb, hc⟩ := h.found k
  obtain ⟨rfl, rfl⟩ : es = es0 ∧ clock = clock0 := by
    rw [hb0] at hb
    injection hb with hb
    injection hb with e1 e2
    exact ⟨e1.symm, e2.symm⟩
  have hlt := h.lt
  rcases hc with ⟨hr, hf, hno⟩ | ⟨j, e, hr, hf, hj, he⟩
  · refine ⟨{ w with heap := w.heap.setIfInBounds b (.map es clock) }, ?_, ⟨es, clock, setObj_at _ hlt, h1, h2, ?_⟩, setObj_keep hlt, by simp⟩
    · simp [Builtin.delete_, run_underlying ht, getObj, setObj, Sem.run, hb, K.check, hr, Result.andThen]
    · intro k' v'
      by_cases hk : k' = k
      · subst hk
        simp only [upd_same]
        constructor
        · intro h; cases h
        · rintro ⟨x, hx, hk2, _⟩
          exact absurd hk2 (hno x hx)
      · rw [upd_ne _ _ hk, h3]
  · have hjl : j < es.size := by have := getElem?_lt hj; simpa using this
    refine ⟨{ w with heap := w.heap.setIfInBounds b (.map (es.eraseIdxIfInBounds j) clock) }, ?_, ?_, setObj_keep hlt, by simp⟩
    · simp [Builtin.delete_, run_underlying ht, getObj, setObj, Sem.run, hb, K.check, hr, Result.andThen]
    · have hmod : (es.eraseIdxIfInBounds j).toList = es.toList.eraseIdx j := by simp [Array.eraseIdxIfInBounds, hjl]
      have hmem : ∀ x, x ∈ es.toList.eraseIdx j ↔ (x ∈ es.toList ∧ x.key ≠ K.enc k) := by
        intro x
        have ej : es.toList[j]'(by simpa using hjl) = e := (List.getElem?_eq_some_iff.1 hj).2
        rw [List.mem_eraseIdx_iff_getElem]
        constructor
        · rintro ⟨i, hi, hij, rfl⟩
          refine ⟨List.getElem_mem _, fun hk => ?_⟩
          have := List.pairwise_iff_getElem.1 h2
          rcases Nat.lt_or_ge i j with hlt' | hge
          · exact this i j hi (by simpa using hjl) hlt' (by rw [ej, he, hk])
          · exact this j i (by simpa using hjl) hi (by omega) (by rw [ej, he, hk])
        · rintro ⟨hx, hk⟩
          obtain ⟨i, hi, rfl⟩ := List.getElem_of_mem hx
          exact ⟨i, hi, by rintro rfl; exact hk (by rw [ej, he]), rfl⟩
      refine ⟨_, _, setObj_at _ hlt, ?_, ?_, ?_⟩
      · rw [hmod]
        intro x hx
        exact h1 x ((hmem x).1 hx).1
      · rw [hmod]
        exact h2.sublist (List.eraseIdx_sublist _ _)
      · intro k' v'
        rw [hmod]
        by_cases hk : k' = k
        · subst hk
          simp only [upd_same]
          constructor
          · intro h; cases h
          · rintro ⟨x, hx, hk2, _⟩
            exact absurd hk2 ((hmem x).1 hx).2
        · rw [upd_ne _ _ hk, h3]
          constructor
          · rintro ⟨x, hx, hk2, r⟩
            exact ⟨x, (hmem x).2 ⟨hx, fun h => hk (K.inj (hk2.symm.trans h))⟩, hk2, r⟩
          · rintro ⟨x, hx, hk2, r⟩
            exact ⟨x, ((hmem x).1 hx).1, hk2, r⟩
end


/-- Keys by the type of the map. -/
instance : DecidableEq KK := fun a b =>
  match a, b with
  | .int i, .int j => if h : i = j then isTrue (by rw [h]) else isFalse (fun e => h (by injection e))
  | .str, .str => isTrue rfl
  | .pair i, .pair j => if h : i = j then isTrue (by rw [h]) else isFalse (fun e => h (by injection e))
  | .int _, .str | .int _, .pair _ | .str, .int _ | .str, .pair _ | .pair _, .int _ | .pair _, .str => isFalse (by simp)
def kkOf (P : Program) (kt : TypeId) : Option KK :=
  match P.underlying kt with
  | some (.int k) => some (.int k)
  | some .string => some .str
  | _ => match eqTys P kt with
    | some [.string, .int q] => some (.pair q)
    | _ => none
def mapTy (P : Program) (t : TypeId) : Option (KK × TypeId × TypeId) :=
  match P.underlying t with
  | some (.map kt et) => (kkOf P kt).map fun kk => (kk, kt, et)
  | _ => none
def keyOk : KK → D → Bool
  | .int k, .int k' _ => k == k'
  | .str, .str _ => true
  | .pair k, .agg [.str _, .int k' _] => k == k'
  | _, _ => false
theorem mapTy_spec {P : Program} {t kt et : TypeId} {kk : KK} (h : mapTy P t = some (kk, kt, et)) : P.underlying t = some (.map kt et) ∧ kkOf P kt = some kk := by
  unfold mapTy at h
  split at h
  · rename_i kt' et' he
    simp only [Option.map_eq_some_iff] at h
    obtain ⟨kk', h1, h2⟩ := h
    injection h2 with h2 h3
    injection h3 with h3 h4
    subst h2 h3 h4
    exact ⟨he, h1⟩
  · cases h

open Classical in
noncomputable def updD (m : D → Option V) (k : D) (v : Option V) : D → Option V := fun q => if q = k then v else m q

def evalLookup (P : Program) (t : TypeId) (m k : V) (ok : Bool) (blk : Option Blk) : Option V :=
  match mapTy P t, m, k, blk with
  | some (kk, _, et), .map nm, .d key, some (.map kk' f) => match tinf P et with
    | some ti => if kk' = kk ∧ keyOk kk key = true then some (if ok then .tup [(f key).getD (ofConst ti.zero), .d (.bool (f key).isSome)] else (f key).getD (ofConst ti.zero)) else none
    | none => none
  | _, _, _, _ => none
noncomputable def evalUpdate (P : Program) (t : TypeId) (m k : V) (v : Option V) (blk : Option Blk) : Option Blk :=
  match mapTy P t, m, k, blk with
  | some (kk, _, _), .map nm, .d key, some (.map kk' f) => if kk' = kk ∧ keyOk kk key = true then some (.map kk (updD f key v)) else none
  | _, _, _, _ => none

theorem pair_key {F : Nat → Prop} {w : World} {q : IntKind} {x : D} {b : Value} (h : keyOk (.pair q) x = true) (hb : RD F w x b) : ∃ s i, x = .agg [.str s, .int q i] ∧ b = pairKey q (s, i) := by
  unfold keyOk at h
  split at h <;> simp_all
  rename_i s k' i
  cases hb with
  | agg _ vs hl hr =>
    have h0 := hr 0 _ rfl
    have h1 := hr 1 _ rfl
    obtain ⟨l⟩ := vs
    match l, hl with
    | [a, b], _ =>
      simp at h0 h1
      cases h0
      cases h1
      exact ⟨s, i, ⟨rfl, rfl⟩, rfl⟩

theorem OptRV.getD {g : Gh} {w : World} {x : Option V} {v : Option Value} (h : OptRV g w x v) {z : V} {zv : Value} (hz : RV g w z zv) : RV g w (x.getD z) (v.getD zv) ∧ x.isSome = v.isSome := by
  cases h with
  | none => exact ⟨hz, rfl⟩
  | some h => exact ⟨h, rfl⟩

theorem tupRV2 {g : Gh} {w : World} {x y : V} {a b : Value} (hx : RV g w x a) (hy : RV g w y b) : RV g w (.tup [x, y]) (.tuple #[a, b]) := by
  refine .tup _ _ rfl fun j z hz => ?_
  match j, hz with
  | 0, hz => simp at hz; subst hz; exact hx
  | 1, hz => simp at hz; subst hz; exact hy
  | j + 2, hz => simp at hz

theorem evalLookup_run {P : Program} {g : Gh} {w : World} {t : TypeId} {m k v : V} {a b : Value} {ok : Bool} {blk : Option Blk} (h : evalLookup P t m k ok blk = some v) (hm : RV g w m a) (hk : RV g w k b) (hb : ∀ nm q, refOf m = some nm → blk = some q → BlkOK g w nm q) :
    ∃ v', (Instr.lookup t a b ok).run P w = .ok v' w ∧ RV g w v v' := by
  unfold evalLookup at h
  split at h
  case h_2 => cases h
  rename_i kk kt et nm key kk' f hmt
  split at h
  case h_2 => cases h
  rename_i ti hti
  split at h
  case isFalse => cases h
  rename_i hc
  obtain ⟨rfl, hko⟩ := hc
  injection h with h
  subst h
  obtain ⟨hu, hkk⟩ := mapTy_spec hmt
  have hz := run_zeroValue' hti w
  have hzv := ofConst_rv g w ti.zero
  obtain ⟨bb, hbb, hin⟩ := hb nm _ rfl rfl
  cases hm with
  | map _ b' hU hb' =>
    rw [hbb] at hb'
    injection hb' with hb'
    subst hb'
    cases hk with | d hk =>
    have fin : ∀ {κ : Type} (K : KeyTy κ P kt) (q : κ) (F : κ → Option Value), b = K.enc q → MapAt K w bb F → OptRV g w (f key) (F q) →
        ∃ v', (Instr.lookup t (.map (some bb)) b ok).run P w = .ok v' w ∧ RV g w (if ok then .tup [(f key).getD (ofConst ti.zero), .d (.bool (f key).isSome)] else (f key).getD (ofConst ti.zero)) v' := by
      intro κ K q F hbq hM hO
      subst hbq
      obtain ⟨h1, h2⟩ := hO.getD hzv
      cases ok with
      | true => exact ⟨_, hM.run_lookup hu hz q, tupRV2 h1 (by rw [h2]; exact .d (.bool _))⟩
      | false => exact ⟨_, hM.run_lookup1 hu hz q, h1⟩
    unfold kkOf at hkk
    split at hkk
    · rename_i ki hki
      injection hkk with hkk
      subst hkk
      obtain ⟨F, hF1, hF2⟩ := hin
      cases key <;> simp [keyOk] at hko
      subst hko
      cases hk
      exact fin (KeyTy.int hki) _ F rfl hF1 (hF2 _)
    · rename_i hks
      injection hkk with hkk
      subst hkk
      obtain ⟨F, hF1, hF2⟩ := hin
      cases key <;> simp [keyOk] at hko
      cases hk
      exact fin (KeyTy.str hks) _ F rfl hF1 (hF2 _)
    · split at hkk
      case h_2 => cases hkk
      rename_i q heq
      injection hkk with hkk
      subst hkk
      obtain ⟨F, hF1, hF2⟩ := hin
      obtain ⟨s, i, rfl, rfl⟩ := pair_key hko hk
      exact fin (KeyTy.pair heq) (s, i) F rfl hF1 (hF2 _ _)

theorem Keep.ne {b : Nat} {w w' : World} (h : Keep (fun i => i = b) w w') (hs : w'.heap.size = w.heap.size) : ∀ i, i ≠ b → w'.heap[i]? = w.heap[i]? := by
  intro i hi
  by_cases hlt : i < w.heap.size
  · exact h.block i hlt hi
  · rw [Array.getElem?_eq_none (by omega), Array.getElem?_eq_none (by omega)]

theorem evalUpdate_run {P : Program} {g : Gh} {w : World} {H : Nat → Option Blk} {t : TypeId} {m k : V} {v : Option V} {a b : Value} {vv : Option Value} {nm : Nat} {q : Blk} (h : evalUpdate P t m k v (H nm) = some q) (hS : RS g w H) (hnm : refOf m = some nm) (hm : RV g w m a) (hk : RV g w k b) (hv : OptRV g w v vv) :
    ∃ w', (∀ z, vv = some z → (Instr.mapUpdate t a b z).run P w = .ok () w') ∧ (vv = none → ∀ kt et ty, P.underlying t = some (.map kt et) → (Builtin.delete_ #[t, kt] ty #[a, b]).run P w = .ok (.tuple #[]) w') ∧ Ext g w g w' ∧ RS g w' (hset H nm (some q)) := by
  unfold evalUpdate at h
  split at h
  case h_2 => cases h
  rename_i kk kt et nm' key kk' f hmt hH
  obtain rfl : nm' = nm := by simpa [refOf] using hnm
  split at h
  case isFalse => cases h
  rename_i hc
  obtain ⟨rfl, hko⟩ := hc
  injection h with h
  subst h
  obtain ⟨hu, hkk⟩ := mapTy_spec hmt
  obtain ⟨hU0, bb, hbb, hin⟩ := hS.ok _ _ hH
  cases hm with
  | map _ b' hU hb' =>
    rw [hbb] at hb'
    injection hb' with hb'
    subst hb'
    cases hk with | d hk =>
    have fin : ∀ {κ : Type} (K : KeyTy κ P kt) (c : κ) (F : κ → Option Value), b = K.enc c → MapAt K w bb F →
        ∃ w', (∀ z, vv = some z → (Instr.mapUpdate t (.map (some bb)) b z).run P w = .ok () w') ∧ (vv = none → ∀ kt et ty, P.underlying t = some (.map kt et) → (Builtin.delete_ #[t, kt] ty #[.map (some bb), b]).run P w = .ok (.tuple #[]) w') ∧
          MapAt K w' bb (upd F c vv) ∧ Keep (fun i => i = bb) w w' ∧ w'.heap.size = w.heap.size := by
      intro κ K c F hbc hM
      subst hbc
      cases vv with
      | some z =>
        obtain ⟨w', e1, e2, e3, e4⟩ := hM.run_update hu c z
        exact ⟨w', fun z' hz' => by injection hz' with hz'; subst hz'; exact e1, (by intro h; cases h), e2, e3, e4⟩
      | none =>
        obtain ⟨w', e1, e2, e3, e4⟩ := hM.run_delete hu c 0
        refine ⟨w', (by intro z h; cases h), fun _ kt' et' ty hu' => ?_, e2, e3, e4⟩
        have hkt : kt = kt' ∧ et = et' := by simpa [hu] using hu'
        rw [← hkt.1]
        simpa [Builtin.delete_] using e1
    unfold kkOf at hkk
    split at hkk
    · rename_i ki hki
      injection hkk with hkk
      subst hkk
      obtain ⟨F, hF1, hF2⟩ := hin
      cases key <;> simp [keyOk] at hko
      rename_i ki' n
      subst hko
      cases hk
      obtain ⟨w', e1, e2, e3, e4, e5⟩ := fin (KeyTy.int hki) n F rfl hF1
      obtain ⟨hE, hS'⟩ := hS.write (k' := .map (.int ki) (updD f (.int ki n) v)) hH hbb (e4.ne e5) e4.os e4.tape e4.output e5 (fun hE => ⟨bb, hbb, _, e3, fun i => by
        by_cases hi : i = n
        · subst hi
          simp only [updD, upd, if_true]
          exact hv.mono hE
        · simp only [updD, upd, if_neg hi, D.int.injEq, true_and]
          exact (hF2 i).mono hE⟩)
      exact ⟨w', e1, e2, hE, hS'⟩
    · rename_i hks
      injection hkk with hkk
      subst hkk
      obtain ⟨F, hF1, hF2⟩ := hin
      cases key <;> simp [keyOk] at hko
      rename_i n
      cases hk
      obtain ⟨w', e1, e2, e3, e4, e5⟩ := fin (KeyTy.str hks) n F rfl hF1
      obtain ⟨hE, hS'⟩ := hS.write (k' := .map .str (updD f (.str n) v)) hH hbb (e4.ne e5) e4.os e4.tape e4.output e5 (fun hE => ⟨bb, hbb, _, e3, fun i => by
        by_cases hi : i = n
        · subst hi
          simp only [updD, upd, if_true]
          exact hv.mono hE
        · simp only [updD, upd, if_neg hi, D.str.injEq]
          exact (hF2 i).mono hE⟩)
      exact ⟨w', e1, e2, hE, hS'⟩
    · split at hkk
      case h_2 => cases hkk
      rename_i q' heq
      injection hkk with hkk
      subst hkk
      obtain ⟨F, hF1, hF2⟩ := hin
      obtain ⟨s, n, rfl, rfl⟩ := pair_key hko hk
      obtain ⟨w', e1, e2, e3, e4, e5⟩ := fin (KeyTy.pair heq) (s, n) F rfl hF1
      obtain ⟨hE, hS'⟩ := hS.write (k' := .map (.pair q') (updD f (.agg [.str s, .int q' n]) v)) hH hbb (e4.ne e5) e4.os e4.tape e4.output e5 (fun hE => ⟨bb, hbb, _, e3, fun s' i => by
        by_cases hi : (s', i) = (s, n)
        · injection hi with h1 h2
          subst h1 h2
          simp only [updD, upd, if_true]
          exact hv.mono hE
        · have hi' : ¬ (D.agg [.str s', .int q' i] = .agg [.str s, .int q' n]) := by
            intro hh
            apply hi
            simpa using hh
          simp only [updD, upd, if_neg hi, if_neg hi']
          exact (hF2 s' i).mono hE⟩)
      exact ⟨w', e1, e2, hE, hS'⟩

theorem evalMakeMap_run {P : Program} {g : Gh} {w : World} {H : Nat → Option Blk} {t kt et : TypeId} {kk : KK} {nm : Nat} (hmt : mapTy P t = some (kk, kt, et)) (hS : RS g w H) (hn : ¬ g.U nm) :
    ∃ v' w' g', (Instr.makeMap t none).run P w = .ok v' w' ∧ Ext g w g' w' ∧ RS g' w' (hset H nm (some (.map kk fun _ => none))) ∧ RV g' w' (.map nm) v' ∧ (∀ k, g'.U k → g.U k ∨ k = nm) := by
  have hh : ∀ b, b < w.heap.size → (w.alloc (.map #[] 0)).heap[b]? = w.heap[b]? := fun b hb => heap_alloc_old w _ hb
  have hm : ∀ {κ : Type} (enc : κ → Value), MapIn enc (w.alloc (.map #[] 0)) w.heap.size (fun _ => none) := fun enc => ⟨#[], 0, heap_alloc_new _ _, by simp, by simp, by simp⟩
  obtain ⟨hE, hS'⟩ := hS.new (w' := w.alloc (.map #[] 0)) (r := ⟨some w.heap.size, 0, 0, 0⟩) (k := .map kk fun _ => none) hn hh rfl rfl rfl (by simp) rfl (by
    refine ⟨w.heap.size, by rw [g.new_at], ?_⟩
    cases kk with
    | int k => exact ⟨_, hm _, fun _ => .none⟩
    | str => exact ⟨_, hm _, fun _ => .none⟩
    | pair k => exact ⟨_, hm _, fun _ _ => .none⟩)
  exact ⟨_, _, _, by simp [Instr.makeMap] <;> rfl, hE, hS', .map nm _ (.inr rfl) (by rw [g.new_at]), fun k hk => hk⟩

/-- make of a slice. -/
def evalMakeSlice (P : Program) (t : TypeId) (l c : V) (nm : Nat) : Option (V × Eff) :=
  match selem P t, intOf? l, intOf? c with
  | some e, some n, some n' => match tinf P e with
    | some ti => if n = n' ∧ 0 ≤ n ∧ (ti.bytes : Int) * n ≤ 281474976710656 ∧ n ≤ 140737488355328 ∧ (ofConst ti.zero).cells.length = ti.size then some (.ms nm ti.size 0 n.toNat, .put nm (.row ti.size (List.replicate n.toNat (ofConst ti.zero)))) else none
    | none => none
  | _, _, _ => none
theorem ofConst_cells (v : Value) (x : V) (j : Nat) (h : (ofConst v).cells[j]? = some x) (hs : (ofConst v).cells.length = v.cells.size) (g : Gh) (w : World) : RV g w x (v.cells.getD j undef) := by
  cases v with
  | agg cs =>
    simp only [ofConst, mkAgg_cells, List.getElem?_map, Option.map_eq_some_iff] at h
    obtain ⟨c, hc, rfl⟩ := h
    have : cs.getD j undef = c := by
      simp at hc
      simp [hc]
    simp only [Value.cells]
    rw [this]
    exact ofScalar_rv g w c
  | _ =>
    have hsc : ∀ (v : Value), (ofScalar v).cells = [ofScalar v] := fun v => by unfold ofScalar; split <;> rfl
    simp only [ofConst, hsc] at h
    cases j with
    | zero => simp at h; subst h; exact ofScalar_rv g w _
    | succ j => simp at h
theorem evalMakeSlice_run {P : Program} {g : Gh} {w : World} {H : Nat → Option Blk} {t : TypeId} {l c v : V} {a b : Value} {nm : Nat} {ef : Eff} (h : evalMakeSlice P t l c nm = some (v, ef)) (hS : RS g w H) (hn : ¬ g.U nm) (hl : RV g w l a) (hc : RV g w c b) :
    ∃ v' w' g', (Instr.makeSlice t a b).run P w = .ok v' w' ∧ Ext g w g' w' ∧ RS g' w' (ef.on H) ∧ RV g' w' v v' ∧ (∀ k, g'.U k → g.U k ∨ k = nm) := by
  unfold evalMakeSlice at h
  split at h
  case h_2 => cases h
  rename_i e n n' he hln hcn
  split at h
  case h_2 => cases h
  rename_i ti hti
  split at h
  case isFalse => cases h
  rename_i hcc
  obtain ⟨rfl, h0, hby', hbd, hzl⟩ := hcc
  injection h with h
  injection h with h1 h2
  subst h1 h2
  have hu := selem_spec he
  obtain ⟨i, d, hi, hd, hz, hzs, hsz, hby, _⟩ := tinf_spec hti
  obtain ⟨kl, rfl⟩ := intOf?_rv hln hl
  obtain ⟨kc, rfl⟩ := intOf?_rv hcn hc
  have hr := run_make w t e i ti.zero hu hi hz kl kc n n h0 (by omega) (by rw [hby]; exact hby') (by omega)
  have hh : ∀ b, b < w.heap.size → (w.alloc (.cells (madeCells ti.zero.cells (n.toNat * i.size)) e)).heap[b]? = w.heap[b]? := fun b hb => heap_alloc_old w _ hb
  have hms : (madeCells ti.zero.cells (n.toNat * i.size)).size = n.toNat * ti.size := by simp [madeCells, hsz]
  obtain ⟨hE, hS'⟩ := hS.new (w' := w.alloc (.cells (madeCells ti.zero.cells (n.toNat * i.size)) e)) (r := ⟨some w.heap.size, 0, ti.size, n.toNat⟩) (k := .row ti.size (List.replicate n.toNat (ofConst ti.zero))) hn hh rfl rfl rfl (by simp) rfl (by
    refine ⟨by rw [g.new_at], by rw [g.new_at]; simp, fun k x hx => ?_, .inr ⟨w.heap.size, _, e, by rw [g.new_at], heap_alloc_new _ _, by rw [g.new_at, hms]; simp, fun k j x y hx hy => ?_⟩⟩
    · have := List.mem_of_getElem? hx
      rw [List.mem_replicate] at this
      rw [this.2]
      exact hzl
    · have hx' := List.mem_of_getElem? hx
      rw [List.mem_replicate] at hx'
      rw [hx'.2] at hy
      have hk : k < n.toNat := by have := (List.getElem?_eq_some_iff.1 hx).1; simpa using this
      have hj : j < ti.size := by rw [← hzl]; exact (List.getElem?_eq_some_iff.1 hy).1
      have hm : (k + 1) * ti.size ≤ n.toNat * ti.size := Nat.mul_le_mul_right _ hk
      rw [Nat.add_mul] at hm
      have hlt : k * ti.size + j < n.toNat * ti.size := by omega
      rw [g.new_at]
      have hget : (madeCells ti.zero.cells (n.toNat * i.size)).getD (0 + k * ti.size + j) undef = ti.zero.cells.getD j undef := by
        have hjz : j < ti.zero.cells.size := by omega
        obtain ⟨_, e2⟩ := divmod (i := k) hj
        simp [madeCells, hsz, hlt, hzs, e2, hjz]
        simp [getElem!_pos, hjz]
      simp only
      rw [hget]
      exact ofConst_cells _ _ _ hy (by rw [hzl, hzs]) _ _)
  exact ⟨_, _, _, hr, hE, hS', .ms nm ti.size 0 n.toNat w.heap.size 0 n.toNat (.inr rfl) (by rw [g.new_at]) (by rw [g.new_at]) (by rw [g.new_at]; simp) (Nat.le_refl _) (by rw [g.new_at]; simp), fun k hk => hk⟩
end Go.Proofs.Ytjjmedgibcffhaa.M
/- One operation on abstract values, and that the machine's operation does the same. -/
namespace Go.Proofs.Ytjjmedgibcffhaa.M
open Go.RowKit
set_option linter.unusedVariables false
set_option linter.unusedSimpArgs false

def evalEqAgg0 (P : Program) (op : BinOp) (t : TypeId) (x y : V) : Option V :=
  match x, y, eqTys P t with
  | .d (.agg xs), .d (.agg ys), some ts => match op, eqCells ts xs ys with
    | .eql, some r => some (.d (.bool r))
    | .neq, some r => some (.d (.bool (!r)))
    | _, _ => none
  | _, _, _ => none
theorem evalEqAgg0_run {P : Program} {g : Gh} {w : World} {op : BinOp} {t : TypeId} {x y v : V} {a b : Value} (h : evalEqAgg0 P op t x y = some v) (hx : RV g w x a) (hy : RV g w y b) (ox oy : Operand) :
    ∃ v', ((do eqGuard op t ox oy a b; Go.binOp op t a b : Sem Value)).run P w = .ok v' w ∧ RV g w v v' := by
  unfold evalEqAgg0 at h
  split at h
  case h_2 => cases h
  rename_i xs ys ts hts
  unfold eqTys at hts
  split at hts
  case h_2 => cases hts
  rename_i fs hu
  split at hts
  case isFalse => cases hts
  rename_i hc
  obtain ⟨hst, hgd⟩ := hc
  cases hx with | d hx => cases hy with | d hy =>
  cases hx with | agg _ a_s hla hra => cases hy with | agg _ bs hlb hrb =>
  have hfo : P.fieldsOf t = fs := by simp [Program.fieldsOf, hu]
  have hg := run_eqGuard_agg (P := P) w op t ox oy a_s bs hgd
  have hu' : P.underlying t = some (.struct (P.fieldsOf t)) := by rw [hfo]; exact hu
  split at h
  · rename_i r hr
    injection h with h
    subst h
    have := eqCells_run (P := P) (g := g) (w := w) fs.toList 0 ts xs ys a_s bs r hts hr (fun j z hz => by rw [Nat.zero_add]; exact hra j z hz) (fun j z hz => by rw [Nat.zero_add]; exact hrb j z hz) (by simpa using hla) (by simpa using hlb)
    refine ⟨.bool r, ?_, .d (.bool _)⟩
    rw [Sem.run_bind, hg, Result.andThen_ok, run_eql_struct, run_equalIn_struct w 9999 t a_s bs hu' hst, hfo, this]
    rfl
  · rename_i r hr
    injection h with h
    subst h
    have := eqCells_run (P := P) (g := g) (w := w) fs.toList 0 ts xs ys a_s bs r hts hr (fun j z hz => by rw [Nat.zero_add]; exact hra j z hz) (fun j z hz => by rw [Nat.zero_add]; exact hrb j z hz) (by simpa using hla) (by simpa using hlb)
    refine ⟨.bool (!r), ?_, .d (.bool _)⟩
    rw [Sem.run_bind, hg, Result.andThen_ok, run_neq_struct, run_equalIn_struct w 9999 t a_s bs hu' hst, hfo, this]
    rfl
  · cases h

/-- Equality of truth values, too. -/
def evalEqAgg (P : Program) (op : BinOp) (t : TypeId) (x y : V) : Option V :=
  match x, y with
  | .d (.bool a), .d (.bool b) => match P.underlying t, op with
    | some .bool, .eql => some (.d (.bool (a == b)))
    | some .bool, .neq => some (.d (.bool (!(a == b))))
    | _, _ => none
  | .d (.sl (_ :: _)), .nil => match P.underlying t, op with
    | some (.slice _), .eql => some (.d (.bool false))
    | some (.slice _), .neq => some (.d (.bool true))
    | _, _ => none
  | x, y => evalEqAgg0 P op t x y
theorem evalEqAgg_run {P : Program} {g : Gh} {w : World} {op : BinOp} {t : TypeId} {x y v : V} {a b : Value} (h : evalEqAgg P op t x y = some v) (hx : RV g w x a) (hy : RV g w y b) (ox oy : Operand) :
    ∃ v', ((do eqGuard op t ox oy a b; Go.binOp op t a b : Sem Value)).run P w = .ok v' w ∧ RV g w v v' := by
  unfold evalEqAgg at h
  split at h
  · rename_i p q
    cases hx with | d hx => cases hy with | d hy =>
    cases hx
    cases hy
    have hg := eqGuard_run (P := P) (w := w) (op := op) (t := t) (x := ox) (y := oy) (a := .bool p) (b := .bool q) (by simp) (by simp)
    split at h
    · rename_i hu
      injection h with h
      subst h
      refine ⟨.bool (p == q), ?_, .d (.bool _)⟩
      rw [Sem.run_bind, hg, Result.andThen_ok]
      simp [Go.binOp, Op.equal, Op.maxDepth, run_equalIn_bool' w 9999 t p q hu]
    · rename_i hu
      injection h with h
      subst h
      refine ⟨.bool (!(p == q)), ?_, .d (.bool _)⟩
      rw [Sem.run_bind, hg, Result.andThen_ok]
      simp [Go.binOp, Op.equal, Op.maxDepth, run_equalIn_bool' w 9999 t p q hu]
    · cases h
  · rename_i z zs
    cases hx with | d hx =>
    cases hy
    cases hx with | sl _ b o c sz u =>
    have hg := fun op => eqGuard_run (P := P) (w := w) (op := op) (t := t) (x := ox) (y := oy) (a := .slice (some ⟨b, o, none⟩) (z :: zs).length c) (b := .slice none 0 0) (by simp) (by simp)
    split at h
    · rename_i e hu
      injection h with h
      subst h
      refine ⟨.bool false, ?_, .d (.bool _)⟩
      rw [Sem.run_bind, hg, Result.andThen_ok]
      simp [Go.binOp, Op.equal, Op.maxDepth, Lib.run_equalIn_slice_nil w 9999 t e _ _ c 0 0 hu]
    · rename_i e hu
      injection h with h
      subst h
      refine ⟨.bool true, ?_, .d (.bool _)⟩
      rw [Sem.run_bind, hg, Result.andThen_ok]
      simp [Go.binOp, Op.equal, Op.maxDepth, Lib.run_equalIn_slice_nil w 9999 t e _ _ c 0 0 hu]
    · cases h
  · exact evalEqAgg0_run h hx hy ox oy

def evalConv (P : Program) (s t : TypeId) (x : V) : Option V :=
  match P.underlying s, P.underlying t, x with
  | some (.int _), some (.int k), .d (.int _ n) => some (.d (.int k (k.wrap n)))
  | _, _, _ => none
theorem evalConv_run {P : Program} {g : Gh} {w : World} {s t : TypeId} {x v : V} {a : Value} (h : evalConv P s t x = some v) (hx : RV g w x a) : ∃ v', (convert s t a).run P w = .ok v' w ∧ RV g w v v' := by
  unfold evalConv at h
  split at h
  case h_2 => cases h
  rename_i k0 k k1 n hs ht
  injection h with h
  subst h
  cases hx with | d hx =>
  cases hx
  exact ⟨.int k (k.wrap n), by simp [convert, run_underlying hs, run_underlying ht, Conv.intToInt], .d (.int _ _)⟩

def evalMax : Bool → V → V → Option V
  | true, .d (.int k a), .d (.int _ b) => some (.d (.int k (if b > a then b else a)))
  | false, .d (.int k a), .d (.int _ b) => some (.d (.int k (if b < a then b else a)))
  | _, _, _ => none

def evalIndex (P : Program) (t : TypeId) (x i : V) : Option V :=
  match P.underlying t, x, intOf? i with
  | some .string, .d (.str s), some n => if 0 ≤ n then match s[n.toNat]? with
    | some b => some (.d (.int .u8 b.toNat))
    | none => none
    else none
  | _, _, _ => none
theorem evalIndex_run {P : Program} {g : Gh} {w : World} {t : TypeId} {x i v : V} {a b : Value} (h : evalIndex P t x i = some v) (hx : RV g w x a) (hi : RV g w i b) : ∃ v', (Instr.index t a b).run P w = .ok v' w ∧ RV g w v v' := by
  unfold evalIndex at h
  split at h
  case h_2 => cases h
  rename_i s n hu hn
  split at h
  case isFalse => cases h
  rename_i h0
  split at h
  case h_2 => cases h
  rename_i c hc
  injection h with h
  subst h
  obtain ⟨k, rfl⟩ := intOf?_rv hn hi
  cases hx with | d hx =>
  cases hx
  exact ⟨.int .u8 c.toNat, by simp [Instr.index, asIntOf, run_underlying hu, h0, hc], .d (.int _ _)⟩

noncomputable def builtinB (P : Program) (b : Builtin) (args : List V) (tys : List TypeId) (blk : Option Blk) (nm : Nat) : Option (V × Eff) :=
  match b, args, tys with
  | .len, [x], [t] => (evalLen P t x).map (·, .keep)
  | .append, [s, x], [t, t'] => if t = t' then evalAppend P t s x blk nm else none
  | .delete, [m, k], [t, kt] => match mapTy P t, refOf m with
    | some (_, kt', _), some nm' => if kt = kt' then (evalUpdate P t m k none blk).map fun q => (.tup [], .put nm' q) else none
    | _, _ => none
  | .max, [x, y], _ => (evalMax true x y).map (·, .keep)
  | .min, [x, y], _ => (evalMax false x y).map (·, .keep)
  | _, _, _ => none

/-- One operation: its value, and what becomes of the named blocks. blk: the block that it looks at; nm: a new name. -/
noncomputable def stepB (P : Program) (op : Op) (lk : Operand → V) (blk : Option Blk) (nm : Nat) : Option (V × Eff) :=
  match op with
  | .move x | .assign x => some (lk x, .keep)
  | .pick c a b => match lk c with
    | .d (.bool t) => some (if t then lk a else lk b, .keep)
    | _ => none
  | .nilCheck x => match lk x with
    | .ptr nm o => some (.ptr nm o, .keep)
    | .eptr nm i o => some (.eptr nm i o, .keep)
    | .rptr cs => some (.rptr cs, .keep)
    | _ => none
  | .binOp op t x y _ => match evalBin op (lk x) (lk y) with
    | some v => some (v, .keep)
    | none => (evalEqAgg P op t (lk x) (lk y)).map (·, .keep)
  | .unOp op _ x => (evalUn op (lk x)).map (·, .keep)
  | .convert s t x => (evalConv P s t (lk x)).map (·, .keep)
  | .extract x i => (evalExtract (lk x) i).map (·, .keep)
  | .fieldAddr s x f => (evalFieldAddr P s f (lk x)).map (·, .keep)
  | .indexAddr t x i => (evalIndexAddr P t (lk x) (lk i)).map (·, .keep)
  | .index t x i => (evalIndex P t (lk x) (lk i)).map (·, .keep)
  | .slice t x lo hi mx => (evalSlice P t (lk x) (lo.map lk) (hi.map lk) (mx.map lk)).map (·, .keep)
  | .build t parts => (evalBuild P t (parts.toList.map fun p => (p.1, lk p.2))).map (·, .keep)
  | .buildSlice t len parts => evalBuildSlice P t len (parts.toList.map fun p => (p.1, lk p.2)) nm
  | .makeFunc (.func f) first caps => if first.size = 0 then some (.fn f (caps.toList.map lk), .keep) else none
  | .load t a => (evalLoad P t (lk a) blk).map (·, .keep)
  | .store t a x => match refOf (lk a) with
    | some nm' => (evalStore P t (lk a) (lk x) blk).map fun q => (.undef, .put nm' q)
    | none => none
  | .alloc t => (tinf P t).map fun ti => (.ptr nm 0, .put nm (.box (zeroCs ti)))
  | .box t x => if (lk x).firm then some (.ptr nm 0, .put nm (.box (lk x).cells)) else none
  | .lookup t m k ok => (evalLookup P t (lk m) (lk k) ok blk).map (·, .keep)
  | .mapUpdate t m k v => match refOf (lk m) with
    | some nm' => (evalUpdate P t (lk m) (lk k) (some (lk v)) blk).map fun q => (.undef, .put nm' q)
    | none => none
  | .makeMap t none => (mapTy P t).map fun q => (.map nm, .put nm (.map q.1 fun _ => none))
  | .makeSlice t l c => evalMakeSlice P t (lk l) (lk c) nm
  | .call c => match c.callee with
    | .builtin b => builtinB P b (c.args.toList.map lk) c.argTypes.toList blk nm
    | _ => none
  | _ => none

/-- The block that an operation looks at. -/
def fpOf (op : Op) (lk : Operand → V) : Option Nat :=
  match op with
  | .load _ a | .store _ a _ => refOf (lk a)
  | .lookup _ m _ _ | .mapUpdate _ m _ _ => refOf (lk m)
  | .call c => match c.callee with
    | .builtin .append | .builtin .delete => (c.args.toList.head?).bind fun x => refOf (lk x)
    | _ => none
  | _ => none
def blkOf (H : Nat → Option Blk) (n : Option Nat) : Option Blk := n.bind H

/-- What the machine's operation must do. -/
def StepOK (P : Program) (g : Gh) (w : World) (H : Nat → Option Blk) (nm : Nat) (v : V) (ef : Eff) (r : Result Next) : Prop :=
  ∃ w' g', ((∃ v', r = .ok (.value v') w' ∧ RV g' w' v v') ∨ (r = .ok .skip w' ∧ v = .undef)) ∧ Ext g w g' w' ∧ RS g' w' (ef.on H) ∧ (∀ k, g'.U k → g.U k ∨ k = nm)

theorem StepOK.keep {P : Program} {g : Gh} {w : World} {H : Nat → Option Blk} {nm : Nat} {v : V} (hS : RS g w H) {s : Sem Value} (h : ∃ v', s.run P w = .ok v' w ∧ RV g w v v') : StepOK P g w H nm v .keep ((do pure (.value (← s)) : Sem Next).run P w) := by
  obtain ⟨v', h1, h2⟩ := h
  exact ⟨w, g, .inl ⟨v', by simp [h1], h2⟩, Ext.refl _ _, hS, fun k hk => .inl hk⟩
theorem StepOK.val {P : Program} {g : Gh} {w : World} {H : Nat → Option Blk} {nm : Nat} {v : V} {ef : Eff} {s : Sem Value} (h : ∃ v' w' g', s.run P w = .ok v' w' ∧ Ext g w g' w' ∧ RS g' w' (ef.on H) ∧ RV g' w' v v' ∧ (∀ k, g'.U k → g.U k ∨ k = nm)) : StepOK P g w H nm v ef ((do pure (.value (← s)) : Sem Next).run P w) := by
  obtain ⟨v', w', g', h1, h2, h3, h4, h5⟩ := h
  exact ⟨w', g', .inl ⟨v', by simp [h1], h4⟩, h2, h3, h5⟩
end Go.Proofs.Ytjjmedgibcffhaa.M
/- One operation: the machine does what the abstract step says. -/
namespace Go.Proofs.Ytjjmedgibcffhaa.M
open Go.RowKit
set_option linter.unusedVariables false
set_option linter.unusedSimpArgs false

theorem optMap_some {α β : Type} {o : Option α} {f : α → β} {y : β} (h : o.map f = some y) : ∃ x, o = some x ∧ f x = y := by
  simpa using h
theorem map_keep {x : Option V} {v : V} {ef : Eff} (h : x.map (fun y => (y, Eff.keep)) = some (v, ef)) : x = some v ∧ ef = .keep := by
  obtain ⟨y, h1, h2⟩ := optMap_some h
  injection h2 with h2 h3
  subst h2
  exact ⟨h1, h3.symm⟩

theorem OptRV.of_map {g : Gh} {w : World} {lk : Operand → V} {ev : Operand → Value} (hev : ∀ x, RV g w (lk x) (ev x)) (x : Option Operand) : OptRV g w (x.map lk) (x.map ev) := by
  cases x with
  | none => exact .none
  | some x => exact .some (hev x)

theorem resolve_builtin {P : Program} {w : World} (ev : Operand → Value) (b : Builtin) (args : Array Operand) (tys : Array TypeId) (ty : TypeId) :
    ∃ cs, ((do let d ← resolve ev { callee := .builtin b, args := args, argTypes := tys } ty; invoke d.target d.args : Sem Next)).run P w = (builtin b tys ty cs (args.map ev)).run P w :=
  ⟨_, rfl⟩

section
variable {P : Program} {g : Gh} {w : World} {H : Nat → Option Blk} {nm : Nat} {v : V} {ef : Eff} {lk : Operand → V} {ev : Operand → Value}
theorem len_sound (hev : ∀ x, RV g w (lk x) (ev x)) {x : Operand} {t ty : TypeId} {cs : Array Bool} (h : (evalLen P t (lk x)).map (fun y => (y, Eff.keep)) = some (v, ef)) (hS : RS g w H) : StepOK P g w H nm v ef ((builtin .len #[t] ty cs #[ev x]).run P w) := by
  obtain ⟨he, rfl⟩ := map_keep h
  exact StepOK.keep (s := Builtin.len_ #[t] ty #[ev x]) hS (evalLen_run he (hev x))
theorem append_sound (hev : ∀ x, RV g w (lk x) (ev x)) {x y : Operand} {t ty : TypeId} {cs : Array Bool} (h : evalAppend P t (lk x) (lk y) (blkOf H (refOf (lk x))) nm = some (v, ef)) (hS : RS g w H) (hn : ¬ g.U nm) : StepOK P g w H nm v ef ((builtin .append #[t, t] ty cs #[ev x, ev y]).run P w) :=
  StepOK.val (s := Builtin.append_ #[t, t] ty #[ev x, ev y]) (evalAppend_run (P := P) (ty := ty) h hS hn (fun m hm => by simp [blkOf, hm]) (hev x) (hev y))
theorem delete_sound (hev : ∀ x, RV g w (lk x) (ev x)) {x y : Operand} {t kt et ty : TypeId} {kk : KK} {cs : Array Bool} {q : Blk} {nm' : Nat} (hmt : mapTy P t = some (kk, kt, et)) (hnm' : refOf (lk x) = some nm') (hq : evalUpdate P t (lk x) (lk y) none (H nm') = some q) (hS : RS g w H) :
    StepOK P g w H nm (.tup []) (.put nm' q) ((builtin .delete #[t, kt] ty cs #[ev x, ev y]).run P w) := by
  obtain ⟨w', _, e2, e3, e4⟩ := evalUpdate_run (P := P) hq hS hnm' (hev x) (hev y) .none
  have := e2 rfl kt et ty (mapTy_spec hmt).1
  exact ⟨w', g, .inl ⟨.tuple #[], by simp [builtin, this], .tup [] #[] rfl (by simp)⟩, e3, e4, fun k hk => .inl hk⟩
theorem max_sound (hev : ∀ x, RV g w (lk x) (ev x)) {p q : Operand} {tys : Array TypeId} {ty : TypeId} {cs : Array Bool} (h : (evalMax true (lk p) (lk q)).map (fun y => (y, Eff.keep)) = some (v, ef)) (hS : RS g w H) : StepOK P g w H nm v ef ((builtin .max tys ty cs #[ev p, ev q]).run P w) := by
  obtain ⟨he, rfl⟩ := map_keep h
  have hp := hev p
  have hq := hev q
  generalize lk p = x at he hp
  generalize lk q = y at he hq
  generalize ev p = pv at hp
  generalize ev q = qv at hq
  unfold evalMax at he
  split at he
  · injection he with he
    subst he
    cases hp with | d hp => cases hq with | d hq =>
    cases hp
    cases hq
    exact ⟨w, g, .inl ⟨_, by simp [builtin, Builtin.max_, Builtin.max2] <;> rfl, .d (.int _ _)⟩, Ext.refl _ _, hS, fun k hk => .inl hk⟩
  · cases ‹true = false›
  · cases he
theorem min_sound (hev : ∀ x, RV g w (lk x) (ev x)) {p q : Operand} {tys : Array TypeId} {ty : TypeId} {cs : Array Bool} (h : (evalMax false (lk p) (lk q)).map (fun y => (y, Eff.keep)) = some (v, ef)) (hS : RS g w H) : StepOK P g w H nm v ef ((builtin .min tys ty cs #[ev p, ev q]).run P w) := by
  obtain ⟨he, rfl⟩ := map_keep h
  have hp := hev p
  have hq := hev q
  generalize lk p = x at he hp
  generalize lk q = y at he hq
  generalize ev p = pv at hp
  generalize ev q = qv at hq
  unfold evalMax at he
  split at he
  · cases ‹false = true›
  · injection he with he
    subst he
    cases hp with | d hp => cases hq with | d hq =>
    cases hp
    cases hq
    exact ⟨w, g, .inl ⟨_, by simp [builtin, Builtin.min_, Builtin.min2] <;> rfl, .d (.int _ _)⟩, Ext.refl _ _, hS, fun k hk => .inl hk⟩
  · cases he
end

set_option maxHeartbeats 1000000 in
theorem builtin_sound {P : Program} {g : Gh} {w : World} {H : Nat → Option Blk} {nm : Nat} {v : V} {ef : Eff} {lk : Operand → V} {ev : Operand → Value} (hev : ∀ x, RV g w (lk x) (ev x)) {b : Builtin} {args : List Operand} {tys : List TypeId} {ty : TypeId} {cs : Array Bool} {blk : Option Blk}
    (hb1 : b = .append ∨ b = .delete → blk = blkOf H ((args.head?).bind fun x => refOf (lk x)))
    (h : builtinB P b (args.map lk) tys blk nm = some (v, ef)) (hS : RS g w H) (hn : ¬ g.U nm) :
    StepOK P g w H nm v ef ((builtin b tys.toArray ty cs (args.map ev).toArray).run P w) := by
  cases b with
  | len =>
    rcases args with _ | ⟨x, _ | ⟨y, args⟩⟩ <;> rcases tys with _ | ⟨t, _ | ⟨t', tys⟩⟩ <;> simp only [builtinB, List.map_nil, List.map_cons, reduceCtorEq] at h
    exact len_sound hev h hS
  | append =>
    have hb := hb1 (.inl rfl)
    rcases args with _ | ⟨x, _ | ⟨y, _ | ⟨z, args⟩⟩⟩ <;> rcases tys with _ | ⟨t, _ | ⟨t', _ | ⟨t'', tys⟩⟩⟩ <;> simp only [builtinB, List.map_nil, List.map_cons, reduceCtorEq] at h
    split at h
    case isFalse => cases h
    rename_i htt
    subst htt
    subst hb
    exact append_sound hev h hS hn
  | delete =>
    have hb := hb1 (.inr rfl)
    rcases args with _ | ⟨x, _ | ⟨y, _ | ⟨z, args⟩⟩⟩ <;> rcases tys with _ | ⟨t, _ | ⟨t', _ | ⟨t'', tys⟩⟩⟩ <;> simp only [builtinB, List.map_nil, List.map_cons, reduceCtorEq] at h
    split at h
    case h_2 => cases h
    rename_i kk kt' et nm' hmt hnm'
    split at h
    case isFalse => cases h
    rename_i hk
    subst hk
    obtain ⟨q, hq, h3⟩ := optMap_some h
    injection h3 with h3 h4
    subst h3 h4
    subst hb
    simp only [List.head?_cons, Option.bind_some, hnm', blkOf] at hq
    exact delete_sound hev hmt hnm' hq hS
  | max =>
    rcases args with _ | ⟨x, _ | ⟨y, _ | ⟨z, args⟩⟩⟩ <;> simp only [builtinB, List.map_nil, List.map_cons, reduceCtorEq] at h
    exact max_sound hev h hS
  | min =>
    rcases args with _ | ⟨x, _ | ⟨y, _ | ⟨z, args⟩⟩⟩ <;> simp only [builtinB, List.map_nil, List.map_cons, reduceCtorEq] at h
    exact min_sound hev h hS
  | _ => simp only [builtinB, reduceCtorEq] at h

set_option maxHeartbeats 1000000 in
theorem step_sound {P : Program} {g : Gh} {w : World} {H : Nat → Option Blk} {nm : Nat} {v : V} {ef : Eff} {lk : Operand → V} {ev : Operand → Value} (hev : ∀ x, RV g w (lk x) (ev x)) (o : Oper)
    (h : stepB P o.op lk (blkOf H (fpOf o.op lk)) nm = some (v, ef)) (hS : RS g w H) (hn : ¬ g.U nm) : StepOK P g w H nm v ef ((execOp ev o).run P w) := by
  obtain ⟨dst, op, type, pos, after, guard⟩ := o
  simp only at h
  have hblk : ∀ (x : V) (q : Nat) (k : Blk), refOf x = some q → blkOf H (refOf x) = some k → BlkOK g w q k := fun x q k hx hk => by
    rw [hx] at hk
    exact (hS.ok q k hk).2
  unfold stepB at h
  split at h
  · -- move
    rename_i x
    injection h with h
    injection h with h1 h2
    subst h1 h2
    exact ⟨w, g, .inl ⟨ev x, rfl, hev x⟩, Ext.refl _ _, hS, fun k hk => .inl hk⟩
  · rename_i x
    injection h with h
    injection h with h1 h2
    subst h1 h2
    exact ⟨w, g, .inl ⟨ev x, rfl, hev x⟩, Ext.refl _ _, hS, fun k hk => .inl hk⟩
  · -- pick
    rename_i c a b
    split at h
    case h_2 => cases h
    rename_i t hc
    injection h with h
    injection h with h1 h2
    subst h1 h2
    have hcv := hev c
    rw [hc] at hcv
    generalize hce : ev c = cv at hcv
    cases hcv with | d hcv =>
    cases hcv
    refine ⟨w, g, .inl ⟨if t then ev a else ev b, by simp [execOp, hce, asBool], ?_⟩, Ext.refl _ _, hS, fun k hk => .inl hk⟩
    cases t
    · exact hev b
    · exact hev a
  · -- nilCheck
    rename_i x
    have hx := hev x
    split at h
    case h_4 => cases h
    all_goals
      rename_i hc
      injection h with h
      injection h with h1 h2
      subst h1 h2
      rw [hc] at hx
      generalize hce : ev x = cv at hx
      have hx' := hx
      cases hx
      exact ⟨w, g, .inl ⟨_, by simp [execOp, hce] <;> rfl, hx'⟩, Ext.refl _ _, hS, fun k hk => .inl hk⟩
  · -- binOp
    rename_i op t x y yt
    split at h
    · rename_i v' hb
      injection h with h
      injection h with h1 h2
      subst h1 h2
      obtain ⟨r, e1, e2, e3, e4⟩ := evalBin_run (P := P) hb (hev x) (hev y) t
      have eg := eqGuard_run (P := P) (w := w) (op := op) (t := t) (x := x) (y := y) (b := ev y) e3 e4
      exact ⟨w, g, .inl ⟨r, by simp [execOp, eg, e1], e2⟩, Ext.refl _ _, hS, fun k hk => .inl hk⟩
    · obtain ⟨he, rfl⟩ := map_keep h
      obtain ⟨r, e1, e2⟩ := evalEqAgg_run (P := P) he (hev x) (hev y) x y
      exact StepOK.keep (s := do eqGuard op t x y (ev x) (ev y); Go.binOp op t (ev x) (ev y)) hS ⟨r, e1, e2⟩
  · -- unOp
    rename_i op t x
    obtain ⟨he, rfl⟩ := map_keep h
    exact StepOK.keep (s := Op.unary op (ev x)) hS (evalUn_run he (hev x))
  · rename_i s t x
    obtain ⟨he, rfl⟩ := map_keep h
    exact StepOK.keep (s := convert s t (ev x)) hS (evalConv_run he (hev x))
  · rename_i x i
    obtain ⟨he, rfl⟩ := map_keep h
    exact StepOK.keep (s := Instr.extract (ev x) i) hS (evalExtract_run he (hev x))
  · rename_i s x f
    obtain ⟨he, rfl⟩ := map_keep h
    exact StepOK.keep (s := Instr.fieldAt s (ev x) f) hS (evalFieldAddr_run he (hev x))
  · rename_i t x i
    obtain ⟨he, rfl⟩ := map_keep h
    exact StepOK.keep (s := Instr.indexAt t (ev x) (ev i)) hS (evalIndexAddr_run he (hev x) (hev i))
  · rename_i t x i
    obtain ⟨he, rfl⟩ := map_keep h
    exact StepOK.keep (s := Instr.index t (ev x) (ev i)) hS (evalIndex_run he (hev x) (hev i))
  · rename_i t x lo hi mx
    obtain ⟨he, rfl⟩ := map_keep h
    exact StepOK.keep (s := Instr.sliceAt t (ev x) (lo.map ev) (hi.map ev) (mx.map ev)) hS (evalSlice_run he (hev x) (.of_map hev lo) (.of_map hev hi) (.of_map hev mx))
  · rename_i t parts
    obtain ⟨he, rfl⟩ := map_keep h
    exact StepOK.keep (s := Instr.build t (parts.map fun (i, x) => (i, ev x))) hS (evalBuild_run hev he)
  · rename_i t len parts
    have := evalBuildSlice_run (P := P) (t := t) (len := len) (parts := parts) (nm := nm) (v := v) (ef := ef) hev h hS hn
    exact StepOK.val (P := P) this
  · -- makeFunc
    rename_i f first caps
    split at h
    case isFalse => cases h
    rename_i h0
    injection h with h
    injection h with h1 h2
    subst h1 h2
    have hfirst : first.map ev = #[] := by
      apply Array.eq_empty_of_size_eq_zero
      simpa using h0
    refine ⟨w, g, .inl ⟨.func (.func f) #[] (caps.map ev), by simp [execOp, Instr.makeFunc, hfirst], .fn f _ _ (by simp) fun j y hy => ?_⟩, Ext.refl _ _, hS, fun k hk => .inl hk⟩
    simp only [List.getElem?_map, Option.map_eq_some_iff] at hy
    obtain ⟨c, hc, rfl⟩ := hy
    have : (caps.map ev).getD j undef = ev c := by
      simp at hc
      simp [hc]
    rw [this]
    exact hev c
  · rename_i t a
    obtain ⟨he, rfl⟩ := map_keep h
    exact StepOK.keep (s := Instr.loadAt t (ev a)) hS (evalLoad_run he (hev a) (hblk (lk a)))
  · -- store
    rename_i t a x
    split at h
    case h_2 => cases h
    rename_i nm' hnm'
    obtain ⟨q, hq, h3⟩ := optMap_some h
    injection h3 with h3 h4
    subst h3 h4
    have hb : blkOf H (fpOf (.store t a x) lk) = H nm' := by simp [fpOf, blkOf, hnm']
    rw [hb] at hq
    obtain ⟨w', e1, e2, e3⟩ := evalStore_run (P := P) hq hS hnm' (hev a) (hev x)
    exact ⟨w', g, .inr ⟨by simp [execOp, e1], rfl⟩, e2, e3, fun k hk => .inl hk⟩
  · -- alloc
    rename_i t
    obtain ⟨ti, hti, h3⟩ := optMap_some h
    injection h3 with h3 h4
    subst h3 h4
    obtain ⟨v', w', g', e1, e2, e3, e4, e5⟩ := evalAlloc_run hti hS hn
    exact StepOK.val (s := Instr.alloc t true (.tuple #[])) ⟨v', w', g', e1, e2, e3, e4, e5⟩
  · -- box
    rename_i t x
    split at h
    case isFalse => cases h
    rename_i hf
    injection h with h
    injection h with h1 h2
    subst h1 h2
    obtain ⟨v', w', g', e1, e2, e3, e4, e5⟩ := evalBox_run (P := P) (t := t) hf hS hn (hev x)
    exact StepOK.val (s := Instr.box t (ev x)) ⟨v', w', g', e1, e2, e3, e4, e5⟩
  · -- lookup
    rename_i t m k ok
    obtain ⟨he, rfl⟩ := map_keep h
    exact StepOK.keep (s := Instr.lookup t (ev m) (ev k) ok) hS (evalLookup_run he (hev m) (hev k) (hblk (lk m)))
  · -- mapUpdate
    rename_i t m k x
    split at h
    case h_2 => cases h
    rename_i nm' hnm'
    obtain ⟨q, hq, h3⟩ := optMap_some h
    injection h3 with h3 h4
    subst h3 h4
    have hb : blkOf H (fpOf (.mapUpdate t m k x) lk) = H nm' := by simp [fpOf, blkOf, hnm']
    rw [hb] at hq
    obtain ⟨w', e1, _, e2, e3⟩ := evalUpdate_run (P := P) hq hS hnm' (hev m) (hev k) (.some (hev x))
    exact ⟨w', g, .inr ⟨by simp [execOp, e1 _ rfl], rfl⟩, e2, e3, fun k hk => .inl hk⟩
  · -- makeMap
    rename_i t
    obtain ⟨⟨kk, kt, et⟩, hq, h3⟩ := optMap_some h
    injection h3 with h3 h4
    subst h3 h4
    obtain ⟨v', w', g', e1, e2, e3, e4, e5⟩ := evalMakeMap_run (P := P) hq hS hn
    exact StepOK.val (s := Instr.makeMap t none) ⟨v', w', g', e1, e2, e3, e4, e5⟩
  · rename_i t l c
    exact StepOK.val (s := Instr.makeSlice t (ev l) (ev c)) (evalMakeSlice_run h hS hn (hev l) (hev c))
  · -- builtins
    rename_i c
    split at h
    case h_2 => cases h
    rename_i b hb
    obtain ⟨callee, args, tys⟩ := c
    simp only at hb
    subst hb
    obtain ⟨args⟩ := args
    obtain ⟨tys⟩ := tys
    obtain ⟨cs, hr⟩ := resolve_builtin (P := P) (w := w) ev b ⟨args⟩ ⟨tys⟩ type
    have := builtin_sound (P := P) (ty := type) (cs := cs) (args := args) (tys := tys) hev (fun hb => by rcases hb with rfl | rfl <;> rfl) h hS hn
    simp only [execOp]
    rw [hr]
    simpa using this
  · cases h
end Go.Proofs.Ytjjmedgibcffhaa.M
/- Code on abstract states: what holds of a piece of code in every concrete state that fits. -/
namespace Go.Proofs.Ytjjmedgibcffhaa.M
open Go.RowKit
set_option linter.unusedVariables false
set_option linter.unusedSimpArgs false

/-- A row becomes pure data. -/
theorem frz_row {g : Gh} {w : World} {H : Nat → Option Blk} {nm sz o m : Nat} {xs : List V} {ds : List D} (hS : RS g w H) (hH : H nm = some (.row sz xs)) (hx : (xs.drop o).take m = ds.map V.d) (hl : ds.length = m) :
    ∃ g', Ext g w g' w ∧ RS g' w (hset H nm none) ∧ (∀ k, g'.U k → g.U k) ∧ ∀ v, RV g w (.ms nm sz o m) v → RV g' w (.d (.sl ds)) v := by
  obtain ⟨hU, h1, h2, h3, h4⟩ := hS.ok _ _ hH
  have hless : RS g w (hset H nm none) := hS.less fun k q hq => by
    unfold hset at hq
    split at hq
    · cases hq
    · exact hq
  have hne : ∀ k, (hset H nm none k).isSome → k ≠ nm ∧ (H k).isSome := by
    intro k hk
    unfold hset at hk
    split at hk
    · cases hk
    · exact ⟨by assumption, hk⟩
  rcases h4 with ⟨h4, rfl⟩ | ⟨b, vs, t, h4, h5, h6, h7⟩
  · refine ⟨g, Ext.refl _ _, hless, fun k h => h, fun v hv => ?_⟩
    have hds : ds = [] := by simpa using hx.symm
    subst hds
    simp at hl
    subst hl
    cases hv with
    | ms _ _ _ _ b p c hU hb => rw [h4] at hb; cases hb
    | msZero _ _ _ a => exact .d (.slNil a 0)
  · have hsome : (H nm).isSome := by simp [hH]
    have hnF := hS.notF nm b hsome h4
    have hE : Ext g w (g.frz b) w := ⟨fun _ h => h, fun _ _ => rfl, fun _ h => .inl h, fun _ _ => rfl, rfl, rfl, rfl, Nat.le_refl _⟩
    refine ⟨g.frz b, hE, ?_, fun k h => h, fun v hv => ?_⟩
    · refine hless.ext hE (fun _ _ _ _ => rfl) ?_
      rintro i (hi | rfl)
      · exact ⟨hS.ltF i hi, fun k hks hbk => (hS.notF k i (hne k hks).2 hbk).1 hi⟩
      · exact ⟨hnF.2, fun k hks hbk => (hne k hks).1 (hS.inj k nm i (hne k hks).2 hsome hbk h4)⟩
    · cases hv with
      | msZero _ _ _ a =>
        have : ds = [] := List.eq_nil_of_length_eq_zero hl
        subst this
        exact .d (.slNil a 0)
      | ms _ _ _ _ b' p c hU' hb' hs hp hn hc =>
        rw [h4] at hb'
        injection hb' with hb'
        subst hb' hp
        have hel : ∀ (i : Nat) (x : D), ds[i]? = some x → xs[o + i]? = some (.d x) := by
          intro i x hi
          have hi' : i < m := by rw [← hl]; exact (List.getElem?_eq_some_iff.1 hi).1
          have : ((xs.drop o).take m)[i]? = some (.d x) := by rw [hx]; simp [hi]
          rw [List.getElem?_take_of_lt hi', List.getElem?_drop] at this
          exact this
        have hcl : ∀ (i : Nat) (x : D), ds[i]? = some x → x.cells.length = sz := by
          intro i x hi
          have := h3 _ _ (hel i x hi)
          rw [d_cells] at this
          simpa using this
        rw [← hl]
        refine .d (.sl ds b _ c sz (fun i j => vs.getD ((g.ρ nm).off + (o + i) * sz + j) undef) (.inr rfl) (by rw [hl]; exact hn) hcl (fun i j x y hi hy => ?_) (fun i j x y hi hy => ?_))
        · have hj : j < sz := by rw [← hcl i x hi]; exact (List.getElem?_eq_some_iff.1 hy).1
          have ho : o + i < (g.ρ nm).tot := Nat.lt_of_lt_of_le (List.getElem?_eq_some_iff.1 (hel i x hi)).1 h2
          have hm : (o + i + 1) * sz ≤ (g.ρ nm).tot * sz := Nat.mul_le_mul_right _ ho
          rw [Nat.add_mul, Nat.add_mul] at hm
          have hlt : (g.ρ nm).off + (o + i) * sz + j < vs.size := by rw [Nat.add_mul]; omega
          have e : (g.ρ nm).off + o * sz + i * sz + j = (g.ρ nm).off + (o + i) * sz + j := by rw [Nat.add_mul]; omega
          rw [e]
          simp [World.cell?, h5, hlt]
        · have hy' : (V.d x).cells[j]? = some (.d y) := by rw [d_cells]; simp [hy]
          have := h7 (o + i) j _ _ (hel i x hi) hy'
          cases this with | d h => exact h.mono hE.fz hE.keep


def memN : List Nat → Nat → Bool
  | [], _ => false
  | k :: ks, a => if a = k then true else memN ks a
/-- One operation; of what is appended to nothing, in the slots of fz, a pure slice is made at once. -/
noncomputable def stepF0 (P : Program) (fz : List Nat) (o : Oper) (lk : Operand → V) (blk : Option Blk) (nm : Nat) : Option (V × Eff) :=
  match stepB P o.op lk blk nm with
  | none => none
  | some (v, ef) => match o.dst with
    | none => some (v, ef)
    | some d => bif memN fz d then (match v, ef with
      | .ms nm0 sz o m, .move none nm' (.row sz' xs) => match allD xs with
        | some ds => if nm0 = nm ∧ nm' = nm ∧ o = 0 ∧ m = ds.length ∧ sz' = sz then some (.d (.sl ds), .keep) else none
        | none => none
      | .ms nm0 sz o m, .move (some old) nm' (.row sz' xs) => match allD xs with
        | some ds => if nm0 = nm ∧ nm' = nm ∧ o = 0 ∧ m = ds.length ∧ sz' = sz then some (.d (.sl ds), .drop old) else none
        | none => none
      | .e0, .keep => some (.d (.sl []), .keep)
      | _, _ => none) else some (v, ef)

theorem stepF0_sound {P : Program} {fz : List Nat} {g : Gh} {w : World} {H : Nat → Option Blk} {nm : Nat} {v : V} {ef : Eff} {lk : Operand → V} {ev : Operand → Value} (hev : ∀ x, RV g w (lk x) (ev x)) (o : Oper)
    (h : stepF0 P fz o lk (blkOf H (fpOf o.op lk)) nm = some (v, ef)) (hS : RS g w H) (hn : ¬ g.U nm) : StepOK P g w H nm v ef ((execOp ev o).run P w) := by
  unfold stepF0 at h
  split at h
  · cases h
  · rename_i v1 ef1 hs
    have hok := step_sound hev o hs hS hn
    split at h
    · injection h with h
      injection h with h1 h2
      subst h1 h2
      exact hok
    · rename_i d hd
      cases hf : memN fz d with
      | false =>
        rw [hf] at h
        simp only [cond_false] at h
        injection h with h
        injection h with h1 h2
        subst h1 h2
        exact hok
      | true =>
        rw [hf] at h
        simp only [cond_true] at h
        split at h
        · rename_i nm0 sz oo m nm' sz' xs
          split at h
          case h_2 => cases h
          rename_i ds hds
          split at h
          case isFalse => cases h
          rename_i hc
          obtain ⟨c1, c2, c3, c4, c5⟩ := hc
          injection h with h
          injection h with h1 h2
          subst h1 h2 c1 c2 c3 c5
          have hxs := allD_some hds
          obtain ⟨w', g', hr, hE, hS', hU⟩ := hok
          obtain ⟨g'', f1, f2, f3, f4⟩ := frz_row (o := 0) (m := m) (ds := ds) hS' (nm := nm') (sz := sz') (xs := xs) (by simp [Eff.on, hset]) (by rw [hxs, c4]; simp [List.take_of_length_le]) c4.symm
          have hHn : hset ((Eff.move none nm' (.row sz' xs)).on H) nm' none = H := by
            funext q
            simp only [Eff.on, hset]
            split
            · rename_i e
              subst e
              cases hq : H q with
              | none => rfl
              | some k => exact absurd (hS.ok q k hq).1 hn
            · rfl
          rw [hHn] at f2
          rcases hr with ⟨v', hr, hv'⟩ | ⟨hr, hv⟩
          · exact ⟨w', g'', .inl ⟨v', hr, f4 v' hv'⟩, hE.trans f1, f2, fun k hk => hU k (f3 k hk)⟩
          · cases hv
        · rename_i nm0 sz oo m old nm' sz' xs
          split at h
          case h_2 => cases h
          rename_i ds hds
          split at h
          case isFalse => cases h
          rename_i hc
          obtain ⟨c1, c2, c3, c4, c5⟩ := hc
          injection h with h
          injection h with h1 h2
          subst h1 h2 c1 c2 c3 c5
          have hxs := allD_some hds
          obtain ⟨w', g', hr, hE, hS', hU⟩ := hok
          obtain ⟨g'', f1, f2, f3, f4⟩ := frz_row (o := 0) (m := m) (ds := ds) hS' (nm := nm') (sz := sz') (xs := xs) (by simp [Eff.on, hset]) (by rw [hxs, c4]; simp [List.take_of_length_le]) c4.symm
          have hHn : hset ((Eff.move (some old) nm' (.row sz' xs)).on H) nm' none = (Eff.drop old).on H := by
            funext q
            simp only [Eff.on, hset]
            split
            · rename_i e
              subst e
              split
              · rfl
              · cases hq : H q with
                | none => rfl
                | some k => exact absurd (hS.ok q k hq).1 hn
            · rfl
          rw [hHn] at f2
          rcases hr with ⟨v', hr, hv'⟩ | ⟨hr, hv⟩
          · exact ⟨w', g'', .inl ⟨v', hr, f4 v' hv'⟩, hE.trans f1, f2, fun k hk => hU k (f3 k hk)⟩
          · cases hv
        · injection h with h
          injection h with h1 h2
          subst h1 h2
          obtain ⟨w', g', hr, hE, hS', hU⟩ := hok
          rcases hr with ⟨v', hr, hv'⟩ | ⟨hr, hv⟩
          · exact ⟨w', g', .inl ⟨v', hr, by cases hv'; exact .d (.slNil _ _)⟩, hE, hS', hU⟩
          · cases hv
        · cases h

/-- A literal slice in the slots of fz, as a row of one's own. -/
def ownStep (P : Program) (fz : List Nat) (o : Oper) (lk : Operand → V) (nm : Nat) : Option (V × Eff) :=
  match o.op, o.dst with
  | .buildSlice t len parts, some d => bif memN fz d && !(parts.size == 0) then evalBuildOwn P t len (parts.toList.map fun p => (p.1, lk p.2)) nm else none
  | _, _ => none
noncomputable def stepF (P : Program) (fz : List Nat) (o : Oper) (lk : Operand → V) (blk : Option Blk) (nm : Nat) : Option (V × Eff) :=
  match ownStep P fz o lk nm with
  | some r => some r
  | none => stepF0 P fz o lk blk nm
theorem stepF_sound {P : Program} {fz : List Nat} {g : Gh} {w : World} {H : Nat → Option Blk} {nm : Nat} {v : V} {ef : Eff} {lk : Operand → V} {ev : Operand → Value} (hev : ∀ x, RV g w (lk x) (ev x)) (o : Oper)
    (h : stepF P fz o lk (blkOf H (fpOf o.op lk)) nm = some (v, ef)) (hS : RS g w H) (hn : ¬ g.U nm) : StepOK P g w H nm v ef ((execOp ev o).run P w) := by
  unfold stepF at h
  split at h
  · rename_i r hr
    injection h with h
    subst h
    unfold ownStep at hr
    split at hr
    case h_2 => cases hr
    rename_i t len parts d hop hd
    cases hb : (memN fz d && !(parts.size == 0)) with
    | false => rw [hb] at hr; cases hr
    | true =>
      rw [hb] at hr
      simp only [cond_true] at hr
      have := evalBuildOwn_run (P := P) (t := t) (len := len) (parts := parts) (nm := nm) (v := v) (ef := ef) hev hr hS hn
      have h2 := StepOK.val (P := P) this
      simpa only [execOp, hop] using h2
  · exact stepF0_sound hev o h hS hn

abbrev Fr := Nat → V
def fset (fr : Fr) (d : Nat) (v : V) : Fr := fun t => if t = d then v else fr t

/-- Named blocks: those in l, then those of H. next: no name from there on has been used. -/
structure St where
  next : Nat
  l : List (Nat × Option Blk)
  H : Nat → Option Blk
def lget : List (Nat × Option Blk) → (Nat → Option Blk) → Nat → Option Blk
  | [], H, m => H m
  | (a, k) :: l, H, m => if m = a then k else lget l H m
def lput : List (Nat × Option Blk) → Nat → Option Blk → List (Nat × Option Blk)
  | [], m, k => [(m, k)]
  | (a, q) :: l, m, k => if m = a then (a, k) :: l else (a, q) :: lput l m k
def St.get (S : St) (m : Nat) : Option Blk := lget S.l S.H m
def St.set (S : St) (m : Nat) (k : Option Blk) : St := { S with l := lput S.l m k }
theorem lget_lput (H : Nat → Option Blk) (m : Nat) (k : Option Blk) : ∀ (l : List (Nat × Option Blk)), lget (lput l m k) H = hset (lget l H) m k
  | [] => by funext n; simp [lput, lget, hset]
  | (a, q) :: l => by
    funext n
    simp only [lput]
    split
    · rename_i h
      subst h
      simp only [lget, hset]
      split <;> simp_all
    · rename_i h
      simp only [lget, hset]
      split
      · rename_i h2
        subst h2
        rw [if_neg (fun e => h e.symm)]
      · rw [show lget (lput l m k) H n = hset (lget l H) m k n from congrFun (lget_lput H m k l) n]
        rfl
theorem St.get_set (S : St) (m : Nat) (k : Option Blk) : (S.set m k).get = hset S.get m k := lget_lput S.H m k S.l
def Eff.st (e : Eff) (S : St) : St :=
  match e with
  | .keep => S
  | .put nm k => S.set nm (some k)
  | .move none nm k => S.set nm (some k)
  | .move (some o) nm k => (S.set o none).set nm (some k)
  | .drop nm => S.set nm none
theorem Eff.st_get (e : Eff) (S : St) : (e.st S).get = e.on S.get := by
  cases e with
  | keep => rfl
  | put nm k => exact St.get_set _ _ _
  | move old nm k => cases old with
    | none => exact St.get_set _ _ _
    | some o => simp only [Eff.st, Eff.on]; rw [St.get_set, St.get_set]
  | drop nm => exact St.get_set _ _ _

/-- The slots of a frame of n slots. -/
structure RF (n : Nat) (g : Gh) (w : World) (fr : Fr) (a : Act) : Prop where
  size : a.tmps.size = n
  defers : a.defers = []
  slot : ∀ t, t < n → RV g w (fr t) (a.tmps.getD t undef)
  out : ∀ t, n ≤ t → fr t = .undef
structure Inv (n : Nat) (g : Gh) (w : World) (fr : Fr) (S : St) (a : Act) : Prop where
  rs : RS g w S.get
  lt : ∀ k, g.U k → k < S.next
  rf : RF n g w fr a

theorem RF.mono {n : Nat} {g g' : Gh} {w w' : World} {fr : Fr} {a : Act} (h : RF n g w fr a) (e : Ext g w g' w') : RF n g' w' fr a := ⟨h.size, h.defers, fun t ht => (h.slot t ht).mono e, h.out⟩
theorem RF.put {n : Nat} {g : Gh} {w : World} {fr : Fr} {a : Act} (h : RF n g w fr a) {d : Nat} (hd : d < n) {x : V} {v : Value} (hv : RV g w x v) : RF n g w (fset fr d x) (a.put (some d) v) := by
  refine ⟨by simp [Act.put, h.size], h.defers, fun t ht => ?_, fun t ht => ?_⟩
  · simp only [fset, Act.put]
    split
    · rename_i e
      subst e
      have : t < a.tmps.size := by rw [h.size]; exact ht
      simpa [this] using hv
    · rename_i e
      have := h.slot t ht
      have e2 : (a.tmps.setIfInBounds d v).getD t undef = a.tmps.getD t undef := by
        simp only [Array.getD_eq_getD_getElem?, Array.getElem?_setIfInBounds]
        rw [if_neg (fun e' => e e'.symm)]
      rw [e2]
      exact this
  · simp only [fset]
    rw [if_neg (by omega)]
    exact h.out t ht
def fsetO (fr : Fr) (d : Option Nat) (v : V) : Fr := match d with | some d => fset fr d v | none => fr
def dstOk (n : Nat) (d : Option Nat) : Bool := match d with | some d => decide (d < n) | none => true
theorem RF.putO {n : Nat} {g : Gh} {w : World} {fr : Fr} {a : Act} (h : RF n g w fr a) {d : Option Nat} (hd : dstOk n d = true) {x : V} {v : Value} (hv : RV g w x v) : RF n g w (fsetO fr d x) (a.put d v) := by
  cases d with
  | none => exact h
  | some d => exact h.put (by simpa [dstOk] using hd) hv

def lkE (fr : Fr) : Operand → V
  | .tmp t => fr t
  | .const c => ofConst c
  | .func f => .fn f []
  | .global _ => .undef
theorem RF.eval {n : Nat} {g : Gh} {w : World} {fr : Fr} {a : Act} (h : RF n g w fr a) (x : Operand) : RV g w (lkE fr x) (a.eval x) := by
  cases x with
  | tmp t =>
    simp only [lkE, Act.eval]
    by_cases ht : t < n
    · exact h.slot t ht
    · rw [h.out t (Nat.le_of_not_lt ht)]; exact .undef _
  | const c => exact ofConst_rv g w c
  | global i => exact .undef _
  | func f => exact .fn f [] #[] rfl (by simp)

/-- What holds of a call in every concrete state that fits. -/
def CallM (P : Program) (f : FuncId) (args : List V) (S : St) (R : V → St → Prop) : Prop :=
  ∀ (g : Gh) (w : World) (vals : Array Value), RS g w S.get → (∀ k, g.U k → k < S.next) → vals.size = args.length → (∀ (j : Nat) (y : V), args[j]? = some y → RV g w y (vals.getD j undef)) →
    Calls P f vals w fun e w' => ∃ r v S' g', e = .returned v ∧ Ext g w g' w' ∧ RS g' w' S'.get ∧ (∀ k, g'.U k → k < S'.next) ∧ RV g' w' r v ∧ R r S'

theorem CallM.mono {P : Program} {f : FuncId} {args : List V} {S : St} {R R' : V → St → Prop} (h : CallM P f args S R) (hr : ∀ r S', R r S' → R' r S') : CallM P f args S R' :=
  fun g w vals h1 h2 h3 h4 => (h g w vals h1 h2 h3 h4).mono fun e w' ⟨r, v, S', g', e1, e2, e3, e4, e5, e6⟩ => ⟨r, v, S', g', e1, e2, e3, e4, e5, hr r S' e6⟩

/-- What holds of a piece of code in every concrete state that fits. -/
def WpM (P : Program) (n : Nat) (c : Code) (Q : Exit → Fr → St → Prop) (fr : Fr) (S : St) : Prop :=
  ∀ (g : Gh) (w : World) (a : Act), Inv n g w fr S a → c.wp P (fun e a' w' => ∃ fr' S' g', Ext g w g' w' ∧ Inv n g' w' fr' S' a' ∧ Q e fr' S') a w

section
variable {P : Program} {n : Nat} {Q : Exit → Fr → St → Prop} {fr : Fr} {S : St}
theorem WpM.mono {c : Code} {Q' : Exit → Fr → St → Prop} (h : WpM P n c Q fr S) (hq : ∀ e fr S, Q e fr S → Q' e fr S) : WpM P n c Q' fr S :=
  fun g w a hi => wp_mono (h g w a hi) fun e a' w' ⟨fr', S', g', h1, h2, h3⟩ => ⟨fr', S', g', h1, h2, hq _ _ _ h3⟩
theorem WpM.skip (h : Q .normal fr S) : WpM P n .skip Q fr S := fun g w a hi => wp_skip ⟨fr, S, g, Ext.refl _ _, hi, h⟩
theorem WpM.ret (h : Q .ret fr S) : WpM P n .ret Q fr S := fun g w a hi => wp_ret ⟨fr, S, g, Ext.refl _ _, hi, h⟩
theorem WpM.exit {id : Nat} (h : Q (.exit id) fr S) : WpM P n (.exit id) Q fr S := fun g w a hi => wp_exit ⟨fr, S, g, Ext.refl _ _, hi, h⟩
def thenM (K : Fr → St → Prop) (Q : Exit → Fr → St → Prop) : Exit → Fr → St → Prop
  | .normal, fr, S => K fr S
  | e, fr, S => Q e fr S
theorem WpM.seq {x y : Code} (h : WpM P n x (thenM (WpM P n y Q) Q) fr S) : WpM P n (.seq x y) Q fr S := by
  intro g w a hi
  refine wp_seq (wp_mono (h g w a hi) ?_)
  rintro e a' w' ⟨fr', S', g', h1, h2, h3⟩
  cases e with
  | normal =>
    refine wp_mono (h3 g' w' a' h2) ?_
    rintro e a'' w'' ⟨fr'', S'', g'', h4, h5, h6⟩
    exact ⟨fr'', S'', g'', h1.trans h4, h5, h6⟩
  | _ => exact ⟨fr', S', g', h1, h2, h3⟩
theorem WpM.cond {c : Operand} {x y : Code} {b : Bool} (hc : lkE fr c = .d (.bool b)) (h : WpM P n (if b then x else y) Q fr S) : WpM P n (.cond c x y) Q fr S := by
  intro g w a hi
  have := hi.rf.eval c
  rw [hc] at this
  generalize hv : a.eval c = v at this
  cases this with | d this =>
  cases this
  exact wp_cond hv (h g w a hi)
def blockM (id : Nat) (Q : Exit → Fr → St → Prop) : Exit → Fr → St → Prop
  | .exit id', fr, S => if id' = id then Q .normal fr S else Q (.exit id') fr S
  | e, fr, S => Q e fr S
theorem WpM.block {id : Nat} {c : Code} (h : WpM P n c (blockM id Q) fr S) : WpM P n (.block id c) Q fr S := by
  intro g w a hi
  refine wp_block (wp_mono (h g w a hi) ?_)
  rintro e a' w' ⟨fr', S', g', h1, h2, h3⟩
  cases e with
  | exit id' =>
    simp only [Exit.inBlock, blockM] at h3 ⊢
    split at h3
    · rename_i hid
      rw [if_pos hid]
      exact ⟨fr', S', g', h1, h2, h3⟩
    · rename_i hid
      rw [if_neg hid]
      exact ⟨fr', S', g', h1, h2, h3⟩
  | _ => exact ⟨fr', S', g', h1, h2, h3⟩

/-- Less is known. -/
def St.Le (S S' : St) : Prop := S.next ≤ S'.next ∧ ∀ m k, S'.get m = some k → S.get m = some k
def FrLe (fr fr' : Fr) : Prop := ∀ t, fr' t = fr t ∨ fr' t = .undef
theorem St.Le.refl (S : St) : S.Le S := ⟨Nat.le_refl _, fun _ _ h => h⟩
theorem FrLe.refl (fr : Fr) : FrLe fr fr := fun _ => .inl rfl
theorem Inv.less {g : Gh} {w : World} {a : Act} {fr' : Fr} {S' : St} (h : Inv n g w fr S a) (hS : S.Le S') (hf : FrLe fr fr') : Inv n g w fr' S' a := by
  refine ⟨h.rs.less hS.2, fun k hk => Nat.lt_of_lt_of_le (h.lt k hk) hS.1, h.rf.size, h.rf.defers, fun t ht => ?_, fun t ht => ?_⟩
  · rcases hf t with e | e
    · rw [e]; exact h.rf.slot t ht
    · rw [e]; exact .undef _
  · rcases hf t with e | e
    · rw [e]; exact h.rf.out t ht
    · exact e
theorem WpM.less {c : Code} {fr' : Fr} {S' : St} (hS : S.Le S') (hf : FrLe fr fr') (h : WpM P n c Q fr' S') : WpM P n c Q fr S := fun g w a hi => h g w a (hi.less hS hf)

/-- A loop: what holds at each round's head, told by x. -/
theorem WpM.loop {α : Type} {c : Code} (I : α → Fr → St → Prop) (μ : α → Nat) (x0 : α) {fr0 : Fr} {S0 : St} (hS : S.Le S0) (hf : FrLe fr fr0) (h0 : I x0 fr0 S0)
    (round : ∀ x fr S, I x fr S → WpM P n c (thenM (fun fr' S' => ∃ x' fr'' S'', S'.Le S'' ∧ FrLe fr' fr'' ∧ I x' fr'' S'' ∧ μ x' < μ x) Q) fr S) : WpM P n (.loop c) Q fr S := by
  intro g w a hi
  have key : ∀ (m : Nat) (x : α) (fr : Fr) (S : St) (g' : Gh) (w' : World) (a' : Act), μ x ≤ m → I x fr S → Ext g w g' w' → Inv n g' w' fr S a' →
      Code.rounds P c (fun e a' w' => ∃ fr' S' g', Ext g w g' w' ∧ Inv n g' w' fr' S' a' ∧ Q e fr' S') (m + 1) a' w' := by
    intro m
    induction m with
    | zero =>
      intro x fr S g' w' a' hm hI hE hi'
      rw [rounds_succ]
      refine wp_mono (round x fr S hI g' w' a' hi') ?_
      rintro e a'' w'' ⟨fr', S', g'', h1, h2, h3⟩
      cases e with
      | normal =>
        obtain ⟨x', fr'', S'', _, _, _, hlt⟩ := h3
        omega
      | _ => exact ⟨fr', S', g'', hE.trans h1, h2, h3⟩
    | succ m ih =>
      intro x fr S g' w' a' hm hI hE hi'
      rw [rounds_succ]
      refine wp_mono (round x fr S hI g' w' a' hi') ?_
      rintro e a'' w'' ⟨fr', S', g'', h1, h2, h3⟩
      cases e with
      | normal =>
        obtain ⟨x', fr'', S'', hS', hf', hI', hlt⟩ := h3
        exact ih x' fr'' S'' g'' w'' a'' (by omega) hI' (hE.trans h1) (h2.less hS' hf')
      | _ => exact ⟨fr', S', g'', hE.trans h1, h2, h3⟩
  exact wp_loop_rounds (μ x0 + 1) (key (μ x0) x0 fr0 S0 g w a (Nat.le_refl _) h0 (Ext.refl _ _) (hi.less hS hf))
end

/-- Regions, operation by operation. -/
def guardM (ops : Array Oper) (fr : Fr) (o : Oper) : Option Bool :=
  match o.guard with
  | none => some true
  | some (j, want) => match (ops[j]?).bind (·.dst) with
    | some d => match fr d with
      | .d (.bool b) => some (b == want)
      | .tup [] => some false
      | _ => none
    | none => none
def callOf (o : Oper) (fr : Fr) : Option (FuncId × List V) :=
  match o.op with
  | .call c => match c.callee with
    | .value f => match lkE fr f with
      | .fn f cs => some (f, (c.args.toList.map (lkE fr)) ++ cs)
      | _ => none
    | _ => none
  | _ => none
/-- A named function with a body of its own. -/
def isPlain (P : Program) (f : FuncId) : Bool :=
  match P.funcs[f]? with
  | some fn => fn.name != "runtime.NumGoroutine" && fn.body.isSome
  | none => false

/-- An empty slice against nil: either way. -/
def nilCmp (P : Program) (o : Oper) (fr : Fr) : Bool :=
  match o.op with
  | .binOp .eql t x (.const (.slice none 0 0)) _ => match lkE fr x, P.underlying t with
    | .d (.sl []), some (.slice _) => true
    | _, _ => false
  | _ => false
noncomputable def wpS (P : Program) (n : Nat) (fz : List Nat) (ops : Array Oper) : List Oper → (Fr → St → Prop) → Fr → St → Prop
  | [], K, fr, S => K fr S
  | o :: rest, K, fr, S => dstOk n o.dst = true ∧ match guardM ops fr o with
    | none => False
    | some false => wpS P n fz ops rest K (fsetO fr o.dst (.tup [])) S
    | some true => match callOf o fr with
      | some (f, args) => isPlain P f = true ∧ CallM P f args S fun r S' => wpS P n fz ops rest K (fsetO fr o.dst r) S'
      | none => match stepF P fz o (lkE fr) (blkOf S.get (fpOf o.op (lkE fr))) S.next with
        | some (v, ef) => wpS P n fz ops rest K (fsetO fr o.dst v) { ef.st S with next := S.next + 1 }
        | none => nilCmp P o fr = true ∧ ∀ b : Bool, wpS P n fz ops rest K (fsetO fr o.dst (.d (.bool b))) { S with next := S.next + 1 }
theorem nilCmp_run {P : Program} {n : Nat} {g : Gh} {w : World} {fr : Fr} {a : Act} {o : Oper} (h : nilCmp P o fr = true) (hr : RF n g w fr a) : ∃ b : Bool, (execOp a.eval o).run P w = .ok (.value (.bool b)) w := by
  unfold nilCmp at h
  split at h
  case h_2 => cases h
  rename_i t x q hop
  split at h
  case h_2 => cases h
  rename_i e hx hu
  have hv := hr.eval x
  rw [hx] at hv
  generalize hve : a.eval x = xv at hv
  obtain ⟨A, c, rfl, _⟩ := sliceLen hv
  have hg := eqGuard_run (P := P) (w := w) (op := .eql) (t := t) (x := x) (y := .const (.slice none 0 0)) (a := .slice A ([] : List D).length c) (b := .slice none 0 0) (by simp) (by simp)
  refine ⟨A.isNone, ?_⟩
  have hc0 : a.eval (.const (.slice none 0 0)) = .slice none 0 0 := rfl
  simp only [execOp, hop, hve, hc0, Sem.run_bind, hg, Result.andThen_ok]
  simp [Go.binOp, Op.equal, Op.maxDepth, Lib.run_equalIn_slice_nil w 9999 t e A _ c 0 0 hu]

theorem skip_rv {g : Gh} {w : World} : RV g w (.tup []) undef := .tup [] #[] rfl (by simp)
theorem guardM_wanted {n : Nat} {g : Gh} {w : World} {fr : Fr} {a : Act} {ops : Array Oper} {o : Oper} {b : Bool} (h : guardM ops fr o = some b) (hr : RF n g w fr a) : Region.wanted o (yielded ops a.tmps) = b := by
  unfold guardM at h
  split at h
  · rename_i hg
    injection h with h
    subst h
    simp [Region.wanted, hg]
  · rename_i j want hg
    split at h
    case h_2 => cases h
    rename_i d hd
    split at h
    case h_3 => cases h
    rotate_left
    · rename_i hq
      injection h with h
      subst h
      have hlt : d < n := by
        rcases Nat.lt_or_ge d n with h | h
        · exact h
        · rw [hr.out d h] at hq; cases hq
      have := hr.slot d hlt
      rw [hq] at this
      have hsz : d < a.tmps.size := by rw [hr.size]; exact hlt
      have hget : a.tmps.getD d undef = a.tmps[d] := by simp [hsz]
      rw [hget] at this
      generalize hv : a.tmps[d] = v at this
      cases this
      have hy : yielded ops a.tmps j = none := by
        unfold yielded
        rw [hd]
        simp [hsz, hv]
      simp only [Region.wanted, hg, hy]
      rfl
    rename_i q hq
    injection h with h
    subst h
    have hlt : d < n := by
      rcases Nat.lt_or_ge d n with h | h
      · exact h
      · rw [hr.out d h] at hq; cases hq
    have := hr.slot d hlt
    rw [hq] at this
    have hsz : d < a.tmps.size := by rw [hr.size]; exact hlt
    have hget : a.tmps.getD d undef = a.tmps[d] := by simp [hsz]
    rw [hget] at this
    generalize hv : a.tmps[d] = v at this
    cases this with | d this =>
    cases this
    have hy : yielded ops a.tmps j = some q := by
      unfold yielded
      rw [hd]
      simp [hsz, hv]
    simp only [Region.wanted, hg, hy]
    cases q <;> cases want <;> rfl

theorem wpS_run {P : Program} {n : Nat} {fz : List Nat} {ops : Array Oper} {Q : Exit → Fr → St → Prop} : ∀ (l : List Nat) (k : Nat) (fr : Fr) (S : St) (g : Gh) (w : World) (a : Act) (g0 : Gh) (w0 : World), (∀ i, l[i]? = if k + i < ops.size then some (k + i) else none) →
    wpS P n fz ops (ops.toList.drop k) (Q .normal) fr S → Ext g0 w0 g w → Inv n g w fr S a → wpOps P ops (fun e a' w' => ∃ fr' S' g', Ext g0 w0 g' w' ∧ Inv n g' w' fr' S' a' ∧ Q e fr' S') l a w := by
  intro l
  induction l with
  | nil =>
    intro k fr S g w a g0 w0 hl h hE hi
    have : ops.size ≤ k := by
      rcases Nat.lt_or_ge k ops.size with h | h
      · have := hl 0; simp [h] at this
      · exact h
    rw [List.drop_eq_nil_of_le (by simpa using this)] at h
    exact ⟨fr, S, g, hE, hi, h⟩
  | cons i l ih =>
    intro k fr S g w a g0 w0 hl h hE hi
    have hk : k < ops.size ∧ i = k := by
      have := hl 0
      simp at this
      exact ⟨this.1, this.2⟩
    obtain ⟨hk, rfl⟩ := hk
    have hl' : ∀ j, l[j]? = if i + 1 + j < ops.size then some (i + 1 + j) else none := fun j => by
      have := hl (j + 1)
      simp at this
      rw [this, show i + (j + 1) = i + 1 + j by omega]
    have hd : ops.toList.drop i = ops[i] :: ops.toList.drop (i + 1) := by
      rw [List.drop_eq_getElem_cons (by simpa using hk)]
      simp
    rw [hd] at h
    simp only [wpS] at h
    obtain ⟨hdst, h⟩ := h
    have hoi : ops[i]? = some ops[i] := by simp [hk]
    simp only [wpOps, hoi]
    split at h
    · exact h.elim
    · rename_i hg
      have hw := guardM_wanted hg hi.rf
      rw [if_neg (by rw [hw]; simp)]
      exact ih (i + 1) _ S g w _ g0 w0 hl' h hE ⟨hi.rs, hi.lt, hi.rf.putO hdst skip_rv⟩
    · rename_i hg
      have hw := guardM_wanted hg hi.rf
      rw [if_pos hw]
      left
      unfold Oper.wp
      split at h
      · -- a call
        rename_i f args hc
        obtain ⟨hpl, h⟩ := h
        unfold callOf at hc
        split at hc
        case h_2 => cases hc
        rename_i c hop
        split at hc
        case h_2 => cases hc
        rename_i fo hcal
        split at hc
        case h_2 => cases hc
        rename_i f' cs hf
        injection hc with hc
        injection hc with h1 h2
        subst h1 h2
        have hfv := hi.rf.eval fo
        rw [hf] at hfv
        generalize hve : a.eval fo = fv at hfv
        cases hfv with
        | fn _ _ vs hvl hvr =>
          have hrun : (execOp a.eval ops[i]).run P w = .ok (.enter f' (c.args.map a.eval ++ vs)) w := by
            unfold isPlain at hpl
            split at hpl
            case h_2 => cases hpl
            rename_i fn hfn
            simp at hpl
            obtain ⟨hp1, hp2⟩ := hpl
            have hb : ¬ fn.body = none := by intro hbb; simp [hbb] at hp2
            simp [execOp, hop, resolve, hcal, hve, Deferred.ofValue, invoke, callFunc, hfn, hp1, hb]
          rw [hrun]
          simp only [Oper.upon_enter]
          refine (h g w (c.args.map a.eval ++ vs) hi.rs hi.lt ?_ ?_).mono ?_
          · simp [hvl]
          · intro j y hy
            have hcs : (c.args.map a.eval).size = (c.args.toList.map (lkE fr)).length := by simp
            rw [List.getElem?_append] at hy
            split at hy
            · rename_i hj
              simp only [List.getElem?_map, Option.map_eq_some_iff] at hy
              obtain ⟨x, hx, rfl⟩ := hy
              have hj' : j < c.args.size := by simpa using hj
              have hxx : c.args[j] = x := by simpa [hj'] using hx
              have : (c.args.map a.eval ++ vs).getD j undef = a.eval x := by
                simp [Array.getElem?_append, hj', hxx]
              rw [this]
              exact hi.rf.eval x
            · rename_i hj
              have hj' : ¬ j < c.args.size := by simpa using hj
              have := hvr _ y hy
              have e : (c.args.map a.eval ++ vs).getD j undef = vs.getD (j - (c.args.toList.map (lkE fr)).length) undef := by
                simp [Array.getElem?_append, hj']
              rw [e]
              exact this
          · rintro e w' ⟨r, v, S', g', rfl, h1, h2, h3, h4, h5⟩
            simp only
            exact ih (i + 1) _ S' g' w' _ g0 w0 hl' h5 (hE.trans h1) ⟨h2, h3, (hi.rf.mono h1).putO hdst h4⟩
      · rename_i hc
        split at h
        · rename_i v ef hs
          obtain ⟨w', g', hr, h1, h2, h3⟩ := stepF_sound (P := P) (fun x => hi.rf.eval x) ops[i] hs hi.rs (fun hU => by have := hi.lt _ hU; omega)
          have hinv : ∀ v', RV g' w' v v' → Inv n g' w' (fsetO fr ops[i].dst v) { ef.st S with next := S.next + 1 } (a.put ops[i].dst v') := fun v' hv' =>
            ⟨by rw [show ({ ef.st S with next := S.next + 1 } : St).get = (ef.st S).get from rfl, Eff.st_get]; exact h2, fun k hk => (show k < S.next + 1 from by
              rcases h3 k hk with h | h
              · have := hi.lt k h
                omega
              · omega), (hi.rf.mono h1).putO hdst hv'⟩
          rcases hr with ⟨v', hr, hv'⟩ | ⟨hr, hv⟩
          · rw [hr]
            simp only [Oper.upon_value]
            exact ih (i + 1) _ _ g' w' _ g0 w0 hl' h (hE.trans h1) (hinv v' hv')
          · rw [hr]
            simp only [Oper.upon_skip]
            exact ih (i + 1) _ _ g' w' _ g0 w0 hl' h (hE.trans h1) (hinv undef (by rw [hv]; exact .undef _))
        · obtain ⟨hnc, h⟩ := h
          obtain ⟨b, hrun⟩ := nilCmp_run hnc hi.rf
          rw [hrun]
          simp only [Oper.upon_value]
          refine ih (i + 1) _ _ g w _ g0 w0 hl' (h b) hE ⟨hi.rs, fun k hk => ?_, hi.rf.putO hdst (.d (.bool b))⟩
          have := hi.lt k hk
          show k < S.next + 1
          omega

theorem WpM.region {P : Program} {n : Nat} {Q : Exit → Fr → St → Prop} {fr : Fr} {S : St} {id : Nat} {fz : List Nat} {ops : Array Oper} (h : wpS P n fz ops ops.toList (Q .normal) fr S) : WpM P n (.region id ops false) Q fr S := by
  intro g w a hi
  refine wp_region (wpS_run (List.range ops.size) 0 fr S g w a g w (fun i => ?_) (by simpa using h) (Ext.refl _ _) hi)
  rw [Nat.zero_add]
  split
  · rename_i h; simp [h]
  · rename_i h; simp [List.getElem?_eq_none (show (List.range ops.size).length ≤ i by simpa using h)]
end Go.Proofs.Ytjjmedgibcffhaa.M
/- Functions; changes of what is known at a standing world: rows become pure, nil becomes an empty row. -/
namespace Go.Proofs.Ytjjmedgibcffhaa.M
open Go.RowKit
set_option linter.unusedVariables false
set_option linter.unusedSimpArgs false

/-- The world stands; what is known is told otherwise. -/
def Upd (n : Nat) (fr : Fr) (S : St) (K : Fr → St → Prop) : Prop :=
  ∀ (g : Gh) (w : World) (a : Act), Inv n g w fr S a → ∃ fr' S' g', Ext g w g' w ∧ Inv n g' w fr' S' a ∧ K fr' S'
section
variable {P : Program} {n : Nat} {fr : Fr} {S : St} {K : Fr → St → Prop}
theorem Upd.done (h : K fr S) : Upd n fr S K := fun g w a hi => ⟨fr, S, g, Ext.refl _ _, hi, h⟩
theorem Upd.less {fr' : Fr} {S' : St} (hS : S.Le S') (hf : FrLe fr fr') (h : Upd n fr' S' K) : Upd n fr S K := fun g w a hi => h g w a (hi.less hS hf)
theorem Upd.wp {c : Code} {Q : Exit → Fr → St → Prop} (h : Upd n fr S (WpM P n c Q)) : WpM P n c Q fr S := by
  intro g w a hi
  obtain ⟨fr', S', g', h1, h2, h3⟩ := h g w a hi
  refine wp_mono (h3 g' w a h2) ?_
  rintro e a' w' ⟨fr'', S'', g'', h4, h5, h6⟩
  exact ⟨fr'', S'', g'', h1.trans h4, h5, h6⟩
theorem Upd.mono {K' : Fr → St → Prop} (h : Upd n fr S K) (hk : ∀ fr S, K fr S → K' fr S) : Upd n fr S K' := by
  intro g w a hi
  obtain ⟨fr', S', g', h1, h2, h3⟩ := h g w a hi
  exact ⟨fr', S', g', h1, h2, hk _ _ h3⟩
theorem Upd.trans (h : Upd n fr S (fun fr' S' => Upd n fr' S' K)) : Upd n fr S K := by
  intro g w a hi
  obtain ⟨fr', S', g', h1, h2, h3⟩ := h g w a hi
  obtain ⟨fr'', S'', g'', h4, h5, h6⟩ := h3 g' w a h2
  exact ⟨fr'', S'', g'', h1.trans h4, h5, h6⟩

theorem Upd.freeze (t : Nat) {nm sz o m : Nat} {xs : List V} (ds : List D) (ht : fr t = .ms nm sz o m) (hg : S.get nm = some (.row sz xs)) (hx : (xs.drop o).take m = ds.map V.d) (hl : ds.length = m)
    (h : Upd n (fset fr t (.d (.sl ds))) (S.set nm none) K) : Upd n fr S K := by
  intro g w a hi
  obtain ⟨g', h1, h2, h3, h4⟩ := frz_row hi.rs hg hx hl
  have hi' : Inv n g' w (fset fr t (.d (.sl ds))) (S.set nm none) a := by
    refine ⟨by rw [St.get_set]; exact h2, fun k hk => hi.lt k (h3 k hk), hi.rf.size, hi.rf.defers, fun t' ht' => ?_, fun t' ht' => ?_⟩
    · simp only [fset]
      split
      · rename_i e
        subst e
        have := hi.rf.slot t' ht'
        rw [ht] at this
        exact h4 _ this
      · exact (hi.rf.slot t' ht').mono h1
    · simp only [fset]
      split
      · rename_i e
        subst e
        have := hi.rf.out t' ht'
        rw [ht] at this
        cases this
      · exact hi.rf.out t' ht'
  obtain ⟨fr', S', g'', h5, h6, h7⟩ := h g' w a hi'
  exact ⟨fr', S', g'', h1.trans h5, h6, h7⟩

/-- A row that a cell of a struct holds becomes pure data. -/
theorem Upd.freezeIn (bx j : Nat) {nm sz o m : Nat} {cs xs : List V} (ds : List D) (hb : S.get bx = some (.box cs)) (ht : cs[j]? = some (.ms nm sz o m)) (hg : S.get nm = some (.row sz xs)) (hx : (xs.drop o).take m = ds.map V.d) (hl : ds.length = m)
    (h : Upd n fr ((S.set nm none).set bx (some (.box (cs.set j (.d (.sl ds)))))) K) : Upd n fr S K := by
  intro g w a hi
  obtain ⟨g', h1, h2, h3, h4⟩ := frz_row hi.rs hg hx hl
  have hne : bx ≠ nm := fun e => by rw [e, hg] at hb; cases hb
  have hb' : hset S.get nm none bx = some (.box cs) := by simp [hset, hne, hb]
  have hlen : j < cs.length := (List.getElem?_eq_some_iff.1 ht).1
  have hrs : RS g' w (hset (hset S.get nm none) bx (some (.box (cs.set j (.d (.sl ds)))))) := by
    obtain ⟨hU, b, vs, tt, e1, e2, e3, e4⟩ := h2.ok _ _ hb'
    obtain ⟨_, b0, vs0, tt0, f1, f2, f3, f4⟩ := hi.rs.ok _ _ hb
    have hUU := (hi.rs.ok _ _ hb).1
    rw [h1.same bx hUU, f1] at e1
    injection e1 with e1
    subst e1
    rw [e2] at f2
    injection f2 with f2
    injection f2 with f2 _
    subst f2
    refine (h2.write (w' := w) (k' := .box (cs.set j (.d (.sl ds)))) hb' (by rw [h1.same bx hUU]; exact f1) (fun _ _ => rfl) rfl rfl rfl rfl (fun _ => ⟨b0, vs, tt, by rw [h1.same bx hUU]; exact f1, e2, by simpa using e3, fun j' y hy => ?_⟩)).2
    rw [List.getElem?_set] at hy
    split at hy
    · rename_i e
      subst e
      try rw [if_pos hlen] at hy
      injection hy with hy
      subst hy
      exact h4 _ (f4 j _ ht)
    · exact e4 j' y hy
  have hi' : Inv n g' w fr ((S.set nm none).set bx (some (.box (cs.set j (.d (.sl ds)))))) a :=
    ⟨by rw [St.get_set, St.get_set]; exact hrs, fun k hk => hi.lt k (h3 k hk), hi.rf.mono h1⟩
  obtain ⟨fr', S', g'', h5, h6, h7⟩ := h g' w a hi'
  exact ⟨fr', S', g'', h1.trans h5, h6, h7⟩

/-- A slice that is nil becomes an empty row. -/
theorem Upd.ghost (t sz : Nat) (ht : fr t = .nil ∨ fr t = .e0) (h : Upd n (fset fr t (.ms S.next sz 0 0)) { S.set S.next (some (.row sz [])) with next := S.next + 1 } K) : Upd n fr S K := by
  intro g w a hi
  have hn : ¬ g.U S.next := fun hU => by have := hi.lt _ hU; omega
  have hE : Ext g w (g.new S.next ⟨none, 0, sz, 0⟩) w := ⟨fun k h => .inl h, fun k h => g.new_ne _ (fun e => hn (e ▸ h)), fun b h => h, fun _ _ => rfl, rfl, rfl, rfl, Nat.le_refl _⟩
  have hrs : RS (g.new S.next ⟨none, 0, sz, 0⟩) w (hset S.get S.next (some (.row sz []))) := by
    refine hi.rs.put hE (fun _ _ _ _ _ => rfl) (.inr rfl) ?_ ?_ ?_
    · exact ⟨by rw [g.new_at], by simp, by simp, .inl ⟨by rw [g.new_at], rfl⟩⟩
    · intro b hb; rw [g.new_at] at hb; cases hb
    · exact fun b hb => ⟨hi.rs.ltF b hb, fun k _ hks hbk => (hi.rs.notF k b hks hbk).1 hb⟩
  have hval : ∀ v, RV g w (fr t) v → RV (g.new S.next ⟨none, 0, sz, 0⟩) w (.ms S.next sz 0 0) v := by
    intro v hv
    rcases ht with e | e <;> rw [e] at hv <;> cases hv <;> exact .msZero _ _ _ _ (.inr rfl)
  have hi' : Inv n (g.new S.next ⟨none, 0, sz, 0⟩) w (fset fr t (.ms S.next sz 0 0)) { S.set S.next (some (.row sz [])) with next := S.next + 1 } a := by
    refine ⟨by rw [show ({ S.set S.next (some (.row sz [])) with next := S.next + 1 } : St).get = (S.set S.next (some (.row sz []))).get from rfl, St.get_set]; exact hrs, fun k hk => (show k < S.next + 1 from by
      rcases hk with hk | hk
      · have := hi.lt k hk; omega
      · omega), hi.rf.size, hi.rf.defers, fun t' ht' => ?_, fun t' ht' => ?_⟩
    · simp only [fset]
      split
      · rename_i e
        subst e
        exact hval _ (hi.rf.slot t' ht')
      · exact (hi.rf.slot t' ht').mono hE
    · simp only [fset]
      split
      · rename_i e
        subst e
        have := hi.rf.out t' ht'
        rcases ht with e | e <;> rw [e] at this <;> cases this
      · exact hi.rf.out t' ht'
  obtain ⟨fr', S', g'', h5, h6, h7⟩ := h _ w a hi'
  exact ⟨fr', S', g'', hE.trans h5, h6, h7⟩

/-- A slice that is nil, in a cell of a struct, becomes an empty row. -/
theorem Upd.ghostIn (bx j sz : Nat) {cs : List V} (hb : S.get bx = some (.box cs)) (ht : cs[j]? = some .nil ∨ cs[j]? = some .e0)
    (h : Upd n fr { (S.set S.next (some (.row sz []))).set bx (some (.box (cs.set j (.ms S.next sz 0 0)))) with next := S.next + 1 } K) : Upd n fr S K := by
  intro g w a hi
  have hn : ¬ g.U S.next := fun hU => by have := hi.lt _ hU; omega
  have hE : Ext g w (g.new S.next ⟨none, 0, sz, 0⟩) w := ⟨fun k h => .inl h, fun k h => g.new_ne _ (fun e => hn (e ▸ h)), fun b h => h, fun _ _ => rfl, rfl, rfl, rfl, Nat.le_refl _⟩
  have hrs : RS (g.new S.next ⟨none, 0, sz, 0⟩) w (hset S.get S.next (some (.row sz []))) := by
    refine hi.rs.put hE (fun _ _ _ _ _ => rfl) (.inr rfl) ?_ ?_ ?_
    · exact ⟨by rw [g.new_at], by simp, by simp, .inl ⟨by rw [g.new_at], rfl⟩⟩
    · intro b hb; rw [g.new_at] at hb; cases hb
    · exact fun b hb => ⟨hi.rs.ltF b hb, fun k _ hks hbk => (hi.rs.notF k b hks hbk).1 hb⟩
  have hUb := (hi.rs.ok _ _ hb).1
  have hne : bx ≠ S.next := fun e => hn (e ▸ hUb)
  have hb' : hset S.get S.next (some (.row sz [])) bx = some (.box cs) := by simp [hset, hne, hb]
  have hlen : j < cs.length := by rcases ht with ht | ht <;> exact (List.getElem?_eq_some_iff.1 ht).1
  have hrs2 : RS (g.new S.next ⟨none, 0, sz, 0⟩) w (hset (hset S.get S.next (some (.row sz []))) bx (some (.box (cs.set j (.ms S.next sz 0 0))))) := by
    obtain ⟨hU, b, vs, tt, e1, e2, e3, e4⟩ := hrs.ok _ _ hb'
    refine (hrs.write (w' := w) (k' := .box (cs.set j (.ms S.next sz 0 0))) hb' e1 (fun _ _ => rfl) rfl rfl rfl rfl (fun _ => ⟨b, vs, tt, e1, e2, by simpa using e3, fun j' y hy => ?_⟩)).2
    rw [List.getElem?_set] at hy
    split at hy
    · rename_i e
      subst e
      try rw [if_pos hlen] at hy
      injection hy with hy
      subst hy
      rcases ht with ht | ht
      · have := e4 j _ ht
        generalize vs.getD j undef = q at this
        cases this
        exact .msZero _ _ _ _ (.inr rfl)
      · have := e4 j _ ht
        generalize vs.getD j undef = q at this
        cases this
        exact .msZero _ _ _ _ (.inr rfl)
    · exact e4 j' y hy
  have hi' : Inv n (g.new S.next ⟨none, 0, sz, 0⟩) w fr { (S.set S.next (some (.row sz []))).set bx (some (.box (cs.set j (.ms S.next sz 0 0)))) with next := S.next + 1 } a :=
    ⟨by rw [show ({ (S.set S.next (some (.row sz []))).set bx (some (.box (cs.set j (.ms S.next sz 0 0)))) with next := S.next + 1 } : St).get = ((S.set S.next (some (.row sz []))).set bx (some (.box (cs.set j (.ms S.next sz 0 0))))).get from rfl, St.get_set, St.get_set]; exact hrs2,
      fun k hk => (show k < S.next + 1 from by
        rcases hk with hk | hk
        · have := hi.lt k hk; omega
        · omega), hi.rf.mono hE⟩
  obtain ⟨fr', S', g'', h5, h6, h7⟩ := h _ w a hi'
  exact ⟨fr', S', g'', hE.trans h5, h6, h7⟩
end

/-- A function's results. -/
def resV1 (P : Program) (fr : Fr) (S : St) : ResultVar → Option V
  | .tmp t => some (fr t)
  | .cell a t => evalLoad P t (fr a) (blkOf S.get (refOf (fr a)))
def resVs (P : Program) (fr : Fr) (S : St) : List ResultVar → Option (List V)
  | [] => some []
  | r :: rs => match resV1 P fr S r, resVs P fr S rs with
    | some v, some vs => some (v :: vs)
    | _, _ => none
def resV (P : Program) (fr : Fr) (S : St) (rs : List ResultVar) : Option V :=
  match resVs P fr S rs with
  | some [v] => some v
  | some vs => some (.tup vs)
  | none => none

theorem resVs_run {P : Program} {n : Nat} {g : Gh} {w : World} {fr : Fr} {S : St} {a : Act} (hi : Inv n g w fr S a) : ∀ (rs : List ResultVar) (vs : List V), resVs P fr S rs = some vs →
    ∃ us : List Value, (rs.mapM fun r => (match r with | .tmp t => pure (a.tmps.getD t undef) | .cell b t => do loadVar t (← asAddr (a.tmps.getD b undef)) : Sem Value)).run P w = .ok us w ∧ us.length = vs.length ∧ ∀ (j : Nat) (y : V), vs[j]? = some y → RV g w y (us.getD j undef)
  | [], vs, h => by
    simp [resVs] at h
    subst h
    exact ⟨[], by simp, rfl, by simp⟩
  | r :: rs, vs, h => by
    simp only [resVs] at h
    split at h
    case h_2 => cases h
    rename_i v vs' h1 h2
    injection h with h
    subst h
    obtain ⟨us, h3, h4, h5⟩ := resVs_run hi rs vs' h2
    have h6 : ∃ u, ((match r with | .tmp t => pure (a.tmps.getD t undef) | .cell b t => do loadVar t (← asAddr (a.tmps.getD b undef)) : Sem Value)).run P w = .ok u w ∧ RV g w v u := by
      cases r with
      | tmp t =>
        simp only [resV1] at h1
        injection h1 with h1
        subst h1
        exact ⟨_, rfl, hi.rf.eval (.tmp t)⟩
      | cell b t =>
        simp only [resV1] at h1
        have hv := hi.rf.eval (.tmp b)
        simp only [lkE] at hv
        have hp := hv
        obtain ⟨u, e1, e2⟩ := evalLoad_run (P := P) h1 hv (fun q k hq hk => by rw [hq] at hk; exact (hi.rs.ok q k hk).2)
        refine ⟨u, ?_, e2⟩
        have hcs : ∃ cs, cellsAt (fr b) (blkOf S.get (refOf (fr b))) = some cs := by
          unfold evalLoad at h1
          split at h1
          · rename_i cs _ hcs; exact ⟨_, hcs⟩
          · cases h1
        obtain ⟨cs, hcs⟩ := hcs
        obtain ⟨bb, o, _, hpt, _⟩ := cellsAt_ok hcs hv (fun q k hq hk => by rw [hq] at hk; exact (hi.rs.ok q k hk).2)
        simp only [Act.eval] at hpt e1
        show ((do loadVar t (← asAddr (a.tmps.getD b undef)) : Sem Value)).run P w = _
        rw [hpt] at e1 ⊢
        simpa [Instr.loadAt, Instr.sureAddr, asAddr] using e1
    obtain ⟨u, h7, h8⟩ := h6
    refine ⟨u :: us, ?_, by simp [h4], fun j y hy => ?_⟩
    · rw [List.mapM_cons]
      simp only [Sem.run_bind, h7, h3, Result.andThen_ok, Sem.run_pure]
    · cases j with
      | zero => simp at hy; subst hy; simpa using h8
      | succ j => have := h5 j y (by simpa using hy); simpa [List.getD] using this

def argFr (args : List V) : Fr := fun t => args.getD t .undef

theorem CallM.of {P : Program} {f n : Nat} {fn : Func} {c : Code} {args : List V} {S : St} {R : V → St → Prop} (hf : P.funcs[f]? = some fn) (hb : fn.body = some c) (hn : fn.ntmps = n) (hl : args.length ≤ n)
    (h : WpM P n c (fun e fr S' => (e = .normal ∨ e = .ret) ∧ Upd n fr S' fun fr S' => ∃ r, resV P fr S' fn.results.toList = some r ∧ R r S') (argFr args) S) : CallM P f args S R := by
  intro g w vals hS hlt hsz hv
  refine calls_of_wp hf hb (wp_mono (h g w _ ⟨hS, hlt, ?_⟩) ?_)
  · refine ⟨by simp [hn, hsz]; omega, rfl, fun t ht => ?_, fun t ht => ?_⟩
    · simp only [argFr]
      by_cases hta : t < args.length
      · have := hv t args[t] (by simp [hta])
        have e1 : args.getD t .undef = args[t] := by simp [List.getD, hta]
        rw [e1]
        have hts : t < vals.size := by omega
        have e2 : (vals ++ Array.replicate (fn.ntmps - vals.size) undef).getD t undef = vals.getD t undef := by
          simp [Array.getElem?_append, hts]
        rw [e2]
        exact this
      · have e1 : args.getD t .undef = .undef := by simp [List.getD, List.getElem?_eq_none (show args.length ≤ t by omega)]
        rw [e1]
        exact .undef _
    · simp only [argFr]
      simp [List.getD, List.getElem?_eq_none (show args.length ≤ t by omega)]
  · rintro e a' w' ⟨fr', S', g', h1, h2, h3, h4⟩
    obtain ⟨fr'', S'', g'', h5, h6, r, hr, hR⟩ := h4 g' w' a' h2
    have key : a'.defers = [] ∧ ∃ v, (results fn a'.tmps).run P w' = .ok v w' ∧ ∃ r v' S'' g'', Ending.returned v = .returned v' ∧ Ext g w g'' w' ∧ RS g'' w' S''.get ∧ (∀ k, g''.U k → k < S''.next) ∧ RV g'' w' r v' ∧ R r S'' := by
      refine ⟨h6.rf.defers, ?_⟩
      unfold resV at hr
      cases hrs : resVs P fr'' S'' fn.results.toList with
      | none => simp [hrs] at hr
      | some vs =>
        obtain ⟨us, e1, e2, e3⟩ := resVs_run h6 _ vs hrs
        have hrun : (results fn a'.tmps).run P w' = .ok (if h : us.toArray.size = 1 then us.toArray[0] else .tuple us.toArray) w' := by
          unfold results
          rw [Array.mapM_eq_mapM_toList]
          have key2 : ∀ f : ResultVar → Sem Value, (∀ r, f r = (match r with | .tmp t => pure (a'.tmps.getD t undef) | .cell b t => do loadVar t (← asAddr (a'.tmps.getD b undef)) : Sem Value)) → (List.mapM f fn.results.toList).run P w' = .ok us w' := fun f hf => by rw [funext hf]; exact e1
          simp only [Sem.run_bind, Sem.run_map]
          rw [key2 _ (fun r => by cases r <;> rfl)]
          rfl
        refine ⟨_, hrun, r, _, S'', g'', rfl, h1.trans h5, h6.rs, h6.lt, ?_, hR⟩
        rw [hrs] at hr
        split at hr
        · rename_i v hvs
          injection hr with hr
          injection hvs with hvs
          subst hr hvs
          match us, e2 with
          | [u], _ => simpa using e3 0 v rfl
        · rename_i vs' hne hvs
          injection hr with hr
          injection hvs with hvs
          subst hr hvs
          have : us.length ≠ 1 := by
            intro h1
            obtain ⟨v, hv⟩ := List.length_eq_one_iff.1 (show vs.length = 1 by omega)
            exact hne v hv
          rw [dif_neg (by simpa using this)]
          exact .tup vs us.toArray (by simpa using e2) (fun j y hy => by have := e3 j y hy; simpa [List.getD] using this)
        · cases ‹none = some _›
    rcases h3 with rfl | rfl
    · exact key
    · exact key

/-- Values without names in them. -/
def V.noRef0 : V → Bool
  | .d _ | .nil | .e0 | .undef => true
  | _ => false
def V.noRef : V → Bool
  | .tup xs => xs.all V.noRef0
  | x => x.noRef0
theorem RV.noRef0 {g g' : Gh} {w : World} {x : V} {v : Value} (h : RV g w x v) (hF : g'.F = g.F) (hx : x.noRef0 = true) : RV g' w x v := by
  cases h with
  | d h => exact .d (by rw [hF]; exact h)
  | nil => exact .nil
  | e0 a => exact .e0 a
  | undef v => exact .undef v
  | _ => cases hx
theorem RV.noRef {g g' : Gh} {w : World} {x : V} {v : Value} (h : RV g w x v) (hF : g'.F = g.F) (hx : x.noRef = true) : RV g' w x v := by
  cases h with
  | tup xs vs hl hr => exact .tup xs vs hl fun j y hy => (hr j y hy).noRef0 hF (List.all_eq_true.1 hx y (List.mem_of_getElem? hy))
  | d h => exact .d (by rw [hF]; exact h)
  | nil => exact .nil
  | e0 a => exact .e0 a
  | undef v => exact .undef v
  | _ => cases hx
/-- Back to the names that were there before. -/
def Gh.back (g g' : Gh) : Gh := { ρ := g.ρ, U := g.U, F := g'.F }
theorem RV.back {g g' : Gh} {w' : World} {x : V} {v : Value} (h' : RV g' w' x v) (hs : ∀ n, g.U n → g'.ρ n = g.ρ n) : ∀ {w : World} {v0 : Value}, RV g w x v0 → RV (g.back g') w' x v := by
  induction h' with
  | undef v => exact fun _ => .undef v
  | d h => exact fun _ => .d h
  | nil => exact fun _ => .nil
  | e0 a => exact fun _ => .e0 a
  | ptr nm o b hU hb => intro w v0 h; cases h with | ptr _ _ b' hU' hb' => exact .ptr nm o b hU' (by rw [hs nm hU'] at hb; exact hb)
  | eptr nm i o b p hU hb hp => intro w v0 h; cases h with | eptr _ _ _ b' p' hU' hb' hp' => exact .eptr nm i o b p hU' (by rw [hs nm hU'] at hb; exact hb) (by rw [hs nm hU'] at hp; exact hp)
  | rptr cs b o u hF h2 h3 => exact fun _ => .rptr cs b o u hF h2 h3
  | ms nm sz o n b p c hU hb hsz hp hn hc =>
    intro w v0 h
    have hU' : g.U nm := by cases h <;> assumption
    rw [hs nm hU'] at hb hsz hp hc
    exact .ms nm sz o n b p c hU' hb hsz hp hn hc
  | msZero nm sz o a hU =>
    intro w v0 h
    have hU' : g.U nm := by cases h <;> assumption
    exact .msZero nm sz o a hU'
  | map nm b hU hb => intro w v0 h; cases h with | map _ b' hU' hb' => exact .map nm b hU' (by rw [hs nm hU'] at hb; exact hb)
  | fn f cs vs hl hr ih => intro w v0 h; cases h with | fn _ _ vs' hl' hr' => exact .fn f cs vs hl fun j y hy => ih j y hy (hr' j y hy)
  | agg xs vs hl hr ih => intro w v0 h; cases h with | agg _ vs' hl' hr' => exact .agg xs vs hl fun j y hy => ih j y hy (hr' j y hy)
  | tup xs vs hl hr ih => intro w v0 h; cases h with | tup _ vs' hl' hr' => exact .tup xs vs hl fun j y hy => ih j y hy (hr' j y hy)
  | vs xs b o c sz u hF hc h1 h2 h3 ih => intro w v0 h; cases h with | vs _ _ _ _ _ _ _ _ _ _ h3' => exact .vs xs b o c sz u hF hc h1 h2 fun i j x y hx hy => ih i j x y hx hy (h3' i j x y hx hy)

theorem OptRV.back {g g' : Gh} {w w' : World} {x : Option V} {v v0 : Option Value} (h' : OptRV g' w' x v) (hs : ∀ n, g.U n → g'.ρ n = g.ρ n) (h : OptRV g w x v0) : OptRV (g.back g') w' x v := by
  cases h' with
  | none => exact .none
  | some h' => cases h with | some h => exact .some (h'.back hs h)
theorem BlkOK.back {g g' : Gh} {w w' : World} {nm : Nat} {k : Blk} (h' : BlkOK g' w' nm k) (h : BlkOK g w nm k) (hs : ∀ n, g.U n → g'.ρ n = g.ρ n) (hU : g.U nm) : BlkOK (g.back g') w' nm k := by
  have er : (g.back g').ρ nm = g'.ρ nm := (hs nm hU).symm
  cases k with
  | box cs =>
    obtain ⟨b, vs, t, h1, h2, h3, h4⟩ := h'
    obtain ⟨_, vs0, _, _, _, _, f4⟩ := h
    exact ⟨b, vs, t, by rw [er]; exact h1, h2, h3, fun j y hy => (h4 j y hy).back hs (f4 j y hy)⟩
  | row sz xs =>
    obtain ⟨h1, h2, h3, h4⟩ := h'
    obtain ⟨_, _, _, f4⟩ := h
    refine ⟨by rw [er]; exact h1, by rw [er]; exact h2, h3, ?_⟩
    rcases h4 with ⟨h4, h5⟩ | ⟨b, vs, t, h4, h5, h6, h7⟩
    · exact .inl ⟨by rw [er]; exact h4, h5⟩
    · rcases f4 with ⟨_, f5⟩ | ⟨_, vs0, _, _, _, _, f7⟩
      · refine .inr ⟨b, vs, t, by rw [er]; exact h4, h5, by rw [er]; exact h6, fun i j x y hx hy => ?_⟩
        rw [f5] at hx
        simp at hx
      · exact .inr ⟨b, vs, t, by rw [er]; exact h4, h5, by rw [er]; exact h6, fun i j x y hx hy => by rw [er]; exact (h7 i j x y hx hy).back hs (f7 i j x y hx hy)⟩
  | map kk m =>
    obtain ⟨b, h1, h2⟩ := h'
    obtain ⟨_, _, f2⟩ := h
    refine ⟨b, by rw [er]; exact h1, ?_⟩
    cases kk with
    | int k => obtain ⟨f, h3, h4⟩ := h2; obtain ⟨f', _, f4⟩ := f2; exact ⟨f, h3, fun i => (h4 i).back hs (f4 i)⟩
    | str => obtain ⟨f, h3, h4⟩ := h2; obtain ⟨f', _, f4⟩ := f2; exact ⟨f, h3, fun i => (h4 i).back hs (f4 i)⟩
    | pair k => obtain ⟨f, h3, h4⟩ := h2; obtain ⟨f', _, f4⟩ := f2; exact ⟨f, h3, fun s i => (h4 s i).back hs (f4 s i)⟩

/-- A call that leaves the named blocks as they were and gives a value without names. -/
theorem CallM.pure {P : Program} {f : FuncId} {args : List V} {S : St} {r : V} (hr : r.noRef = true) (h : CallM P f args S fun r' S' => r' = r ∧ ∀ m k, S.get m = some k → S'.get m = some k) : CallM P f args S fun r' S' => r' = r ∧ S' = S := by
  intro g w vals h1 h2 h3 h4
  refine (h g w vals h1 h2 h3 h4).mono ?_
  rintro e w' ⟨r', v, S', g', rfl, hE, hS', hlt, hv, rfl, hget⟩
  have hE' : Ext g w (g.back g') w' := ⟨fun _ h => h, fun _ _ => rfl, hE.fz, hE.keep, hE.os, hE.tape, hE.output, hE.size⟩
  have hsome : ∀ n, (S.get n).isSome → (S'.get n).isSome ∧ g.U n := fun n hn => by
    obtain ⟨k, hk⟩ := Option.isSome_iff_exists.1 hn
    exact ⟨by simp [hget n k hk], (h1.ok n k hk).1⟩
  refine ⟨r', v, S, g.back g', rfl, hE', ⟨fun nm k hk => ?_, fun n m b hn hm hbn hbm => ?_, fun n b hn hb => ?_, hS'.ltF⟩, h2, hv.noRef rfl hr, rfl, rfl⟩
  · have := h1.ok nm k hk
    exact ⟨this.1, (hS'.ok nm k (hget nm k hk)).2.back this.2 hE.same this.1⟩
  · exact hS'.inj n m b (hsome n hn).1 (hsome m hm).1 (by rw [hE.same n (hsome n hn).2]; exact hbn) (by rw [hE.same m (hsome m hm).2]; exact hbm)
  · exact hS'.notF n b (hsome n hn).1 (by rw [hE.same n (hsome n hn).2]; exact hb)

/-- A function that only computes: the same answer in every state, and nothing else. -/
def PureC (P : Program) (f : FuncId) (args : List V) (r : V) : Prop := ∀ S, CallM P f args S fun r' S' => r' = r ∧ S' = S
end Go.Proofs.Ytjjmedgibcffhaa.M
