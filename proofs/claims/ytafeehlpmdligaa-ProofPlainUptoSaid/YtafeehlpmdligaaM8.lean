/- One operation on abstract values, and that the machine's operation does the same. -/
import Derived.Test.YtafeehlpmdligaaM7
namespace Go.Proofs.Ytafeehlpmdligaa.M
open Go.RowKit
set_option linter.unusedVariables false
set_option linter.unusedSimpArgs false

/-- Equality of structs of plain fields. -/
def plainFields (P : Program) : Nat → List Field → Option (List TypeDesc)
  | _, [] => some []
  | k, f :: fs => if f.name ≠ "_" ∧ f.offset = k then match P.underlying f.type with
      | some (.int q) => (plainFields P (k + 1) fs).map (.int q :: ·)
      | some .bool => (plainFields P (k + 1) fs).map (.bool :: ·)
      | some .string => (plainFields P (k + 1) fs).map (.string :: ·)
      | _ => none
    else none
def eqTys (P : Program) (t : TypeId) : Option (List TypeDesc) :=
  match P.underlying t with
  | some (.struct fs) => if P.stoodInHeld t = false ∧ P.eqGuardType P.depth t = false then plainFields P 0 fs.toList else none
  | _ => none
def scEq : TypeDesc → D → D → Option Bool
  | .int _, .int k a, .int k' b => if k = k' then some (decide (a = b)) else none
  | .bool, .bool a, .bool b => some (a == b)
  | .string, .str a, .str b => some (decide (a = b))
  | _, _, _ => none
def eqCells : List TypeDesc → List D → List D → Option Bool
  | [], [], [] => some true
  | t :: ts, x :: xs, y :: ys => match scEq t x y, eqCells ts xs ys with
    | some a, some b => some (a && b)
    | _, _ => none
  | _, _, _ => none

theorem eqCells_run {P : Program} {g : Gh} {w : World} : ∀ (fs : List Field) (k : Nat) (ts : List TypeDesc) (xs ys : List D) (as bs : Array Value) (r : Bool), plainFields P k fs = some ts → eqCells ts xs ys = some r →
    (∀ (j : Nat) (y : D), xs[j]? = some y → RD g.F w y (as.getD (k + j) undef)) → (∀ (j : Nat) (y : D), ys[j]? = some y → RD g.F w y (bs.getD (k + j) undef)) → as.size = k + xs.length → bs.size = k + ys.length →
    (Op.eqFields 9999 as bs fs).run P w = .ok r w
  | [], k, ts, xs, ys, as, bs, r, h1, h2, _, _, _, _ => by
    simp [plainFields] at h1
    subst h1
    cases xs <;> cases ys <;> simp [eqCells] at h2
    subst h2
    simp [Op.eqFields]
  | f :: fs, k, ts, xs, ys, as, bs, r, h1, h2, ha, hb, hsa, hsb => by
    simp only [plainFields] at h1
    split at h1
    case isFalse => cases h1
    rename_i hc
    obtain ⟨hname, hoff⟩ := hc
    -- the rest
    have rest : ∀ (d : TypeDesc) (ts' : List TypeDesc), P.underlying f.type = some d → (match d with | .struct _ | .array _ _ => true | _ => false) = false → plainFields P (k + 1) fs = some ts' → eqCells (d :: ts') xs ys = some r →
        (∀ (x y : D) (a b : Value) (q : Bool), RD g.F w x a → RD g.F w y b → scEq d x y = some q → (Op.equalIn 9999 f.type a b).run P w = .ok q w) → (Op.eqFields 9999 as bs (f :: fs)).run P w = .ok r w := by
      intro d ts' hu hag hts heq hone
      cases xs with
      | nil => simp [eqCells] at heq
      | cons x xs => cases ys with
        | nil => simp [eqCells] at heq
        | cons y ys =>
          simp only [eqCells] at heq
          cases hq : scEq d x y with
          | none => simp [hq] at heq
          | some q => cases hq2 : eqCells ts' xs ys with
            | none => simp [hq, hq2] at heq
            | some q2 =>
              simp [hq, hq2] at heq
              have hka : k < as.size := by rw [hsa]; simp
              have hkb : k < bs.size := by rw [hsb]; simp
              have e1 : (part f.type as f.offset).run P w = .ok (as.getD k undef) w := by
                rw [hoff]
                simp [part, isAgg, run_underlying hu]
                cases d <;> simp_all
              have e2 : (part f.type bs f.offset).run P w = .ok (bs.getD k undef) w := by
                rw [hoff]
                simp [part, isAgg, run_underlying hu]
                cases d <;> simp_all
              have e3 := hone x y _ _ q (ha 0 x (by simp)) (hb 0 y (by simp)) hq
              have ih := eqCells_run fs (k + 1) ts' xs ys as bs q2 hts hq2 (fun j z hz => by have := ha (j + 1) z (by simpa using hz); rw [show k + 1 + j = k + (j + 1) by omega]; exact this) (fun j z hz => by have := hb (j + 1) z (by simpa using hz); rw [show k + 1 + j = k + (j + 1) by omega]; exact this) (by rw [hsa]; simp; omega) (by rw [hsb]; simp; omega)
              simp only [Op.eqFields, if_pos hname, Sem.run_bind, e1, e2, Result.andThen_ok]
              simp only [Nat.add_zero] at e3
              rw [e3]
              cases q
              · simp only [Result.andThen_ok, Bool.not_false, if_true, Sem.run_pure]
                simp at heq
                rw [heq]
              · simp only [Result.andThen_ok, Bool.not_true, Bool.false_eq_true, if_false]
                simp at heq
                rw [ih, heq]
    split at h1
    · rename_i q hq
      simp only [Option.map_eq_some_iff] at h1
      obtain ⟨ts', hts, rfl⟩ := h1
      refine rest _ ts' hq rfl hts h2 fun x y a b r hx hy he => ?_
      cases hx <;> cases hy <;> simp [scEq] at he
      obtain ⟨rfl, rfl⟩ := he
      rename_i k' n m
      rw [run_equalIn_int w 9998 f.type k' q n m hq]
      rfl
    · rename_i hq
      simp only [Option.map_eq_some_iff] at h1
      obtain ⟨ts', hts, rfl⟩ := h1
      refine rest _ ts' hq rfl hts h2 fun x y a b r hx hy he => ?_
      cases hx <;> cases hy <;> simp [scEq] at he
      subst he
      exact run_equalIn_bool' w 9998 f.type _ _ hq
    · rename_i hq
      simp only [Option.map_eq_some_iff] at h1
      obtain ⟨ts', hts, rfl⟩ := h1
      refine rest _ ts' hq rfl hts h2 fun x y a b r hx hy he => ?_
      cases hx <;> cases hy <;> simp [scEq] at he
      subst he
      rw [run_equalIn_string w 9998 f.type _ _ hq, toList_beq]
    · cases h1

def evalEqAgg0 (P : Program) (op : BinOp) (t : TypeId) (x y : V) : Option V :=
  match x, y, eqTys P t with
  | .d (.agg xs), .d (.agg ys), some ts => match op, eqCells ts xs ys with
    | .eql, some r => some (.d (.bool r))
    | .neq, some r => some (.d (.bool (!r)))
    | _, _ => none
  | _, _, _ => none
theorem evalEqAgg0_run {P : Program} {g : Gh} {w : World} {op : BinOp} {t : TypeId} {x y v : V} {a b : Value} (h : evalEqAgg0 P op t x y = some v) (hx : RV g w x a) (hy : RV g w y b) (ox oy : Operand) :
    ∃ v', ((do eqGuard op t ox oy a b; Go.binOp op t a b : Sem Value)).run P w = .ok v' w ∧ RV g w v v' := by
  unfold evalEqAgg0 at h
  split at h
  case h_2 => cases h
  rename_i xs ys ts hts
  unfold eqTys at hts
  split at hts
  case h_2 => cases hts
  rename_i fs hu
  split at hts
  case isFalse => cases hts
  rename_i hc
  obtain ⟨hst, hgd⟩ := hc
  cases hx with | d hx => cases hy with | d hy =>
  cases hx with | agg _ as hla hra => cases hy with | agg _ bs hlb hrb =>
  have hfo : P.fieldsOf t = fs := by simp [Program.fieldsOf, hu]
  have hg := run_eqGuard_agg (P := P) w op t ox oy as bs hgd
  have hu' : P.underlying t = some (.struct (P.fieldsOf t)) := by rw [hfo]; exact hu
  split at h
  · rename_i r hr
    injection h with h
    subst h
    have := eqCells_run (P := P) (g := g) (w := w) fs.toList 0 ts xs ys as bs r hts hr (fun j z hz => by rw [Nat.zero_add]; exact hra j z hz) (fun j z hz => by rw [Nat.zero_add]; exact hrb j z hz) (by simpa using hla) (by simpa using hlb)
    refine ⟨.bool r, ?_, .d (.bool _)⟩
    rw [Sem.run_bind, hg, Result.andThen_ok, run_eql_struct, run_equalIn_struct w 9999 t as bs hu' hst, hfo, this]
    rfl
  · rename_i r hr
    injection h with h
    subst h
    have := eqCells_run (P := P) (g := g) (w := w) fs.toList 0 ts xs ys as bs r hts hr (fun j z hz => by rw [Nat.zero_add]; exact hra j z hz) (fun j z hz => by rw [Nat.zero_add]; exact hrb j z hz) (by simpa using hla) (by simpa using hlb)
    refine ⟨.bool (!r), ?_, .d (.bool _)⟩
    rw [Sem.run_bind, hg, Result.andThen_ok, run_neq_struct, run_equalIn_struct w 9999 t as bs hu' hst, hfo, this]
    rfl
  · cases h

/-- Equality of truth values, too. -/
def evalEqAgg (P : Program) (op : BinOp) (t : TypeId) (x y : V) : Option V :=
  match x, y with
  | .d (.bool a), .d (.bool b) => match P.underlying t, op with
    | some .bool, .eql => some (.d (.bool (a == b)))
    | some .bool, .neq => some (.d (.bool (!(a == b))))
    | _, _ => none
  | .d (.sl (_ :: _)), .nil => match P.underlying t, op with
    | some (.slice _), .eql => some (.d (.bool false))
    | some (.slice _), .neq => some (.d (.bool true))
    | _, _ => none
  | x, y => evalEqAgg0 P op t x y
theorem evalEqAgg_run {P : Program} {g : Gh} {w : World} {op : BinOp} {t : TypeId} {x y v : V} {a b : Value} (h : evalEqAgg P op t x y = some v) (hx : RV g w x a) (hy : RV g w y b) (ox oy : Operand) :
    ∃ v', ((do eqGuard op t ox oy a b; Go.binOp op t a b : Sem Value)).run P w = .ok v' w ∧ RV g w v v' := by
  unfold evalEqAgg at h
  split at h
  · rename_i p q
    cases hx with | d hx => cases hy with | d hy =>
    cases hx
    cases hy
    have hg := eqGuard_run (P := P) (w := w) (op := op) (t := t) (x := ox) (y := oy) (a := .bool p) (b := .bool q) (by simp) (by simp)
    split at h
    · rename_i hu
      injection h with h
      subst h
      refine ⟨.bool (p == q), ?_, .d (.bool _)⟩
      rw [Sem.run_bind, hg, Result.andThen_ok]
      simp [Go.binOp, Op.equal, Op.maxDepth, run_equalIn_bool' w 9999 t p q hu]
    · rename_i hu
      injection h with h
      subst h
      refine ⟨.bool (!(p == q)), ?_, .d (.bool _)⟩
      rw [Sem.run_bind, hg, Result.andThen_ok]
      simp [Go.binOp, Op.equal, Op.maxDepth, run_equalIn_bool' w 9999 t p q hu]
    · cases h
  · rename_i z zs
    cases hx with | d hx =>
    cases hy
    cases hx with | sl _ b o c sz u =>
    have hg := fun op => eqGuard_run (P := P) (w := w) (op := op) (t := t) (x := ox) (y := oy) (a := .slice (some ⟨b, o, none⟩) (z :: zs).length c) (b := .slice none 0 0) (by simp) (by simp)
    split at h
    · rename_i e hu
      injection h with h
      subst h
      refine ⟨.bool false, ?_, .d (.bool _)⟩
      rw [Sem.run_bind, hg, Result.andThen_ok]
      simp [Go.binOp, Op.equal, Op.maxDepth, Lib.run_equalIn_slice_nil w 9999 t e _ _ c 0 0 hu]
    · rename_i e hu
      injection h with h
      subst h
      refine ⟨.bool true, ?_, .d (.bool _)⟩
      rw [Sem.run_bind, hg, Result.andThen_ok]
      simp [Go.binOp, Op.equal, Op.maxDepth, Lib.run_equalIn_slice_nil w 9999 t e _ _ c 0 0 hu]
    · cases h
  · exact evalEqAgg0_run h hx hy ox oy

def evalConv (P : Program) (s t : TypeId) (x : V) : Option V :=
  match P.underlying s, P.underlying t, x with
  | some (.int _), some (.int k), .d (.int _ n) => some (.d (.int k (k.wrap n)))
  | _, _, _ => none
theorem evalConv_run {P : Program} {g : Gh} {w : World} {s t : TypeId} {x v : V} {a : Value} (h : evalConv P s t x = some v) (hx : RV g w x a) : ∃ v', (convert s t a).run P w = .ok v' w ∧ RV g w v v' := by
  unfold evalConv at h
  split at h
  case h_2 => cases h
  rename_i k0 k k1 n hs ht
  injection h with h
  subst h
  cases hx with | d hx =>
  cases hx
  exact ⟨.int k (k.wrap n), by simp [convert, run_underlying hs, run_underlying ht, Conv.intToInt], .d (.int _ _)⟩

def evalMax : Bool → V → V → Option V
  | true, .d (.int k a), .d (.int _ b) => some (.d (.int k (if b > a then b else a)))
  | false, .d (.int k a), .d (.int _ b) => some (.d (.int k (if b < a then b else a)))
  | _, _, _ => none

def evalIndex (P : Program) (t : TypeId) (x i : V) : Option V :=
  match P.underlying t, x, intOf? i with
  | some .string, .d (.str s), some n => if 0 ≤ n then match s[n.toNat]? with
    | some b => some (.d (.int .u8 b.toNat))
    | none => none
    else none
  | _, _, _ => none
theorem evalIndex_run {P : Program} {g : Gh} {w : World} {t : TypeId} {x i v : V} {a b : Value} (h : evalIndex P t x i = some v) (hx : RV g w x a) (hi : RV g w i b) : ∃ v', (Instr.index t a b).run P w = .ok v' w ∧ RV g w v v' := by
  unfold evalIndex at h
  split at h
  case h_2 => cases h
  rename_i s n hu hn
  split at h
  case isFalse => cases h
  rename_i h0
  split at h
  case h_2 => cases h
  rename_i c hc
  injection h with h
  subst h
  obtain ⟨k, rfl⟩ := intOf?_rv hn hi
  cases hx with | d hx =>
  cases hx
  exact ⟨.int .u8 c.toNat, by simp [Instr.index, asIntOf, run_underlying hu, h0, hc], .d (.int _ _)⟩

noncomputable def builtinB (P : Program) (b : Builtin) (args : List V) (tys : List TypeId) (blk : Option Blk) (nm : Nat) : Option (V × Eff) :=
  match b, args, tys with
  | .len, [x], [t] => (evalLen P t x).map (·, .keep)
  | .append, [s, x], [t, t'] => if t = t' then evalAppend P t s x blk nm else none
  | .delete, [m, k], [t, kt] => match mapTy P t, refOf m with
    | some (_, kt', _), some nm' => if kt = kt' then (evalUpdate P t m k none blk).map fun q => (.tup [], .put nm' q) else none
    | _, _ => none
  | .max, [x, y], _ => (evalMax true x y).map (·, .keep)
  | .min, [x, y], _ => (evalMax false x y).map (·, .keep)
  | _, _, _ => none

/-- One operation: its value, and what becomes of the named blocks. blk: the block that it looks at; nm: a new name. -/
noncomputable def stepB (P : Program) (op : Op) (lk : Operand → V) (blk : Option Blk) (nm : Nat) : Option (V × Eff) :=
  match op with
  | .move x | .assign x => some (lk x, .keep)
  | .pick c a b => match lk c with
    | .d (.bool t) => some (if t then lk a else lk b, .keep)
    | _ => none
  | .nilCheck x => match lk x with
    | .ptr nm o => some (.ptr nm o, .keep)
    | .eptr nm i o => some (.eptr nm i o, .keep)
    | .rptr cs => some (.rptr cs, .keep)
    | _ => none
  | .binOp op t x y _ => match evalBin op (lk x) (lk y) with
    | some v => some (v, .keep)
    | none => (evalEqAgg P op t (lk x) (lk y)).map (·, .keep)
  | .unOp op _ x => (evalUn op (lk x)).map (·, .keep)
  | .convert s t x => (evalConv P s t (lk x)).map (·, .keep)
  | .extract x i => (evalExtract (lk x) i).map (·, .keep)
  | .fieldAddr s x f => (evalFieldAddr P s f (lk x)).map (·, .keep)
  | .indexAddr t x i => (evalIndexAddr P t (lk x) (lk i)).map (·, .keep)
  | .index t x i => (evalIndex P t (lk x) (lk i)).map (·, .keep)
  | .slice t x lo hi mx => (evalSlice P t (lk x) (lo.map lk) (hi.map lk) (mx.map lk)).map (·, .keep)
  | .build t parts => (evalBuild P t (parts.toList.map fun p => (p.1, lk p.2))).map (·, .keep)
  | .buildSlice t len parts => evalBuildSlice P t len (parts.toList.map fun p => (p.1, lk p.2)) nm
  | .makeFunc (.func f) first caps => if first.size = 0 then some (.fn f (caps.toList.map lk), .keep) else none
  | .load t a => (evalLoad P t (lk a) blk).map (·, .keep)
  | .store t a x => match refOf (lk a) with
    | some nm' => (evalStore P t (lk a) (lk x) blk).map fun q => (.undef, .put nm' q)
    | none => none
  | .alloc t => (tinf P t).map fun ti => (.ptr nm 0, .put nm (.box (zeroCs ti)))
  | .box t x => if (lk x).firm then some (.ptr nm 0, .put nm (.box (lk x).cells)) else none
  | .lookup t m k ok => (evalLookup P t (lk m) (lk k) ok blk).map (·, .keep)
  | .mapUpdate t m k v => match refOf (lk m) with
    | some nm' => (evalUpdate P t (lk m) (lk k) (some (lk v)) blk).map fun q => (.undef, .put nm' q)
    | none => none
  | .makeMap t none => (mapTy P t).map fun q => (.map nm, .put nm (.map q.1 fun _ => none))
  | .makeSlice t l c => evalMakeSlice P t (lk l) (lk c) nm
  | .call c => match c.callee with
    | .builtin b => builtinB P b (c.args.toList.map lk) c.argTypes.toList blk nm
    | _ => none
  | _ => none

/-- The block that an operation looks at. -/
def fpOf (op : Op) (lk : Operand → V) : Option Nat :=
  match op with
  | .load _ a | .store _ a _ => refOf (lk a)
  | .lookup _ m _ _ | .mapUpdate _ m _ _ => refOf (lk m)
  | .call c => match c.callee with
    | .builtin .append | .builtin .delete => (c.args.toList.head?).bind fun x => refOf (lk x)
    | _ => none
  | _ => none
def blkOf (H : Nat → Option Blk) (n : Option Nat) : Option Blk := n.bind H

/-- What the machine's operation must do. -/
def StepOK (P : Program) (g : Gh) (w : World) (H : Nat → Option Blk) (nm : Nat) (v : V) (ef : Eff) (r : Result Next) : Prop :=
  ∃ w' g', ((∃ v', r = .ok (.value v') w' ∧ RV g' w' v v') ∨ (r = .ok .skip w' ∧ v = .undef)) ∧ Ext g w g' w' ∧ RS g' w' (ef.on H) ∧ (∀ k, g'.U k → g.U k ∨ k = nm)

theorem StepOK.keep {P : Program} {g : Gh} {w : World} {H : Nat → Option Blk} {nm : Nat} {v : V} (hS : RS g w H) {s : Sem Value} (h : ∃ v', s.run P w = .ok v' w ∧ RV g w v v') : StepOK P g w H nm v .keep ((do pure (.value (← s)) : Sem Next).run P w) := by
  obtain ⟨v', h1, h2⟩ := h
  exact ⟨w, g, .inl ⟨v', by simp [h1], h2⟩, Ext.refl _ _, hS, fun k hk => .inl hk⟩
theorem StepOK.val {P : Program} {g : Gh} {w : World} {H : Nat → Option Blk} {nm : Nat} {v : V} {ef : Eff} {s : Sem Value} (h : ∃ v' w' g', s.run P w = .ok v' w' ∧ Ext g w g' w' ∧ RS g' w' (ef.on H) ∧ RV g' w' v v' ∧ (∀ k, g'.U k → g.U k ∨ k = nm)) : StepOK P g w H nm v ef ((do pure (.value (← s)) : Sem Next).run P w) := by
  obtain ⟨v', w', g', h1, h2, h3, h4, h5⟩ := h
  exact ⟨w', g', .inl ⟨v', by simp [h1], h4⟩, h2, h3, h5⟩
end Go.Proofs.Ytafeehlpmdligaa.M
