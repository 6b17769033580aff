/- Operations that touch no memory, on abstract values: what they give, and that the machine's operation gives the same. -/
import Derived.Test.YtafeehlpmdligaaM1
namespace Go.Proofs.Ytafeehlpmdligaa.M
open Go.RowKit
set_option linter.unusedVariables false
set_option linter.unusedSimpArgs false

/-- What is known of a type: cells, bytes, is it a struct, its zero. -/
structure TI where
  size : Nat
  bytes : Nat
  agg : Bool
  zero : Value
def tinf (P : Program) (t : TypeId) : Option TI :=
  match P.info? t, P.underlying t with
  | some i, some d => match i.zero with
    | some z => if z.cells.size = i.size then some ⟨i.size, i.bytes, match d with | .struct _ | .array _ _ => true | _ => false, z⟩ else none
    | none => none
  | _, _ => none

section
variable {P : Program} {t : TypeId} {ti : TI}
theorem tinf_spec (h : tinf P t = some ti) : ∃ i d, P.info? t = some i ∧ P.underlying t = some d ∧ i.zero = some ti.zero ∧ ti.zero.cells.size = ti.size ∧ i.size = ti.size ∧ i.bytes = ti.bytes ∧ ti.agg = (match d with | .struct _ | .array _ _ => true | _ => false) := by
  unfold tinf at h
  split at h
  · rename_i i d hi hd
    split at h
    · rename_i z hz
      split at h
      · rename_i hs
        injection h with h
        subst h
        exact ⟨i, d, hi, hd, hz, hs, rfl, rfl, rfl⟩
      · cases h
    · cases h
  · cases h
theorem run_sizeOf' (h : tinf P t = some ti) (w : World) : (sizeOf t).run P w = .ok ti.size w := by
  obtain ⟨i, d, hi, hd, hz, _, hs, _⟩ := tinf_spec h
  simp [sizeOf, typeInfo, hi, hs]
theorem run_isAgg' (h : tinf P t = some ti) (w : World) : (isAgg t).run P w = .ok ti.agg w := by
  obtain ⟨i, d, hi, hd, hz, _, hs, _, ha⟩ := tinf_spec h
  rw [ha]
  cases d <;> simp [isAgg, run_underlying hd]
theorem run_zeroValue' (h : tinf P t = some ti) (w : World) : (zeroValue t).run P w = .ok ti.zero w := by
  obtain ⟨i, d, hi, hd, hz, _, hs, _⟩ := tinf_spec h
  simp [zeroValue, typeInfo, hi, hz]
theorem run_typeInfo' (h : tinf P t = some ti) (w : World) : ∃ i, (typeInfo t).run P w = .ok i w ∧ i.bytes = ti.bytes ∧ i.size = ti.size := by
  obtain ⟨i, d, hi, hd, hz, _, hs, hb, _⟩ := tinf_spec h
  exact ⟨i, by simp [typeInfo, hi], hb, hs⟩
end

/-- A slice type's elements. -/
def selem (P : Program) (t : TypeId) : Option TypeId :=
  match P.underlying t with
  | some (.slice e) => some e
  | _ => none
theorem selem_spec {P : Program} {t e : TypeId} (h : selem P t = some e) : P.underlying t = some (.slice e) := by
  unfold selem at h
  split at h
  · rename_i e' he
    injection h with h
    rw [he, h]
  · cases h
/-- A field: its first cell, its cells. -/
def fieldOf (P : Program) (s : TypeId) (f : Nat) : Option (Nat × Nat) :=
  match P.underlying s with
  | some (.struct fs) => match fs[f]? with
    | some fd => match tinf P fd.type with
      | some ti => if ti.size = 0 then none else some (fd.offset, ti.size)
      | none => none
    | none => none
  | _ => none
theorem fieldOf_spec {P : Program} {s : TypeId} {f off sz : Nat} (h : fieldOf P s f = some (off, sz)) : ∃ fs fd ti, P.underlying s = some (.struct fs) ∧ fs[f]? = some fd ∧ tinf P fd.type = some ti ∧ ti.size = sz ∧ sz ≠ 0 ∧ fd.offset = off := by
  unfold fieldOf at h
  split at h
  · rename_i fs hs
    split at h
    · rename_i fd hfd
      split at h
      · rename_i ti hti
        split at h
        · cases h
        · rename_i h0
          injection h with h
          injection h with h1 h2
          exact ⟨fs, fd, ti, hs, hfd, hti, h2, by rw [← h2]; exact h0, h1⟩
      · cases h
    · cases h
  · cases h

/-- Constants and zeros. -/
def ofScalar : Value → V
  | .int k n => .d (.int k n)
  | .bool b => .d (.bool b)
  | .string s => .d (.str s)
  | .slice none 0 0 => .nil
  | _ => .undef
def ofConst : Value → V
  | .agg cs => mkAgg (cs.toList.map ofScalar)
  | v => ofScalar v
theorem ofScalar_rv (g : Gh) (w : World) (v : Value) : RV g w (ofScalar v) v := by
  unfold ofScalar
  split
  · exact .d (.int _ _)
  · exact .d (.bool _)
  · exact .d (.str _)
  · exact .nil
  · exact .undef _
theorem ofConst_rv (g : Gh) (w : World) (v : Value) : RV g w (ofConst v) v := by
  unfold ofConst
  split
  · rename_i cs
    refine mkAgg_rv (by simp) fun j y hy => ?_
    simp only [List.getElem?_map, Option.map_eq_some_iff] at hy
    obtain ⟨c, hc, rfl⟩ := hy
    have : cs.getD j undef = c := by
      simp at hc
      simp [hc]
    rw [this]
    exact ofScalar_rv g w c
  · exact ofScalar_rv g w v

def evalBin (op : BinOp) : V → V → Option V
  | .d (.int k a), .d (.int k' b) => match op with
    | .shl => if b < 0 then none else some (.d (.int k (k.wrap (a * 2 ^ (min b.toNat k.bits)))))
    | .shr => if b < 0 then none else some (.d (.int k (a.fdiv (2 ^ (min b.toNat k.bits)))))
    | _ => if k = k' then match op with
      | .add => some (.d (.int k (k.wrap (a + b))))
      | .sub => some (.d (.int k (k.wrap (a - b))))
      | .mul => some (.d (.int k (k.wrap (a * b))))
      | .quo => if b = 0 then none else some (.d (.int k (k.wrap (a.tdiv b))))
      | .rem => if b = 0 then none else some (.d (.int k (a.tmod b)))
      | .and => some (.d (.int k (k.wrap (BitVec.ofInt k.bits a &&& BitVec.ofInt k.bits b).toNat)))
      | .or => some (.d (.int k (k.wrap (BitVec.ofInt k.bits a ||| BitVec.ofInt k.bits b).toNat)))
      | .xor => some (.d (.int k (k.wrap (BitVec.ofInt k.bits a ^^^ BitVec.ofInt k.bits b).toNat)))
      | .eql => some (.d (.bool (decide (a = b))))
      | .neq => some (.d (.bool (!decide (a = b))))
      | .lss => some (.d (.bool (decide (a < b))))
      | .leq => some (.d (.bool (decide (a ≤ b))))
      | .gtr => some (.d (.bool (decide (b < a))))
      | .geq => some (.d (.bool (decide (b ≤ a))))
      | _ => none
      else none
  | .d (.str a), .d (.str b) => match op with
    | .eql => some (.d (.bool (decide (a = b))))
    | .neq => some (.d (.bool (!decide (a = b))))
    | _ => none
  | _, _ => none

theorem toList_inj {a b : ByteArray} (h : a.toList = b.toList) : a = b := by
  rw [ByteArray.toList_eq, ByteArray.toList_eq] at h
  cases a; cases b
  simp at h
  simp [h]
theorem toList_beq (a b : ByteArray) : (a.toList == b.toList) = decide (a = b) := by
  by_cases h : a = b
  · subst h; simp
  · rw [decide_eq_false h]
    simpa using fun e => h (toList_inj e)

theorem evalBin_run {P : Program} {g : Gh} {w : World} {op : BinOp} {x y v : V} {a b : Value} (h : evalBin op x y = some v) (hx : RV g w x a) (hy : RV g w y b) (t : TypeId) :
    ∃ v', (Go.binOp op t a b).run P w = .ok v' w ∧ RV g w v v' ∧ (∀ cs, a ≠ .agg cs) ∧ a ≠ .nilIface := by
  unfold evalBin at h
  split at h
  · rename_i k a' k' b'
    cases hx with | d hx => cases hx; cases hy with | d hy => cases hy; cases op with
      | shl | shr =>
        simp at h
        obtain ⟨h1, h⟩ := h
        subst h
        have h2 : ¬ b' < 0 := by omega
        exact ⟨_, by simp [Go.binOp, Op.shift, h2] <;> rfl, .d (.int _ _), by simp, by simp⟩
      | quo | rem =>
        simp at h
        obtain ⟨h1, h2, h⟩ := h
        subst h1 h
        exact ⟨_, by simp [Go.binOp, Op.intDiv, h2] <;> rfl, .d (.int _ _), by simp, by simp⟩
      | eql | neq | lss | leq | gtr | geq =>
        simp at h
        obtain ⟨h1, h⟩ := h
        subst h1 h
        exact ⟨_, by simp [Go.binOp, Op.intCmp] <;> rfl, by first | exact .d (.bool _) | (rw [show (a' == b') = decide (a' = b') from rfl]; exact .d (.bool _)) | (rw [show (a' != b') = !decide (a' = b') from rfl]; exact .d (.bool _)), by simp, by simp⟩
      | add | sub | mul | and | or | xor =>
        simp at h
        obtain ⟨h1, h⟩ := h
        subst h1 h
        exact ⟨_, by simp only [Go.binOp, Op.intArith, Op.intBits, ne_eq, not_true_eq_false, if_false]; rfl, .d (.int _ _), by simp, by simp⟩
      | _ => simp at h
  · rename_i a' b'
    cases hx with
    | d hx => cases hx; cases hy with
      | d hy =>
        cases hy
        cases op <;> simp at h <;> subst h <;> exact ⟨_, by simp only [Go.binOp, Op.stringOp, toList_beq] <;> rfl, .d (.bool _), by simp, by simp⟩
  · cases h

theorem eqGuard_run {P : Program} {w : World} {op : BinOp} {t : TypeId} {x y : Operand} {a b : Value} (h1 : ∀ cs, a ≠ .agg cs) (h2 : a ≠ .nilIface) : (eqGuard op t x y a b).run P w = .ok () w := by
  unfold eqGuard
  cases a with
  | agg cs => exact absurd rfl (h1 cs)
  | nilIface => exact absurd rfl h2
  | _ => cases op <;> simp

def evalUn (op : UnOp) : V → Option V
  | .d (.bool b) => match op with | .not => some (.d (.bool (!b))) | _ => none
  | .d (.int k n) => match op with | .neg => some (.d (.int k (k.wrap (0 - n)))) | _ => none
  | _ => none
theorem evalUn_run {P : Program} {g : Gh} {w : World} {op : UnOp} {x v : V} {a : Value} (h : evalUn op x = some v) (hx : RV g w x a) : ∃ v', (Op.unary op a).run P w = .ok v' w ∧ RV g w v v' := by
  unfold evalUn at h
  split at h
  · cases hx with
    | d hx =>
      cases hx
      cases op <;> simp at h
      subst h
      exact ⟨_, by simp [Op.unary] <;> rfl, .d (.bool _)⟩
  · cases hx with
    | d hx =>
      cases hx
      cases op <;> simp at h
      subst h
      exact ⟨_, by simp [Op.unary, Op.intArith] <;> rfl, .d (.int _ _)⟩
  · cases h

/-- A slice of the right kind of elements, each a row of single cells. -/
def D.one : D → Bool
  | .agg _ => false
  | _ => true
def okEl (sz : Nat) (x : D) : Bool := x.cells.length == sz && x.cells.all D.one

def intOf? : V → Option Int
  | .d (.int _ n) => some n
  | _ => none

def bnd (d : Int) : Option V → Option Int
  | none => some d
  | some v => intOf? v
def evalSlice (P : Program) (t : TypeId) (x : V) (lo hi mx : Option V) : Option V :=
  match x with
  | .d (.str s) => match bnd 0 lo, bnd s.size hi, mx, P.underlying t with
    | some l, some h, none, some .string => if 0 ≤ l ∧ l ≤ h ∧ h ≤ s.size then some (.d (.str (s.extract l.toNat h.toNat))) else none
    | _, _, _, _ => none
  | .d (.sl xs) => match selem P t with
    | some e => match tinf P e with
      | some ti => match mx with
        | none => match bnd 0 lo, bnd xs.length hi with
          | some l, some h => if 0 ≤ l ∧ l ≤ h ∧ h ≤ xs.length then
              if xs.all (okEl ti.size) then some (.d (.sl ((xs.take h.toNat).drop l.toNat))) else none
            else none
          | _, _ => none
        | some m => match lo, bnd 1 hi, intOf? m with
          | none, some 0, some 0 => some .e0
          | _, _, _ => none
      | none => none
    | none => none
  | .ms nm sz o n => match bnd 0 lo, bnd n hi, mx, selem P t with
    | some l, some h, none, some e => match tinf P e with
      | some ti => if 0 ≤ l ∧ l ≤ h ∧ h ≤ n ∧ sz = ti.size then some (.ms nm sz (o + l.toNat) (h.toNat - l.toNat)) else none
      | none => none
    | _, _, _, _ => none
  | _ => none

theorem intOf?_rv {g : Gh} {w : World} {x : V} {v : Value} {n : Int} (h : intOf? x = some n) (hx : RV g w x v) : ∃ k, v = .int k n := by
  unfold intOf? at h
  split at h
  · injection h with h
    subst h
    cases hx with | d hx => cases hx; exact ⟨_, rfl⟩
  · cases h
theorem run_sliceBound {P : Program} {w : World} {k : IntKind} {n : Int} {y : Nat} {c : BoundsCode} (h0 : 0 ≤ n) (h1 : n ≤ y) : (Instr.sliceBound (.int k n) y c).run P w = .ok n.toNat w := by
  simp [Instr.sliceBound, asIntOf, h0, h1]

theorem optInt {g : Gh} {w : World} {d : Int} {lo : Option V} {lov : Option Value} {l : Int} (h : bnd d lo = some l) (hl : OptRV g w lo lov) : (lo = none ∧ lov = none ∧ d = l) ∨ ∃ k, lov = some (.int k l) := by
  cases hl with
  | none => simp [bnd] at h; exact .inl ⟨rfl, rfl, h⟩
  | some hv => obtain ⟨k, rfl⟩ := intOf?_rv h hv; exact .inr ⟨k, rfl⟩

theorem addr_add (b o n : Nat) : (⟨b, o, none⟩ : Addr).add n = ⟨b, o + n, none⟩ := by
  unfold Addr.add
  split <;> simp_all

/-- A part of pure data is pure data. -/
theorem RD.part {F : Nat → Prop} {w : World} {xs : List D} {v : Value} (h : RD F w (.sl xs) v) {l r sz : Nat} (hl : l ≤ r) (hr : r ≤ xs.length) (hsz : xs.all (okEl sz) = true) :
    ∃ a c, v = .slice a xs.length c ∧ xs.length ≤ c ∧ ∀ (a' : Option Addr) (m : Nat), m ≤ c → r ≤ m → a' = (if m = l then a else a.map (·.add (l * sz))) → RD F w (.sl ((xs.take r).drop l)) (.slice a' (r - l) (m - l)) := by
  cases h with
  | slNil a c =>
    refine ⟨a, c, rfl, by simp, fun a' m _ hm _ => ?_⟩
    have hr0 : r = 0 := by simpa using hr
    subst hr0
    simp
    exact .slNil _ _
  | sl _ b o c sz' u hF hc h1 h2 h3 =>
    refine ⟨_, c, rfl, hc, fun a' m hmc hm ha => ?_⟩
    have hlen : ((xs.take r).drop l).length = r - l := by simp; omega
    by_cases hml : r = l
    · subst hml
      have : (xs.take r).drop r = [] := by apply List.eq_nil_of_length_eq_zero; rw [hlen]; omega
      rw [this]
      simp
      exact .slNil _ _
    · rw [if_neg (by omega)] at ha
      simp only [Option.map_some, addr_add] at ha
      subst ha
      have hszz : sz' = sz := by
        have hlt : l < xs.length := by omega
        have e1 := h1 l xs[l] (by simp [hlt])
        have e2 := List.all_eq_true.1 hsz xs[l] (List.getElem_mem _)
        simp [okEl] at e2
        rw [← e1, e2.1]
      subst hszz
      have hi : ∀ (i : Nat) (x : D), ((xs.take r).drop l)[i]? = some x → xs[l + i]? = some x := fun i x hx => by
        rw [List.getElem?_drop, List.getElem?_take] at hx
        split at hx
        · exact hx
        · cases hx
      rw [← hlen]
      refine .sl _ b (o + l * sz') (m - l) sz' (fun i j => u (l + i) j) hF (by rw [hlen]; omega) (fun i x hx => h1 _ x (hi i x hx)) (fun i j x y hx hy => ?_) (fun i j x y hx hy => h3 _ j x y (hi i x hx) hy)
      have := h2 (l + i) j x y (hi i x hx) hy
      rw [← this]
      congr 2
      rw [Nat.add_mul]
      omega

theorem sliceLen {g : Gh} {w : World} {xs : List D} {a : Value} (hx : RV g w (.d (.sl xs)) a) : ∃ A c, a = .slice A xs.length c ∧ xs.length ≤ c := by
  cases hx with | d hx => cases hx with
    | slNil A c => exact ⟨A, c, rfl, by simp⟩
    | sl _ b o c sz u _ hc => exact ⟨_, c, rfl, hc⟩

theorem evalSlice_run {P : Program} {g : Gh} {w : World} {t : TypeId} {x v : V} {a : Value} {lo hi mx : Option V} {lov hiv mxv : Option Value} (h : evalSlice P t x lo hi mx = some v) (hx : RV g w x a) (hl : OptRV g w lo lov) (hh : OptRV g w hi hiv) (hm : OptRV g w mx mxv) :
    ∃ v', (Instr.sliceAt t a lov hiv mxv).run P w = .ok v' w ∧ RV g w v v' := by
  unfold evalSlice at h
  split at h
  · -- a text
    rename_i s
    split at h
    · rename_i l h' hlo hhi hu
      split at h
      · rename_i hc
        injection h with h
        subst h
        cases hm
        obtain ⟨hc1, hc2, hc3⟩ := hc
        have hc4 : (0 : Int) ≤ h' := by omega
        have hc5 : l ≤ (h'.toNat : Int) := by omega
        have e : a = .string s := by cases hx with | d hx => cases hx; rfl
        subst e
        refine ⟨.string (s.extract l.toNat h'.toNat), ?_, .d (.str _)⟩
        rcases optInt hlo hl with ⟨_, rfl, rfl⟩ | ⟨k, rfl⟩ <;> rcases optInt hhi hh with ⟨_, rfl, rfl⟩ | ⟨k', rfl⟩ <;>
          simp (disch := omega) [Instr.sliceAt, run_underlying hu, Instr.slice, Instr.sliceBounds, run_sliceBound, hc1, hc3, hc4, hc5]
      · cases h
    · cases h
  · -- pure data
    rename_i xs
    split at h
    · rename_i e he
      have hu := selem_spec he
      obtain ⟨A, c, rfl, hcc⟩ := sliceLen hx
      split at h
      · rename_i ti hti
        have hsz := run_sizeOf' hti
        split at h
        · cases hm
          split at h
          · rename_i l h' hlo hhi
            split at h
            · rename_i hc
              obtain ⟨hc1, hc2, hc3⟩ := hc
              split at h
              · rename_i hall
                injection h with h
                subst h
                cases hx with | d hx =>
                  obtain ⟨A', c', e1, _, hpart⟩ := hx.part (l := l.toNat) (r := h'.toNat) (sz := ti.size) (by omega) (by omega) hall
                  injection e1 with e1 e2 e3
                  subst e1 e3
                  have hc4 : (0 : Int) ≤ h' := by omega
                  have hc5 : l ≤ (h'.toNat : Int) := by omega
                  have hc6 : h' ≤ (c : Int) := by omega
                  refine ⟨_, ?_, .d (hpart _ c (Nat.le_refl _) (by omega) rfl)⟩
                  rcases optInt hlo hl with ⟨_, rfl, rfl⟩ | ⟨k, rfl⟩ <;> rcases optInt hhi hh with ⟨_, rfl, rfl⟩ | ⟨k', rfl⟩ <;>
                    simp (disch := omega) [Instr.sliceAt, run_underlying hu, Instr.slice, Instr.sliceBounds, run_sliceBound, hsz, hc1, hc3, hc4, hc5, hc6]
              · cases h
            · cases h
          · cases h
        · split at h
          · rename_i m h1 h2 h3
            injection h with h
            subst h
            cases hl
            cases hm with | some hmv =>
              obtain ⟨k, rfl⟩ := intOf?_rv h3 hmv
              rcases optInt h2 hh with ⟨_, rfl, h9⟩ | ⟨k', rfl⟩
              · omega
              · refine ⟨.slice A 0 0, ?_, .e0 A⟩
                simp (disch := omega) [Instr.sliceAt, run_underlying hu, Instr.slice, Instr.sliceBounds, run_sliceBound, hsz]
          · cases h
      · cases h
    · cases h
  · -- a row of one's own
    rename_i nm sz o n
    split at h
    · rename_i l h' e hlo hhi he
      split at h
      case h_2 => cases h
      rename_i ti hti
      split at h
      · rename_i hc
        injection h with h
        subst h
        cases hm
        obtain ⟨hc1, hc2, hc3, hszr⟩ := hc
        have hu := selem_spec he
        have hsz := run_sizeOf' hti
        have hc4 : (0 : Int) ≤ h' := by omega
        have hc5 : l ≤ (h'.toNat : Int) := by omega
        cases hx with
        | ms _ _ _ _ b p c hU hb hs hp hn hc' =>
          have hc6 : h' ≤ (c : Int) := by omega
          refine ⟨.slice (if c = l.toNat then (some ⟨b, p, none⟩) else (some ⟨b, p, none⟩ : Option Addr).map (·.add (l.toNat * ti.size))) (h'.toNat - l.toNat) (c - l.toNat), ?_, ?_⟩
          · rcases optInt hlo hl with ⟨_, rfl, rfl⟩ | ⟨k, rfl⟩ <;> rcases optInt hhi hh with ⟨_, rfl, rfl⟩ | ⟨k', rfl⟩ <;>
              simp (disch := omega) [Instr.sliceAt, run_underlying hu, Instr.slice, Instr.sliceBounds, run_sliceBound, hsz, hc1, hc3, hc4, hc5, hc6]
          · by_cases hcl : c = l.toNat
            · have e1 : h'.toNat - l.toNat = 0 := by omega
              have e2 : c - l.toNat = 0 := by omega
              rw [e1, e2]
              exact .msZero _ _ _ _ hU
            · rw [if_neg hcl]
              simp only [Option.map_some, addr_add]
              refine .ms nm sz (o + l.toNat) _ b _ _ hU hb hs ?_ (by omega) (by omega)
              rw [hp, ← hszr, Nat.add_mul]
              omega
        | msZero _ _ _ a hU =>
          have hl0 : l = 0 := by omega
          have hh0 : h' = 0 := by omega
          subst hl0 hh0
          have hsz := run_sizeOf' (P := P) hti w
          refine ⟨.slice a 0 0, ?_, .msZero _ _ _ _ hU⟩
          rcases optInt hlo hl with ⟨_, rfl, _⟩ | ⟨k, rfl⟩ <;> rcases optInt hhi hh with ⟨_, rfl, _⟩ | ⟨k', rfl⟩ <;>
              simp (disch := omega) [Instr.sliceAt, run_underlying hu, Instr.slice, Instr.sliceBounds, run_sliceBound, hsz]
      · cases h
    · cases h
  · cases h
end Go.Proofs.Ytafeehlpmdligaa.M
