/- Code on abstract states: what holds of a piece of code in every concrete state that fits. -/
import Derived.Test.YtafeehlpmdligaaM9
import Derived.LoopN
namespace Go.Proofs.Ytafeehlpmdligaa.M
open Go.RowKit
set_option linter.unusedVariables false
set_option linter.unusedSimpArgs false

/-- A row becomes pure data. -/
theorem frz_row {g : Gh} {w : World} {H : Nat → Option Blk} {nm sz o m : Nat} {xs : List V} {ds : List D} (hS : RS g w H) (hH : H nm = some (.row sz xs)) (hx : (xs.drop o).take m = ds.map V.d) (hl : ds.length = m) :
    ∃ g', Ext g w g' w ∧ RS g' w (hset H nm none) ∧ (∀ k, g'.U k → g.U k) ∧ ∀ v, RV g w (.ms nm sz o m) v → RV g' w (.d (.sl ds)) v := by
  obtain ⟨hU, h1, h2, h3, h4⟩ := hS.ok _ _ hH
  have hless : RS g w (hset H nm none) := hS.less fun k q hq => by
    unfold hset at hq
    split at hq
    · cases hq
    · exact hq
  have hne : ∀ k, (hset H nm none k).isSome → k ≠ nm ∧ (H k).isSome := by
    intro k hk
    unfold hset at hk
    split at hk
    · cases hk
    · exact ⟨by assumption, hk⟩
  rcases h4 with ⟨h4, rfl⟩ | ⟨b, vs, t, h4, h5, h6, h7⟩
  · refine ⟨g, Ext.refl _ _, hless, fun k h => h, fun v hv => ?_⟩
    have hds : ds = [] := by simpa using hx.symm
    subst hds
    simp at hl
    subst hl
    cases hv with
    | ms _ _ _ _ b p c hU hb => rw [h4] at hb; cases hb
    | msZero _ _ _ a => exact .d (.slNil a 0)
  · have hsome : (H nm).isSome := by simp [hH]
    have hnF := hS.notF nm b hsome h4
    have hE : Ext g w (g.frz b) w := ⟨fun _ h => h, fun _ _ => rfl, fun _ h => .inl h, fun _ _ => rfl, rfl, rfl, rfl, Nat.le_refl _⟩
    refine ⟨g.frz b, hE, ?_, fun k h => h, fun v hv => ?_⟩
    · refine hless.ext hE (fun _ _ _ _ => rfl) ?_
      rintro i (hi | rfl)
      · exact ⟨hS.ltF i hi, fun k hks hbk => (hS.notF k i (hne k hks).2 hbk).1 hi⟩
      · exact ⟨hnF.2, fun k hks hbk => (hne k hks).1 (hS.inj k nm i (hne k hks).2 hsome hbk h4)⟩
    · cases hv with
      | msZero _ _ _ a =>
        have : ds = [] := List.eq_nil_of_length_eq_zero hl
        subst this
        exact .d (.slNil a 0)
      | ms _ _ _ _ b' p c hU' hb' hs hp hn hc =>
        rw [h4] at hb'
        injection hb' with hb'
        subst hb' hp
        have hel : ∀ (i : Nat) (x : D), ds[i]? = some x → xs[o + i]? = some (.d x) := by
          intro i x hi
          have hi' : i < m := by rw [← hl]; exact (List.getElem?_eq_some_iff.1 hi).1
          have : ((xs.drop o).take m)[i]? = some (.d x) := by rw [hx]; simp [hi]
          rw [List.getElem?_take_of_lt hi', List.getElem?_drop] at this
          exact this
        have hcl : ∀ (i : Nat) (x : D), ds[i]? = some x → x.cells.length = sz := by
          intro i x hi
          have := h3 _ _ (hel i x hi)
          rw [d_cells] at this
          simpa using this
        rw [← hl]
        refine .d (.sl ds b _ c sz (fun i j => vs.getD ((g.ρ nm).off + (o + i) * sz + j) undef) (.inr rfl) (by rw [hl]; exact hn) hcl (fun i j x y hi hy => ?_) (fun i j x y hi hy => ?_))
        · have hj : j < sz := by rw [← hcl i x hi]; exact (List.getElem?_eq_some_iff.1 hy).1
          have ho : o + i < (g.ρ nm).tot := Nat.lt_of_lt_of_le (List.getElem?_eq_some_iff.1 (hel i x hi)).1 h2
          have hm : (o + i + 1) * sz ≤ (g.ρ nm).tot * sz := Nat.mul_le_mul_right _ ho
          rw [Nat.add_mul, Nat.add_mul] at hm
          have hlt : (g.ρ nm).off + (o + i) * sz + j < vs.size := by rw [Nat.add_mul]; omega
          have e : (g.ρ nm).off + o * sz + i * sz + j = (g.ρ nm).off + (o + i) * sz + j := by rw [Nat.add_mul]; omega
          rw [e]
          simp [World.cell?, h5, hlt]
        · have hy' : (V.d x).cells[j]? = some (.d y) := by rw [d_cells]; simp [hy]
          have := h7 (o + i) j _ _ (hel i x hi) hy'
          cases this with | d h => exact h.mono hE.fz hE.keep


def memN : List Nat → Nat → Bool
  | [], _ => false
  | k :: ks, a => if a = k then true else memN ks a
/-- One operation; of what is appended to nothing, in the slots of fz, a pure slice is made at once. -/
noncomputable def stepF0 (P : Program) (fz : List Nat) (o : Oper) (lk : Operand → V) (blk : Option Blk) (nm : Nat) : Option (V × Eff) :=
  match stepB P o.op lk blk nm with
  | none => none
  | some (v, ef) => match o.dst with
    | none => some (v, ef)
    | some d => bif memN fz d then (match v, ef with
      | .ms nm0 sz o m, .move none nm' (.row sz' xs) => match allD xs with
        | some ds => if nm0 = nm ∧ nm' = nm ∧ o = 0 ∧ m = ds.length ∧ sz' = sz then some (.d (.sl ds), .keep) else none
        | none => none
      | .ms nm0 sz o m, .move (some old) nm' (.row sz' xs) => match allD xs with
        | some ds => if nm0 = nm ∧ nm' = nm ∧ o = 0 ∧ m = ds.length ∧ sz' = sz then some (.d (.sl ds), .drop old) else none
        | none => none
      | .e0, .keep => some (.d (.sl []), .keep)
      | _, _ => none) else some (v, ef)

theorem stepF0_sound {P : Program} {fz : List Nat} {g : Gh} {w : World} {H : Nat → Option Blk} {nm : Nat} {v : V} {ef : Eff} {lk : Operand → V} {ev : Operand → Value} (hev : ∀ x, RV g w (lk x) (ev x)) (o : Oper)
    (h : stepF0 P fz o lk (blkOf H (fpOf o.op lk)) nm = some (v, ef)) (hS : RS g w H) (hn : ¬ g.U nm) : StepOK P g w H nm v ef ((execOp ev o).run P w) := by
  unfold stepF0 at h
  split at h
  · cases h
  · rename_i v1 ef1 hs
    have hok := step_sound hev o hs hS hn
    split at h
    · injection h with h
      injection h with h1 h2
      subst h1 h2
      exact hok
    · rename_i d hd
      cases hf : memN fz d with
      | false =>
        rw [hf] at h
        simp only [cond_false] at h
        injection h with h
        injection h with h1 h2
        subst h1 h2
        exact hok
      | true =>
        rw [hf] at h
        simp only [cond_true] at h
        split at h
        · rename_i nm0 sz oo m nm' sz' xs
          split at h
          case h_2 => cases h
          rename_i ds hds
          split at h
          case isFalse => cases h
          rename_i hc
          obtain ⟨c1, c2, c3, c4, c5⟩ := hc
          injection h with h
          injection h with h1 h2
          subst h1 h2 c1 c2 c3 c5
          have hxs := allD_some hds
          obtain ⟨w', g', hr, hE, hS', hU⟩ := hok
          obtain ⟨g'', f1, f2, f3, f4⟩ := frz_row (o := 0) (m := m) (ds := ds) hS' (nm := nm') (sz := sz') (xs := xs) (by simp [Eff.on, hset]) (by rw [hxs, c4]; simp [List.take_of_length_le]) c4.symm
          have hHn : hset ((Eff.move none nm' (.row sz' xs)).on H) nm' none = H := by
            funext q
            simp only [Eff.on, hset]
            split
            · rename_i e
              subst e
              cases hq : H q with
              | none => rfl
              | some k => exact absurd (hS.ok q k hq).1 hn
            · rfl
          rw [hHn] at f2
          rcases hr with ⟨v', hr, hv'⟩ | ⟨hr, hv⟩
          · exact ⟨w', g'', .inl ⟨v', hr, f4 v' hv'⟩, hE.trans f1, f2, fun k hk => hU k (f3 k hk)⟩
          · cases hv
        · rename_i nm0 sz oo m old nm' sz' xs
          split at h
          case h_2 => cases h
          rename_i ds hds
          split at h
          case isFalse => cases h
          rename_i hc
          obtain ⟨c1, c2, c3, c4, c5⟩ := hc
          injection h with h
          injection h with h1 h2
          subst h1 h2 c1 c2 c3 c5
          have hxs := allD_some hds
          obtain ⟨w', g', hr, hE, hS', hU⟩ := hok
          obtain ⟨g'', f1, f2, f3, f4⟩ := frz_row (o := 0) (m := m) (ds := ds) hS' (nm := nm') (sz := sz') (xs := xs) (by simp [Eff.on, hset]) (by rw [hxs, c4]; simp [List.take_of_length_le]) c4.symm
          have hHn : hset ((Eff.move (some old) nm' (.row sz' xs)).on H) nm' none = (Eff.drop old).on H := by
            funext q
            simp only [Eff.on, hset]
            split
            · rename_i e
              subst e
              split
              · rfl
              · cases hq : H q with
                | none => rfl
                | some k => exact absurd (hS.ok q k hq).1 hn
            · rfl
          rw [hHn] at f2
          rcases hr with ⟨v', hr, hv'⟩ | ⟨hr, hv⟩
          · exact ⟨w', g'', .inl ⟨v', hr, f4 v' hv'⟩, hE.trans f1, f2, fun k hk => hU k (f3 k hk)⟩
          · cases hv
        · injection h with h
          injection h with h1 h2
          subst h1 h2
          obtain ⟨w', g', hr, hE, hS', hU⟩ := hok
          rcases hr with ⟨v', hr, hv'⟩ | ⟨hr, hv⟩
          · exact ⟨w', g', .inl ⟨v', hr, by cases hv'; exact .d (.slNil _ _)⟩, hE, hS', hU⟩
          · cases hv
        · cases h

/-- A literal slice in the slots of fz, as a row of one's own. -/
def ownStep (P : Program) (fz : List Nat) (o : Oper) (lk : Operand → V) (nm : Nat) : Option (V × Eff) :=
  match o.op, o.dst with
  | .buildSlice t len parts, some d => bif memN fz d && !(parts.size == 0) then evalBuildOwn P t len (parts.toList.map fun p => (p.1, lk p.2)) nm else none
  | _, _ => none
noncomputable def stepF (P : Program) (fz : List Nat) (o : Oper) (lk : Operand → V) (blk : Option Blk) (nm : Nat) : Option (V × Eff) :=
  match ownStep P fz o lk nm with
  | some r => some r
  | none => stepF0 P fz o lk blk nm
theorem stepF_sound {P : Program} {fz : List Nat} {g : Gh} {w : World} {H : Nat → Option Blk} {nm : Nat} {v : V} {ef : Eff} {lk : Operand → V} {ev : Operand → Value} (hev : ∀ x, RV g w (lk x) (ev x)) (o : Oper)
    (h : stepF P fz o lk (blkOf H (fpOf o.op lk)) nm = some (v, ef)) (hS : RS g w H) (hn : ¬ g.U nm) : StepOK P g w H nm v ef ((execOp ev o).run P w) := by
  unfold stepF at h
  split at h
  · rename_i r hr
    injection h with h
    subst h
    unfold ownStep at hr
    split at hr
    case h_2 => cases hr
    rename_i t len parts d hop hd
    cases hb : (memN fz d && !(parts.size == 0)) with
    | false => rw [hb] at hr; cases hr
    | true =>
      rw [hb] at hr
      simp only [cond_true] at hr
      have := evalBuildOwn_run (P := P) (t := t) (len := len) (parts := parts) (nm := nm) (v := v) (ef := ef) hev hr hS hn
      have h2 := StepOK.val (P := P) this
      simpa only [execOp, hop] using h2
  · exact stepF0_sound hev o h hS hn

abbrev Fr := Nat → V
def fset (fr : Fr) (d : Nat) (v : V) : Fr := fun t => if t = d then v else fr t

/-- Named blocks: those in l, then those of H. next: no name from there on has been used. -/
structure St where
  next : Nat
  l : List (Nat × Option Blk)
  H : Nat → Option Blk
def lget : List (Nat × Option Blk) → (Nat → Option Blk) → Nat → Option Blk
  | [], H, m => H m
  | (a, k) :: l, H, m => if m = a then k else lget l H m
def lput : List (Nat × Option Blk) → Nat → Option Blk → List (Nat × Option Blk)
  | [], m, k => [(m, k)]
  | (a, q) :: l, m, k => if m = a then (a, k) :: l else (a, q) :: lput l m k
def St.get (S : St) (m : Nat) : Option Blk := lget S.l S.H m
def St.set (S : St) (m : Nat) (k : Option Blk) : St := { S with l := lput S.l m k }
theorem lget_lput (H : Nat → Option Blk) (m : Nat) (k : Option Blk) : ∀ (l : List (Nat × Option Blk)), lget (lput l m k) H = hset (lget l H) m k
  | [] => by funext n; simp [lput, lget, hset]
  | (a, q) :: l => by
    funext n
    simp only [lput]
    split
    · rename_i h
      subst h
      simp only [lget, hset]
      split <;> simp_all
    · rename_i h
      simp only [lget, hset]
      split
      · rename_i h2
        subst h2
        rw [if_neg (fun e => h e.symm)]
      · rw [show lget (lput l m k) H n = hset (lget l H) m k n from congrFun (lget_lput H m k l) n]
        rfl
theorem St.get_set (S : St) (m : Nat) (k : Option Blk) : (S.set m k).get = hset S.get m k := lget_lput S.H m k S.l
def Eff.st (e : Eff) (S : St) : St :=
  match e with
  | .keep => S
  | .put nm k => S.set nm (some k)
  | .move none nm k => S.set nm (some k)
  | .move (some o) nm k => (S.set o none).set nm (some k)
  | .drop nm => S.set nm none
theorem Eff.st_get (e : Eff) (S : St) : (e.st S).get = e.on S.get := by
  cases e with
  | keep => rfl
  | put nm k => exact St.get_set _ _ _
  | move old nm k => cases old with
    | none => exact St.get_set _ _ _
    | some o => simp only [Eff.st, Eff.on]; rw [St.get_set, St.get_set]
  | drop nm => exact St.get_set _ _ _

/-- The slots of a frame of n slots. -/
structure RF (n : Nat) (g : Gh) (w : World) (fr : Fr) (a : Act) : Prop where
  size : a.tmps.size = n
  defers : a.defers = []
  slot : ∀ t, t < n → RV g w (fr t) (a.tmps.getD t undef)
  out : ∀ t, n ≤ t → fr t = .undef
structure Inv (n : Nat) (g : Gh) (w : World) (fr : Fr) (S : St) (a : Act) : Prop where
  rs : RS g w S.get
  lt : ∀ k, g.U k → k < S.next
  rf : RF n g w fr a

theorem RF.mono {n : Nat} {g g' : Gh} {w w' : World} {fr : Fr} {a : Act} (h : RF n g w fr a) (e : Ext g w g' w') : RF n g' w' fr a := ⟨h.size, h.defers, fun t ht => (h.slot t ht).mono e, h.out⟩
theorem RF.put {n : Nat} {g : Gh} {w : World} {fr : Fr} {a : Act} (h : RF n g w fr a) {d : Nat} (hd : d < n) {x : V} {v : Value} (hv : RV g w x v) : RF n g w (fset fr d x) (a.put (some d) v) := by
  refine ⟨by simp [Act.put, h.size], h.defers, fun t ht => ?_, fun t ht => ?_⟩
  · simp only [fset, Act.put]
    split
    · rename_i e
      subst e
      have : t < a.tmps.size := by rw [h.size]; exact ht
      simpa [this] using hv
    · rename_i e
      have := h.slot t ht
      have e2 : (a.tmps.setIfInBounds d v).getD t undef = a.tmps.getD t undef := by
        simp only [Array.getD_eq_getD_getElem?, Array.getElem?_setIfInBounds]
        rw [if_neg (fun e' => e e'.symm)]
      rw [e2]
      exact this
  · simp only [fset]
    rw [if_neg (by omega)]
    exact h.out t ht
def fsetO (fr : Fr) (d : Option Nat) (v : V) : Fr := match d with | some d => fset fr d v | none => fr
def dstOk (n : Nat) (d : Option Nat) : Bool := match d with | some d => decide (d < n) | none => true
theorem RF.putO {n : Nat} {g : Gh} {w : World} {fr : Fr} {a : Act} (h : RF n g w fr a) {d : Option Nat} (hd : dstOk n d = true) {x : V} {v : Value} (hv : RV g w x v) : RF n g w (fsetO fr d x) (a.put d v) := by
  cases d with
  | none => exact h
  | some d => exact h.put (by simpa [dstOk] using hd) hv

def lkE (fr : Fr) : Operand → V
  | .tmp t => fr t
  | .const c => ofConst c
  | .func f => .fn f []
  | .global _ => .undef
theorem RF.eval {n : Nat} {g : Gh} {w : World} {fr : Fr} {a : Act} (h : RF n g w fr a) (x : Operand) : RV g w (lkE fr x) (a.eval x) := by
  cases x with
  | tmp t =>
    simp only [lkE, Act.eval]
    by_cases ht : t < n
    · exact h.slot t ht
    · rw [h.out t (Nat.le_of_not_lt ht)]; exact .undef _
  | const c => exact ofConst_rv g w c
  | global i => exact .undef _
  | func f => exact .fn f [] #[] rfl (by simp)

/-- What holds of a call in every concrete state that fits. -/
def CallM (P : Program) (f : FuncId) (args : List V) (S : St) (R : V → St → Prop) : Prop :=
  ∀ (g : Gh) (w : World) (vals : Array Value), RS g w S.get → (∀ k, g.U k → k < S.next) → vals.size = args.length → (∀ (j : Nat) (y : V), args[j]? = some y → RV g w y (vals.getD j undef)) →
    Calls P f vals w fun e w' => ∃ r v S' g', e = .returned v ∧ Ext g w g' w' ∧ RS g' w' S'.get ∧ (∀ k, g'.U k → k < S'.next) ∧ RV g' w' r v ∧ R r S'

theorem CallM.mono {P : Program} {f : FuncId} {args : List V} {S : St} {R R' : V → St → Prop} (h : CallM P f args S R) (hr : ∀ r S', R r S' → R' r S') : CallM P f args S R' :=
  fun g w vals h1 h2 h3 h4 => (h g w vals h1 h2 h3 h4).mono fun e w' ⟨r, v, S', g', e1, e2, e3, e4, e5, e6⟩ => ⟨r, v, S', g', e1, e2, e3, e4, e5, hr r S' e6⟩

/-- What holds of a piece of code in every concrete state that fits. -/
def WpM (P : Program) (n : Nat) (c : Code) (Q : Exit → Fr → St → Prop) (fr : Fr) (S : St) : Prop :=
  ∀ (g : Gh) (w : World) (a : Act), Inv n g w fr S a → c.wp P (fun e a' w' => ∃ fr' S' g', Ext g w g' w' ∧ Inv n g' w' fr' S' a' ∧ Q e fr' S') a w

section
variable {P : Program} {n : Nat} {Q : Exit → Fr → St → Prop} {fr : Fr} {S : St}
theorem WpM.mono {c : Code} {Q' : Exit → Fr → St → Prop} (h : WpM P n c Q fr S) (hq : ∀ e fr S, Q e fr S → Q' e fr S) : WpM P n c Q' fr S :=
  fun g w a hi => wp_mono (h g w a hi) fun e a' w' ⟨fr', S', g', h1, h2, h3⟩ => ⟨fr', S', g', h1, h2, hq _ _ _ h3⟩
theorem WpM.skip (h : Q .normal fr S) : WpM P n .skip Q fr S := fun g w a hi => wp_skip ⟨fr, S, g, Ext.refl _ _, hi, h⟩
theorem WpM.ret (h : Q .ret fr S) : WpM P n .ret Q fr S := fun g w a hi => wp_ret ⟨fr, S, g, Ext.refl _ _, hi, h⟩
theorem WpM.exit {id : Nat} (h : Q (.exit id) fr S) : WpM P n (.exit id) Q fr S := fun g w a hi => wp_exit ⟨fr, S, g, Ext.refl _ _, hi, h⟩
def thenM (K : Fr → St → Prop) (Q : Exit → Fr → St → Prop) : Exit → Fr → St → Prop
  | .normal, fr, S => K fr S
  | e, fr, S => Q e fr S
theorem WpM.seq {x y : Code} (h : WpM P n x (thenM (WpM P n y Q) Q) fr S) : WpM P n (.seq x y) Q fr S := by
  intro g w a hi
  refine wp_seq (wp_mono (h g w a hi) ?_)
  rintro e a' w' ⟨fr', S', g', h1, h2, h3⟩
  cases e with
  | normal =>
    refine wp_mono (h3 g' w' a' h2) ?_
    rintro e a'' w'' ⟨fr'', S'', g'', h4, h5, h6⟩
    exact ⟨fr'', S'', g'', h1.trans h4, h5, h6⟩
  | _ => exact ⟨fr', S', g', h1, h2, h3⟩
theorem WpM.cond {c : Operand} {x y : Code} {b : Bool} (hc : lkE fr c = .d (.bool b)) (h : WpM P n (if b then x else y) Q fr S) : WpM P n (.cond c x y) Q fr S := by
  intro g w a hi
  have := hi.rf.eval c
  rw [hc] at this
  generalize hv : a.eval c = v at this
  cases this with | d this =>
  cases this
  exact wp_cond hv (h g w a hi)
def blockM (id : Nat) (Q : Exit → Fr → St → Prop) : Exit → Fr → St → Prop
  | .exit id', fr, S => if id' = id then Q .normal fr S else Q (.exit id') fr S
  | e, fr, S => Q e fr S
theorem WpM.block {id : Nat} {c : Code} (h : WpM P n c (blockM id Q) fr S) : WpM P n (.block id c) Q fr S := by
  intro g w a hi
  refine wp_block (wp_mono (h g w a hi) ?_)
  rintro e a' w' ⟨fr', S', g', h1, h2, h3⟩
  cases e with
  | exit id' =>
    simp only [Exit.inBlock, blockM] at h3 ⊢
    split at h3
    · rename_i hid
      rw [if_pos hid]
      exact ⟨fr', S', g', h1, h2, h3⟩
    · rename_i hid
      rw [if_neg hid]
      exact ⟨fr', S', g', h1, h2, h3⟩
  | _ => exact ⟨fr', S', g', h1, h2, h3⟩

/-- Less is known. -/
def St.Le (S S' : St) : Prop := S.next ≤ S'.next ∧ ∀ m k, S'.get m = some k → S.get m = some k
def FrLe (fr fr' : Fr) : Prop := ∀ t, fr' t = fr t ∨ fr' t = .undef
theorem St.Le.refl (S : St) : S.Le S := ⟨Nat.le_refl _, fun _ _ h => h⟩
theorem FrLe.refl (fr : Fr) : FrLe fr fr := fun _ => .inl rfl
theorem Inv.less {g : Gh} {w : World} {a : Act} {fr' : Fr} {S' : St} (h : Inv n g w fr S a) (hS : S.Le S') (hf : FrLe fr fr') : Inv n g w fr' S' a := by
  refine ⟨h.rs.less hS.2, fun k hk => Nat.lt_of_lt_of_le (h.lt k hk) hS.1, h.rf.size, h.rf.defers, fun t ht => ?_, fun t ht => ?_⟩
  · rcases hf t with e | e
    · rw [e]; exact h.rf.slot t ht
    · rw [e]; exact .undef _
  · rcases hf t with e | e
    · rw [e]; exact h.rf.out t ht
    · exact e
theorem WpM.less {c : Code} {fr' : Fr} {S' : St} (hS : S.Le S') (hf : FrLe fr fr') (h : WpM P n c Q fr' S') : WpM P n c Q fr S := fun g w a hi => h g w a (hi.less hS hf)

/-- A loop: what holds at each round's head, told by x. -/
theorem WpM.loop {α : Type} {c : Code} (I : α → Fr → St → Prop) (μ : α → Nat) (x0 : α) {fr0 : Fr} {S0 : St} (hS : S.Le S0) (hf : FrLe fr fr0) (h0 : I x0 fr0 S0)
    (round : ∀ x fr S, I x fr S → WpM P n c (thenM (fun fr' S' => ∃ x' fr'' S'', S'.Le S'' ∧ FrLe fr' fr'' ∧ I x' fr'' S'' ∧ μ x' < μ x) Q) fr S) : WpM P n (.loop c) Q fr S := by
  intro g w a hi
  have key : ∀ (m : Nat) (x : α) (fr : Fr) (S : St) (g' : Gh) (w' : World) (a' : Act), μ x ≤ m → I x fr S → Ext g w g' w' → Inv n g' w' fr S a' →
      Code.rounds P c (fun e a' w' => ∃ fr' S' g', Ext g w g' w' ∧ Inv n g' w' fr' S' a' ∧ Q e fr' S') (m + 1) a' w' := by
    intro m
    induction m with
    | zero =>
      intro x fr S g' w' a' hm hI hE hi'
      rw [rounds_succ]
      refine wp_mono (round x fr S hI g' w' a' hi') ?_
      rintro e a'' w'' ⟨fr', S', g'', h1, h2, h3⟩
      cases e with
      | normal =>
        obtain ⟨x', fr'', S'', _, _, _, hlt⟩ := h3
        omega
      | _ => exact ⟨fr', S', g'', hE.trans h1, h2, h3⟩
    | succ m ih =>
      intro x fr S g' w' a' hm hI hE hi'
      rw [rounds_succ]
      refine wp_mono (round x fr S hI g' w' a' hi') ?_
      rintro e a'' w'' ⟨fr', S', g'', h1, h2, h3⟩
      cases e with
      | normal =>
        obtain ⟨x', fr'', S'', hS', hf', hI', hlt⟩ := h3
        exact ih x' fr'' S'' g'' w'' a'' (by omega) hI' (hE.trans h1) (h2.less hS' hf')
      | _ => exact ⟨fr', S', g'', hE.trans h1, h2, h3⟩
  exact wp_loop_rounds (μ x0 + 1) (key (μ x0) x0 fr0 S0 g w a (Nat.le_refl _) h0 (Ext.refl _ _) (hi.less hS hf))
end

/-- Regions, operation by operation. -/
def guardM (ops : Array Oper) (fr : Fr) (o : Oper) : Option Bool :=
  match o.guard with
  | none => some true
  | some (j, want) => match (ops[j]?).bind (·.dst) with
    | some d => match fr d with
      | .d (.bool b) => some (b == want)
      | _ => none
    | none => none
def callOf (o : Oper) (fr : Fr) : Option (FuncId × List V) :=
  match o.op with
  | .call c => match c.callee with
    | .value f => match lkE fr f with
      | .fn f cs => some (f, (c.args.toList.map (lkE fr)) ++ cs)
      | _ => none
    | _ => none
  | _ => none
/-- A named function with a body of its own. -/
def isPlain (P : Program) (f : FuncId) : Bool :=
  match P.funcs[f]? with
  | some fn => fn.name != "runtime.NumGoroutine" && fn.body.isSome
  | none => false

/-- An empty slice against nil: either way. -/
def nilCmp (P : Program) (o : Oper) (fr : Fr) : Bool :=
  match o.op with
  | .binOp .eql t x (.const (.slice none 0 0)) _ => match lkE fr x, P.underlying t with
    | .d (.sl []), some (.slice _) => true
    | _, _ => false
  | _ => false
noncomputable def wpS (P : Program) (n : Nat) (fz : List Nat) (ops : Array Oper) : List Oper → (Fr → St → Prop) → Fr → St → Prop
  | [], K, fr, S => K fr S
  | o :: rest, K, fr, S => dstOk n o.dst = true ∧ match guardM ops fr o with
    | none => False
    | some false => wpS P n fz ops rest K (fsetO fr o.dst .undef) S
    | some true => match callOf o fr with
      | some (f, args) => isPlain P f = true ∧ CallM P f args S fun r S' => wpS P n fz ops rest K (fsetO fr o.dst r) S'
      | none => match stepF P fz o (lkE fr) (blkOf S.get (fpOf o.op (lkE fr))) S.next with
        | some (v, ef) => wpS P n fz ops rest K (fsetO fr o.dst v) { ef.st S with next := S.next + 1 }
        | none => nilCmp P o fr = true ∧ ∀ b : Bool, wpS P n fz ops rest K (fsetO fr o.dst (.d (.bool b))) { S with next := S.next + 1 }
theorem nilCmp_run {P : Program} {n : Nat} {g : Gh} {w : World} {fr : Fr} {a : Act} {o : Oper} (h : nilCmp P o fr = true) (hr : RF n g w fr a) : ∃ b : Bool, (execOp a.eval o).run P w = .ok (.value (.bool b)) w := by
  unfold nilCmp at h
  split at h
  case h_2 => cases h
  rename_i t x q hop
  split at h
  case h_2 => cases h
  rename_i e hx hu
  have hv := hr.eval x
  rw [hx] at hv
  generalize hve : a.eval x = xv at hv
  obtain ⟨A, c, rfl, _⟩ := sliceLen hv
  have hg := eqGuard_run (P := P) (w := w) (op := .eql) (t := t) (x := x) (y := .const (.slice none 0 0)) (a := .slice A ([] : List D).length c) (b := .slice none 0 0) (by simp) (by simp)
  refine ⟨A.isNone, ?_⟩
  have hc0 : a.eval (.const (.slice none 0 0)) = .slice none 0 0 := rfl
  simp only [execOp, hop, hve, hc0, Sem.run_bind, hg, Result.andThen_ok]
  simp [Go.binOp, Op.equal, Op.maxDepth, Lib.run_equalIn_slice_nil w 9999 t e A _ c 0 0 hu]

theorem guardM_wanted {n : Nat} {g : Gh} {w : World} {fr : Fr} {a : Act} {ops : Array Oper} {o : Oper} {b : Bool} (h : guardM ops fr o = some b) (hr : RF n g w fr a) : Region.wanted o (yielded ops a.tmps) = b := by
  unfold guardM at h
  split at h
  · rename_i hg
    injection h with h
    subst h
    simp [Region.wanted, hg]
  · rename_i j want hg
    split at h
    case h_2 => cases h
    rename_i d hd
    split at h
    case h_2 => cases h
    rename_i q hq
    injection h with h
    subst h
    have hlt : d < n := by
      rcases Nat.lt_or_ge d n with h | h
      · exact h
      · rw [hr.out d h] at hq; cases hq
    have := hr.slot d hlt
    rw [hq] at this
    have hsz : d < a.tmps.size := by rw [hr.size]; exact hlt
    have hget : a.tmps.getD d undef = a.tmps[d] := by simp [hsz]
    rw [hget] at this
    generalize hv : a.tmps[d] = v at this
    cases this with | d this =>
    cases this
    have hy : yielded ops a.tmps j = some q := by
      unfold yielded
      rw [hd]
      simp [hsz, hv]
    simp only [Region.wanted, hg, hy]
    cases q <;> cases want <;> rfl

theorem wpS_run {P : Program} {n : Nat} {fz : List Nat} {ops : Array Oper} {Q : Exit → Fr → St → Prop} : ∀ (l : List Nat) (k : Nat) (fr : Fr) (S : St) (g : Gh) (w : World) (a : Act) (g0 : Gh) (w0 : World), (∀ i, l[i]? = if k + i < ops.size then some (k + i) else none) →
    wpS P n fz ops (ops.toList.drop k) (Q .normal) fr S → Ext g0 w0 g w → Inv n g w fr S a → wpOps P ops (fun e a' w' => ∃ fr' S' g', Ext g0 w0 g' w' ∧ Inv n g' w' fr' S' a' ∧ Q e fr' S') l a w := by
  intro l
  induction l with
  | nil =>
    intro k fr S g w a g0 w0 hl h hE hi
    have : ops.size ≤ k := by
      rcases Nat.lt_or_ge k ops.size with h | h
      · have := hl 0; simp [h] at this
      · exact h
    rw [List.drop_eq_nil_of_le (by simpa using this)] at h
    exact ⟨fr, S, g, hE, hi, h⟩
  | cons i l ih =>
    intro k fr S g w a g0 w0 hl h hE hi
    have hk : k < ops.size ∧ i = k := by
      have := hl 0
      simp at this
      exact ⟨this.1, this.2⟩
    obtain ⟨hk, rfl⟩ := hk
    have hl' : ∀ j, l[j]? = if i + 1 + j < ops.size then some (i + 1 + j) else none := fun j => by
      have := hl (j + 1)
      simp at this
      rw [this, show i + (j + 1) = i + 1 + j by omega]
    have hd : ops.toList.drop i = ops[i] :: ops.toList.drop (i + 1) := by
      rw [List.drop_eq_getElem_cons (by simpa using hk)]
      simp
    rw [hd] at h
    simp only [wpS] at h
    obtain ⟨hdst, h⟩ := h
    have hoi : ops[i]? = some ops[i] := by simp [hk]
    simp only [wpOps, hoi]
    split at h
    · exact h.elim
    · rename_i hg
      have hw := guardM_wanted hg hi.rf
      rw [if_neg (by rw [hw]; simp)]
      exact ih (i + 1) _ S g w _ g0 w0 hl' h hE ⟨hi.rs, hi.lt, hi.rf.putO hdst (.undef _)⟩
    · rename_i hg
      have hw := guardM_wanted hg hi.rf
      rw [if_pos hw]
      left
      unfold Oper.wp
      split at h
      · -- a call
        rename_i f args hc
        obtain ⟨hpl, h⟩ := h
        unfold callOf at hc
        split at hc
        case h_2 => cases hc
        rename_i c hop
        split at hc
        case h_2 => cases hc
        rename_i fo hcal
        split at hc
        case h_2 => cases hc
        rename_i f' cs hf
        injection hc with hc
        injection hc with h1 h2
        subst h1 h2
        have hfv := hi.rf.eval fo
        rw [hf] at hfv
        generalize hve : a.eval fo = fv at hfv
        cases hfv with
        | fn _ _ vs hvl hvr =>
          have hrun : (execOp a.eval ops[i]).run P w = .ok (.enter f' (c.args.map a.eval ++ vs)) w := by
            unfold isPlain at hpl
            split at hpl
            case h_2 => cases hpl
            rename_i fn hfn
            simp at hpl
            obtain ⟨hp1, hp2⟩ := hpl
            have hb : ¬ fn.body = none := by intro hbb; simp [hbb] at hp2
            simp [execOp, hop, resolve, hcal, hve, Deferred.ofValue, invoke, callFunc, hfn, hp1, hb]
          rw [hrun]
          simp only [Oper.upon_enter]
          refine (h g w (c.args.map a.eval ++ vs) hi.rs hi.lt ?_ ?_).mono ?_
          · simp [hvl]
          · intro j y hy
            have hcs : (c.args.map a.eval).size = (c.args.toList.map (lkE fr)).length := by simp
            rw [List.getElem?_append] at hy
            split at hy
            · rename_i hj
              simp only [List.getElem?_map, Option.map_eq_some_iff] at hy
              obtain ⟨x, hx, rfl⟩ := hy
              have hj' : j < c.args.size := by simpa using hj
              have hxx : c.args[j] = x := by simpa [hj'] using hx
              have : (c.args.map a.eval ++ vs).getD j undef = a.eval x := by
                simp [Array.getElem?_append, hj', hxx]
              rw [this]
              exact hi.rf.eval x
            · rename_i hj
              have hj' : ¬ j < c.args.size := by simpa using hj
              have := hvr _ y hy
              have e : (c.args.map a.eval ++ vs).getD j undef = vs.getD (j - (c.args.toList.map (lkE fr)).length) undef := by
                simp [Array.getElem?_append, hj']
              rw [e]
              exact this
          · rintro e w' ⟨r, v, S', g', rfl, h1, h2, h3, h4, h5⟩
            simp only
            exact ih (i + 1) _ S' g' w' _ g0 w0 hl' h5 (hE.trans h1) ⟨h2, h3, (hi.rf.mono h1).putO hdst h4⟩
      · rename_i hc
        split at h
        · rename_i v ef hs
          obtain ⟨w', g', hr, h1, h2, h3⟩ := stepF_sound (P := P) (fun x => hi.rf.eval x) ops[i] hs hi.rs (fun hU => by have := hi.lt _ hU; omega)
          have hinv : ∀ v', RV g' w' v v' → Inv n g' w' (fsetO fr ops[i].dst v) { ef.st S with next := S.next + 1 } (a.put ops[i].dst v') := fun v' hv' =>
            ⟨by rw [show ({ ef.st S with next := S.next + 1 } : St).get = (ef.st S).get from rfl, Eff.st_get]; exact h2, fun k hk => (show k < S.next + 1 from by
              rcases h3 k hk with h | h
              · have := hi.lt k h
                omega
              · omega), (hi.rf.mono h1).putO hdst hv'⟩
          rcases hr with ⟨v', hr, hv'⟩ | ⟨hr, hv⟩
          · rw [hr]
            simp only [Oper.upon_value]
            exact ih (i + 1) _ _ g' w' _ g0 w0 hl' h (hE.trans h1) (hinv v' hv')
          · rw [hr]
            simp only [Oper.upon_skip]
            exact ih (i + 1) _ _ g' w' _ g0 w0 hl' h (hE.trans h1) (hinv undef (by rw [hv]; exact .undef _))
        · obtain ⟨hnc, h⟩ := h
          obtain ⟨b, hrun⟩ := nilCmp_run hnc hi.rf
          rw [hrun]
          simp only [Oper.upon_value]
          refine ih (i + 1) _ _ g w _ g0 w0 hl' (h b) hE ⟨hi.rs, fun k hk => ?_, hi.rf.putO hdst (.d (.bool b))⟩
          have := hi.lt k hk
          show k < S.next + 1
          omega

theorem WpM.region {P : Program} {n : Nat} {Q : Exit → Fr → St → Prop} {fr : Fr} {S : St} {id : Nat} {fz : List Nat} {ops : Array Oper} (h : wpS P n fz ops ops.toList (Q .normal) fr S) : WpM P n (.region id ops false) Q fr S := by
  intro g w a hi
  refine wp_region (wpS_run (List.range ops.size) 0 fr S g w a g w (fun i => ?_) (by simpa using h) (Ext.refl _ _) hi)
  rw [Nat.zero_add]
  split
  · rename_i h; simp [h]
  · rename_i h; simp [List.getElem?_eq_none (show (List.range ops.size).length ≤ i by simpa using h)]
end Go.Proofs.Ytafeehlpmdligaa.M
