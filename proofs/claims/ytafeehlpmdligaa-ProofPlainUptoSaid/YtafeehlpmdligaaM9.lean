/- One operation: the machine does what the abstract step says. -/
import Derived.Test.YtafeehlpmdligaaM8
namespace Go.Proofs.Ytafeehlpmdligaa.M
open Go.RowKit
set_option linter.unusedVariables false
set_option linter.unusedSimpArgs false

theorem optMap_some {α β : Type} {o : Option α} {f : α → β} {y : β} (h : o.map f = some y) : ∃ x, o = some x ∧ f x = y := by
  simpa using h
theorem map_keep {x : Option V} {v : V} {ef : Eff} (h : x.map (fun y => (y, Eff.keep)) = some (v, ef)) : x = some v ∧ ef = .keep := by
  obtain ⟨y, h1, h2⟩ := optMap_some h
  injection h2 with h2 h3
  subst h2
  exact ⟨h1, h3.symm⟩

theorem OptRV.of_map {g : Gh} {w : World} {lk : Operand → V} {ev : Operand → Value} (hev : ∀ x, RV g w (lk x) (ev x)) (x : Option Operand) : OptRV g w (x.map lk) (x.map ev) := by
  cases x with
  | none => exact .none
  | some x => exact .some (hev x)

theorem resolve_builtin {P : Program} {w : World} (ev : Operand → Value) (b : Builtin) (args : Array Operand) (tys : Array TypeId) (ty : TypeId) :
    ∃ cs, ((do let d ← resolve ev { callee := .builtin b, args := args, argTypes := tys } ty; invoke d.target d.args : Sem Next)).run P w = (builtin b tys ty cs (args.map ev)).run P w :=
  ⟨_, rfl⟩

section
variable {P : Program} {g : Gh} {w : World} {H : Nat → Option Blk} {nm : Nat} {v : V} {ef : Eff} {lk : Operand → V} {ev : Operand → Value}
theorem len_sound (hev : ∀ x, RV g w (lk x) (ev x)) {x : Operand} {t ty : TypeId} {cs : Array Bool} (h : (evalLen P t (lk x)).map (fun y => (y, Eff.keep)) = some (v, ef)) (hS : RS g w H) : StepOK P g w H nm v ef ((builtin .len #[t] ty cs #[ev x]).run P w) := by
  obtain ⟨he, rfl⟩ := map_keep h
  exact StepOK.keep (s := Builtin.len_ #[t] ty #[ev x]) hS (evalLen_run he (hev x))
theorem append_sound (hev : ∀ x, RV g w (lk x) (ev x)) {x y : Operand} {t ty : TypeId} {cs : Array Bool} (h : evalAppend P t (lk x) (lk y) (blkOf H (refOf (lk x))) nm = some (v, ef)) (hS : RS g w H) (hn : ¬ g.U nm) : StepOK P g w H nm v ef ((builtin .append #[t, t] ty cs #[ev x, ev y]).run P w) :=
  StepOK.val (s := Builtin.append_ #[t, t] ty #[ev x, ev y]) (evalAppend_run (P := P) (ty := ty) h hS hn (fun m hm => by simp [blkOf, hm]) (hev x) (hev y))
theorem delete_sound (hev : ∀ x, RV g w (lk x) (ev x)) {x y : Operand} {t kt et ty : TypeId} {kk : KK} {cs : Array Bool} {q : Blk} {nm' : Nat} (hmt : mapTy P t = some (kk, kt, et)) (hnm' : refOf (lk x) = some nm') (hq : evalUpdate P t (lk x) (lk y) none (H nm') = some q) (hS : RS g w H) :
    StepOK P g w H nm (.tup []) (.put nm' q) ((builtin .delete #[t, kt] ty cs #[ev x, ev y]).run P w) := by
  obtain ⟨w', _, e2, e3, e4⟩ := evalUpdate_run (P := P) hq hS hnm' (hev x) (hev y) .none
  have := e2 rfl kt et ty (mapTy_spec hmt).1
  exact ⟨w', g, .inl ⟨.tuple #[], by simp [builtin, this], .tup [] #[] rfl (by simp)⟩, e3, e4, fun k hk => .inl hk⟩
theorem max_sound (hev : ∀ x, RV g w (lk x) (ev x)) {p q : Operand} {tys : Array TypeId} {ty : TypeId} {cs : Array Bool} (h : (evalMax true (lk p) (lk q)).map (fun y => (y, Eff.keep)) = some (v, ef)) (hS : RS g w H) : StepOK P g w H nm v ef ((builtin .max tys ty cs #[ev p, ev q]).run P w) := by
  obtain ⟨he, rfl⟩ := map_keep h
  have hp := hev p
  have hq := hev q
  generalize lk p = x at he hp
  generalize lk q = y at he hq
  generalize ev p = pv at hp
  generalize ev q = qv at hq
  unfold evalMax at he
  split at he
  · injection he with he
    subst he
    cases hp with | d hp => cases hq with | d hq =>
    cases hp
    cases hq
    exact ⟨w, g, .inl ⟨_, by simp [builtin, Builtin.max_, Builtin.max2] <;> rfl, .d (.int _ _)⟩, Ext.refl _ _, hS, fun k hk => .inl hk⟩
  · cases ‹true = false›
  · cases he
theorem min_sound (hev : ∀ x, RV g w (lk x) (ev x)) {p q : Operand} {tys : Array TypeId} {ty : TypeId} {cs : Array Bool} (h : (evalMax false (lk p) (lk q)).map (fun y => (y, Eff.keep)) = some (v, ef)) (hS : RS g w H) : StepOK P g w H nm v ef ((builtin .min tys ty cs #[ev p, ev q]).run P w) := by
  obtain ⟨he, rfl⟩ := map_keep h
  have hp := hev p
  have hq := hev q
  generalize lk p = x at he hp
  generalize lk q = y at he hq
  generalize ev p = pv at hp
  generalize ev q = qv at hq
  unfold evalMax at he
  split at he
  · cases ‹false = true›
  · injection he with he
    subst he
    cases hp with | d hp => cases hq with | d hq =>
    cases hp
    cases hq
    exact ⟨w, g, .inl ⟨_, by simp [builtin, Builtin.min_, Builtin.min2] <;> rfl, .d (.int _ _)⟩, Ext.refl _ _, hS, fun k hk => .inl hk⟩
  · cases he
end

set_option maxHeartbeats 1000000 in
theorem builtin_sound {P : Program} {g : Gh} {w : World} {H : Nat → Option Blk} {nm : Nat} {v : V} {ef : Eff} {lk : Operand → V} {ev : Operand → Value} (hev : ∀ x, RV g w (lk x) (ev x)) {b : Builtin} {args : List Operand} {tys : List TypeId} {ty : TypeId} {cs : Array Bool} {blk : Option Blk}
    (hb1 : b = .append ∨ b = .delete → blk = blkOf H ((args.head?).bind fun x => refOf (lk x)))
    (h : builtinB P b (args.map lk) tys blk nm = some (v, ef)) (hS : RS g w H) (hn : ¬ g.U nm) :
    StepOK P g w H nm v ef ((builtin b tys.toArray ty cs (args.map ev).toArray).run P w) := by
  cases b with
  | len =>
    rcases args with _ | ⟨x, _ | ⟨y, args⟩⟩ <;> rcases tys with _ | ⟨t, _ | ⟨t', tys⟩⟩ <;> simp only [builtinB, List.map_nil, List.map_cons, reduceCtorEq] at h
    exact len_sound hev h hS
  | append =>
    have hb := hb1 (.inl rfl)
    rcases args with _ | ⟨x, _ | ⟨y, _ | ⟨z, args⟩⟩⟩ <;> rcases tys with _ | ⟨t, _ | ⟨t', _ | ⟨t'', tys⟩⟩⟩ <;> simp only [builtinB, List.map_nil, List.map_cons, reduceCtorEq] at h
    split at h
    case isFalse => cases h
    rename_i htt
    subst htt
    subst hb
    exact append_sound hev h hS hn
  | delete =>
    have hb := hb1 (.inr rfl)
    rcases args with _ | ⟨x, _ | ⟨y, _ | ⟨z, args⟩⟩⟩ <;> rcases tys with _ | ⟨t, _ | ⟨t', _ | ⟨t'', tys⟩⟩⟩ <;> simp only [builtinB, List.map_nil, List.map_cons, reduceCtorEq] at h
    split at h
    case h_2 => cases h
    rename_i kk kt' et nm' hmt hnm'
    split at h
    case isFalse => cases h
    rename_i hk
    subst hk
    obtain ⟨q, hq, h3⟩ := optMap_some h
    injection h3 with h3 h4
    subst h3 h4
    subst hb
    simp only [List.head?_cons, Option.bind_some, hnm', blkOf] at hq
    exact delete_sound hev hmt hnm' hq hS
  | max =>
    rcases args with _ | ⟨x, _ | ⟨y, _ | ⟨z, args⟩⟩⟩ <;> simp only [builtinB, List.map_nil, List.map_cons, reduceCtorEq] at h
    exact max_sound hev h hS
  | min =>
    rcases args with _ | ⟨x, _ | ⟨y, _ | ⟨z, args⟩⟩⟩ <;> simp only [builtinB, List.map_nil, List.map_cons, reduceCtorEq] at h
    exact min_sound hev h hS
  | _ => simp only [builtinB, reduceCtorEq] at h

set_option maxHeartbeats 1000000 in
theorem step_sound {P : Program} {g : Gh} {w : World} {H : Nat → Option Blk} {nm : Nat} {v : V} {ef : Eff} {lk : Operand → V} {ev : Operand → Value} (hev : ∀ x, RV g w (lk x) (ev x)) (o : Oper)
    (h : stepB P o.op lk (blkOf H (fpOf o.op lk)) nm = some (v, ef)) (hS : RS g w H) (hn : ¬ g.U nm) : StepOK P g w H nm v ef ((execOp ev o).run P w) := by
  obtain ⟨dst, op, type, pos, after, guard⟩ := o
  simp only at h
  have hblk : ∀ (x : V) (q : Nat) (k : Blk), refOf x = some q → blkOf H (refOf x) = some k → BlkOK g w q k := fun x q k hx hk => by
    rw [hx] at hk
    exact (hS.ok q k hk).2
  unfold stepB at h
  split at h
  · -- move
    rename_i x
    injection h with h
    injection h with h1 h2
    subst h1 h2
    exact ⟨w, g, .inl ⟨ev x, rfl, hev x⟩, Ext.refl _ _, hS, fun k hk => .inl hk⟩
  · rename_i x
    injection h with h
    injection h with h1 h2
    subst h1 h2
    exact ⟨w, g, .inl ⟨ev x, rfl, hev x⟩, Ext.refl _ _, hS, fun k hk => .inl hk⟩
  · -- pick
    rename_i c a b
    split at h
    case h_2 => cases h
    rename_i t hc
    injection h with h
    injection h with h1 h2
    subst h1 h2
    have hcv := hev c
    rw [hc] at hcv
    generalize hce : ev c = cv at hcv
    cases hcv with | d hcv =>
    cases hcv
    refine ⟨w, g, .inl ⟨if t then ev a else ev b, by simp [execOp, hce, asBool], ?_⟩, Ext.refl _ _, hS, fun k hk => .inl hk⟩
    cases t
    · exact hev b
    · exact hev a
  · -- nilCheck
    rename_i x
    have hx := hev x
    split at h
    case h_4 => cases h
    all_goals
      rename_i hc
      injection h with h
      injection h with h1 h2
      subst h1 h2
      rw [hc] at hx
      generalize hce : ev x = cv at hx
      have hx' := hx
      cases hx
      exact ⟨w, g, .inl ⟨_, by simp [execOp, hce] <;> rfl, hx'⟩, Ext.refl _ _, hS, fun k hk => .inl hk⟩
  · -- binOp
    rename_i op t x y yt
    split at h
    · rename_i v' hb
      injection h with h
      injection h with h1 h2
      subst h1 h2
      obtain ⟨r, e1, e2, e3, e4⟩ := evalBin_run (P := P) hb (hev x) (hev y) t
      have eg := eqGuard_run (P := P) (w := w) (op := op) (t := t) (x := x) (y := y) (b := ev y) e3 e4
      exact ⟨w, g, .inl ⟨r, by simp [execOp, eg, e1], e2⟩, Ext.refl _ _, hS, fun k hk => .inl hk⟩
    · obtain ⟨he, rfl⟩ := map_keep h
      obtain ⟨r, e1, e2⟩ := evalEqAgg_run (P := P) he (hev x) (hev y) x y
      exact StepOK.keep (s := do eqGuard op t x y (ev x) (ev y); Go.binOp op t (ev x) (ev y)) hS ⟨r, e1, e2⟩
  · -- unOp
    rename_i op t x
    obtain ⟨he, rfl⟩ := map_keep h
    exact StepOK.keep (s := Op.unary op (ev x)) hS (evalUn_run he (hev x))
  · rename_i s t x
    obtain ⟨he, rfl⟩ := map_keep h
    exact StepOK.keep (s := convert s t (ev x)) hS (evalConv_run he (hev x))
  · rename_i x i
    obtain ⟨he, rfl⟩ := map_keep h
    exact StepOK.keep (s := Instr.extract (ev x) i) hS (evalExtract_run he (hev x))
  · rename_i s x f
    obtain ⟨he, rfl⟩ := map_keep h
    exact StepOK.keep (s := Instr.fieldAt s (ev x) f) hS (evalFieldAddr_run he (hev x))
  · rename_i t x i
    obtain ⟨he, rfl⟩ := map_keep h
    exact StepOK.keep (s := Instr.indexAt t (ev x) (ev i)) hS (evalIndexAddr_run he (hev x) (hev i))
  · rename_i t x i
    obtain ⟨he, rfl⟩ := map_keep h
    exact StepOK.keep (s := Instr.index t (ev x) (ev i)) hS (evalIndex_run he (hev x) (hev i))
  · rename_i t x lo hi mx
    obtain ⟨he, rfl⟩ := map_keep h
    exact StepOK.keep (s := Instr.sliceAt t (ev x) (lo.map ev) (hi.map ev) (mx.map ev)) hS (evalSlice_run he (hev x) (.of_map hev lo) (.of_map hev hi) (.of_map hev mx))
  · rename_i t parts
    obtain ⟨he, rfl⟩ := map_keep h
    exact StepOK.keep (s := Instr.build t (parts.map fun (i, x) => (i, ev x))) hS (evalBuild_run hev he)
  · rename_i t len parts
    have := evalBuildSlice_run (P := P) (t := t) (len := len) (parts := parts) (nm := nm) (v := v) (ef := ef) hev h hS hn
    exact StepOK.val (P := P) this
  · -- makeFunc
    rename_i f first caps
    split at h
    case isFalse => cases h
    rename_i h0
    injection h with h
    injection h with h1 h2
    subst h1 h2
    have hfirst : first.map ev = #[] := by
      apply Array.eq_empty_of_size_eq_zero
      simpa using h0
    refine ⟨w, g, .inl ⟨.func (.func f) #[] (caps.map ev), by simp [execOp, Instr.makeFunc, hfirst], .fn f _ _ (by simp) fun j y hy => ?_⟩, Ext.refl _ _, hS, fun k hk => .inl hk⟩
    simp only [List.getElem?_map, Option.map_eq_some_iff] at hy
    obtain ⟨c, hc, rfl⟩ := hy
    have : (caps.map ev).getD j undef = ev c := by
      simp at hc
      simp [hc]
    rw [this]
    exact hev c
  · rename_i t a
    obtain ⟨he, rfl⟩ := map_keep h
    exact StepOK.keep (s := Instr.loadAt t (ev a)) hS (evalLoad_run he (hev a) (hblk (lk a)))
  · -- store
    rename_i t a x
    split at h
    case h_2 => cases h
    rename_i nm' hnm'
    obtain ⟨q, hq, h3⟩ := optMap_some h
    injection h3 with h3 h4
    subst h3 h4
    have hb : blkOf H (fpOf (.store t a x) lk) = H nm' := by simp [fpOf, blkOf, hnm']
    rw [hb] at hq
    obtain ⟨w', e1, e2, e3⟩ := evalStore_run (P := P) hq hS hnm' (hev a) (hev x)
    exact ⟨w', g, .inr ⟨by simp [execOp, e1], rfl⟩, e2, e3, fun k hk => .inl hk⟩
  · -- alloc
    rename_i t
    obtain ⟨ti, hti, h3⟩ := optMap_some h
    injection h3 with h3 h4
    subst h3 h4
    obtain ⟨v', w', g', e1, e2, e3, e4, e5⟩ := evalAlloc_run hti hS hn
    exact StepOK.val (s := Instr.alloc t true (.tuple #[])) ⟨v', w', g', e1, e2, e3, e4, e5⟩
  · -- box
    rename_i t x
    split at h
    case isFalse => cases h
    rename_i hf
    injection h with h
    injection h with h1 h2
    subst h1 h2
    obtain ⟨v', w', g', e1, e2, e3, e4, e5⟩ := evalBox_run (P := P) (t := t) hf hS hn (hev x)
    exact StepOK.val (s := Instr.box t (ev x)) ⟨v', w', g', e1, e2, e3, e4, e5⟩
  · -- lookup
    rename_i t m k ok
    obtain ⟨he, rfl⟩ := map_keep h
    exact StepOK.keep (s := Instr.lookup t (ev m) (ev k) ok) hS (evalLookup_run he (hev m) (hev k) (hblk (lk m)))
  · -- mapUpdate
    rename_i t m k x
    split at h
    case h_2 => cases h
    rename_i nm' hnm'
    obtain ⟨q, hq, h3⟩ := optMap_some h
    injection h3 with h3 h4
    subst h3 h4
    have hb : blkOf H (fpOf (.mapUpdate t m k x) lk) = H nm' := by simp [fpOf, blkOf, hnm']
    rw [hb] at hq
    obtain ⟨w', e1, _, e2, e3⟩ := evalUpdate_run (P := P) hq hS hnm' (hev m) (hev k) (.some (hev x))
    exact ⟨w', g, .inr ⟨by simp [execOp, e1 _ rfl], rfl⟩, e2, e3, fun k hk => .inl hk⟩
  · -- makeMap
    rename_i t
    obtain ⟨⟨kk, kt, et⟩, hq, h3⟩ := optMap_some h
    injection h3 with h3 h4
    subst h3 h4
    obtain ⟨v', w', g', e1, e2, e3, e4, e5⟩ := evalMakeMap_run (P := P) hq hS hn
    exact StepOK.val (s := Instr.makeMap t none) ⟨v', w', g', e1, e2, e3, e4, e5⟩
  · rename_i t l c
    exact StepOK.val (s := Instr.makeSlice t (ev l) (ev c)) (evalMakeSlice_run h hS hn (hev l) (hev c))
  · -- builtins
    rename_i c
    split at h
    case h_2 => cases h
    rename_i b hb
    obtain ⟨callee, args, tys⟩ := c
    simp only at hb
    subst hb
    obtain ⟨args⟩ := args
    obtain ⟨tys⟩ := tys
    obtain ⟨cs, hr⟩ := resolve_builtin (P := P) (w := w) ev b ⟨args⟩ ⟨tys⟩ type
    have := builtin_sound (P := P) (ty := type) (cs := cs) (args := args) (tys := tys) hev (fun hb => by rcases hb with rfl | rfl <;> rfl) h hS hn
    simp only [execOp]
    rw [hr]
    simpa using this
  · cases h
end Go.Proofs.Ytafeehlpmdligaa.M
