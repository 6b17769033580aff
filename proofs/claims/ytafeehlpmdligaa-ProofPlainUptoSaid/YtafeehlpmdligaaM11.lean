/- Functions; changes of what is known at a standing world: rows become pure, nil becomes an empty row. -/
import Derived.Test.YtafeehlpmdligaaM10
namespace Go.Proofs.Ytafeehlpmdligaa.M
open Go.RowKit
set_option linter.unusedVariables false
set_option linter.unusedSimpArgs false

/-- The world stands; what is known is told otherwise. -/
def Upd (n : Nat) (fr : Fr) (S : St) (K : Fr → St → Prop) : Prop :=
  ∀ (g : Gh) (w : World) (a : Act), Inv n g w fr S a → ∃ fr' S' g', Ext g w g' w ∧ Inv n g' w fr' S' a ∧ K fr' S'
section
variable {P : Program} {n : Nat} {fr : Fr} {S : St} {K : Fr → St → Prop}
theorem Upd.done (h : K fr S) : Upd n fr S K := fun g w a hi => ⟨fr, S, g, Ext.refl _ _, hi, h⟩
theorem Upd.less {fr' : Fr} {S' : St} (hS : S.Le S') (hf : FrLe fr fr') (h : Upd n fr' S' K) : Upd n fr S K := fun g w a hi => h g w a (hi.less hS hf)
theorem Upd.wp {c : Code} {Q : Exit → Fr → St → Prop} (h : Upd n fr S (WpM P n c Q)) : WpM P n c Q fr S := by
  intro g w a hi
  obtain ⟨fr', S', g', h1, h2, h3⟩ := h g w a hi
  refine wp_mono (h3 g' w a h2) ?_
  rintro e a' w' ⟨fr'', S'', g'', h4, h5, h6⟩
  exact ⟨fr'', S'', g'', h1.trans h4, h5, h6⟩
theorem Upd.mono {K' : Fr → St → Prop} (h : Upd n fr S K) (hk : ∀ fr S, K fr S → K' fr S) : Upd n fr S K' := by
  intro g w a hi
  obtain ⟨fr', S', g', h1, h2, h3⟩ := h g w a hi
  exact ⟨fr', S', g', h1, h2, hk _ _ h3⟩
theorem Upd.trans (h : Upd n fr S (fun fr' S' => Upd n fr' S' K)) : Upd n fr S K := by
  intro g w a hi
  obtain ⟨fr', S', g', h1, h2, h3⟩ := h g w a hi
  obtain ⟨fr'', S'', g'', h4, h5, h6⟩ := h3 g' w a h2
  exact ⟨fr'', S'', g'', h1.trans h4, h5, h6⟩

theorem Upd.freeze (t : Nat) {nm sz o m : Nat} {xs : List V} (ds : List D) (ht : fr t = .ms nm sz o m) (hg : S.get nm = some (.row sz xs)) (hx : (xs.drop o).take m = ds.map V.d) (hl : ds.length = m)
    (h : Upd n (fset fr t (.d (.sl ds))) (S.set nm none) K) : Upd n fr S K := by
  intro g w a hi
  obtain ⟨g', h1, h2, h3, h4⟩ := frz_row hi.rs hg hx hl
  have hi' : Inv n g' w (fset fr t (.d (.sl ds))) (S.set nm none) a := by
    refine ⟨by rw [St.get_set]; exact h2, fun k hk => hi.lt k (h3 k hk), hi.rf.size, hi.rf.defers, fun t' ht' => ?_, fun t' ht' => ?_⟩
    · simp only [fset]
      split
      · rename_i e
        subst e
        have := hi.rf.slot t' ht'
        rw [ht] at this
        exact h4 _ this
      · exact (hi.rf.slot t' ht').mono h1
    · simp only [fset]
      split
      · rename_i e
        subst e
        have := hi.rf.out t' ht'
        rw [ht] at this
        cases this
      · exact hi.rf.out t' ht'
  obtain ⟨fr', S', g'', h5, h6, h7⟩ := h g' w a hi'
  exact ⟨fr', S', g'', h1.trans h5, h6, h7⟩

/-- A row that a cell of a struct holds becomes pure data. -/
theorem Upd.freezeIn (bx j : Nat) {nm sz o m : Nat} {cs xs : List V} (ds : List D) (hb : S.get bx = some (.box cs)) (ht : cs[j]? = some (.ms nm sz o m)) (hg : S.get nm = some (.row sz xs)) (hx : (xs.drop o).take m = ds.map V.d) (hl : ds.length = m)
    (h : Upd n fr ((S.set nm none).set bx (some (.box (cs.set j (.d (.sl ds)))))) K) : Upd n fr S K := by
  intro g w a hi
  obtain ⟨g', h1, h2, h3, h4⟩ := frz_row hi.rs hg hx hl
  have hne : bx ≠ nm := fun e => by rw [e, hg] at hb; cases hb
  have hb' : hset S.get nm none bx = some (.box cs) := by simp [hset, hne, hb]
  have hlen : j < cs.length := (List.getElem?_eq_some_iff.1 ht).1
  have hrs : RS g' w (hset (hset S.get nm none) bx (some (.box (cs.set j (.d (.sl ds)))))) := by
    obtain ⟨hU, b, vs, tt, e1, e2, e3, e4⟩ := h2.ok _ _ hb'
    obtain ⟨_, b0, vs0, tt0, f1, f2, f3, f4⟩ := hi.rs.ok _ _ hb
    have hUU := (hi.rs.ok _ _ hb).1
    rw [h1.same bx hUU, f1] at e1
    injection e1 with e1
    subst e1
    rw [e2] at f2
    injection f2 with f2
    injection f2 with f2 _
    subst f2
    refine (h2.write (w' := w) (k' := .box (cs.set j (.d (.sl ds)))) hb' (by rw [h1.same bx hUU]; exact f1) (fun _ _ => rfl) rfl rfl rfl rfl (fun _ => ⟨b0, vs, tt, by rw [h1.same bx hUU]; exact f1, e2, by simpa using e3, fun j' y hy => ?_⟩)).2
    rw [List.getElem?_set] at hy
    split at hy
    · rename_i e
      subst e
      try rw [if_pos hlen] at hy
      injection hy with hy
      subst hy
      exact h4 _ (f4 j _ ht)
    · exact e4 j' y hy
  have hi' : Inv n g' w fr ((S.set nm none).set bx (some (.box (cs.set j (.d (.sl ds)))))) a :=
    ⟨by rw [St.get_set, St.get_set]; exact hrs, fun k hk => hi.lt k (h3 k hk), hi.rf.mono h1⟩
  obtain ⟨fr', S', g'', h5, h6, h7⟩ := h g' w a hi'
  exact ⟨fr', S', g'', h1.trans h5, h6, h7⟩

/-- A slice that is nil becomes an empty row. -/
theorem Upd.ghost (t sz : Nat) (ht : fr t = .nil ∨ fr t = .e0) (h : Upd n (fset fr t (.ms S.next sz 0 0)) { S.set S.next (some (.row sz [])) with next := S.next + 1 } K) : Upd n fr S K := by
  intro g w a hi
  have hn : ¬ g.U S.next := fun hU => by have := hi.lt _ hU; omega
  have hE : Ext g w (g.new S.next ⟨none, 0, sz, 0⟩) w := ⟨fun k h => .inl h, fun k h => g.new_ne _ (fun e => hn (e ▸ h)), fun b h => h, fun _ _ => rfl, rfl, rfl, rfl, Nat.le_refl _⟩
  have hrs : RS (g.new S.next ⟨none, 0, sz, 0⟩) w (hset S.get S.next (some (.row sz []))) := by
    refine hi.rs.put hE (fun _ _ _ _ _ => rfl) (.inr rfl) ?_ ?_ ?_
    · exact ⟨by rw [g.new_at], by simp, by simp, .inl ⟨by rw [g.new_at], rfl⟩⟩
    · intro b hb; rw [g.new_at] at hb; cases hb
    · exact fun b hb => ⟨hi.rs.ltF b hb, fun k _ hks hbk => (hi.rs.notF k b hks hbk).1 hb⟩
  have hval : ∀ v, RV g w (fr t) v → RV (g.new S.next ⟨none, 0, sz, 0⟩) w (.ms S.next sz 0 0) v := by
    intro v hv
    rcases ht with e | e <;> rw [e] at hv <;> cases hv <;> exact .msZero _ _ _ _ (.inr rfl)
  have hi' : Inv n (g.new S.next ⟨none, 0, sz, 0⟩) w (fset fr t (.ms S.next sz 0 0)) { S.set S.next (some (.row sz [])) with next := S.next + 1 } a := by
    refine ⟨by rw [show ({ S.set S.next (some (.row sz [])) with next := S.next + 1 } : St).get = (S.set S.next (some (.row sz []))).get from rfl, St.get_set]; exact hrs, fun k hk => (show k < S.next + 1 from by
      rcases hk with hk | hk
      · have := hi.lt k hk; omega
      · omega), hi.rf.size, hi.rf.defers, fun t' ht' => ?_, fun t' ht' => ?_⟩
    · simp only [fset]
      split
      · rename_i e
        subst e
        exact hval _ (hi.rf.slot t' ht')
      · exact (hi.rf.slot t' ht').mono hE
    · simp only [fset]
      split
      · rename_i e
        subst e
        have := hi.rf.out t' ht'
        rcases ht with e | e <;> rw [e] at this <;> cases this
      · exact hi.rf.out t' ht'
  obtain ⟨fr', S', g'', h5, h6, h7⟩ := h _ w a hi'
  exact ⟨fr', S', g'', hE.trans h5, h6, h7⟩

/-- A slice that is nil, in a cell of a struct, becomes an empty row. -/
theorem Upd.ghostIn (bx j sz : Nat) {cs : List V} (hb : S.get bx = some (.box cs)) (ht : cs[j]? = some .nil ∨ cs[j]? = some .e0)
    (h : Upd n fr { (S.set S.next (some (.row sz []))).set bx (some (.box (cs.set j (.ms S.next sz 0 0)))) with next := S.next + 1 } K) : Upd n fr S K := by
  intro g w a hi
  have hn : ¬ g.U S.next := fun hU => by have := hi.lt _ hU; omega
  have hE : Ext g w (g.new S.next ⟨none, 0, sz, 0⟩) w := ⟨fun k h => .inl h, fun k h => g.new_ne _ (fun e => hn (e ▸ h)), fun b h => h, fun _ _ => rfl, rfl, rfl, rfl, Nat.le_refl _⟩
  have hrs : RS (g.new S.next ⟨none, 0, sz, 0⟩) w (hset S.get S.next (some (.row sz []))) := by
    refine hi.rs.put hE (fun _ _ _ _ _ => rfl) (.inr rfl) ?_ ?_ ?_
    · exact ⟨by rw [g.new_at], by simp, by simp, .inl ⟨by rw [g.new_at], rfl⟩⟩
    · intro b hb; rw [g.new_at] at hb; cases hb
    · exact fun b hb => ⟨hi.rs.ltF b hb, fun k _ hks hbk => (hi.rs.notF k b hks hbk).1 hb⟩
  have hUb := (hi.rs.ok _ _ hb).1
  have hne : bx ≠ S.next := fun e => hn (e ▸ hUb)
  have hb' : hset S.get S.next (some (.row sz [])) bx = some (.box cs) := by simp [hset, hne, hb]
  have hlen : j < cs.length := by rcases ht with ht | ht <;> exact (List.getElem?_eq_some_iff.1 ht).1
  have hrs2 : RS (g.new S.next ⟨none, 0, sz, 0⟩) w (hset (hset S.get S.next (some (.row sz []))) bx (some (.box (cs.set j (.ms S.next sz 0 0))))) := by
    obtain ⟨hU, b, vs, tt, e1, e2, e3, e4⟩ := hrs.ok _ _ hb'
    refine (hrs.write (w' := w) (k' := .box (cs.set j (.ms S.next sz 0 0))) hb' e1 (fun _ _ => rfl) rfl rfl rfl rfl (fun _ => ⟨b, vs, tt, e1, e2, by simpa using e3, fun j' y hy => ?_⟩)).2
    rw [List.getElem?_set] at hy
    split at hy
    · rename_i e
      subst e
      try rw [if_pos hlen] at hy
      injection hy with hy
      subst hy
      rcases ht with ht | ht
      · have := e4 j _ ht
        generalize vs.getD j undef = q at this
        cases this
        exact .msZero _ _ _ _ (.inr rfl)
      · have := e4 j _ ht
        generalize vs.getD j undef = q at this
        cases this
        exact .msZero _ _ _ _ (.inr rfl)
    · exact e4 j' y hy
  have hi' : Inv n (g.new S.next ⟨none, 0, sz, 0⟩) w fr { (S.set S.next (some (.row sz []))).set bx (some (.box (cs.set j (.ms S.next sz 0 0)))) with next := S.next + 1 } a :=
    ⟨by rw [show ({ (S.set S.next (some (.row sz []))).set bx (some (.box (cs.set j (.ms S.next sz 0 0)))) with next := S.next + 1 } : St).get = ((S.set S.next (some (.row sz []))).set bx (some (.box (cs.set j (.ms S.next sz 0 0))))).get from rfl, St.get_set, St.get_set]; exact hrs2,
      fun k hk => (show k < S.next + 1 from by
        rcases hk with hk | hk
        · have := hi.lt k hk; omega
        · omega), hi.rf.mono hE⟩
  obtain ⟨fr', S', g'', h5, h6, h7⟩ := h _ w a hi'
  exact ⟨fr', S', g'', hE.trans h5, h6, h7⟩
end

/-- A function's results. -/
def resV1 (P : Program) (fr : Fr) (S : St) : ResultVar → Option V
  | .tmp t => some (fr t)
  | .cell a t => evalLoad P t (fr a) (blkOf S.get (refOf (fr a)))
def resVs (P : Program) (fr : Fr) (S : St) : List ResultVar → Option (List V)
  | [] => some []
  | r :: rs => match resV1 P fr S r, resVs P fr S rs with
    | some v, some vs => some (v :: vs)
    | _, _ => none
def resV (P : Program) (fr : Fr) (S : St) (rs : List ResultVar) : Option V :=
  match resVs P fr S rs with
  | some [v] => some v
  | some vs => some (.tup vs)
  | none => none

theorem resVs_run {P : Program} {n : Nat} {g : Gh} {w : World} {fr : Fr} {S : St} {a : Act} (hi : Inv n g w fr S a) : ∀ (rs : List ResultVar) (vs : List V), resVs P fr S rs = some vs →
    ∃ us : List Value, (rs.mapM fun r => (match r with | .tmp t => pure (a.tmps.getD t undef) | .cell b t => do loadVar t (← asAddr (a.tmps.getD b undef)) : Sem Value)).run P w = .ok us w ∧ us.length = vs.length ∧ ∀ (j : Nat) (y : V), vs[j]? = some y → RV g w y (us.getD j undef)
  | [], vs, h => by
    simp [resVs] at h
    subst h
    exact ⟨[], by simp, rfl, by simp⟩
  | r :: rs, vs, h => by
    simp only [resVs] at h
    split at h
    case h_2 => cases h
    rename_i v vs' h1 h2
    injection h with h
    subst h
    obtain ⟨us, h3, h4, h5⟩ := resVs_run hi rs vs' h2
    have h6 : ∃ u, ((match r with | .tmp t => pure (a.tmps.getD t undef) | .cell b t => do loadVar t (← asAddr (a.tmps.getD b undef)) : Sem Value)).run P w = .ok u w ∧ RV g w v u := by
      cases r with
      | tmp t =>
        simp only [resV1] at h1
        injection h1 with h1
        subst h1
        exact ⟨_, rfl, hi.rf.eval (.tmp t)⟩
      | cell b t =>
        simp only [resV1] at h1
        have hv := hi.rf.eval (.tmp b)
        simp only [lkE] at hv
        have hp := hv
        obtain ⟨u, e1, e2⟩ := evalLoad_run (P := P) h1 hv (fun q k hq hk => by rw [hq] at hk; exact (hi.rs.ok q k hk).2)
        refine ⟨u, ?_, e2⟩
        have hcs : ∃ cs, cellsAt (fr b) (blkOf S.get (refOf (fr b))) = some cs := by
          unfold evalLoad at h1
          split at h1
          · rename_i cs _ hcs; exact ⟨_, hcs⟩
          · cases h1
        obtain ⟨cs, hcs⟩ := hcs
        obtain ⟨bb, o, _, hpt, _⟩ := cellsAt_ok hcs hv (fun q k hq hk => by rw [hq] at hk; exact (hi.rs.ok q k hk).2)
        simp only [Act.eval] at hpt e1
        show ((do loadVar t (← asAddr (a.tmps.getD b undef)) : Sem Value)).run P w = _
        rw [hpt] at e1 ⊢
        simpa [Instr.loadAt, Instr.sureAddr, asAddr] using e1
    obtain ⟨u, h7, h8⟩ := h6
    refine ⟨u :: us, ?_, by simp [h4], fun j y hy => ?_⟩
    · rw [List.mapM_cons]
      simp only [Sem.run_bind, h7, h3, Result.andThen_ok, Sem.run_pure]
    · cases j with
      | zero => simp at hy; subst hy; simpa using h8
      | succ j => have := h5 j y (by simpa using hy); simpa [List.getD] using this

def argFr (args : List V) : Fr := fun t => args.getD t .undef

theorem CallM.of {P : Program} {f n : Nat} {fn : Func} {c : Code} {args : List V} {S : St} {R : V → St → Prop} (hf : P.funcs[f]? = some fn) (hb : fn.body = some c) (hn : fn.ntmps = n) (hl : args.length ≤ n)
    (h : WpM P n c (fun e fr S' => (e = .normal ∨ e = .ret) ∧ Upd n fr S' fun fr S' => ∃ r, resV P fr S' fn.results.toList = some r ∧ R r S') (argFr args) S) : CallM P f args S R := by
  intro g w vals hS hlt hsz hv
  refine calls_of_wp hf hb (wp_mono (h g w _ ⟨hS, hlt, ?_⟩) ?_)
  · refine ⟨by simp [hn, hsz]; omega, rfl, fun t ht => ?_, fun t ht => ?_⟩
    · simp only [argFr]
      by_cases hta : t < args.length
      · have := hv t args[t] (by simp [hta])
        have e1 : args.getD t .undef = args[t] := by simp [List.getD, hta]
        rw [e1]
        have hts : t < vals.size := by omega
        have e2 : (vals ++ Array.replicate (fn.ntmps - vals.size) undef).getD t undef = vals.getD t undef := by
          simp [Array.getElem?_append, hts]
        rw [e2]
        exact this
      · have e1 : args.getD t .undef = .undef := by simp [List.getD, List.getElem?_eq_none (show args.length ≤ t by omega)]
        rw [e1]
        exact .undef _
    · simp only [argFr]
      simp [List.getD, List.getElem?_eq_none (show args.length ≤ t by omega)]
  · rintro e a' w' ⟨fr', S', g', h1, h2, h3, h4⟩
    obtain ⟨fr'', S'', g'', h5, h6, r, hr, hR⟩ := h4 g' w' a' h2
    have key : a'.defers = [] ∧ ∃ v, (results fn a'.tmps).run P w' = .ok v w' ∧ ∃ r v' S'' g'', Ending.returned v = .returned v' ∧ Ext g w g'' w' ∧ RS g'' w' S''.get ∧ (∀ k, g''.U k → k < S''.next) ∧ RV g'' w' r v' ∧ R r S'' := by
      refine ⟨h6.rf.defers, ?_⟩
      unfold resV at hr
      cases hrs : resVs P fr'' S'' fn.results.toList with
      | none => simp [hrs] at hr
      | some vs =>
        obtain ⟨us, e1, e2, e3⟩ := resVs_run h6 _ vs hrs
        have hrun : (results fn a'.tmps).run P w' = .ok (if h : us.toArray.size = 1 then us.toArray[0] else .tuple us.toArray) w' := by
          unfold results
          rw [Array.mapM_eq_mapM_toList]
          have key2 : ∀ f : ResultVar → Sem Value, (∀ r, f r = (match r with | .tmp t => pure (a'.tmps.getD t undef) | .cell b t => do loadVar t (← asAddr (a'.tmps.getD b undef)) : Sem Value)) → (List.mapM f fn.results.toList).run P w' = .ok us w' := fun f hf => by rw [funext hf]; exact e1
          simp only [Sem.run_bind, Sem.run_map]
          rw [key2 _ (fun r => by cases r <;> rfl)]
          rfl
        refine ⟨_, hrun, r, _, S'', g'', rfl, h1.trans h5, h6.rs, h6.lt, ?_, hR⟩
        rw [hrs] at hr
        split at hr
        · rename_i v hvs
          injection hr with hr
          injection hvs with hvs
          subst hr hvs
          match us, e2 with
          | [u], _ => simpa using e3 0 v rfl
        · rename_i vs' hne hvs
          injection hr with hr
          injection hvs with hvs
          subst hr hvs
          have : us.length ≠ 1 := by
            intro h1
            obtain ⟨v, hv⟩ := List.length_eq_one_iff.1 (show vs.length = 1 by omega)
            exact hne v hv
          rw [dif_neg (by simpa using this)]
          exact .tup vs us.toArray (by simpa using e2) (fun j y hy => by have := e3 j y hy; simpa [List.getD] using this)
        · cases ‹none = some _›
    rcases h3 with rfl | rfl
    · exact key
    · exact key

/-- Values without names in them. -/
def V.noRef0 : V → Bool
  | .d _ | .nil | .e0 | .undef => true
  | _ => false
def V.noRef : V → Bool
  | .tup xs => xs.all V.noRef0
  | x => x.noRef0
theorem RV.noRef0 {g g' : Gh} {w : World} {x : V} {v : Value} (h : RV g w x v) (hF : g'.F = g.F) (hx : x.noRef0 = true) : RV g' w x v := by
  cases h with
  | d h => exact .d (by rw [hF]; exact h)
  | nil => exact .nil
  | e0 a => exact .e0 a
  | undef v => exact .undef v
  | _ => cases hx
theorem RV.noRef {g g' : Gh} {w : World} {x : V} {v : Value} (h : RV g w x v) (hF : g'.F = g.F) (hx : x.noRef = true) : RV g' w x v := by
  cases h with
  | tup xs vs hl hr => exact .tup xs vs hl fun j y hy => (hr j y hy).noRef0 hF (List.all_eq_true.1 hx y (List.mem_of_getElem? hy))
  | d h => exact .d (by rw [hF]; exact h)
  | nil => exact .nil
  | e0 a => exact .e0 a
  | undef v => exact .undef v
  | _ => cases hx
/-- Back to the names that were there before. -/
def Gh.back (g g' : Gh) : Gh := { ρ := g.ρ, U := g.U, F := g'.F }
theorem RV.back {g g' : Gh} {w' : World} {x : V} {v : Value} (h' : RV g' w' x v) (hs : ∀ n, g.U n → g'.ρ n = g.ρ n) : ∀ {w : World} {v0 : Value}, RV g w x v0 → RV (g.back g') w' x v := by
  induction h' with
  | undef v => exact fun _ => .undef v
  | d h => exact fun _ => .d h
  | nil => exact fun _ => .nil
  | e0 a => exact fun _ => .e0 a
  | ptr nm o b hU hb => intro w v0 h; cases h with | ptr _ _ b' hU' hb' => exact .ptr nm o b hU' (by rw [hs nm hU'] at hb; exact hb)
  | eptr nm i o b p hU hb hp => intro w v0 h; cases h with | eptr _ _ _ b' p' hU' hb' hp' => exact .eptr nm i o b p hU' (by rw [hs nm hU'] at hb; exact hb) (by rw [hs nm hU'] at hp; exact hp)
  | rptr cs b o u hF h2 h3 => exact fun _ => .rptr cs b o u hF h2 h3
  | ms nm sz o n b p c hU hb hsz hp hn hc =>
    intro w v0 h
    have hU' : g.U nm := by cases h <;> assumption
    rw [hs nm hU'] at hb hsz hp hc
    exact .ms nm sz o n b p c hU' hb hsz hp hn hc
  | msZero nm sz o a hU =>
    intro w v0 h
    have hU' : g.U nm := by cases h <;> assumption
    exact .msZero nm sz o a hU'
  | map nm b hU hb => intro w v0 h; cases h with | map _ b' hU' hb' => exact .map nm b hU' (by rw [hs nm hU'] at hb; exact hb)
  | fn f cs vs hl hr ih => intro w v0 h; cases h with | fn _ _ vs' hl' hr' => exact .fn f cs vs hl fun j y hy => ih j y hy (hr' j y hy)
  | agg xs vs hl hr ih => intro w v0 h; cases h with | agg _ vs' hl' hr' => exact .agg xs vs hl fun j y hy => ih j y hy (hr' j y hy)
  | tup xs vs hl hr ih => intro w v0 h; cases h with | tup _ vs' hl' hr' => exact .tup xs vs hl fun j y hy => ih j y hy (hr' j y hy)

theorem OptRV.back {g g' : Gh} {w w' : World} {x : Option V} {v v0 : Option Value} (h' : OptRV g' w' x v) (hs : ∀ n, g.U n → g'.ρ n = g.ρ n) (h : OptRV g w x v0) : OptRV (g.back g') w' x v := by
  cases h' with
  | none => exact .none
  | some h' => cases h with | some h => exact .some (h'.back hs h)
theorem BlkOK.back {g g' : Gh} {w w' : World} {nm : Nat} {k : Blk} (h' : BlkOK g' w' nm k) (h : BlkOK g w nm k) (hs : ∀ n, g.U n → g'.ρ n = g.ρ n) (hU : g.U nm) : BlkOK (g.back g') w' nm k := by
  have er : (g.back g').ρ nm = g'.ρ nm := (hs nm hU).symm
  cases k with
  | box cs =>
    obtain ⟨b, vs, t, h1, h2, h3, h4⟩ := h'
    obtain ⟨_, vs0, _, _, _, _, f4⟩ := h
    exact ⟨b, vs, t, by rw [er]; exact h1, h2, h3, fun j y hy => (h4 j y hy).back hs (f4 j y hy)⟩
  | row sz xs =>
    obtain ⟨h1, h2, h3, h4⟩ := h'
    obtain ⟨_, _, _, f4⟩ := h
    refine ⟨by rw [er]; exact h1, by rw [er]; exact h2, h3, ?_⟩
    rcases h4 with ⟨h4, h5⟩ | ⟨b, vs, t, h4, h5, h6, h7⟩
    · exact .inl ⟨by rw [er]; exact h4, h5⟩
    · rcases f4 with ⟨_, f5⟩ | ⟨_, vs0, _, _, _, _, f7⟩
      · refine .inr ⟨b, vs, t, by rw [er]; exact h4, h5, by rw [er]; exact h6, fun i j x y hx hy => ?_⟩
        rw [f5] at hx
        simp at hx
      · exact .inr ⟨b, vs, t, by rw [er]; exact h4, h5, by rw [er]; exact h6, fun i j x y hx hy => by rw [er]; exact (h7 i j x y hx hy).back hs (f7 i j x y hx hy)⟩
  | map kk m =>
    obtain ⟨b, h1, h2⟩ := h'
    obtain ⟨_, _, f2⟩ := h
    refine ⟨b, by rw [er]; exact h1, ?_⟩
    cases kk with
    | int k => obtain ⟨f, h3, h4⟩ := h2; obtain ⟨f', _, f4⟩ := f2; exact ⟨f, h3, fun i => (h4 i).back hs (f4 i)⟩
    | str => obtain ⟨f, h3, h4⟩ := h2; obtain ⟨f', _, f4⟩ := f2; exact ⟨f, h3, fun i => (h4 i).back hs (f4 i)⟩
    | pair k => obtain ⟨f, h3, h4⟩ := h2; obtain ⟨f', _, f4⟩ := f2; exact ⟨f, h3, fun s i => (h4 s i).back hs (f4 s i)⟩

/-- A call that leaves the named blocks as they were and gives a value without names. -/
theorem CallM.pure {P : Program} {f : FuncId} {args : List V} {S : St} {r : V} (hr : r.noRef = true) (h : CallM P f args S fun r' S' => r' = r ∧ ∀ m k, S.get m = some k → S'.get m = some k) : CallM P f args S fun r' S' => r' = r ∧ S' = S := by
  intro g w vals h1 h2 h3 h4
  refine (h g w vals h1 h2 h3 h4).mono ?_
  rintro e w' ⟨r', v, S', g', rfl, hE, hS', hlt, hv, rfl, hget⟩
  have hE' : Ext g w (g.back g') w' := ⟨fun _ h => h, fun _ _ => rfl, hE.fz, hE.keep, hE.os, hE.tape, hE.output, hE.size⟩
  have hsome : ∀ n, (S.get n).isSome → (S'.get n).isSome ∧ g.U n := fun n hn => by
    obtain ⟨k, hk⟩ := Option.isSome_iff_exists.1 hn
    exact ⟨by simp [hget n k hk], (h1.ok n k hk).1⟩
  refine ⟨r', v, S, g.back g', rfl, hE', ⟨fun nm k hk => ?_, fun n m b hn hm hbn hbm => ?_, fun n b hn hb => ?_, hS'.ltF⟩, h2, hv.noRef rfl hr, rfl, rfl⟩
  · have := h1.ok nm k hk
    exact ⟨this.1, (hS'.ok nm k (hget nm k hk)).2.back this.2 hE.same this.1⟩
  · exact hS'.inj n m b (hsome n hn).1 (hsome m hm).1 (by rw [hE.same n (hsome n hn).2]; exact hbn) (by rw [hE.same m (hsome m hm).2]; exact hbm)
  · exact hS'.notF n b (hsome n hn).1 (by rw [hE.same n (hsome n hn).2]; exact hb)

/-- A function that only computes: the same answer in every state, and nothing else. -/
def PureC (P : Program) (f : FuncId) (args : List V) (r : V) : Prop := ∀ S, CallM P f args S fun r' S' => r' = r ∧ S' = S
end Go.Proofs.Ytafeehlpmdligaa.M
