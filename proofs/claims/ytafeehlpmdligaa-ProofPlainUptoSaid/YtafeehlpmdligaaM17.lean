/- Cuts: two ways that meet. -/
import Derived.Test.YtafeehlpmdligaaM16
namespace Go.Proofs.Ytafeehlpmdligaa.M
open Go.RowKit
set_option linter.unusedVariables false
set_option linter.unusedSimpArgs false
theorem Sub.le {l : List (Nat × V)} : ∀ {l' : List (Nat × V)}, Sub l l' → FrLe (frOf l) (frOf l')
  | [], _ => fun t => .inr rfl
  | (k, v) :: l', h => fun t => by
    simp only [frOf]
    split
    · rename_i e; subst e; exact .inl h.1.symm
    · exact h.2.le t
theorem z_push {d : Nat} {v : V} {l : List (Nat × V)} : fsetO (frOf l) (some d) v = frOf ((d, v) :: l) := by
  funext t; rfl
theorem z_none {t : Nat} : frOf [] t = .undef := rfl
section
variable {P : Program} {n : Nat} {Q : Exit → Fr → St → Prop} {fr : Fr} {S : St}
theorem WpM.regP (fz : List Nat) {id : Nat} {ops : Array Oper} (h : ∀ K : Fr → St → Prop, (∀ l l' S', Sub l l' → Q .normal (frOf l') S' → K (frOf l) S') → wpS P n fz ops ops.toList K fr S) : WpM P n (.region id ops false) Q fr S := by
  refine WpM.weak (WpM.region (h _ fun l l' S' hl hQ => ?_))
  exact ⟨_, S', hl.le, St.Le.refl _, hQ⟩
theorem WpM.regPE (fz : List Nat) {id : Nat} {ops : Array Oper} {l : List (Nat × V)} (l' : List (Nat × V)) {S' : St} (h : wpS P n fz ops ops.toList (fun f s => f = frOf l ∧ s = S') fr S) (hk : Sub l l') (hQ : Q .normal (frOf l') S') : WpM P n (.region id ops false) Q fr S := by
  have h1 : WpM P n (.region id ops false) (fun e f s => e = .normal ∧ f = frOf l ∧ s = S') fr S := WpM.region (Q := fun e f s => e = .normal ∧ f = frOf l ∧ s = S') (fz := fz) (by simpa using h)
  refine WpM.weak (h1.mono ?_)
  rintro e f s ⟨rfl, rfl, rfl⟩
  exact ⟨_, s, hk.le, St.Le.refl _, hQ⟩
theorem WpM.drwPE (fz : List Nat) {id : Nat} {ops : Array Oper} {l : List (Nat × V)} (l' : List (Nat × V)) {S' : St} (hm : P.follows .mixedOrders = true) (hslots : slotsOk ops = true) (hedges : edgesOk ops = true) (L : List (Nat × Nat)) (hL : unord ops = L)
    (h : wpD P n fz ops L S.next ops.toList (fun f s => f = frOf l ∧ s = S') fr S []) (hk : Sub l l') (hQ : Q .normal (frOf l') S') : WpM P n (.region id ops true) Q fr S := by
  have h1 : WpM P n (.region id ops true) (fun e f s => e = .normal ∧ f = frOf l ∧ s = S') fr S := WpM.draw (Q := fun e f s => e = .normal ∧ f = frOf l ∧ s = S') hm hslots hedges hL (by simpa using h)
  refine WpM.weak (h1.mono ?_)
  rintro e f s ⟨rfl, rfl, rfl⟩
  exact ⟨_, s, hk.le, St.Le.refl _, hQ⟩
theorem WpM.drwP (fz : List Nat) {id : Nat} {ops : Array Oper} (hm : P.follows .mixedOrders = true) (hslots : slotsOk ops = true) (hedges : edgesOk ops = true) (L : List (Nat × Nat)) (hL : unord ops = L)
    (h : ∀ K : Fr → St → Prop, (∀ l l' S', Sub l l' → Q .normal (frOf l') S' → K (frOf l) S') → wpD P n fz ops L S.next ops.toList K fr S []) : WpM P n (.region id ops true) Q fr S := by
  refine WpM.weak (WpM.draw hm hslots hedges hL (h _ fun l l' S' hl hQ => ?_))
  exact ⟨_, S', hl.le, St.Le.refl _, hQ⟩
end
theorem WpM.cut {P : Program} {n : Nat} {x y : Code} {Q : Exit → Fr → St → Prop} {fr : Fr} {S : St} (fr1 : Fr) (S1 : St) (h1 : WpM P n x (fun e fr' S' => e = .normal ∧ FrLe fr' fr1 ∧ S'.Le S1) fr S) (h2 : WpM P n y Q fr1 S1) : WpM P n (.seq x y) Q fr S := by
  refine WpM.seq (h1.mono ?_)
  rintro e fr' S' ⟨rfl, hf, hS⟩
  exact WpM.less hS hf h2
theorem WpM.meet {P : Program} {n : Nat} {x : Code} {Q : Exit → Fr → St → Prop} {fr : Fr} {S : St} (fr1 : Fr) (S1 : St) (h1 : WpM P n x (fun e fr' S' => e = .normal ∧ FrLe fr' fr1 ∧ S'.Le S1) fr S) (h2 : ∀ fr' S', FrLe fr' fr1 → S'.Le S1 → Q .normal fr' S') : WpM P n x Q fr S := by
  refine h1.mono ?_
  rintro e fr' S' ⟨rfl, hf, hS⟩
  exact h2 _ _ hf hS
/-- An empty slice against nil. -/
theorem wpS_cmp {P : Program} {n : Nat} {fz : List Nat} {ops : Array Oper} {o : Oper} {rest : List Oper} {K : Fr → St → Prop} {l : List (Nat × V)} {S : St} {t e q : TypeId} {x : Operand} (hd : dstOk n o.dst = true) (hg : guardM ops (frOf l) o = some true) (hc : callOf o (frOf l) = none)
    (ho : o.op = .binOp .eql t x (.const (.slice none 0 0)) q) (hx : lkE (frOf l) x = .d (.sl [])) (hu : P.underlying t = some (.slice e)) (h : ∀ b : Bool, wpS P n fz ops rest K (fsetO (frOf l) o.dst (.d (.bool b))) { S with next := S.next + 1 }) : wpS P n fz ops (o :: rest) K (frOf l) S := by
  have hs : ∀ blk nm, stepF P fz o (lkE (frOf l)) blk nm = none := fun blk nm => by
    have hk : lkE (frOf l) (.const (.slice none 0 0)) = .nil := rfl
    simp only [stepF, ownStep, stepF0, stepB, ho, hx, hk, evalBin, evalEqAgg, evalEqAgg0, eqTys, hu, Option.map_none]
  simp only [wpS, hg, hc, hs]
  exact ⟨hd, by simp [nilCmp, ho, hx, hu], h⟩
/-- A slice without room is pure data. -/
theorem Upd.pureNil {n : Nat} {fr : Fr} {S : St} {K : Fr → St → Prop} (t : Nat) (ht : fr t = .nil ∨ fr t = .e0) (h : Upd n (fset fr t (.d (.sl []))) S K) : Upd n fr S K := by
  intro g w a hi
  have hval : ∀ v, RV g w (fr t) v → RV g w (.d (.sl [])) v := by
    intro v hv
    rcases ht with e | e <;> rw [e] at hv <;> cases hv <;> exact .d (.slNil _ _)
  refine h g w a ⟨hi.rs, hi.lt, hi.rf.size, hi.rf.defers, fun t' ht' => ?_, fun t' ht' => ?_⟩
  · simp only [fset]
    split
    · rename_i e
      subst e
      exact hval _ (hi.rf.slot t' ht')
    · exact hi.rf.slot t' ht'
  · simp only [fset]
    split
    · rename_i e
      subst e
      have := hi.rf.out t' ht'
      rcases ht with e | e <;> rw [e] at this <;> cases this
    · exact hi.rf.out t' ht'
theorem allD_snoc (as : List D) (x : D) : allD (as.map V.d ++ [V.d x]) = some (as ++ [x]) := by
  rw [show as.map V.d ++ [V.d x] = (as ++ [x]).map V.d by simp, allD_map]
theorem wpD_fresh {P : Program} {n : Nat} {fz : List Nat} {ops : Array Oper} {L : List (Nat × Nat)} {b : Nat} {ms : List Met} {o : Oper} {rest : List Oper} {K : Fr → St → Prop} {l l' : List (Nat × V)} {S S' : St} {f : FuncId} {args : List V} {sz : Nat} {ds : List D} (hd : dstOk n o.dst = true) (hg : guardM ops (frOf l) o = some true) (hc : callOf o (frOf l) = some (f, args)) (hp : isPlain P f = true)
    (hF : FreshOn P f args sz ds [] S.get) (hf : fsetO (frOf l) o.dst (.ms (b + ms.length) sz 0 ds.length) = frOf l') (hS : S.set (b + ms.length) (some (.row sz (ds.map V.d))) = S') (h : wpD P n fz ops L b rest K (frOf l') S' (ms ++ [([], [b + ms.length])])) : wpD P n fz ops L b (o :: rest) K (frOf l) S ms := by
  simp only [wpD, hg, hc]
  exact ⟨hd, hp, .inr ⟨sz, ds, [], hF, by rw [hf, hS]; exact h⟩⟩
end Go.Proofs.Ytafeehlpmdligaa.M
