/- Calls with effects: what they leave, told weaker. -/
import Derived.Test.YtafeehlpmdligaaM15
namespace Go.Proofs.Ytafeehlpmdligaa.M
open Go.RowKit
set_option linter.unusedVariables false
theorem CallM.le {P : Program} {f : FuncId} {args : List V} {S : St} {R R' : V → St → Prop} (h : CallM P f args S R) (hr : ∀ r S', R r S' → ∃ S'', S'.Le S'' ∧ R' r S'') : CallM P f args S R' := by
  intro g w vals h1 h2 h3 h4
  refine (h g w vals h1 h2 h3 h4).mono ?_
  rintro e w' ⟨r, v, S', g', e1, e2, e3, e4, e5, e6⟩
  obtain ⟨S'', hS, hR⟩ := hr r S' e6
  exact ⟨r, v, S'', g', e1, e2, e3.less hS.2, fun k hk => Nat.lt_of_lt_of_le (e4 k hk) hS.1, e5, hR⟩
/-- A call in a state that knows more. -/
theorem CallM.ge {P : Program} {f : FuncId} {args : List V} {S S0 : St} {R : V → St → Prop} (h : CallM P f args S0 R) (hS : S.Le S0) : CallM P f args S R := by
  intro g w vals h1 h2 h3 h4
  exact h g w vals (h1.less hS.2) (fun k hk => Nat.lt_of_lt_of_le (h2 k hk) hS.1) h3 h4
/-- The names of blocks that are known have been used. -/
theorem WpM.known {P : Program} {n : Nat} {c : Code} {Q : Exit → Fr → St → Prop} {fr : Fr} {S : St} (h : (∀ m k, S.get m = some k → m < S.next) → WpM P n c Q fr S) : WpM P n c Q fr S :=
  fun g w a hi => h (fun m k hk => hi.lt _ (hi.rs.ok m k hk).1) g w a hi
/-- The state as one map of blocks, by a name of its own. -/
theorem WpM.norm {P : Program} {n : Nat} {c : Code} {Q : Exit → Fr → St → Prop} {fr : Fr} {S : St} (h : ∀ nx H, nx = S.next → H = S.get → (∀ m k, H m = some k → m < nx) → WpM P n c Q fr ⟨nx, [], H⟩) : WpM P n c Q fr S := by
  refine WpM.known fun hk => ?_
  exact WpM.less (fr' := fr) (S' := ⟨S.next, [], S.get⟩) ⟨Nat.le_refl _, fun m k hk => hk⟩ (FrLe.refl _) (h _ _ rfl rfl hk)
theorem St.Le.norm (S : St) : S.Le ⟨S.next, [], S.get⟩ := ⟨Nat.le_refl _, fun m k hk => hk⟩
theorem St.Le.trans {S S' S'' : St} (a : S.Le S') (b : S'.Le S'') : S.Le S'' := ⟨Nat.le_trans a.1 b.1, fun m k h => a.2 m k (b.2 m k h)⟩
theorem CallM.known {P : Program} {f : FuncId} {args : List V} {S : St} {R : V → St → Prop} (h : (∀ m k, S.get m = some k → m < S.next) → CallM P f args S R) : CallM P f args S R :=
  fun g w vals h1 h2 h3 h4 => h (fun m k hk => h2 _ (h1.ok m k hk).1) g w vals h1 h2 h3 h4
end Go.Proofs.Ytafeehlpmdligaa.M
