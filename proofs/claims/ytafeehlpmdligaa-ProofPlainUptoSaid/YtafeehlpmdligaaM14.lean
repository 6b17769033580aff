/- Walking: frames as lists of slots, states as lists of blocks; rules for the walk. -/
import Derived.Test.YtafeehlpmdligaaM13
namespace Go.Proofs.Ytafeehlpmdligaa.M
open Go.RowKit
set_option linter.unusedVariables false
set_option linter.unusedSimpArgs false

/-- A frame by its slots. -/
def frOf : List (Nat × V) → Fr
  | [], _ => .undef
  | (d, v) :: l, t => if t = d then v else frOf l t
def frPut : List (Nat × V) → Nat → V → List (Nat × V)
  | [], d, v => [(d, v)]
  | (a, q) :: l, d, v => if d = a then (a, v) :: l else (a, q) :: frPut l d v
theorem fset_frOf (d : Nat) (v : V) : ∀ (l : List (Nat × V)), fset (frOf l) d v = frOf (frPut l d v)
  | [] => by funext t; simp [fset, frOf, frPut]
  | (a, q) :: l => by
    funext t
    simp only [frPut]
    split
    · rename_i h
      subst h
      simp only [fset, frOf]
      split <;> simp_all
    · rename_i h
      have ih := congrFun (fset_frOf d v l) t
      simp only [fset, frOf] at ih ⊢
      split
      · rename_i h2
        subst h2
        rw [if_neg h, ← ih]
        simp
      · rename_i h2
        split
        · rfl
        · rw [← ih, if_neg h2]
def frKeep (ks : List Nat) : List (Nat × V) → List (Nat × V)
  | [] => []
  | (a, q) :: l => bif memN ks a then (a, q) :: frKeep ks l else frKeep ks l
theorem frKeep_none (ks : List Nat) {t : Nat} (h : memN ks t = false) : ∀ (l : List (Nat × V)), frOf (frKeep ks l) t = .undef
  | [] => rfl
  | (a, q) :: l => by
    simp only [frKeep]
    cases hk : memN ks a with
    | true =>
      simp only [cond_true, frOf]
      split
      · rename_i h2
        rw [h2, hk] at h
        cases h
      · exact frKeep_none ks h l
    | false => exact frKeep_none ks h l
theorem frKeep_le (ks : List Nat) : ∀ (l : List (Nat × V)), FrLe (frOf l) (frOf (frKeep ks l))
  | [] => fun t => .inl rfl
  | (a, q) :: l => fun t => by
    have ih := frKeep_le ks l t
    simp only [frKeep]
    cases hk : memN ks a with
    | true =>
      simp only [cond_true, frOf]
      split
      · exact .inl rfl
      · exact ih
    | false =>
      simp only [cond_false, frOf]
      split
      · rename_i h
        subst h
        exact .inr (frKeep_none ks hk l)
      · exact ih
theorem frOf_at {d t : Nat} {v : V} {l : List (Nat × V)} : frOf ((d, v) :: l) t = if t = d then v else frOf l t := rfl
theorem frOf_nil {t : Nat} : frOf [] t = .undef := rfl

section
variable {P : Program} {n : Nat} {Q : Exit → Fr → St → Prop} {fr : Fr} {S : St}
/-- What holds, or holds of what is known less. -/
theorem WpM.weak {c : Code} (h : WpM P n c (fun e fr S => ∃ fr' S', FrLe fr fr' ∧ S.Le S' ∧ Q e fr' S') fr S) : WpM P n c Q fr S := by
  intro g w a hi
  refine wp_mono (h g w a hi) ?_
  rintro e a' w' ⟨fr', S', g', h1, h2, fr'', S'', h3, h4, h5⟩
  exact ⟨fr'', S'', g', h1, h2.less h4 h3, h5⟩
/-- A region, walked; of the slots those of ks are kept. -/
theorem WpM.reg (ks fz : List Nat) {id : Nat} {ops : Array Oper} (h : ∀ K : Fr → St → Prop, (∀ l l' S', frKeep ks l = l' → Q .normal (frOf l') S' → K (frOf l) S') → wpS P n fz ops ops.toList K fr S) : WpM P n (.region id ops false) Q fr S := by
  refine WpM.weak (WpM.region (h _ fun l l' S' hl hQ => ?_))
  exact ⟨_, S', hl ▸ frKeep_le ks l, St.Le.refl _, hQ⟩
/-- The same where the region comes to one end. -/
theorem WpM.regE (ks fz : List Nat) {id : Nat} {ops : Array Oper} {l l' : List (Nat × V)} {S' : St} (h : wpS P n fz ops ops.toList (fun f s => f = frOf l ∧ s = S') fr S) (hk : frKeep ks l = l') (hQ : Q .normal (frOf l') S') : WpM P n (.region id ops false) Q fr S := by
  have h1 : WpM P n (.region id ops false) (fun e f s => e = .normal ∧ f = frOf l ∧ s = S') fr S := WpM.region (Q := fun e f s => e = .normal ∧ f = frOf l ∧ s = S') (fz := fz) (by simpa using h)
  refine WpM.weak (h1.mono ?_)
  rintro e f s ⟨rfl, rfl, rfl⟩
  exact ⟨_, s, hk ▸ frKeep_le ks l, St.Le.refl _, hQ⟩
theorem WpM.drwE (ks fz : List Nat) {id : Nat} {ops : Array Oper} {l l' : List (Nat × V)} {S' : St} (hm : P.follows .mixedOrders = true) (hslots : slotsOk ops = true) (hedges : edgesOk ops = true) (L : List (Nat × Nat)) (hL : unord ops = L)
    (h : wpD P n fz ops L S.next ops.toList (fun f s => f = frOf l ∧ s = S') fr S []) (hk : frKeep ks l = l') (hQ : Q .normal (frOf l') S') : WpM P n (.region id ops true) Q fr S := by
  have h1 : WpM P n (.region id ops true) (fun e f s => e = .normal ∧ f = frOf l ∧ s = S') fr S := WpM.draw (Q := fun e f s => e = .normal ∧ f = frOf l ∧ s = S') hm hslots hedges hL (by simpa using h)
  refine WpM.weak (h1.mono ?_)
  rintro e f s ⟨rfl, rfl, rfl⟩
  exact ⟨_, s, hk ▸ frKeep_le ks l, St.Le.refl _, hQ⟩
theorem WpM.drw (ks fz : List Nat) {id : Nat} {ops : Array Oper} (hm : P.follows .mixedOrders = true) (hslots : slotsOk ops = true) (hedges : edgesOk ops = true) (L : List (Nat × Nat)) (hL : unord ops = L)
    (h : ∀ K : Fr → St → Prop, (∀ l l' S', frKeep ks l = l' → Q .normal (frOf l') S' → K (frOf l) S') → wpD P n fz ops L S.next ops.toList K fr S []) : WpM P n (.region id ops true) Q fr S := by
  refine WpM.weak (WpM.draw hm hslots hedges hL (h _ fun l l' S' hl hQ => ?_))
  exact ⟨_, S', hl ▸ frKeep_le ks l, St.Le.refl _, hQ⟩
end

section
variable {P : Program} {n : Nat} {Q : Exit → Fr → St → Prop} {fr : Fr} {S : St}
theorem WpM.condT {c : Operand} {x y : Code} (hc : lkE fr c = .d (.bool true)) (h : WpM P n x Q fr S) : WpM P n (.cond c x y) Q fr S := WpM.cond hc h
theorem WpM.condF {c : Operand} {x y : Code} (hc : lkE fr c = .d (.bool false)) (h : WpM P n y Q fr S) : WpM P n (.cond c x y) Q fr S := WpM.cond hc h
theorem thenM_exit {id : Nat} {K : Fr → St → Prop} (h : Q (.exit id) fr S) : thenM K Q (.exit id) fr S := h
theorem thenM_ret {K : Fr → St → Prop} (h : Q .ret fr S) : thenM K Q .ret fr S := h
theorem blockM_ret {id : Nat} (h : Q .ret fr S) : blockM id Q .ret fr S := h
theorem blockM_norm {id : Nat} (h : Q .normal fr S) : blockM id Q .normal fr S := h
theorem blockM_eq {id : Nat} (h : Q .normal fr S) : blockM id Q (.exit id) fr S := by simpa [blockM] using h
theorem blockM_ne {id id' : Nat} (hn : id' ≠ id) (h : Q (.exit id') fr S) : blockM id Q (.exit id') fr S := by simpa [blockM, hn] using h
/-- A round's end. -/
theorem round_end {α : Type} {I : α → Fr → St → Prop} {μ : α → Nat} {x x' : α} {fr' : Fr} {S' : St} (hS : S.Le S') (hf : FrLe fr fr') (hI : I x' fr' S') (hm : μ x' < μ x) :
    thenM (fun fr' S' => ∃ x' fr'' S'', S'.Le S'' ∧ FrLe fr' fr'' ∧ I x' fr'' S'' ∧ μ x' < μ x) Q .normal fr S := ⟨x', fr', S', hS, hf, hI, hm⟩
end
theorem frLe_frOf {fr : Fr} {l : List (Nat × V)} (h : ∀ p ∈ l, fr p.1 = p.2) : FrLe fr (frOf l) := by
  intro t
  have : ∀ l : List (Nat × V), (∀ p ∈ l, fr p.1 = p.2) → frOf l t = fr t ∨ frOf l t = .undef := by
    intro l
    induction l with
    | nil => exact fun _ => .inr rfl
    | cons p l ih =>
      intro h
      simp only [frOf]
      split
      · rename_i e
        subst e
        exact .inl (h p (by simp)).symm
      · exact ih fun q hq => h q (by simp [hq])
  exact this l h
theorem le_of {n n' : Nat} {l l' : List (Nat × Option Blk)} {H : Nat → Option Blk} (hn : n ≤ n') (h : ∀ m k, lget l' H m = some k → lget l H m = some k) : St.Le ⟨n, l, H⟩ ⟨n', l', H⟩ := ⟨hn, h⟩

section
variable {P : Program} {n : Nat} {fz : List Nat} {ops : Array Oper} {o : Oper} {rest : List Oper} {K : Fr → St → Prop} {l l' : List (Nat × V)} {S S' : St} {v : V} {ef : Eff}
theorem wpS_nil (h : K (frOf l) S) : wpS P n fz ops [] K (frOf l) S := h
theorem wpS_op (hd : dstOk n o.dst = true) (hg : guardM ops (frOf l) o = some true) (hc : callOf o (frOf l) = none) (hs : stepF P fz o (lkE (frOf l)) (blkOf S.get (fpOf o.op (lkE (frOf l)))) S.next = some (v, ef))
    (hf : fsetO (frOf l) o.dst v = frOf l') (hS : ({ ef.st S with next := S.next + 1 } : St) = S') (h : wpS P n fz ops rest K (frOf l') S') : wpS P n fz ops (o :: rest) K (frOf l) S := by
  simp only [wpS, hg, hc, hs]
  rw [hf, hS]
  exact ⟨hd, h⟩
theorem wpS_skip (hd : dstOk n o.dst = true) (hg : guardM ops (frOf l) o = some false) (hf : fsetO (frOf l) o.dst .undef = frOf l') (h : wpS P n fz ops rest K (frOf l') S) : wpS P n fz ops (o :: rest) K (frOf l) S := by
  simp only [wpS, hg]
  rw [hf]
  exact ⟨hd, h⟩
theorem wpS_call {f : FuncId} {args : List V} {R : V → St → Prop} (hd : dstOk n o.dst = true) (hg : guardM ops (frOf l) o = some true) (hc : callOf o (frOf l) = some (f, args)) (hp : isPlain P f = true) (hC : CallM P f args S R)
    (h : ∀ r S', R r S' → wpS P n fz ops rest K (fsetO (frOf l) o.dst r) S') : wpS P n fz ops (o :: rest) K (frOf l) S := by
  simp only [wpS, hg, hc]
  exact ⟨hd, hp, hC.mono h⟩
/-- A guard, settled first. -/
theorem wpS_wit {r : Bool} (hg : guardM ops (frOf l) o = some r) (h : guardM ops (frOf l) o = some r → wpS P n fz ops (o :: rest) K (frOf l) S) : wpS P n fz ops (o :: rest) K (frOf l) S := h hg
theorem wpD_wit {L : List (Nat × Nat)} {b : Nat} {ms : List Met} {r : Bool} (hg : guardM ops (frOf l) o = some r) (h : guardM ops (frOf l) o = some r → wpD P n fz ops L b (o :: rest) K (frOf l) S ms) : wpD P n fz ops L b (o :: rest) K (frOf l) S ms := h hg
/-- A call that only computes, in one state. -/
theorem wpS_at {f : FuncId} {args : List V} (hd : dstOk n o.dst = true) (hg : guardM ops (frOf l) o = some true) (hc : callOf o (frOf l) = some (f, args)) (hp : isPlain P f = true) (hC : CallM P f args S fun r' S' => r' = v ∧ S' = S) (hf : fsetO (frOf l) o.dst v = frOf l')
    (h : wpS P n fz ops rest K (frOf l') S) : wpS P n fz ops (o :: rest) K (frOf l) S := by
  refine wpS_call hd hg hc hp hC ?_
  rintro r S' ⟨rfl, rfl⟩
  rw [hf]
  exact h
/-- A call that only computes. -/
theorem wpS_pure {f : FuncId} {args : List V} (hd : dstOk n o.dst = true) (hg : guardM ops (frOf l) o = some true) (hc : callOf o (frOf l) = some (f, args)) (hp : isPlain P f = true) (hC : PureC P f args v) (hf : fsetO (frOf l) o.dst v = frOf l')
    (h : wpS P n fz ops rest K (frOf l') S) : wpS P n fz ops (o :: rest) K (frOf l) S := by
  refine wpS_call hd hg hc hp (hC S) ?_
  rintro r S' ⟨rfl, rfl⟩
  rw [hf]
  exact h
variable {L : List (Nat × Nat)} {b : Nat} {ms : List Met}
theorem wpD_nil (hm : metL L ms) (h : K (frOf l) { S with next := b + ms.length }) : wpD P n fz ops L b [] K (frOf l) S ms := ⟨hm, h⟩
theorem wpD_op {m : Met} (hd : dstOk n o.dst = true) (hg : guardM ops (frOf l) o = some true) (hc : callOf o (frOf l) = none) (hs : stepF P fz o (lkE (frOf l)) (blkOf S.get (fpOf o.op (lkE (frOf l)))) (b + ms.length) = some (v, ef))
    (hf : fsetO (frOf l) o.dst v = frOf l') (hS : ef.st S = S') (hm : ((fpOf o.op (lkE (frOf l))).toList, ef.touch) = m) (h : wpD P n fz ops L b rest K (frOf l') S' (ms ++ [m])) : wpD P n fz ops L b (o :: rest) K (frOf l) S ms := by
  simp only [wpD, hg, hc, hs]
  rw [hf, hS, hm]
  exact ⟨hd, h⟩
theorem wpD_skip (hd : dstOk n o.dst = true) (hg : guardM ops (frOf l) o = some false) (hf : fsetO (frOf l) o.dst .undef = frOf l') (h : wpD P n fz ops L b rest K (frOf l') S (ms ++ [([], [])])) : wpD P n fz ops L b (o :: rest) K (frOf l) S ms := by
  simp only [wpD, hg]
  rw [hf]
  exact ⟨hd, h⟩
theorem wpD_on {f : FuncId} {args : List V} (rs : List Nat) (hd : dstOk n o.dst = true) (hg : guardM ops (frOf l) o = some true) (hc : callOf o (frOf l) = some (f, args)) (hp : isPlain P f = true) (hr : v.noRef = true) (hC : PureOn P f args v rs S.get) (hf : fsetO (frOf l) o.dst v = frOf l')
    (h : wpD P n fz ops L b rest K (frOf l') S (ms ++ [(rs, [])])) : wpD P n fz ops L b (o :: rest) K (frOf l) S ms := by
  simp only [wpD, hg, hc]
  exact ⟨hd, hp, .inl ⟨v, rs, hr, hC, by rw [hf]; exact h⟩⟩
theorem wpD_pure {f : FuncId} {args : List V} (hd : dstOk n o.dst = true) (hg : guardM ops (frOf l) o = some true) (hc : callOf o (frOf l) = some (f, args)) (hp : isPlain P f = true) (hr : v.noRef = true) (hC : PureC P f args v) (hf : fsetO (frOf l) o.dst v = frOf l')
    (h : wpD P n fz ops L b rest K (frOf l') S (ms ++ [([], [])])) : wpD P n fz ops L b (o :: rest) K (frOf l) S ms := wpD_on [] hd hg hc hp hr (hC.on _) hf h
end
/-- Some slots of a frame. -/
def Sub (l : List (Nat × V)) : List (Nat × V) → Prop
  | [] => True
  | p :: ps => frOf l p.1 = p.2 ∧ Sub l ps
theorem frOf_eq {t : Nat} {v : V} {l : List (Nat × V)} : frOf ((t, v) :: l) t = v := by simp [frOf]
theorem frOf_ne {t d : Nat} {v x : V} {l : List (Nat × V)} (h : Nat.beq t d = false) (h2 : frOf l t = v) : frOf ((d, x) :: l) t = v := by
  have : t ≠ d := fun e => by subst e; simp at h
  simp [frOf, this, h2]
def keyIn : List (Nat × V) → Nat → Bool
  | [], _ => false
  | p :: ps, t => bif Nat.beq t p.1 then true else keyIn ps t
def opsIn (l0 : List (Nat × V)) : List Operand → Bool
  | [] => true
  | .tmp t :: xs => keyIn l0 t && opsIn l0 xs
  | _ :: xs => opsIn l0 xs
theorem Sub.at {l : List (Nat × V)} : ∀ {l0 : List (Nat × V)} {t : Nat}, Sub l l0 → keyIn l0 t = true → frOf l t = frOf l0 t
  | [], _, _, h => by cases h
  | (d, v) :: l0, t, h, hk => by
    simp only [keyIn] at hk
    by_cases e : t = d
    · subst e
      rw [frOf_eq]
      exact h.1
    · have hb : Nat.beq t d = false := by cases hq : Nat.beq t d with
        | false => rfl
        | true => exact absurd (Nat.eq_of_beq_eq_true hq) e
      rw [hb] at hk
      simp only [cond_false] at hk
      rw [h.2.at hk]
      simp [frOf, e]
theorem Sub.lk {l l0 : List (Nat × V)} (h : Sub l l0) : ∀ {xs : List Operand}, opsIn l0 xs = true → ∀ x ∈ xs, lkE (frOf l) x = lkE (frOf l0) x
  | [], _, _, hx => by cases hx
  | y :: xs, ho, x, hx => by
    rcases List.mem_cons.1 hx with rfl | hx2
    · cases x with
      | tmp t =>
        simp only [opsIn, Bool.and_eq_true] at ho
        exact h.at ho.1
      | _ => rfl
    · have ho2 : opsIn l0 xs = true := by
        cases y <;> simp only [opsIn, Bool.and_eq_true] at ho <;> first | exact ho.2 | exact ho
      exact h.lk ho2 x hx2
section
variable {P : Program} {n : Nat} {fz : List Nat} {ops : Array Oper} {o : Oper} {rest : List Oper} {K : Fr → St → Prop} {l l' l0 : List (Nat × V)} {S S' : St} {v : V} {ef : Eff}
theorem wpS_opR (hd : dstOk n o.dst = true) (hg : guardM ops (frOf l) o = some true) (hc : callOf o (frOf l) = none) (hsub : Sub l l0) (hin : opsIn l0 o.op.operands.toList = true)
    (hs : stepF P fz o (lkE (frOf l0)) (blkOf S.get (fpOf o.op (lkE (frOf l0)))) S.next = some (v, ef))
    (hf : fsetO (frOf l) o.dst v = frOf l') (hS : ({ ef.st S with next := S.next + 1 } : St) = S') (h : wpS P n fz ops rest K (frOf l') S') : wpS P n fz ops (o :: rest) K (frOf l) S := by
  have hlk : ∀ x ∈ o.op.operands, lkE (frOf l) x = lkE (frOf l0) x := fun x hx => hsub.lk hin x (by simpa using hx)
  refine wpS_op hd hg hc ?_ hf hS h
  rw [fpOf_congr hlk, stepF_congr hlk]
  exact hs
variable {L : List (Nat × Nat)} {b : Nat} {ms : List Met}
theorem wpD_opR {m : Met} (hd : dstOk n o.dst = true) (hg : guardM ops (frOf l) o = some true) (hc : callOf o (frOf l) = none) (hsub : Sub l l0) (hin : opsIn l0 o.op.operands.toList = true)
    (hs : stepF P fz o (lkE (frOf l0)) (blkOf S.get (fpOf o.op (lkE (frOf l0)))) (b + ms.length) = some (v, ef))
    (hf : fsetO (frOf l) o.dst v = frOf l') (hS : ef.st S = S') (hm : ((fpOf o.op (lkE (frOf l0))).toList, ef.touch) = m) (h : wpD P n fz ops L b rest K (frOf l') S' (ms ++ [m])) : wpD P n fz ops L b (o :: rest) K (frOf l) S ms := by
  have hlk : ∀ x ∈ o.op.operands, lkE (frOf l) x = lkE (frOf l0) x := fun x hx => hsub.lk hin x (by simpa using hx)
  refine wpD_op hd hg hc ?_ hf hS (by rw [fpOf_congr hlk]; exact hm) h
  rw [fpOf_congr hlk, stepF_congr hlk]
  exact hs
theorem guardM_at {j d : Nat} {want b r : Bool} (hgd : o.guard = some (j, want)) (hd : (ops[j]?).bind (·.dst) = some d) (hv : frOf l d = .d (.bool b)) (hb : (b == want) = r) : guardM ops (frOf l) o = some r := by
  simp only [guardM, hgd, hd, hv, hb]
theorem callOf_eq {c : Call} {fo : Operand} {f : FuncId} {cs vs : List V} (ho : o.op = .call c) (hc : c.callee = .value fo) (hf : lkE (frOf l) fo = .fn f cs) (ha : c.args.toList.map (lkE (frOf l)) = vs) : callOf o (frOf l) = some (f, vs ++ cs) := by
  simp only [callOf, ho, hc, hf, ha]
theorem mlk_nil : ([] : List Operand).map (lkE (frOf l)) = [] := rfl
theorem mlk_tmp {t : Nat} {v : V} {xs : List Operand} {vs : List V} (h : frOf l t = v) (h2 : xs.map (lkE (frOf l)) = vs) : (Operand.tmp t :: xs).map (lkE (frOf l)) = v :: vs := by
  simp only [List.map_cons, lkE, h, h2]
theorem mlk_const {c : Value} {v : V} {xs : List Operand} {vs : List V} (h : ofConst c = v) (h2 : xs.map (lkE (frOf l)) = vs) : (Operand.const c :: xs).map (lkE (frOf l)) = v :: vs := by
  simp only [List.map_cons, lkE, h, h2]
theorem mlk_func {f : FuncId} {xs : List Operand} {vs : List V} (h2 : xs.map (lkE (frOf l)) = vs) : (Operand.func f :: xs).map (lkE (frOf l)) = V.fn f [] :: vs := by
  simp only [List.map_cons, lkE, h2]
/-- A new slot, or a slot anew. -/
theorem fput_nil {d : Nat} {v : V} : frPut [] d v = [(d, v)] := rfl
theorem fput_eq {d : Nat} {v x : V} {l : List (Nat × V)} : frPut ((d, x) :: l) d v = (d, v) :: l := by simp [frPut]
theorem fput_ne {a d : Nat} {v x : V} {l l2 : List (Nat × V)} (h : Nat.beq d a = false) (h2 : frPut l d v = l2) : frPut ((a, x) :: l) d v = (a, x) :: l2 := by
  have : d ≠ a := fun e => by subst e; simp at h
  simp [frPut, this, h2]
theorem fsetO_some {d : Nat} {v : V} {l l2 : List (Nat × V)} (h : frPut l d v = l2) : fsetO (frOf l) (some d) v = frOf l2 := by
  simp only [fsetO, fset_frOf, h]
theorem fsetO_none {v : V} {l : List (Nat × V)} : fsetO (frOf l) none v = frOf l := rfl
end
theorem allD_mapf {α : Type} (f : α → D) (l : List α) : allD (l.map fun x => V.d (f x)) = some (l.map f) := by
  rw [show (l.map fun x => V.d (f x)) = (l.map f).map V.d by simp, allD_map]
theorem okEl_int (k : IntKind) (n : Int) : okEl 1 (.int k n) = true := rfl
theorem okEl_bool (b : Bool) : okEl 1 (.bool b) = true := rfl
theorem okEl_str (b : ByteArray) : okEl 1 (.str b) = true := rfl
theorem okEl_sl (xs : List D) : okEl 1 (.sl xs) = true := rfl
theorem okEl_agg (sz : Nat) (xs : List D) : okEl sz (.agg xs) = (xs.length == sz && xs.all D.one) := rfl
theorem lput_eq {m : Nat} {q k : Option Blk} {l : List (Nat × Option Blk)} : lput ((m, q) :: l) m k = (m, k) :: l := by simp [lput]
theorem lput_ne {a m : Nat} {q k : Option Blk} {l : List (Nat × Option Blk)} (h : m ≠ a) : lput ((a, q) :: l) m k = (a, q) :: lput l m k := by simp [lput, h]
theorem lget_eq {m : Nat} {q : Option Blk} {l : List (Nat × Option Blk)} {H : Nat → Option Blk} : lget ((m, q) :: l) H m = q := by simp [lget]
theorem lget_ne {a m : Nat} {q : Option Blk} {l : List (Nat × Option Blk)} {H : Nat → Option Blk} (h : m ≠ a) : lget ((a, q) :: l) H m = lget l H m := by simp [lget, h]
theorem lget_nil {m : Nat} {H : Nat → Option Blk} : lget [] H m = H m := rfl
theorem lput_nil {m : Nat} {k : Option Blk} : lput [] m k = [(m, k)] := rfl
theorem st_get {m nx : Nat} {l : List (Nat × Option Blk)} {H : Nat → Option Blk} : St.get ⟨nx, l, H⟩ m = lget l H m := rfl
theorem st_set {m nx : Nat} {k : Option Blk} {l : List (Nat × Option Blk)} {H : Nat → Option Blk} : St.set ⟨nx, l, H⟩ m k = ⟨nx, lput l m k, H⟩ := rfl
theorem lget_old {n m : Nat} {H : Nat → Option Blk} (hm : m < n) : ∀ {l : List (Nat × Option Blk)}, (∀ p ∈ l, n ≤ p.1) → lget l H m = H m
  | [], _ => rfl
  | (a, q) :: l, h => by
    have h1 := h (a, q) (by simp)
    simp only at h1
    rw [lget_ne (by omega)]
    exact lget_old hm fun p hp => h p (by simp [hp])

/-- Arguments as slots. -/
def argL : Nat → List V → List (Nat × V)
  | _, [] => []
  | k, v :: vs => (k, v) :: argL (k + 1) vs
theorem argL_le (args : List V) : FrLe (argFr args) (frOf (argL 0 args)) := by
  have : ∀ (args : List V) (k : Nat) (fr : Fr), (∀ j v, args[j]? = some v → fr (k + j) = v) → FrLe fr (frOf (argL k args)) := by
    intro args
    induction args with
    | nil => exact fun k fr _ t => .inr rfl
    | cons v args ih =>
      intro k fr h t
      simp only [argL, frOf]
      split
      · rename_i e
        subst e
        exact .inl (by simpa using (h 0 v rfl).symm)
      · exact ih (k + 1) fr (fun j x hx => by rw [show k + 1 + j = k + (j + 1) by omega]; exact h (j + 1) x (by simpa using hx)) t
  refine this args 0 _ fun j v hj => ?_
  simp [argFr, List.getD, hj]
/-- All names from n on. -/
def Lo (n : Nat) (l : List (Nat × Option Blk)) : Prop := ∀ p ∈ l, n ≤ p.1
theorem lo_nil {n : Nat} : Lo n [] ↔ True := by simp [Lo]
theorem lo_cons {n a : Nat} {q : Option Blk} {l : List (Nat × Option Blk)} : Lo n ((a, q) :: l) ↔ n ≤ a ∧ Lo n l := by simp [Lo]
theorem lo_lput {n m : Nat} {k : Option Blk} : ∀ {l : List (Nat × Option Blk)}, n ≤ m → Lo n l → Lo n (lput l m k)
  | [], hm, _ => by simpa [lput, Lo] using hm
  | (a, q) :: l, hm, h => by
    obtain ⟨h1, h2⟩ := lo_cons.1 h
    simp only [lput]
    split
    · exact lo_cons.2 ⟨h1, h2⟩
    · exact lo_cons.2 ⟨h1, lo_lput hm h2⟩
theorem lget_lput_eq {l : List (Nat × Option Blk)} {H : Nat → Option Blk} {m : Nat} {k : Option Blk} : lget (lput l m k) H m = k := by rw [lget_lput]; simp [hset]
theorem lget_lput_ne {l : List (Nat × Option Blk)} {H : Nat → Option Blk} {m q : Nat} {k : Option Blk} (h : q ≠ m) : lget (lput l m k) H q = lget l H q := by rw [lget_lput]; simp [hset, h]
theorem le_cut {n0 n n' : Nat} {l l' : List (Nat × Option Blk)} {H : Nat → Option Blk} (hH : ∀ m k, H m = some k → m < n0) (hlo : Lo n0 l) (hn : n ≤ n') (h : ∀ p ∈ l', ∀ k, p.2 = some k → lget l H p.1 = some k) : St.Le ⟨n, l, H⟩ ⟨n', l', H⟩ := by
  refine ⟨hn, fun m k hk0 => ?_⟩
  have : ∀ l' : List (Nat × Option Blk), (∀ p ∈ l', ∀ k, p.2 = some k → lget l H p.1 = some k) → lget l' H m = some k → lget l H m = some k := by
    intro l'
    induction l' with
    | nil =>
      intro _ hk
      simp only [lget] at hk
      rw [lget_old (hH m k hk) hlo]
      exact hk
    | cons p l' ih =>
      intro h hk
      simp only [lget] at hk
      split at hk
      · rename_i e
        have := h p (by simp) k hk
        rw [← e] at this
        exact this
      · exact ih (fun q hq => h q (by simp [hq])) hk
  exact this l' h hk0
/-- The start of a function: no block of its own yet. -/
theorem CallM.start {P : Program} {f n : Nat} {fn : Func} {c : Code} {args : List V} {S : St} {R : V → St → Prop} (hf : P.funcs[f]? = some fn) (hb : fn.body = some c) (hn : fn.ntmps = n) (hl : args.length ≤ n) {l : List (Nat × V)} (hl0 : argL 0 args = l)
    (h : (∀ m k, S.get m = some k → m < S.next) → WpM P n c (fun e fr S' => (e = .normal ∨ e = .ret) ∧ Upd n fr S' fun fr S' => ∃ r, resV P fr S' fn.results.toList = some r ∧ R r S') (frOf l) ⟨S.next, [], S.get⟩) : CallM P f args S R := by
  intro g w vals h1 h2 h3 h4
  have h' : CallM P f args ⟨S.next, [], S.get⟩ R := CallM.of hf hb hn hl (WpM.less (St.Le.refl _) (hl0 ▸ argL_le args) (h fun m k hk => h2 m (h1.ok m k hk).1))
  exact h' g w vals h1 h2 h3 h4

theorem CallM.pure' {P : Program} {f : FuncId} {args : List V} {S : St} {r : V} (hr : r.noRef = true) (h : CallM P f args S fun r' S' => r' = r ∧ ∀ m k, m < S.next → S.get m = some k → S'.get m = some k) : CallM P f args S fun r' S' => r' = r ∧ S' = S := by
  intro g w vals h1 h2 h3 h4
  have := CallM.pure hr (P := P) (f := f) (args := args) (S := S) (fun g w vals h1 h2 h3 h4 => (h g w vals h1 h2 h3 h4).mono fun e w' ⟨r, v, S', g', e1, e2, e3, e4, e5, e6⟩ => ⟨r, v, { S' with l := [], H := fun m => if m < S.next then S'.get m else none }, g', e1, e2, e3.less (fun m k hk => by
    simp only [St.get, lget] at hk ⊢
    split at hk
    · exact hk
    · cases hk), e4, e5, e6.1, fun m k hk => by
      have hlt := h2 m (h1.ok m k hk).1
      simp only [St.get, lget, if_pos hlt] at hk ⊢
      exact e6.2 m k hlt hk⟩)
  exact this g w vals h1 h2 h3 h4

/-- A function that only computes: from its body. -/
theorem PureC.of {P : Program} {f n : Nat} {fn : Func} {c : Code} {args : List V} {r : V} (hf : P.funcs[f]? = some fn) (hb : fn.body = some c) (hn : fn.ntmps = n) (hl : args.length ≤ n) {l : List (Nat × V)} (hl0 : argL 0 args = l) (hr : r.noRef = true)
    (h : ∀ (n0 : Nat) (H : Nat → Option Blk), (∀ m k, H m = some k → m < n0) → WpM P n c (fun e fr S' => (e = .normal ∨ e = .ret) ∧ Upd n fr S' fun fr S' => resV P fr S' fn.results.toList = some r ∧ S'.H = H ∧ Lo n0 S'.l) (frOf l) ⟨n0, [], H⟩) : PureC P f args r := by
  intro S
  refine CallM.pure' hr (CallM.start hf hb hn hl hl0 fun hH => ((h S.next S.get hH).mono ?_))
  rintro e fr S' ⟨h1, h2⟩
  refine ⟨h1, h2.mono ?_⟩
  rintro fr S'' ⟨h3, h4, h5⟩
  refine ⟨r, h3, rfl, fun m k hm hk => ?_⟩
  unfold St.get at hk ⊢
  rw [lget_old hm h5, h4]
  exact hk
/-- What a function answers in one state, which it leaves as it was. -/
def PureS (P : Program) (f : FuncId) (args : List V) (r : V) (S : St) : Prop := CallM P f args S fun r' S' => r' = r ∧ S' = S
theorem PureC.at_ {P : Program} {f : FuncId} {args : List V} {r : V} (h : PureC P f args r) (S : St) : PureS P f args r S := h S
theorem PureS.of {P : Program} {f n : Nat} {fn : Func} {c : Code} {args : List V} {r : V} {S : St} (hf : P.funcs[f]? = some fn) (hb : fn.body = some c) (hn : fn.ntmps = n) (hl : args.length ≤ n) {l : List (Nat × V)} (hl0 : argL 0 args = l) (hr : r.noRef = true)
    (h : ∀ (n0 : Nat) (H : Nat → Option Blk), S.get = H → (∀ m k, H m = some k → m < n0) → WpM P n c (fun e fr S' => (e = .normal ∨ e = .ret) ∧ Upd n fr S' fun fr S' => resV P fr S' fn.results.toList = some r ∧ S'.H = H ∧ Lo n0 S'.l) (frOf l) ⟨n0, [], H⟩) : PureS P f args r S := by
  refine CallM.pure' hr (CallM.start hf hb hn hl hl0 fun hH => ((h S.next S.get rfl hH).mono ?_))
  rintro e fr S' ⟨h1, h2⟩
  refine ⟨h1, h2.mono ?_⟩
  rintro fr S'' ⟨h3, h4, h5⟩
  refine ⟨r, h3, rfl, fun m k hm hk => ?_⟩
  unfold St.get at hk ⊢
  rw [lget_old hm h5, h4]
  exact hk
end Go.Proofs.Ytafeehlpmdligaa.M
