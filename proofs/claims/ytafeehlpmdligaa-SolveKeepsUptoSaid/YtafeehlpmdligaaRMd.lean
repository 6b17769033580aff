/- What comes in as data, opened: the cells of arguments as pure data. -/
import Derived.ProofKit
import Derived.SizedLaws
import Derived.WalkKit
import Derived.WalkSpells
import Derived.WalkLawsBesides
import Derived.BigGuardPart
import Derived.Test.YtafeehlpmdligaaRows
import Derived.JoinedCond
import Derived.Test.YtafeehlpmdligaaRMc
namespace Go.Proofs.Ytafeehlpmdligaa.M
open Go.RowKit Go.MapKept
set_option linter.unusedSimpArgs false
set_option linter.unusedVariables false

/-- The cells of one value. -/
def CellsOf (F : Nat → Prop) (w : World) (d : D) (cs : List Value) : Prop := cs.length = d.cells.length ∧ ∀ (j : Nat) (y : D), d.cells[j]? = some y → RD F w y (cs.getD j undef)
theorem CellsOf.one {F : Nat → Prop} {w : World} {d : D} {cs : List Value} (h : CellsOf F w d cs) (hd : d.cells = [d]) : ∃ c, cs = [c] ∧ RD F w d c := by
  obtain ⟨h1, h2⟩ := h
  rw [hd] at h1 h2
  obtain ⟨c, rfl⟩ := List.length_eq_one_iff.1 h1
  exact ⟨c, rfl, h2 0 d rfl⟩
theorem CellsOf.of {F : Nat → Prop} {w : World} {d : D} {c : Value} (hd : d.cells = [d]) (h : RD F w d c) : CellsOf F w d [c] := by
  refine ⟨by rw [hd]; rfl, fun j y hy => ?_⟩
  rw [hd] at hy
  cases j with
  | zero => injection hy with hy; subst hy; exact h
  | succ j => cases hy

def OpensD {α : Type} (en : α → D) (V : α → Prop) (P : Program) (T : TypeId) : Prop :=
  ∀ {H : Type} {enc : TypeId × Value → H} {w : World} {base : Nat} {spare : Nat → Bool} {held : Bool} {fuel : Nat} {cs : List Value} {x : DataW H × List MemPlace},
    DataW.trod enc P w base spare held fuel T cs = some x → (∀ n ∈ x.1.weights P T, n ≤ reachBytes) → ∃ a, CellsOf (fun b => b < w.heap.size) w (en a) cs ∧ V a

def IntOk (k : IntKind) (n : Int) : Prop := (Lit.int k n).wf = true
section
variable {P : Program} {T : TypeId}
theorem opensD_int {k : IntKind} (hu : P.underlying T = some (.int k)) : OpensD (D.int k) (IntOk k) P T := by
  intro H enc w base spare held fuel cs x h _
  obtain ⟨n, rfl, _, hw⟩ := DataW.trod_int hu h
  exact ⟨n, .of rfl (.int k n), hw⟩
theorem opensD_bool (hu : P.underlying T = some .bool) : OpensD D.bool (fun _ => True) P T := by
  intro H enc w base spare held fuel cs x h _
  obtain ⟨b, rfl, _⟩ := DataW.trod_bool hu h
  exact ⟨b, .of rfl (.bool b), trivial⟩
theorem reach_val : reachBytes = 140737488351232 := by decide
theorem opensD_str (hu : P.underlying T = some .string) : OpensD D.str (fun s => s.size ≤ 140737488351232) P T := by
  intro H enc w base spare held fuel cs x h hz
  obtain ⟨s, rfl, rfl, _⟩ := DataW.trod_string hu h
  refine ⟨s, .of rfl (.str s), ?_⟩
  have := hz s.data.toList.length (by simp [DataW.weights])
  have h1 := Nat.le_trans this (Nat.le_of_lt reachBytes_lt)
  have h2 : s.data.toList.length = s.size := by rw [Array.length_toList]; rfl
  show s.size ≤ 140737488351232
  have h3 := reach_val
  omega

theorem add_plain (b o n : Nat) : (⟨b, o, none⟩ : Addr).add n = ⟨b, o + n, none⟩ := by
  unfold Addr.add
  split
  · rename_i h; subst h; rfl
  · rfl
theorem cells_of {w : World} {base : Nat} {a : Addr} {n : Nat} {cs : List Value} (h : w.cells? base a n = some cs) : base ≤ a.block ∧ cs.length = n ∧ ∀ j v, cs[j]? = some v → w.cell? (a.add j) = some v := by
  unfold World.cells? at h
  split at h
  · rename_i hb
    refine ⟨hb, by simpa using mapM_some_length h, fun j v hv => ?_⟩
    have hj : j < n := by
      have := mapM_some_length h
      have h2 := (List.getElem?_eq_some_iff.1 hv).1
      simp at this
      omega
    rw [← hv]
    exact mapM_some_get h j j (by simp [hj])
  · cases h
theorem weights_all {H : Type} {e : TypeId} {l : List (DataW H)} {d : DataW H} (h : d ∈ l) : ∀ n ∈ d.weights P e, n ∈ DataW.weightsAll P e l := by
  induction l with
  | nil => cases h
  | cons x l ih =>
    intro n hn
    simp only [DataW.weightsAll, List.mem_append]
    rcases List.mem_cons.1 h with rfl | h
    · exact .inl hn
    · exact .inr (ih h n hn)

def SlOk {α : Type} (V : α → Prop) (by_ : Nat) (xs : List α) : Prop := xs.length * by_ ≤ 140737488351232 ∧ ∀ x ∈ xs, V x
/-- A slice, element by element. -/
theorem opensD_sl {α : Type} {en : α → D} {V : α → Prop} {e : TypeId} {sz by_ : Nat} (hu : P.underlying T = some (.slice e)) (ho : OpensD en V P e) (hsz : P.cellsOf e = sz) (hby : P.bytesOf e = by_) (hs : 0 < sz) (hen : ∀ a, (en a).cells.length = sz) :
    OpensD (fun l : List α => D.sl (l.map en)) (SlOk V by_) P T := by
  intro H enc w base spare held fuel cs x h hz
  rcases DataW.trod_slice hu h with ⟨rfl, _⟩ | ⟨a, len, cap, elems, rest, n, _, rfl, rfl, hb, hl, hm, hlen, hel, _, _⟩
  · exact ⟨[], .of rfl (.slNil none 0), by simp [SlOk]⟩
  · have each : ∀ i (hi : i < len), ∃ y : α, V y ∧ ∃ cs, CellsOf (fun b => b < w.heap.size) w (en y) cs ∧ ∀ j v, cs[j]? = some v → w.cell? ((a.add (i * sz)).add j) = some v := by
      intro i hi
      have h1 := hel i hi
      rw [List.getElem?_eq_getElem (by omega), Option.bind_eq_some_iff, hsz] at h1
      obtain ⟨cs, hcs, htr⟩ := h1
      obtain ⟨_, _, hc⟩ := cells_of hcs
      obtain ⟨y, hK, hV⟩ := ho htr (fun n hn => hz n (by
        simp only [DataW.weights, hu, List.mem_cons, List.mem_append]
        exact .inr (.inl (weights_all (List.mem_map.2 ⟨_, List.getElem_mem _, rfl⟩) n hn))))
      exact ⟨y, hV, cs, hK, hc⟩
    classical
    let f : Fin len → α := fun i => Classical.choose (each i.1 i.2)
    have hf : ∀ i : Fin len, V (f i) ∧ ∃ cs, CellsOf (fun b => b < w.heap.size) w (en (f i)) cs ∧ ∀ j v, cs[j]? = some v → w.cell? ((a.add (i.1 * sz)).add j) = some v := fun i => Classical.choose_spec (each i.1 i.2)
    have hsize : len * by_ ≤ 140737488351232 := by
      have := hz ((elems.length + rest.length) * P.bytesOf e) (by simp [DataW.weights, hu])
      rw [hby, reach_val] at this
      refine Nat.le_trans (Nat.mul_le_mul_right _ ?_) this
      omega
    refine ⟨List.ofFn f, .of rfl ?_, by simpa using hsize, ?_⟩
    · rcases Nat.eq_zero_or_pos len with h0 | h0
      · subst h0
        have : List.ofFn f = [] := by simp
        rw [this]
        exact .slNil _ _
      · have hspot : a.spot = none ∧ a.block < w.heap.size := by
          obtain ⟨_, cs, hK, hc⟩ := hf ⟨0, h0⟩
          have hl0 := hK.1.trans (hen _)
          cases hcs : cs with
          | nil => rw [hcs] at hl0; simp at hl0; omega
          | cons v r =>
            have h1 := hc 0 v (by rw [hcs]; rfl)
            have e0 : (a.add (0 * sz)).add 0 = a := by rw [Nat.zero_mul]; rfl
            rw [e0] at h1
            refine ⟨?_, World.block_lt_of_cell? w _ h1⟩
            unfold World.cell? at h1
            split at h1
            · split at h1
              · cases h1
              · rename_i hs; cases hsp : a.spot with
                | none => rfl
                | some s => simp [hsp] at hs
            · cases h1
        obtain ⟨b, o, sp⟩ := a
        obtain ⟨hsp, hbl⟩ := hspot
        subst hsp
        have key : ∀ (i j : Nat) (x y : D), ((List.ofFn f).map en)[i]? = some x → x.cells[j]? = some y → ∃ v, w.cell? ⟨b, o + i * sz + j, none⟩ = some v ∧ RD (fun b => b < w.heap.size) w y v := by
          intro i j x y hx hy
          simp only [List.getElem?_map, Option.map_eq_some_iff] at hx
          obtain ⟨z, hz', rfl⟩ := hx
          have hi : i < len := by simpa using (List.getElem?_eq_some_iff.1 hz').1
          have hze : z = f ⟨i, hi⟩ := by
            rw [List.getElem?_eq_getElem (by simpa using hi)] at hz'
            injection hz' with hz'
            rw [← hz']
            simp
          subst hze
          obtain ⟨_, cs, hK, hc⟩ := hf ⟨i, hi⟩
          have hjl : j < cs.length := by rw [hK.1]; exact (List.getElem?_eq_some_iff.1 hy).1
          refine ⟨cs[j], ?_, ?_⟩
          · have := hc j cs[j] (by simp [hjl])
            rw [add_plain, add_plain] at this
            exact this
          · have := hK.2 j y hy
            simpa [List.getD, hjl] using this
        have hll : len = ((List.ofFn f).map en).length := by simp
        have hres : RD (fun b => b < w.heap.size) w (.sl ((List.ofFn f).map en)) (.slice (some ⟨b, o, none⟩) ((List.ofFn f).map en).length cap) := by
          refine .sl _ b o cap sz (fun i j => (w.cell? ⟨b, o + i * sz + j, none⟩).getD undef) hbl (by rw [← hll]; exact hl) (fun i x hx => ?_) (fun i j x y hx hy => ?_) (fun i j x y hx hy => ?_)
          · simp only [List.getElem?_map, Option.map_eq_some_iff] at hx
            obtain ⟨z, _, rfl⟩ := hx
            exact hen z
          · obtain ⟨v, h1, _⟩ := key i j x y hx hy
            rw [h1]; rfl
          · obtain ⟨v, h1, h2⟩ := key i j x y hx hy
            rw [h1]; exact h2
        rw [← hll] at hres
        exact hres
    · intro y hy
      obtain ⟨i, rfl⟩ := (List.mem_ofFn).1 hy
      exact (hf i).1

/-- A field of a struct. -/
theorem opens_field {fs : Array Field} (hu : P.underlying T = some (.struct fs)) {H : Type} {enc : TypeId × Value → H} {w : World} {base : Nat} {spare : Nat → Bool} {held : Bool} {fuel : Nat} {cs : List Value} {x : DataW H × List MemPlace}
    (h : DataW.trod enc P w base spare held fuel T cs = some x) (hz : ∀ n ∈ x.1.weights P T, n ≤ reachBytes) :
    cs.length = P.cellsOf T ∧ ∀ (i : Nat) (e off k : Nat), (fs[i]?).map (fun f => (f.type, f.offset)) = some (e, off) → P.cellsOf e = k → ∃ (m : Nat) (y : DataW H × List MemPlace), DataW.trod enc P w base spare held m e ((cs.drop off).take k) = some y ∧ ∀ n ∈ y.1.weights P e, n ≤ reachBytes := by
  obtain ⟨xs, n, _, rfl, hl, hlen, hf⟩ := DataW.trod_struct hu h
  refine ⟨hl, fun i e off k hi hk => ?_⟩
  obtain ⟨f, hfi, he⟩ := Option.map_eq_some_iff.1 hi
  injection he with he ho
  subst he ho hk
  have hil : i < fs.size := (Array.getElem?_eq_some_iff.1 hfi).1
  refine ⟨n, xs[i], ?_, fun m hm => hz m ?_⟩
  · rw [hf i f hfi, List.getElem?_eq_getElem]
  · simp only [DataW.weights, hu]
    refine DataW.weights_mem_each (j := i) (t := f.type) (d := xs[i].1) ?_ ?_ m hm
    · simp only [List.getElem?_map]
      rw [Array.getElem?_toList, hfi]
      rfl
    · simp [List.getElem?_map, List.getElem?_eq_getElem (show i < xs.length by omega)]

/-- Cells put together: a struct's. -/
inductive AllRD (F : Nat → Prop) (w : World) : List D → List Value → Prop
  | nil : AllRD F w [] []
  | cons {d : D} {c : Value} {ds : List D} {cs : List Value} (h : RD F w d c) (t : AllRD F w ds cs) : AllRD F w (d :: ds) (c :: cs)
theorem cells_agg {F : Nat → Prop} {w : World} : ∀ {ds : List D} {cs : List Value}, AllRD F w ds cs → CellsOf F w (.agg ds) cs := by
  intro ds cs h
  refine ⟨?_, ?_⟩
  · show cs.length = ds.length
    induction h with
    | nil => rfl
    | cons _ _ ih => simp [ih]
  · show ∀ (j : Nat) (y : D), ds[j]? = some y → _
    induction h with
    | nil => intro j y hy; simp at hy
    | cons h1 _ ih =>
      intro j y hy
      cases j with
      | zero => simp at hy; subst hy; exact h1
      | succ j => simp at hy; simpa using ih j y hy
theorem CellsOf.val {F : Nat → Prop} {w : World} {d : D} {c : Value} (h : CellsOf F w d [c]) (hd : d.cells = [d]) : RD F w d c := by
  obtain ⟨c', h1, h2⟩ := h.one hd
  injection h1 with h1 _
  rw [h1]; exact h2
end
end Go.Proofs.Ytafeehlpmdligaa.M
/- Calls with effects: what they leave, told weaker. -/
namespace Go.Proofs.Ytafeehlpmdligaa.M
open Go.RowKit
set_option linter.unusedVariables false
theorem CallM.le {P : Program} {f : FuncId} {args : List V} {S : St} {R R' : V → St → Prop} (h : CallM P f args S R) (hr : ∀ r S', R r S' → ∃ S'', S'.Le S'' ∧ R' r S'') : CallM P f args S R' := by
  intro g w vals h1 h2 h3 h4
  refine (h g w vals h1 h2 h3 h4).mono ?_
  rintro e w' ⟨r, v, S', g', e1, e2, e3, e4, e5, e6⟩
  obtain ⟨S'', hS, hR⟩ := hr r S' e6
  exact ⟨r, v, S'', g', e1, e2, e3.less hS.2, fun k hk => Nat.lt_of_lt_of_le (e4 k hk) hS.1, e5, hR⟩
/-- A call in a state that knows more. -/
theorem CallM.ge {P : Program} {f : FuncId} {args : List V} {S S0 : St} {R : V → St → Prop} (h : CallM P f args S0 R) (hS : S.Le S0) : CallM P f args S R := by
  intro g w vals h1 h2 h3 h4
  exact h g w vals (h1.less hS.2) (fun k hk => Nat.lt_of_lt_of_le (h2 k hk) hS.1) h3 h4
/-- The names of blocks that are known have been used. -/
theorem WpM.known {P : Program} {n : Nat} {c : Code} {Q : Exit → Fr → St → Prop} {fr : Fr} {S : St} (h : (∀ m k, S.get m = some k → m < S.next) → WpM P n c Q fr S) : WpM P n c Q fr S :=
  fun g w a hi => h (fun m k hk => hi.lt _ (hi.rs.ok m k hk).1) g w a hi
/-- The state as one map of blocks, by a name of its own. -/
theorem WpM.norm {P : Program} {n : Nat} {c : Code} {Q : Exit → Fr → St → Prop} {fr : Fr} {S : St} (h : ∀ nx H, nx = S.next → H = S.get → (∀ m k, H m = some k → m < nx) → WpM P n c Q fr ⟨nx, [], H⟩) : WpM P n c Q fr S := by
  refine WpM.known fun hk => ?_
  exact WpM.less (fr' := fr) (S' := ⟨S.next, [], S.get⟩) ⟨Nat.le_refl _, fun m k hk => hk⟩ (FrLe.refl _) (h _ _ rfl rfl hk)
theorem St.Le.norm (S : St) : S.Le ⟨S.next, [], S.get⟩ := ⟨Nat.le_refl _, fun m k hk => hk⟩
theorem St.Le.trans {S S' S'' : St} (a : S.Le S') (b : S'.Le S'') : S.Le S'' := ⟨Nat.le_trans a.1 b.1, fun m k h => a.2 m k (b.2 m k h)⟩
theorem CallM.known {P : Program} {f : FuncId} {args : List V} {S : St} {R : V → St → Prop} (h : (∀ m k, S.get m = some k → m < S.next) → CallM P f args S R) : CallM P f args S R :=
  fun g w vals h1 h2 h3 h4 => h (fun m k hk => h2 _ (h1.ok m k hk).1) g w vals h1 h2 h3 h4
end Go.Proofs.Ytafeehlpmdligaa.M
/- Cuts: two ways that meet. -/
namespace Go.Proofs.Ytafeehlpmdligaa.M
open Go.RowKit
set_option linter.unusedVariables false
set_option linter.unusedSimpArgs false
theorem Sub.le {l : List (Nat × V)} : ∀ {l' : List (Nat × V)}, Sub l l' → FrLe (frOf l) (frOf l')
  | [], _ => fun t => .inr rfl
  | (k, v) :: l', h => fun t => by
    simp only [frOf]
    split
    · rename_i e; subst e; exact .inl h.1.symm
    · exact h.2.le t
theorem z_push {d : Nat} {v : V} {l : List (Nat × V)} : fsetO (frOf l) (some d) v = frOf ((d, v) :: l) := by
  funext t; rfl
theorem z_none {t : Nat} : frOf [] t = .undef := rfl
section
variable {P : Program} {n : Nat} {Q : Exit → Fr → St → Prop} {fr : Fr} {S : St}
theorem WpM.regP (fz : List Nat) {id : Nat} {ops : Array Oper} (h : ∀ K : Fr → St → Prop, (∀ l l' S', Sub l l' → Q .normal (frOf l') S' → K (frOf l) S') → wpS P n fz ops ops.toList K fr S) : WpM P n (.region id ops false) Q fr S := by
  refine WpM.weak (WpM.region (h _ fun l l' S' hl hQ => ?_))
  exact ⟨_, S', hl.le, St.Le.refl _, hQ⟩
theorem WpM.regPE (fz : List Nat) {id : Nat} {ops : Array Oper} {l : List (Nat × V)} (l' : List (Nat × V)) {S' : St} (h : wpS P n fz ops ops.toList (fun f s => f = frOf l ∧ s = S') fr S) (hk : Sub l l') (hQ : Q .normal (frOf l') S') : WpM P n (.region id ops false) Q fr S := by
  have h1 : WpM P n (.region id ops false) (fun e f s => e = .normal ∧ f = frOf l ∧ s = S') fr S := WpM.region (Q := fun e f s => e = .normal ∧ f = frOf l ∧ s = S') (fz := fz) (by simpa using h)
  refine WpM.weak (h1.mono ?_)
  rintro e f s ⟨rfl, rfl, rfl⟩
  exact ⟨_, s, hk.le, St.Le.refl _, hQ⟩
theorem WpM.drwPE (fz : List Nat) {id : Nat} {ops : Array Oper} {l : List (Nat × V)} (l' : List (Nat × V)) {S' : St} (hm : P.follows .mixedOrders = true) (hslots : slotsOk ops = true) (hedges : edgesOk ops = true) (L : List (Nat × Nat)) (hL : unord ops = L)
    (h : wpD P n fz ops L S.next ops.toList (fun f s => f = frOf l ∧ s = S') fr S []) (hk : Sub l l') (hQ : Q .normal (frOf l') S') : WpM P n (.region id ops true) Q fr S := by
  have h1 : WpM P n (.region id ops true) (fun e f s => e = .normal ∧ f = frOf l ∧ s = S') fr S := WpM.draw (Q := fun e f s => e = .normal ∧ f = frOf l ∧ s = S') hm hslots hedges hL (by simpa using h)
  refine WpM.weak (h1.mono ?_)
  rintro e f s ⟨rfl, rfl, rfl⟩
  exact ⟨_, s, hk.le, St.Le.refl _, hQ⟩
theorem WpM.drwP (fz : List Nat) {id : Nat} {ops : Array Oper} (hm : P.follows .mixedOrders = true) (hslots : slotsOk ops = true) (hedges : edgesOk ops = true) (L : List (Nat × Nat)) (hL : unord ops = L)
    (h : ∀ K : Fr → St → Prop, (∀ l l' S', Sub l l' → Q .normal (frOf l') S' → K (frOf l) S') → wpD P n fz ops L S.next ops.toList K fr S []) : WpM P n (.region id ops true) Q fr S := by
  refine WpM.weak (WpM.draw hm hslots hedges hL (h _ fun l l' S' hl hQ => ?_))
  exact ⟨_, S', hl.le, St.Le.refl _, hQ⟩
end
theorem WpM.cut {P : Program} {n : Nat} {x y : Code} {Q : Exit → Fr → St → Prop} {fr : Fr} {S : St} (fr1 : Fr) (S1 : St) (h1 : WpM P n x (fun e fr' S' => e = .normal ∧ FrLe fr' fr1 ∧ S'.Le S1) fr S) (h2 : WpM P n y Q fr1 S1) : WpM P n (.seq x y) Q fr S := by
  refine WpM.seq (h1.mono ?_)
  rintro e fr' S' ⟨rfl, hf, hS⟩
  exact WpM.less hS hf h2
theorem WpM.meet {P : Program} {n : Nat} {x : Code} {Q : Exit → Fr → St → Prop} {fr : Fr} {S : St} (fr1 : Fr) (S1 : St) (h1 : WpM P n x (fun e fr' S' => e = .normal ∧ FrLe fr' fr1 ∧ S'.Le S1) fr S) (h2 : ∀ fr' S', FrLe fr' fr1 → S'.Le S1 → Q .normal fr' S') : WpM P n x Q fr S := by
  refine h1.mono ?_
  rintro e fr' S' ⟨rfl, hf, hS⟩
  exact h2 _ _ hf hS
/-- An empty slice against nil. -/
theorem wpS_cmp {P : Program} {n : Nat} {fz : List Nat} {ops : Array Oper} {o : Oper} {rest : List Oper} {K : Fr → St → Prop} {l : List (Nat × V)} {S : St} {t e q : TypeId} {x : Operand} (hd : dstOk n o.dst = true) (hg : guardM ops (frOf l) o = some true) (hc : callOf o (frOf l) = none)
    (ho : o.op = .binOp .eql t x (.const (.slice none 0 0)) q) (hx : lkE (frOf l) x = .d (.sl [])) (hu : P.underlying t = some (.slice e)) (h : ∀ b : Bool, wpS P n fz ops rest K (fsetO (frOf l) o.dst (.d (.bool b))) { S with next := S.next + 1 }) : wpS P n fz ops (o :: rest) K (frOf l) S := by
  have hs : ∀ blk nm, stepF P fz o (lkE (frOf l)) blk nm = none := fun blk nm => by
    have hk : lkE (frOf l) (.const (.slice none 0 0)) = .nil := rfl
    simp only [stepF, ownStep, stepF0, stepB, ho, hx, hk, evalBin, evalEqAgg, evalEqAgg0, eqTys, hu, Option.map_none]
  simp only [wpS, hg, hc, hs]
  exact ⟨hd, by simp [nilCmp, ho, hx, hu], h⟩
/-- A slice without room is pure data. -/
theorem Upd.pureNil {n : Nat} {fr : Fr} {S : St} {K : Fr → St → Prop} (t : Nat) (ht : fr t = .nil ∨ fr t = .e0) (h : Upd n (fset fr t (.d (.sl []))) S K) : Upd n fr S K := by
  intro g w a hi
  have hval : ∀ v, RV g w (fr t) v → RV g w (.d (.sl [])) v := by
    intro v hv
    rcases ht with e | e <;> rw [e] at hv <;> cases hv <;> exact .d (.slNil _ _)
  refine h g w a ⟨hi.rs, hi.lt, hi.rf.size, hi.rf.defers, fun t' ht' => ?_, fun t' ht' => ?_⟩
  · simp only [fset]
    split
    · rename_i e
      subst e
      exact hval _ (hi.rf.slot t' ht')
    · exact hi.rf.slot t' ht'
  · simp only [fset]
    split
    · rename_i e
      subst e
      have := hi.rf.out t' ht'
      rcases ht with e | e <;> rw [e] at this <;> cases this
    · exact hi.rf.out t' ht'
theorem allD_snoc (a_s : List D) (x : D) : allD (a_s.map V.d ++ [V.d x]) = some (a_s ++ [x]) := by
  rw [show a_s.map V.d ++ [V.d x] = (a_s ++ [x]).map V.d by simp, allD_map]
theorem wpD_fresh {P : Program} {n : Nat} {fz : List Nat} {ops : Array Oper} {L : List (Nat × Nat)} {b : Nat} {ms : List Met} {o : Oper} {rest : List Oper} {K : Fr → St → Prop} {l l' : List (Nat × V)} {S S' : St} {f : FuncId} {args : List V} {sz : Nat} {ds : List D} (hd : dstOk n o.dst = true) (hg : guardM ops (frOf l) o = some true) (hc : callOf o (frOf l) = some (f, args)) (hp : isPlain P f = true)
    (hF : FreshOn P f args sz ds [] S.get) (hf : fsetO (frOf l) o.dst (.ms (b + ms.length) sz 0 ds.length) = frOf l') (hS : S.set (b + ms.length) (some (.row sz (ds.map V.d))) = S') (h : wpD P n fz ops L b rest K (frOf l') S' (ms ++ [([], [b + ms.length])])) : wpD P n fz ops L b (o :: rest) K (frOf l) S ms := by
  simp only [wpD, hg, hc]
  exact ⟨hd, hp, .inr ⟨sz, ds, [], hF, by rw [hf, hS]; exact h⟩⟩
end Go.Proofs.Ytafeehlpmdligaa.M
/- What comes in as data of small bulk, opened. -/
namespace Go.Proofs.Ytafeehlpmdligaa.M
open Go.RowKit Go.MapKept
set_option linter.unusedSimpArgs false
set_option linter.unusedVariables false
theorem bulk_one {H : Type} (d : DataW H) : 1 ≤ Rows.uptoBulk d := by
  cases d with
  | lit l => cases l <;> simp [Rows.uptoBulk]
  | _ => simp [Rows.uptoBulk]
theorem bulk_mem {H : Type} {d : DataW H} {l : List (DataW H)} (h : d ∈ l) : Rows.uptoBulk d ≤ Rows.uptoBulkAll l := by
  induction l with
  | nil => cases h
  | cons x r ih =>
    simp only [Rows.uptoBulkAll]
    rcases List.mem_cons.1 h with rfl | h
    · omega
    · have := ih h; omega
theorem bulk_len {H : Type} (l : List (DataW H)) : l.length ≤ Rows.uptoBulkAll l := by
  induction l with
  | nil => simp [Rows.uptoBulkAll]
  | cons x r ih => have := bulk_one x; simp only [Rows.uptoBulkAll, List.length_cons]; omega
/-- Of small bulk. -/
structure SmallB {H : Type} (d : DataW H) : Prop where
  le : Rows.uptoBulk d ≤ 1048576
def OpensB {α : Type} (en : α → D) (V : α → Prop) (P : Program) (T : TypeId) : Prop :=
  ∀ {H : Type} {enc : TypeId × Value → H} {w : World} {base : Nat} {spare : Nat → Bool} {held : Bool} {fuel : Nat} {cs : List Value} {x : DataW H × List MemPlace},
    DataW.trod enc P w base spare held fuel T cs = some x → SmallB x.1 → ∃ a, CellsOf (fun b => b < w.heap.size) w (en a) cs ∧ V a
section
variable {P : Program} {T : TypeId}
theorem opensB_int {k : IntKind} (hu : P.underlying T = some (.int k)) : OpensB (D.int k) (IntOk k) P T := by
  intro H enc w base spare held fuel cs x h _
  obtain ⟨n, rfl, _, hw⟩ := DataW.trod_int hu h
  exact ⟨n, .of rfl (.int k n), hw⟩
theorem opensB_bool (hu : P.underlying T = some .bool) : OpensB D.bool (fun _ => True) P T := by
  intro H enc w base spare held fuel cs x h _
  obtain ⟨b, rfl, _⟩ := DataW.trod_bool hu h
  exact ⟨b, .of rfl (.bool b), trivial⟩
structure SlB {α : Type} (V : α → Prop) (xs : List α) : Prop where
  len : xs.length ≤ 1048576
  all : ∀ x ∈ xs, V x
/-- A slice, element by element. -/
theorem opensB_sl {α : Type} {en : α → D} {V : α → Prop} {e : TypeId} {sz : Nat} (hu : P.underlying T = some (.slice e)) (ho : OpensB en V P e) (hsz : P.cellsOf e = sz) (hs : 0 < sz) (hen : ∀ a, (en a).cells.length = sz) :
    OpensB (fun l : List α => D.sl (l.map en)) (SlB V) P T := by
  intro H enc w base spare held fuel cs x h hz
  rcases DataW.trod_slice hu h with ⟨rfl, _⟩ | ⟨a, len, cap, elems, rest, n, _, rfl, rfl, hb, hl, hm, hlen, hel, _, _⟩
  · exact ⟨[], .of rfl (.slNil none 0), ⟨by simp, by simp⟩⟩
  · have each : ∀ i (hi : i < len), ∃ y : α, V y ∧ ∃ cs, CellsOf (fun b => b < w.heap.size) w (en y) cs ∧ ∀ j v, cs[j]? = some v → w.cell? ((a.add (i * sz)).add j) = some v := by
      intro i hi
      have h1 := hel i hi
      rw [List.getElem?_eq_getElem (by omega), Option.bind_eq_some_iff, hsz] at h1
      obtain ⟨cs, hcs, htr⟩ := h1
      obtain ⟨_, _, hc⟩ := cells_of hcs
      obtain ⟨y, hK, hV⟩ := ho htr ⟨by
        have hz := hz.le
        have h2 := bulk_mem (l := elems.map (·.1)) (List.mem_map.2 ⟨_, List.getElem_mem (show i < elems.length by omega), rfl⟩)
        simp only [Rows.uptoBulk] at hz
        omega⟩
      exact ⟨y, hV, cs, hK, hc⟩
    classical
    let f : Fin len → α := fun i => Classical.choose (each i.1 i.2)
    have hf : ∀ i : Fin len, V (f i) ∧ ∃ cs, CellsOf (fun b => b < w.heap.size) w (en (f i)) cs ∧ ∀ j v, cs[j]? = some v → w.cell? ((a.add (i.1 * sz)).add j) = some v := fun i => Classical.choose_spec (each i.1 i.2)
    have hsize : len ≤ 1048576 := by
      have hz := hz.le
      have h2 := bulk_len (elems.map (·.1))
      simp only [Rows.uptoBulk] at hz
      rw [List.length_map] at h2
      omega
    refine ⟨List.ofFn f, .of rfl ?_, by simpa using hsize, ?_⟩
    · rcases Nat.eq_zero_or_pos len with h0 | h0
      · subst h0
        have : List.ofFn f = [] := by simp
        rw [this]
        exact .slNil _ _
      · have hspot : a.spot = none ∧ a.block < w.heap.size := by
          obtain ⟨_, cs, hK, hc⟩ := hf ⟨0, h0⟩
          have hl0 := hK.1.trans (hen _)
          cases hcs : cs with
          | nil => rw [hcs] at hl0; simp at hl0; omega
          | cons v r =>
            have h1 := hc 0 v (by rw [hcs]; rfl)
            have e0 : (a.add (0 * sz)).add 0 = a := by rw [Nat.zero_mul]; rfl
            rw [e0] at h1
            refine ⟨?_, World.block_lt_of_cell? w _ h1⟩
            unfold World.cell? at h1
            split at h1
            · split at h1
              · cases h1
              · rename_i hs; cases hsp : a.spot with
                | none => rfl
                | some s => simp [hsp] at hs
            · cases h1
        obtain ⟨b, o, sp⟩ := a
        obtain ⟨hsp, hbl⟩ := hspot
        subst hsp
        have key : ∀ (i j : Nat) (x y : D), ((List.ofFn f).map en)[i]? = some x → x.cells[j]? = some y → ∃ v, w.cell? ⟨b, o + i * sz + j, none⟩ = some v ∧ RD (fun b => b < w.heap.size) w y v := by
          intro i j x y hx hy
          simp only [List.getElem?_map, Option.map_eq_some_iff] at hx
          obtain ⟨z, hz', rfl⟩ := hx
          have hi : i < len := by simpa using (List.getElem?_eq_some_iff.1 hz').1
          have hze : z = f ⟨i, hi⟩ := by
            rw [List.getElem?_eq_getElem (by simpa using hi)] at hz'
            injection hz' with hz'
            rw [← hz']
            simp
          subst hze
          obtain ⟨_, cs, hK, hc⟩ := hf ⟨i, hi⟩
          have hjl : j < cs.length := by rw [hK.1]; exact (List.getElem?_eq_some_iff.1 hy).1
          refine ⟨cs[j], ?_, ?_⟩
          · have := hc j cs[j] (by simp [hjl])
            rw [add_plain, add_plain] at this
            exact this
          · have := hK.2 j y hy
            simpa [List.getD, hjl] using this
        have hll : len = ((List.ofFn f).map en).length := by simp
        have hres : RD (fun b => b < w.heap.size) w (.sl ((List.ofFn f).map en)) (.slice (some ⟨b, o, none⟩) ((List.ofFn f).map en).length cap) := by
          refine .sl _ b o cap sz (fun i j => (w.cell? ⟨b, o + i * sz + j, none⟩).getD undef) hbl (by rw [← hll]; exact hl) (fun i x hx => ?_) (fun i j x y hx hy => ?_) (fun i j x y hx hy => ?_)
          · simp only [List.getElem?_map, Option.map_eq_some_iff] at hx
            obtain ⟨z, _, rfl⟩ := hx
            exact hen z
          · obtain ⟨v, h1, _⟩ := key i j x y hx hy
            rw [h1]; rfl
          · obtain ⟨v, h1, h2⟩ := key i j x y hx hy
            rw [h1]; exact h2
        rw [← hll] at hres
        exact hres
    · intro y hy
      obtain ⟨i, rfl⟩ := (List.mem_ofFn).1 hy
      exact (hf i).1

/-- A field of a struct. -/
theorem opensB_field {fs : Array Field} (hu : P.underlying T = some (.struct fs)) {H : Type} {enc : TypeId × Value → H} {w : World} {base : Nat} {spare : Nat → Bool} {held : Bool} {fuel : Nat} {cs : List Value} {x : DataW H × List MemPlace}
    (h : DataW.trod enc P w base spare held fuel T cs = some x) (hz : SmallB x.1) :
    cs.length = P.cellsOf T ∧ ∀ (i : Nat) (e off k : Nat), (fs[i]?).map (fun f => (f.type, f.offset)) = some (e, off) → P.cellsOf e = k → ∃ (m : Nat) (y : DataW H × List MemPlace), DataW.trod enc P w base spare held m e ((cs.drop off).take k) = some y ∧ SmallB y.1 := by
  obtain ⟨xs, n, _, rfl, hl, hlen, hf⟩ := DataW.trod_struct hu h
  refine ⟨hl, fun i e off k hi hk => ?_⟩
  obtain ⟨f, hfi, he⟩ := Option.map_eq_some_iff.1 hi
  injection he with he ho
  subst he ho hk
  have hil : i < fs.size := (Array.getElem?_eq_some_iff.1 hfi).1
  refine ⟨n, xs[i], ?_, ?_⟩
  · rw [hf i f hfi, List.getElem?_eq_getElem]
  · refine ⟨?_⟩
    have hz := hz.le
    have h2 := bulk_mem (l := xs.map (·.1)) (List.mem_map.2 ⟨_, List.getElem_mem (show i < xs.length by omega), rfl⟩)
    simp only [Rows.uptoBulk] at hz
    omega
end
end Go.Proofs.Ytafeehlpmdligaa.M
/- The order of a drawn region, told with bits (fast for long regions). -/
namespace Go.Proofs.Ytafeehlpmdligaa.M
open Go.RowKit
set_option linter.unusedVariables false
set_option linter.unusedSimpArgs false
def bitStep (acc : List Nat) (o : Oper) : List Nat :=
  acc ++ [o.after.toList.foldl (fun m e => if Region.binds .any e && decide (e.on < acc.length) then m ||| ((1 <<< e.on) ||| acc.getD e.on 0) else m) 0]
def bits (ops : Array Oper) : List Nat := ops.toList.foldl bitStep []
theorem bit_fold (acc : List (List Nat)) (bcc : List Nat) (hl : acc.length = bcc.length) (h : ∀ j i, (acc.getD j []).contains i = (bcc.getD j 0).testBit i) (i : Nat) : ∀ (es : List Edge) (m : Nat) (l : List Nat), l.contains i = m.testBit i →
    (l ++ es.flatMap fun e => if Region.binds .any e && decide (e.on < acc.length) then e.on :: acc.getD e.on [] else []).contains i = (es.foldl (fun m e => if Region.binds .any e && decide (e.on < bcc.length) then m ||| ((1 <<< e.on) ||| bcc.getD e.on 0) else m) m).testBit i
  | [], m, l, h0 => by simpa using h0
  | e :: es, m, l, h0 => by
    rw [List.flatMap_cons, List.foldl_cons, ← List.append_assoc]
    refine bit_fold acc bcc hl h i es _ _ ?_
    rw [hl]
    by_cases hc : (Region.binds .any e && decide (e.on < bcc.length)) = true
    · rw [if_pos hc, if_pos hc, Nat.testBit_or, Nat.testBit_or, ← h, ← h0]
      have h1 : (1 <<< e.on).testBit i = (i == e.on) := by
        rw [Nat.one_shiftLeft, Nat.testBit_two_pow]
        by_cases hie : e.on = i
        · subst hie; simp
        · have : ¬ i = e.on := fun h => hie h.symm
          simp [hie, this]
      rw [h1, List.contains_eq_any_beq, List.contains_eq_any_beq, List.contains_eq_any_beq, List.any_append, List.any_cons]
    · rw [if_neg hc, if_neg hc, List.append_nil]
      exact h0
theorem bit_all : ∀ (l : List Oper) (acc : List (List Nat)) (bcc : List Nat), acc.length = bcc.length → (∀ j i, (acc.getD j []).contains i = (bcc.getD j 0).testBit i) → ∀ j i, ((l.foldl ancStep acc).getD j []).contains i = ((l.foldl bitStep bcc).getD j 0).testBit i
  | [], acc, bcc, hl, h, j, i => h j i
  | o :: l, acc, bcc, hl, h, j, i => by
    rw [List.foldl_cons, List.foldl_cons]
    refine bit_all l _ _ (by simp [ancStep, bitStep, hl]) (fun j i => ?_) j i
    have := bit_fold acc bcc hl h i o.after.toList 0 [] (by simp)
    rw [List.nil_append] at this
    simp only [ancStep, bitStep]
    rcases Nat.lt_trichotomy j acc.length with h1 | h1 | h1
    · have e1 : ∀ x, (acc ++ [x]).getD j [] = acc.getD j [] := fun x => by simp only [List.getD_eq_getElem?_getD, List.getElem?_append, if_pos h1]
      have e2 : ∀ x, (bcc ++ [x]).getD j 0 = bcc.getD j 0 := fun x => by simp only [List.getD_eq_getElem?_getD, List.getElem?_append, if_pos (show j < bcc.length by omega)]
      rw [e1, e2]
      exact h j i
    · have e1 : ∀ x, (acc ++ [x]).getD j [] = x := fun x => by subst h1; simp
      have e2 : ∀ x, (bcc ++ [x]).getD j 0 = x := fun x => by rw [h1, hl]; simp
      rw [e1, e2]
      exact this
    · have e1 : ∀ x, (acc ++ [x]).getD j [] = [] := fun x => by rw [List.getD_eq_getElem?_getD, List.getElem?_eq_none (by simp; omega)]; rfl
      have e2 : ∀ x, (bcc ++ [x]).getD j 0 = 0 := fun x => by rw [List.getD_eq_getElem?_getD, List.getElem?_eq_none (by simp; omega)]; rfl
      rw [e1, e2]
      simp
theorem anc_bit (ops : Array Oper) (j i : Nat) : ((ancs ops).getD j []).contains i = ((bits ops).getD j 0).testBit i := bit_all ops.toList [] [] rfl (by simp) j i
def unordB (ops : Array Oper) : List (Nat × Nat) :=
  let an := bits ops
  (List.range ops.size).flatMap fun j => (List.range j).filterMap fun i =>
    match ops[i]?, ops[j]? with
    | some x, some y => if ((mayTouch x.op && (mayTouch y.op || mayRead y.op)) || (mayRead x.op && mayTouch y.op)) && !(an.getD j 0).testBit i then some (i, j) else none
    | _, _ => none
def slotsB (ops : Array Oper) : Bool :=
  let an := bits ops
  (List.range ops.size).all fun j => (List.range j).all fun i =>
    match ops[i]?, ops[j]? with
    | some x, some y => Oper.apart ops x y || (an.getD j 0).testBit i
    | _, _ => true
theorem unord_of {ops : Array Oper} {L : List (Nat × Nat)} (h : unordB ops = L) : unord ops = L := by
  rw [← h]
  unfold unord unordB
  simp only [anc_bit]
  rfl
theorem slots_of {ops : Array Oper} (h : slotsB ops = true) : slotsOk ops = true := by
  rw [← h]
  unfold slotsOk slotsB
  simp only [anc_bit]
  rfl
end Go.Proofs.Ytafeehlpmdligaa.M
/- Drawn regions whose calls stand in one order, and all else is pure. -/
namespace Go.Proofs.Ytafeehlpmdligaa.M
open Go.RowKit
set_option linter.unusedVariables false
set_option linter.unusedSimpArgs false
/-- What each operation does, in the order of the text. -/
def ChSteps (P : Program) (n : Nat) (ops : Array Oper) (frs : Nat → Fr) (vs : Nat → V) (Rs : Nat → St → Prop) (ef : Nat → Bool) : Prop :=
  ∀ k o, ops[k]? = some o → dstOk n o.dst = true ∧ frs (k + 1) = fsetO (frs k) o.dst (vs k) ∧ guardM ops (frs k) o = some true ∧
    ((ef k = false ∧ callOf o (frs k) = none ∧ fpOf o.op (lkE (frs k)) = none ∧ (∀ nm, stepF P [] o (lkE (frs k)) none nm = some (vs k, .keep)) ∧ ∀ S, Rs k S ↔ Rs (k + 1) S) ∨
      (ef k = true ∧ ∃ f args, callOf o (frs k) = some (f, args) ∧ isPlain P f = true ∧ ∀ S, Rs k S → CallM P f args S fun r S' => r = vs k ∧ Rs (k + 1) S'))
theorem chFrs {P : Program} {n : Nat} {ops : Array Oper} {frs : Nat → Fr} {vs : Nat → V} {Rs : Nat → St → Prop} {ef : Nat → Bool} (hst : ChSteps P n ops frs vs Rs ef) {t : Nat} : ∀ (d p q : Nat), p + d = q → q ≤ ops.size → (∀ i x, ops[i]? = some x → p ≤ i → i < q → x.dst ≠ some t) → frs q t = frs p t
  | 0, p, q, h, _, _ => by simp at h; rw [h]
  | d + 1, p, q, h, hq, hn => by
    have ih := chFrs hst d p (p + d) rfl (by omega) (fun i x hx h1 h2 => hn i x hx h1 (by omega))
    have ho : ops[p + d]? = some (ops[p + d]'(by omega)) := by simp [show p + d < ops.size by omega]
    obtain ⟨_, h2, _⟩ := hst (p + d) _ ho
    have hne := hn (p + d) _ ho (by omega) (by omega)
    rw [← ih, ← h, ← Nat.add_assoc, h2]
    cases hd : (ops[p + d]'(by omega)).dst with
    | none => rfl
    | some d' =>
      rw [hd] at hne
      simp only [fsetO, fset]
      rw [if_neg (fun e => hne (by rw [e]))]
theorem chRs {P : Program} {n : Nat} {ops : Array Oper} {frs : Nat → Fr} {vs : Nat → V} {Rs : Nat → St → Prop} {ef : Nat → Bool} (hst : ChSteps P n ops frs vs Rs ef) {S : St} : ∀ (d p q : Nat), p + d = q → q ≤ ops.size → (∀ i, p ≤ i → i < q → ef i = false) → (Rs p S ↔ Rs q S)
  | 0, p, q, h, _, _ => by simp at h; rw [h]
  | d + 1, p, q, h, hq, hn => by
    have ih := chRs hst (S := S) d p (p + d) rfl (by omega) (fun i h1 h2 => hn i h1 (by omega))
    have ho : ops[p + d]? = some (ops[p + d]'(by omega)) := by simp [show p + d < ops.size by omega]
    obtain ⟨_, _, _, h2⟩ := hst (p + d) _ ho
    have he := hn (p + d) (by omega) (by omega)
    rcases h2 with ⟨_, _, _, _, h3⟩ | ⟨h3, _⟩
    · rw [ih, h3 S, ← h, Nat.add_assoc]
    · rw [he] at h3; cases h3
set_option maxHeartbeats 1000000 in
theorem chain_sound {P : Program} {n : Nat} {ops : Array Oper} {frs : Nat → Fr} {vs : Nat → V} {Rs : Nat → St → Prop} {ef : Nat → Bool} (hst : ChSteps P n ops frs vs Rs ef)
    (hnx : ∀ p S m, Rs p S → S.next ≤ m → Rs p { S with next := m }) (hord : ∀ i k, i < k → k < ops.size → ef i = true → ef k = true → i ∈ (ancs ops).getD k []) (hslots : slotsOk ops = true) (hedges : edgesOk ops = true) {Q : Exit → Act → World → Prop} {g0 : Gh} {w0 : World}
    (hfin : ∀ g w a S, Ext g0 w0 g w → RS g w S.get → (∀ k, g.U k → k < S.next) → Rs ops.size S → RF n g w (frs ops.size) a → Q .normal a w) :
    ∀ (fuel : Nat) (listed : Array Bool) (fr : Fr) (S : St) (g : Gh) (w : World) (a : Act), listed.size = ops.size → Closed ops (fun i => listed.getD i false = true) → ((List.range ops.size).filter fun i => !listed.getD i false).length ≤ fuel →
      (∀ t p, p ≤ ops.size → (∀ i x, ops[i]? = some x → x.dst = some t → (listed.getD i false = true ↔ i < p)) → fr t = frs p t) → (∀ p, p ≤ ops.size → (∀ i, i < ops.size → ef i = true → (listed.getD i false = true ↔ i < p)) → Rs p S) →
      Ext g0 w0 g w → RS g w S.get → (∀ k, g.U k → k < S.next) → RF n g w fr a → wpAny P .any ops Q fuel listed a w := by
  have gd : ∀ (listed : Array Bool) (i : Nat), listed.size = ops.size → i < ops.size → listed.getD i true = listed.getD i false := fun listed i hs hi => by simp [show i < listed.size by omega]
  have atEnd : ∀ (listed : Array Bool) (fr : Fr) (S : St) (g : Gh) (w : World) (a : Act), listed.size = ops.size → (∀ i, i < ops.size → listed.getD i false = true) → (∀ t p, p ≤ ops.size → (∀ i x, ops[i]? = some x → x.dst = some t → (listed.getD i false = true ↔ i < p)) → fr t = frs p t) → (∀ p, p ≤ ops.size → (∀ i, i < ops.size → ef i = true → (listed.getD i false = true ↔ i < p)) → Rs p S) → Ext g0 w0 g w → RS g w S.get → (∀ k, g.U k → k < S.next) → RF n g w fr a → Q .normal a w := by
    intro listed fr S g w a hsz hall hpart hRs hE hS hU hr
    have hf : fr = frs ops.size := by
      funext t
      exact hpart t ops.size (Nat.le_refl _) (fun i x hx _ => ⟨fun _ => (Array.getElem?_eq_some_iff.1 hx).1, fun hi => hall i hi⟩)
    subst hf
    exact hfin g w a S hE hS hU (hRs ops.size (Nat.le_refl _) fun i hi _ => ⟨fun _ => hi, fun _ => hall i hi⟩) hr
  have noReady : ∀ (listed : Array Bool), listed.size = ops.size → Region.ready .any ops listed = [] → ∀ i, i < ops.size → listed.getD i false = true := by
    intro listed hsz hnil i
    induction i using Nat.strongRecOn with
    | _ i ih =>
      intro hi
      rcases hb : listed.getD i false with _ | _
      · exfalso
        have : i ∈ Region.ready .any ops listed := by
          rw [mem_ready]
          refine ⟨hi, by rw [gd listed i hsz hi]; exact hb, fun o ho e he hbd => ?_⟩
          have := List.all_eq_true.1 hedges i (by simpa using hi)
          simp only [ho] at this
          have := List.all_eq_true.1 this e he
          simp [hbd] at this
          exact ih e.on this (by omega)
        rw [hnil] at this
        simp at this
      · rfl
  intro fuel
  induction fuel with
  | zero =>
    intro listed fr S g w a hsz hcl hcount hpart hRs hE hS hU hr
    have hall : ∀ i, i < ops.size → listed.getD i false = true := by
      intro i hi
      rcases hb : listed.getD i false with _ | _
      · have : i ∈ (List.range ops.size).filter fun i => !listed.getD i false := by rw [List.mem_filter]; exact ⟨by simpa using hi, by simp only [hb]; rfl⟩
        rw [List.eq_nil_of_length_eq_zero (Nat.le_zero.1 hcount)] at this
        simp at this
      · rfl
    refine ⟨?_, atEnd listed fr S g w a hsz hall hpart hRs hE hS hU hr⟩
    apply List.eq_nil_iff_forall_not_mem.2
    intro i hi
    rw [mem_ready] at hi
    have := hall i hi.1
    rw [← gd listed i hsz hi.1, hi.2.1] at this
    cases this
  | succ fuel ih =>
    intro listed fr S g w a hsz hcl hcount hpart hRs hE hS hU hr
    refine ⟨fun hnil => atEnd listed fr S g w a hsz (noReady listed hsz hnil) hpart hRs hE hS hU hr, fun k hk => ?_⟩
    rw [mem_ready] at hk
    obtain ⟨hks, hkl, hke⟩ := hk
    have hkl' : listed.getD k false = false := by rw [← gd listed k hsz hks]; exact hkl
    have ho : ops[k]? = some ops[k] := by simp [hks]
    generalize hok : ops[k] = o at ho
    obtain ⟨hdst, hfr, hg0, htr⟩ := hst k o ho
    have hke' := hke o ho
    have hanc : ∀ i ∈ (ancs ops).getD k [], listed.getD i false = true := anc_in hcl k k (Nat.le_refl _) o ho hke'
    have hdesc : ∀ i x, ops[i]? = some x → k ∈ (ancs ops).getD i [] → ¬ listed.getD i false = true := by
      intro i x hx hki hli
      have := anc_in hcl i i (Nat.le_refl _) x hx (fun e he hb => hcl i x hx hli e he hb) k hki
      simp only [hkl'] at this
      cases this
    -- slots that k writes or looks at
    have hslot : ∀ t, (o.dst = some t ∨ t ∈ o.looksAt ops) → ∀ i x, ops[i]? = some x → x.dst = some t → (listed.getD i false = true ↔ i < k) := by
      intro t ht i x hx hxd
      by_cases hik : i = k
      · subst hik
        simp only [hkl']
        constructor
        · intro h; cases h
        · intro h; omega
      · obtain ⟨h1, h2⟩ := slot_order hslots hik hx ho hxd ht
        constructor
        · intro hl
          rcases Nat.lt_or_ge i k with h | h
          · exact h
          · exact absurd hl (hdesc i x hx (h2 (by omega)))
        · intro h
          exact hanc i (h1 h)
    have hops : ∀ x ∈ o.op.operands, lkE fr x = lkE (frs k) x := by
      intro x hx
      cases x with
      | tmp t =>
        simp only [lkE]
        exact hpart t k (by omega) (hslot t (.inr (by
          unfold Oper.looksAt
          refine List.mem_append_left _ (List.mem_filterMap.2 ⟨.tmp t, by simpa using hx, rfl⟩))))
      | _ => rfl
    have hguard : guardM ops fr o = guardM ops (frs k) o := by
      unfold guardM
      cases hg : o.guard with
      | none => rfl
      | some p =>
        obtain ⟨j, want⟩ := p
        simp only
        cases hd : (ops[j]?).bind (·.dst) with
        | none => rfl
        | some d =>
          simp only
          rw [hpart d k (by omega) (hslot d (.inr (by
            unfold Oper.looksAt
            refine List.mem_append_right _ ?_
            simp [hg, hd])))]
    have hcall : callOf o fr = callOf o (frs k) := callOf_congr hops
    have hfp : fpOf o.op (lkE fr) = fpOf o.op (lkE (frs k)) := fpOf_congr hops
    -- the list with k
    have hlist : ∀ i, (listed.setIfInBounds k true).getD i false = true ↔ listed.getD i false = true ∨ i = k := by
      intro i
      by_cases hik : i = k
      · subst hik
        simp [show i < listed.size by omega]
      · simp only [Array.getD_eq_getD_getElem?, Array.getElem?_setIfInBounds]
        rw [if_neg (fun e => hik e.symm)]
        simp [hik]
    have hsz' : (listed.setIfInBounds k true).size = ops.size := by simpa using hsz
    have hcl' : Closed ops (fun i => (listed.setIfInBounds k true).getD i false = true) := by
      intro i x hx hi e he hb
      rw [hlist] at hi ⊢
      rcases hi with hi | rfl
      · exact .inl (hcl i x hx hi e he hb)
      · rw [ho] at hx
        injection hx with hx
        subst hx
        exact .inl (hke' e he hb)
    have hcount' : ((List.range ops.size).filter fun i => !(listed.setIfInBounds k true).getD i false).length ≤ fuel := by
      have := filter_lt (p := fun i => !listed.getD i false) (p' := fun i => !(listed.setIfInBounds k true).getD i false) (i := k) (l := List.range ops.size) (fun x hx => by
        have h1 : ¬ (listed.setIfInBounds k true).getD x false = true := by simpa using hx
        rw [hlist] at h1
        simp only [not_or] at h1
        simpa using h1.1) (by simpa using hks) (by simp only [hkl']; rfl) (by
        have : (listed.setIfInBounds k true).getD k false = true := (hlist k).2 (.inr rfl)
        simp only [this]; rfl)
      omega
    have hslot' : ∀ (t p : Nat), p ≤ ops.size → (∀ i x, ops[i]? = some x → x.dst = some t → ((listed.setIfInBounds k true).getD i false = true ↔ i < p)) → fsetO fr o.dst (vs k) t = frs p t := by
      intro t p hp hi
      by_cases hd : o.dst = some t
      · have hkp : k < p := (hi k o ho hd).1 ((hlist k).2 (.inr rfl))
        have hlast : frs p t = frs (k + 1) t := by
          refine chFrs hst (p - (k + 1)) (k + 1) p (by omega) hp fun i x hx h1 h2 hxd => ?_
          have hl := (hi i x hx hxd).2 h2
          rw [hlist] at hl
          rcases hl with hl | rfl
          · exact absurd ((hslot t (.inl hd) i x hx hxd).1 hl) (by omega)
          · omega
        rw [hlast, hfr, hd]
        simp [fsetO, fset]
      · have e1 : fsetO fr o.dst (vs k) t = fr t := by
          cases hdd : o.dst with
          | none => rfl
          | some d =>
            simp only [fsetO, fset]
            rw [if_neg (fun e => hd (by rw [hdd, e]))]
        rw [e1]
        refine hpart t p hp fun i x hx hxd => ?_
        rw [← hi i x hx hxd, hlist]
        constructor
        · exact .inl
        · rintro (h | rfl)
          · exact h
          · rw [ho] at hx; injection hx with hx; subst hx; exact absurd hxd hd
    -- the operation
    unfold wpOp
    simp only [ho]
    have hg : guardM ops fr o = some true := by rw [hguard]; exact hg0
    have hw := guardM_wanted hg hr
    rw [if_pos hw]
    left
    unfold Oper.wp
    rcases htr with ⟨he, hc, hfpn, hs, hRk⟩ | ⟨he, f, args, hc, hp, hC⟩
    · have hs' : stepF P [] o (lkE fr) (blkOf S.get (fpOf o.op (lkE fr))) S.next = some (vs k, .keep) := by
        rw [hfp, hfpn, stepF_congr hops]
        exact hs S.next
      obtain ⟨w', g', hrun, h1, h2, h3⟩ := stepF_sound (P := P) (fun x => hr.eval x) o hs' hS (fun hU' => by have := hU _ hU'; omega)
      have hRs' : ∀ p, p ≤ ops.size → (∀ i, i < ops.size → ef i = true → ((listed.setIfInBounds k true).getD i false = true ↔ i < p)) → Rs p { S with next := S.next + 1 } := by
        intro p hp hi
        refine hnx p S _ (hRs p hp fun i h4 h5 => ?_) (Nat.le_succ _)
        rw [← hi i h4 h5, hlist]
        constructor
        · exact .inl
        · rintro (h | rfl)
          · exact h
          · rw [he] at h5; cases h5
      have hUn : ∀ q, g'.U q → q < S.next + 1 := fun q hq => by
        rcases h3 q hq with h | h
        · have := hU q h; omega
        · omega
      rcases hrun with ⟨v', hrun, hv'⟩ | ⟨hrun, hv⟩
      · rw [hrun]
        simp only [Oper.upon_value]
        exact ih _ _ { S with next := S.next + 1 } g' w' _ hsz' hcl' hcount' hslot' hRs' (hE.trans h1) h2 hUn ((hr.mono h1).putO hdst hv')
      · rw [hrun]
        simp only [Oper.upon_skip]
        exact ih _ _ { S with next := S.next + 1 } g' w' _ hsz' hcl' hcount' hslot' hRs' (hE.trans h1) h2 hUn ((hr.mono h1).putO hdst (by rw [hv]; exact .undef _))
    · rw [← hcall] at hc
      have heff : ∀ i, i < ops.size → ef i = true → (listed.getD i false = true ↔ i < k) := by
        intro i hi hei
        by_cases hik : i = k
        · subst hik
          simp only [hkl']
          constructor
          · intro h; cases h
          · intro h; omega
        · constructor
          · intro hl
            rcases Nat.lt_or_ge i k with h | h
            · exact h
            · exact absurd hl (hdesc i ops[i] (by simp [hi]) (hord k i (by omega) hi he hei))
          · intro h
            exact hanc i (hord i k h hks hei he)
      have hRk := hRs k (by omega) heff
      unfold callOf at hc
      split at hc
      case h_2 => cases hc
      rename_i c hop
      split at hc
      case h_2 => cases hc
      rename_i fo hcal
      split at hc
      case h_2 => cases hc
      rename_i f' cs hf
      injection hc with hc
      injection hc with h1 h2
      subst h1 h2
      have hfv := hr.eval fo
      rw [hf] at hfv
      generalize hve : a.eval fo = fv at hfv
      cases hfv with
      | fn _ _ ws hvl hvr =>
        have hrun : (execOp a.eval o).run P w = .ok (.enter f' (c.args.map a.eval ++ ws)) w := by
          unfold isPlain at hp
          split at hp
          case h_2 => cases hp
          rename_i fn hfn
          simp at hp
          obtain ⟨hp1, hp2⟩ := hp
          have hb : ¬ fn.body = none := by intro hbb; simp [hbb] at hp2
          simp [execOp, hop, resolve, hcal, hve, Deferred.ofValue, invoke, callFunc, hfn, hp1, hb]
        rw [hrun]
        simp only [Oper.upon_enter]
        refine (hC S hRk g w (c.args.map a.eval ++ ws) hS hU ?_ ?_).mono ?_
        · simp [hvl]
        · intro j y hy
          have hcs : (c.args.map a.eval).size = (c.args.toList.map (lkE fr)).length := by simp
          rw [List.getElem?_append] at hy
          split at hy
          · rename_i hj
            simp only [List.getElem?_map, Option.map_eq_some_iff] at hy
            obtain ⟨x, hx, rfl⟩ := hy
            have hj' : j < c.args.size := by simpa using hj
            have hxx : c.args[j] = x := by simpa [hj'] using hx
            have : (c.args.map a.eval ++ ws).getD j undef = a.eval x := by
              simp [Array.getElem?_append, hj', hxx]
            rw [this]
            exact hr.eval x
          · rename_i hj
            have hj' : ¬ j < c.args.size := by simpa using hj
            have := hvr _ y hy
            have e : (c.args.map a.eval ++ ws).getD j undef = ws.getD (j - (c.args.toList.map (lkE fr)).length) undef := by
              simp [Array.getElem?_append, hj']
            rw [e]
            exact this
        · rintro e w' ⟨r', v', S', g', rfl, h1, h2, h3, h4, rfl, h6⟩
          simp only
          refine ih _ (fsetO fr o.dst (vs k)) S' g' w' _ hsz' hcl' hcount' hslot' (fun p hp hi => ?_) (hE.trans h1) h2 h3 ((hr.mono h1).putO hdst h4)
          have hkp : k < p := (hi k hks he).1 ((hlist k).2 (.inr rfl))
          refine (chRs hst (p - (k + 1)) (k + 1) p (by omega) hp fun i h7 h8 => ?_).1 h6
          cases hei : ef i with
          | false => rfl
          | true =>
            have h9 := (hi i (by omega) hei).2 h8
            rw [hlist] at h9
            rcases h9 with h9 | rfl
            · have := (heff i (by omega) hei).1 h9; omega
            · omega
theorem WpM.drawCh {P : Program} {n : Nat} {Q : Exit → Fr → St → Prop} {fr : Fr} {S : St} {id : Nat} {ops : Array Oper} (hm : P.follows .mixedOrders = true) (hslots : slotsOk ops = true) (hedges : edgesOk ops = true) (frs : Nat → Fr) (vs : Nat → V) (Rs : Nat → St → Prop) (ef : Nat → Bool)
    (hst : ChSteps P n ops frs vs Rs ef) (hnx : ∀ p S m, Rs p S → S.next ≤ m → Rs p { S with next := m }) (hord : ∀ i k, i < k → k < ops.size → ef i = true → ef k = true → i ∈ (ancs ops).getD k []) (h0 : frs 0 = fr) (hR : Rs 0 S) (hQ : ∀ S', Rs ops.size S' → Q .normal (frs ops.size) S') : WpM P n (.region id ops true) Q fr S := by
  intro g w a hi
  have hE : Ext g w g { w with drawn := w.drawn + 1 } := ⟨fun _ h => h, fun _ _ => rfl, fun _ h => h, fun _ _ => rfl, rfl, rfl, rfl, Nat.le_refl _⟩
  have hi' : Inv n g { w with drawn := w.drawn + 1 } fr S a := ⟨hi.rs.ext hE (fun _ _ _ _ => rfl) (fun b hb => ⟨hi.rs.ltF b hb, fun q hq hbq => (hi.rs.notF q b hq hbq).1 hb⟩), hi.lt, hi.rf.mono hE⟩
  have hrep : ∀ i, (Array.replicate ops.size false).getD i false = false := fun i => by
    simp only [Array.getD_eq_getD_getElem?, Array.getElem?_replicate]
    split <;> rfl
  refine wp_region_any hm (chain_sound hst hnx hord hslots hedges ?_ ops.size _ fr S g _ a (by simp) ?_ ?_ ?_ ?_ hE hi'.rs hi'.lt hi'.rf)
  · intro g' w' a' S' hE' hS' hU' hRs hr'
    exact ⟨frs ops.size, S', g', hE', ⟨hS', hU', hr'⟩, hQ S' hRs⟩
  · intro k o ho hk e he hb
    simp only [hrep] at hk
    cases hk
  · refine Nat.le_trans (List.length_filter_le _ _) (by simp)
  · intro t p hp hall
    rw [← h0]
    refine (chFrs hst p 0 p (by omega) hp fun i x hx h1 h2 hd => ?_).symm
    have := (hall i x hx hd).2 h2
    simp only [hrep] at this
    cases this
  · intro p hp hall
    refine (chRs hst p 0 p (by omega) hp fun i h1 h2 => ?_).1 hR
    cases he : ef i with
    | false => rfl
    | true =>
      have := (hall i (by omega) he).2 h2
      simp only [hrep] at this
      cases this
end Go.Proofs.Ytafeehlpmdligaa.M
/- A nil slice in a cell of a struct as pure data. -/
namespace Go.Proofs.Ytafeehlpmdligaa.M
open Go.RowKit
set_option linter.unusedVariables false
set_option linter.unusedSimpArgs false
theorem Upd.nilIn {n : Nat} {fr : Fr} {S : St} {K : Fr → St → Prop} (bx j : Nat) {cs : List V} (hb : S.get bx = some (.box cs)) (ht : cs[j]? = some .nil ∨ cs[j]? = some .e0) (h : Upd n fr (S.set bx (some (.box (cs.set j (.d (.sl [])))))) K) : Upd n fr S K := by
  intro g w a hi
  have hlen : j < cs.length := by rcases ht with ht | ht <;> exact (List.getElem?_eq_some_iff.1 ht).1
  obtain ⟨hU, b0, vs, tt, f1, f2, f3, f4⟩ := hi.rs.ok _ _ hb
  have hcell : RV g w (.d (.sl [])) (vs.getD j undef) := by
    rcases ht with ht | ht
    · have := f4 j _ ht
      generalize vs.getD j undef = v at this
      cases this
      exact .d (.slNil _ _)
    · have := f4 j _ ht
      generalize vs.getD j undef = v at this
      cases this
      exact .d (.slNil _ _)
  have hrs : RS g w (hset S.get bx (some (.box (cs.set j (.d (.sl [])))))) := by
    refine (hi.rs.write (w' := w) (k' := .box (cs.set j (.d (.sl [])))) hb f1 (fun _ _ => rfl) rfl rfl rfl rfl (fun _ => ⟨b0, vs, tt, f1, f2, by simpa using f3, fun j' y hy => ?_⟩)).2
    rw [List.getElem?_set] at hy
    split at hy
    · rename_i e
      subst e
      try rw [if_pos hlen] at hy
      injection hy with hy
      subst hy
      exact hcell
    · exact f4 j' y hy
  have hi' : Inv n g w fr (S.set bx (some (.box (cs.set j (.d (.sl [])))))) a := ⟨by rw [St.get_set]; exact hrs, hi.lt, hi.rf⟩
  exact h g w a hi'
/-- Nil cells of a struct in a row as pure data. -/
def nilC : V → V
  | .nil => .d (.sl [])
  | x => x
theorem nilC_rv {g : Gh} {w : World} {x : V} {v : Value} (h : RV g w x v) : RV g w (nilC x) v := by
  unfold nilC
  split
  · cases h
    exact .d (.slNil _ _)
  · exact h
theorem Upd.rowNil {n : Nat} {fr : Fr} {S : St} {K : Fr → St → Prop} (nm : Nat) {sz : Nat} {ys : List V} (hb : S.get nm = some (.row sz [.agg ys])) (h : Upd n fr (S.set nm (some (.row sz [mkAgg (ys.map nilC)]))) K) : Upd n fr S K := by
  intro g w a hi
  obtain ⟨hU, h1, h2, h3, h4⟩ := hi.rs.ok _ _ hb
  have hys : ys.length = sz := by simpa [V.cells] using h3 0 (.agg ys) rfl
  rcases h4 with ⟨_, h5⟩ | ⟨b0, vs, tt, f1, f2, f3, f4⟩
  · cases h5
  · have hcells : (mkAgg (ys.map nilC)).cells = ys.map nilC := by
      unfold mkAgg
      split
      · rename_i ds hd
        have := allD_some hd
        rw [this]
        rfl
      · rfl
    have hrs : RS g w (hset S.get nm (some (.row sz [mkAgg (ys.map nilC)]))) := by
      refine (hi.rs.write (w' := w) (k' := .row sz [mkAgg (ys.map nilC)]) hb f1 (fun _ _ => rfl) rfl rfl rfl rfl (fun _ => ⟨h1, by simpa using h2, fun i x hx => ?_, .inr ⟨b0, vs, tt, f1, f2, f3, fun i j x y hx hy => ?_⟩⟩)).2
      · cases i with
        | zero => simp at hx; subst hx; rw [hcells]; simpa using hys
        | succ i => simp at hx
      · cases i with
        | zero =>
          simp at hx
          subst hx
          rw [hcells, List.getElem?_map, Option.map_eq_some_iff] at hy
          obtain ⟨z, hz, rfl⟩ := hy
          exact nilC_rv (f4 0 j (.agg ys) z rfl hz)
        | succ i => simp at hx
    exact h g w a ⟨by rw [St.get_set]; exact hrs, hi.lt, hi.rf⟩
end Go.Proofs.Ytafeehlpmdligaa.M
