/- What comes in as data, opened: the cells of arguments as pure data. -/
import Derived.ProofKit
import Derived.SizedLaws
import Derived.WalkKit
import Derived.WalkSpells
import Derived.WalkLawsBesides
import Derived.BigGuardPart
import Derived.Test.YtjjmedgibcffhaaRMc
namespace Go.Proofs.Ytjjmedgibcffhaa.M
open Go.RowKit Go.MapKept
set_option linter.unusedSimpArgs false
set_option linter.unusedVariables false

/-- The cells of one value. -/
def CellsOf (F : Nat → Prop) (w : World) (d : D) (cs : List Value) : Prop := cs.length = d.cells.length ∧ ∀ (j : Nat) (y : D), d.cells[j]? = some y → RD F w y (cs.getD j undef)
theorem CellsOf.one {F : Nat → Prop} {w : World} {d : D} {cs : List Value} (h : CellsOf F w d cs) (hd : d.cells = [d]) : ∃ c, cs = [c] ∧ RD F w d c := by
  obtain ⟨h1, h2⟩ := h
  rw [hd] at h1 h2
  obtain ⟨c, rfl⟩ := List.length_eq_one_iff.1 h1
  exact ⟨c, rfl, h2 0 d rfl⟩
theorem CellsOf.of {F : Nat → Prop} {w : World} {d : D} {c : Value} (hd : d.cells = [d]) (h : RD F w d c) : CellsOf F w d [c] := by
  refine ⟨by rw [hd]; rfl, fun j y hy => ?_⟩
  rw [hd] at hy
  cases j with
  | zero => injection hy with hy; subst hy; exact h
  | succ j => cases hy

def OpensD {α : Type} (en : α → D) (V : α → Prop) (P : Program) (T : TypeId) : Prop :=
  ∀ {H : Type} {enc : TypeId × Value → H} {w : World} {base : Nat} {spare : Nat → Bool} {held : Bool} {fuel : Nat} {cs : List Value} {x : DataW H × List MemPlace},
    DataW.trod enc P w base spare held fuel T cs = some x → (∀ n ∈ x.1.weights P T, n ≤ reachBytes) → ∃ a, CellsOf (fun b => b < w.heap.size) w (en a) cs ∧ V a

def IntOk (k : IntKind) (n : Int) : Prop := (Lit.int k n).wf = true
section
variable {P : Program} {T : TypeId}
theorem opensD_int {k : IntKind} (hu : P.underlying T = some (.int k)) : OpensD (D.int k) (IntOk k) P T := by
  intro H enc w base spare held fuel cs x h _
  obtain ⟨n, rfl, _, hw⟩ := DataW.trod_int hu h
  exact ⟨n, .of rfl (.int k n), hw⟩
theorem opensD_bool (hu : P.underlying T = some .bool) : OpensD D.bool (fun _ => True) P T := by
  intro H enc w base spare held fuel cs x h _
  obtain ⟨b, rfl, _⟩ := DataW.trod_bool hu h
  exact ⟨b, .of rfl (.bool b), trivial⟩
theorem reach_val : reachBytes = 140737488351232 := by decide
theorem opensD_str (hu : P.underlying T = some .string) : OpensD D.str (fun s => s.size ≤ 140737488351232) P T := by
  intro H enc w base spare held fuel cs x h hz
  obtain ⟨s, rfl, rfl, _⟩ := DataW.trod_string hu h
  refine ⟨s, .of rfl (.str s), ?_⟩
  have := hz s.data.toList.length (by simp [DataW.weights])
  have h1 := Nat.le_trans this (Nat.le_of_lt reachBytes_lt)
  have h2 : s.data.toList.length = s.size := by rw [Array.length_toList]; rfl
  show s.size ≤ 140737488351232
  have h3 := reach_val
  omega

theorem add_plain (b o n : Nat) : (⟨b, o, none⟩ : Addr).add n = ⟨b, o + n, none⟩ := by
  unfold Addr.add
  split
  · rename_i h; subst h; rfl
  · rfl
theorem cells_of {w : World} {base : Nat} {a : Addr} {n : Nat} {cs : List Value} (h : w.cells? base a n = some cs) : base ≤ a.block ∧ cs.length = n ∧ ∀ j v, cs[j]? = some v → w.cell? (a.add j) = some v := by
  unfold World.cells? at h
  split at h
  · rename_i hb
    refine ⟨hb, by simpa using mapM_some_length h, fun j v hv => ?_⟩
    have hj : j < n := by
      have := mapM_some_length h
      have h2 := (List.getElem?_eq_some_iff.1 hv).1
      simp at this
      omega
    rw [← hv]
    exact mapM_some_get h j j (by simp [hj])
  · cases h
theorem weights_all {H : Type} {e : TypeId} {l : List (DataW H)} {d : DataW H} (h : d ∈ l) : ∀ n ∈ d.weights P e, n ∈ DataW.weightsAll P e l := by
  induction l with
  | nil => cases h
  | cons x l ih =>
    intro n hn
    simp only [DataW.weightsAll, List.mem_append]
    rcases List.mem_cons.1 h with rfl | h
    · exact .inl hn
    · exact .inr (ih h n hn)

def SlOk {α : Type} (V : α → Prop) (by_ : Nat) (xs : List α) : Prop := xs.length * by_ ≤ 140737488351232 ∧ ∀ x ∈ xs, V x
/-- A slice, element by element. -/
theorem opensD_sl {α : Type} {en : α → D} {V : α → Prop} {e : TypeId} {sz by_ : Nat} (hu : P.underlying T = some (.slice e)) (ho : OpensD en V P e) (hsz : P.cellsOf e = sz) (hby : P.bytesOf e = by_) (hs : 0 < sz) (hen : ∀ a, (en a).cells.length = sz) :
    OpensD (fun l : List α => D.sl (l.map en)) (SlOk V by_) P T := by
  intro H enc w base spare held fuel cs x h hz
  rcases DataW.trod_slice hu h with ⟨rfl, _⟩ | ⟨a, len, cap, elems, rest, n, _, rfl, rfl, hb, hl, hm, hlen, hel, _, _⟩
  · exact ⟨[], .of rfl (.slNil none 0), by simp [SlOk]⟩
  · have each : ∀ i (hi : i < len), ∃ y : α, V y ∧ ∃ cs, CellsOf (fun b => b < w.heap.size) w (en y) cs ∧ ∀ j v, cs[j]? = some v → w.cell? ((a.add (i * sz)).add j) = some v := by
      intro i hi
      have h1 := hel i hi
      rw [List.getElem?_eq_getElem (by omega), Option.bind_eq_some_iff, hsz] at h1
      obtain ⟨cs, hcs, htr⟩ := h1
      obtain ⟨_, _, hc⟩ := cells_of hcs
      obtain ⟨y, hK, hV⟩ := ho htr (fun n hn => hz n (by
        simp only [DataW.weights, hu, List.mem_cons, List.mem_append]
        exact .inr (.inl (weights_all (List.mem_map.2 ⟨_, List.getElem_mem _, rfl⟩) n hn))))
      exact ⟨y, hV, cs, hK, hc⟩
    classical
    let f : Fin len → α := fun i => Classical.choose (each i.1 i.2)
    have hf : ∀ i : Fin len, V (f i) ∧ ∃ cs, CellsOf (fun b => b < w.heap.size) w (en (f i)) cs ∧ ∀ j v, cs[j]? = some v → w.cell? ((a.add (i.1 * sz)).add j) = some v := fun i => Classical.choose_spec (each i.1 i.2)
    have hsize : len * by_ ≤ 140737488351232 := by
      have := hz ((elems.length + rest.length) * P.bytesOf e) (by simp [DataW.weights, hu])
      rw [hby, reach_val] at this
      refine Nat.le_trans (Nat.mul_le_mul_right _ ?_) this
      omega
    refine ⟨List.ofFn f, .of rfl ?_, by simpa using hsize, ?_⟩
    · rcases Nat.eq_zero_or_pos len with h0 | h0
      · subst h0
        have : List.ofFn f = [] := by simp
        rw [this]
        exact .slNil _ _
      · have hspot : a.spot = none ∧ a.block < w.heap.size := by
          obtain ⟨_, cs, hK, hc⟩ := hf ⟨0, h0⟩
          have hl0 := hK.1.trans (hen _)
          cases hcs : cs with
          | nil => rw [hcs] at hl0; simp at hl0; omega
          | cons v r =>
            have h1 := hc 0 v (by rw [hcs]; rfl)
            have e0 : (a.add (0 * sz)).add 0 = a := by rw [Nat.zero_mul]; rfl
            rw [e0] at h1
            refine ⟨?_, World.block_lt_of_cell? w _ h1⟩
            unfold World.cell? at h1
            split at h1
            · split at h1
              · cases h1
              · rename_i hs; cases hsp : a.spot with
                | none => rfl
                | some s => simp [hsp] at hs
            · cases h1
        obtain ⟨b, o, sp⟩ := a
        obtain ⟨hsp, hbl⟩ := hspot
        subst hsp
        have key : ∀ (i j : Nat) (x y : D), ((List.ofFn f).map en)[i]? = some x → x.cells[j]? = some y → ∃ v, w.cell? ⟨b, o + i * sz + j, none⟩ = some v ∧ RD (fun b => b < w.heap.size) w y v := by
          intro i j x y hx hy
          simp only [List.getElem?_map, Option.map_eq_some_iff] at hx
          obtain ⟨z, hz', rfl⟩ := hx
          have hi : i < len := by simpa using (List.getElem?_eq_some_iff.1 hz').1
          have hze : z = f ⟨i, hi⟩ := by
            rw [List.getElem?_eq_getElem (by simpa using hi)] at hz'
            injection hz' with hz'
            rw [← hz']
            simp
          subst hze
          obtain ⟨_, cs, hK, hc⟩ := hf ⟨i, hi⟩
          have hjl : j < cs.length := by rw [hK.1]; exact (List.getElem?_eq_some_iff.1 hy).1
          refine ⟨cs[j], ?_, ?_⟩
          · have := hc j cs[j] (by simp [hjl])
            rw [add_plain, add_plain] at this
            exact this
          · have := hK.2 j y hy
            simpa [List.getD, hjl] using this
        have hll : len = ((List.ofFn f).map en).length := by simp
        have hres : RD (fun b => b < w.heap.size) w (.sl ((List.ofFn f).map en)) (.slice (some ⟨b, o, none⟩) ((List.ofFn f).map en).length cap) := by
          refine .sl _ b o cap sz (fun i j => (w.cell? ⟨b, o + i * sz + j, none⟩).getD undef) hbl (by rw [← hll]; exact hl) (fun i x hx => ?_) (fun i j x y hx hy => ?_) (fun i j x y hx hy => ?_)
          · simp only [List.getElem?_map, Option.map_eq_some_iff] at hx
            obtain ⟨z, _, rfl⟩ := hx
            exact hen z
          · obtain ⟨v, h1, _⟩ := key i j x y hx hy
            rw [h1]; rfl
          · obtain ⟨v, h1, h2⟩ := key i j x y hx hy
            rw [h1]; exact h2
        rw [← hll] at hres
        exact hres
    · intro y hy
      obtain ⟨i, rfl⟩ := (List.mem_ofFn).1 hy
      exact (hf i).1

/-- A field of a struct. -/
theorem opens_field {fs : Array Field} (hu : P.underlying T = some (.struct fs)) {H : Type} {enc : TypeId × Value → H} {w : World} {base : Nat} {spare : Nat → Bool} {held : Bool} {fuel : Nat} {cs : List Value} {x : DataW H × List MemPlace}
    (h : DataW.trod enc P w base spare held fuel T cs = some x) (hz : ∀ n ∈ x.1.weights P T, n ≤ reachBytes) :
    cs.length = P.cellsOf T ∧ ∀ (i : Nat) (e off k : Nat), (fs[i]?).map (fun f => (f.type, f.offset)) = some (e, off) → P.cellsOf e = k → ∃ (m : Nat) (y : DataW H × List MemPlace), DataW.trod enc P w base spare held m e ((cs.drop off).take k) = some y ∧ ∀ n ∈ y.1.weights P e, n ≤ reachBytes := by
  obtain ⟨xs, n, _, rfl, hl, hlen, hf⟩ := DataW.trod_struct hu h
  refine ⟨hl, fun i e off k hi hk => ?_⟩
  obtain ⟨f, hfi, he⟩ := Option.map_eq_some_iff.1 hi
  injection he with he ho
  subst he ho hk
  have hil : i < fs.size := (Array.getElem?_eq_some_iff.1 hfi).1
  refine ⟨n, xs[i], ?_, fun m hm => hz m ?_⟩
  · rw [hf i f hfi, List.getElem?_eq_getElem]
  · simp only [DataW.weights, hu]
    refine DataW.weights_mem_each (j := i) (t := f.type) (d := xs[i].1) ?_ ?_ m hm
    · simp only [List.getElem?_map]
      rw [Array.getElem?_toList, hfi]
      rfl
    · simp [List.getElem?_map, List.getElem?_eq_getElem (show i < xs.length by omega)]

/-- Cells put together: a struct's. -/
inductive AllRD (F : Nat → Prop) (w : World) : List D → List Value → Prop
  | nil : AllRD F w [] []
  | cons {d : D} {c : Value} {ds : List D} {cs : List Value} (h : RD F w d c) (t : AllRD F w ds cs) : AllRD F w (d :: ds) (c :: cs)
theorem cells_agg {F : Nat → Prop} {w : World} : ∀ {ds : List D} {cs : List Value}, AllRD F w ds cs → CellsOf F w (.agg ds) cs := by
  intro ds cs h
  refine ⟨?_, ?_⟩
  · show cs.length = ds.length
    induction h with
    | nil => rfl
    | cons _ _ ih => simp [ih]
  · show ∀ (j : Nat) (y : D), ds[j]? = some y → _
    induction h with
    | nil => intro j y hy; simp at hy
    | cons h1 _ ih =>
      intro j y hy
      cases j with
      | zero => simp at hy; subst hy; exact h1
      | succ j => simp at hy; simpa using ih j y hy
theorem CellsOf.val {F : Nat → Prop} {w : World} {d : D} {c : Value} (h : CellsOf F w d [c]) (hd : d.cells = [d]) : RD F w d c := by
  obtain ⟨c', h1, h2⟩ := h.one hd
  injection h1 with h1 _
  rw [h1]; exact h2
end
end Go.Proofs.Ytjjmedgibcffhaa.M
/- Calls with effects: what they leave, told weaker. -/
namespace Go.Proofs.Ytjjmedgibcffhaa.M
open Go.RowKit
set_option linter.unusedVariables false
theorem CallM.le {P : Program} {f : FuncId} {args : List V} {S : St} {R R' : V → St → Prop} (h : CallM P f args S R) (hr : ∀ r S', R r S' → ∃ S'', S'.Le S'' ∧ R' r S'') : CallM P f args S R' := by
  intro g w vals h1 h2 h3 h4
  refine (h g w vals h1 h2 h3 h4).mono ?_
  rintro e w' ⟨r, v, S', g', e1, e2, e3, e4, e5, e6⟩
  obtain ⟨S'', hS, hR⟩ := hr r S' e6
  exact ⟨r, v, S'', g', e1, e2, e3.less hS.2, fun k hk => Nat.lt_of_lt_of_le (e4 k hk) hS.1, e5, hR⟩
/-- A call in a state that knows more. -/
theorem CallM.ge {P : Program} {f : FuncId} {args : List V} {S S0 : St} {R : V → St → Prop} (h : CallM P f args S0 R) (hS : S.Le S0) : CallM P f args S R := by
  intro g w vals h1 h2 h3 h4
  exact h g w vals (h1.less hS.2) (fun k hk => Nat.lt_of_lt_of_le (h2 k hk) hS.1) h3 h4
/-- The names of blocks that are known have been used. -/
theorem WpM.known {P : Program} {n : Nat} {c : Code} {Q : Exit → Fr → St → Prop} {fr : Fr} {S : St} (h : (∀ m k, S.get m = some k → m < S.next) → WpM P n c Q fr S) : WpM P n c Q fr S :=
  fun g w a hi => h (fun m k hk => hi.lt _ (hi.rs.ok m k hk).1) g w a hi
/-- The state as one map of blocks, by a name of its own. -/
theorem WpM.norm {P : Program} {n : Nat} {c : Code} {Q : Exit → Fr → St → Prop} {fr : Fr} {S : St} (h : ∀ nx H, nx = S.next → H = S.get → (∀ m k, H m = some k → m < nx) → WpM P n c Q fr ⟨nx, [], H⟩) : WpM P n c Q fr S := by
  refine WpM.known fun hk => ?_
  exact WpM.less (fr' := fr) (S' := ⟨S.next, [], S.get⟩) ⟨Nat.le_refl _, fun m k hk => hk⟩ (FrLe.refl _) (h _ _ rfl rfl hk)
theorem St.Le.norm (S : St) : S.Le ⟨S.next, [], S.get⟩ := ⟨Nat.le_refl _, fun m k hk => hk⟩
theorem St.Le.trans {S S' S'' : St} (a : S.Le S') (b : S'.Le S'') : S.Le S'' := ⟨Nat.le_trans a.1 b.1, fun m k h => a.2 m k (b.2 m k h)⟩
theorem CallM.known {P : Program} {f : FuncId} {args : List V} {S : St} {R : V → St → Prop} (h : (∀ m k, S.get m = some k → m < S.next) → CallM P f args S R) : CallM P f args S R :=
  fun g w vals h1 h2 h3 h4 => h (fun m k hk => h2 _ (h1.ok m k hk).1) g w vals h1 h2 h3 h4
end Go.Proofs.Ytjjmedgibcffhaa.M
/- Cuts: two ways that meet. -/
namespace Go.Proofs.Ytjjmedgibcffhaa.M
open Go.RowKit
set_option linter.unusedVariables false
set_option linter.unusedSimpArgs false
theorem Sub.le {l : List (Nat × V)} : ∀ {l' : List (Nat × V)}, Sub l l' → FrLe (frOf l) (frOf l')
  | [], _ => fun t => .inr rfl
  | (k, v) :: l', h => fun t => by
    simp only [frOf]
    split
    · rename_i e; subst e; exact .inl h.1.symm
    · exact h.2.le t
theorem z_push {d : Nat} {v : V} {l : List (Nat × V)} : fsetO (frOf l) (some d) v = frOf ((d, v) :: l) := by
  funext t; rfl
theorem z_none {t : Nat} : frOf [] t = .undef := rfl
section
variable {P : Program} {n : Nat} {Q : Exit → Fr → St → Prop} {fr : Fr} {S : St}
theorem WpM.regP (fz : List Nat) {id : Nat} {ops : Array Oper} (h : ∀ K : Fr → St → Prop, (∀ l l' S', Sub l l' → Q .normal (frOf l') S' → K (frOf l) S') → wpS P n fz ops ops.toList K fr S) : WpM P n (.region id ops false) Q fr S := by
  refine WpM.weak (WpM.region (h _ fun l l' S' hl hQ => ?_))
  exact ⟨_, S', hl.le, St.Le.refl _, hQ⟩
theorem WpM.regPE (fz : List Nat) {id : Nat} {ops : Array Oper} {l : List (Nat × V)} (l' : List (Nat × V)) {S' : St} (h : wpS P n fz ops ops.toList (fun f s => f = frOf l ∧ s = S') fr S) (hk : Sub l l') (hQ : Q .normal (frOf l') S') : WpM P n (.region id ops false) Q fr S := by
  have h1 : WpM P n (.region id ops false) (fun e f s => e = .normal ∧ f = frOf l ∧ s = S') fr S := WpM.region (Q := fun e f s => e = .normal ∧ f = frOf l ∧ s = S') (fz := fz) (by simpa using h)
  refine WpM.weak (h1.mono ?_)
  rintro e f s ⟨rfl, rfl, rfl⟩
  exact ⟨_, s, hk.le, St.Le.refl _, hQ⟩
theorem WpM.drwPE (fz : List Nat) {id : Nat} {ops : Array Oper} {l : List (Nat × V)} (l' : List (Nat × V)) {S' : St} (hm : P.follows .mixedOrders = true) (hslots : slotsOk ops = true) (hedges : edgesOk ops = true) (L : List (Nat × Nat)) (hL : unord ops = L)
    (h : wpD P n fz ops L S.next ops.toList (fun f s => f = frOf l ∧ s = S') fr S []) (hk : Sub l l') (hQ : Q .normal (frOf l') S') : WpM P n (.region id ops true) Q fr S := by
  have h1 : WpM P n (.region id ops true) (fun e f s => e = .normal ∧ f = frOf l ∧ s = S') fr S := WpM.draw (Q := fun e f s => e = .normal ∧ f = frOf l ∧ s = S') hm hslots hedges hL (by simpa using h)
  refine WpM.weak (h1.mono ?_)
  rintro e f s ⟨rfl, rfl, rfl⟩
  exact ⟨_, s, hk.le, St.Le.refl _, hQ⟩
theorem WpM.drwP (fz : List Nat) {id : Nat} {ops : Array Oper} (hm : P.follows .mixedOrders = true) (hslots : slotsOk ops = true) (hedges : edgesOk ops = true) (L : List (Nat × Nat)) (hL : unord ops = L)
    (h : ∀ K : Fr → St → Prop, (∀ l l' S', Sub l l' → Q .normal (frOf l') S' → K (frOf l) S') → wpD P n fz ops L S.next ops.toList K fr S []) : WpM P n (.region id ops true) Q fr S := by
  refine WpM.weak (WpM.draw hm hslots hedges hL (h _ fun l l' S' hl hQ => ?_))
  exact ⟨_, S', hl.le, St.Le.refl _, hQ⟩
end
theorem WpM.cut {P : Program} {n : Nat} {x y : Code} {Q : Exit → Fr → St → Prop} {fr : Fr} {S : St} (fr1 : Fr) (S1 : St) (h1 : WpM P n x (fun e fr' S' => e = .normal ∧ FrLe fr' fr1 ∧ S'.Le S1) fr S) (h2 : WpM P n y Q fr1 S1) : WpM P n (.seq x y) Q fr S := by
  refine WpM.seq (h1.mono ?_)
  rintro e fr' S' ⟨rfl, hf, hS⟩
  exact WpM.less hS hf h2
theorem WpM.meet {P : Program} {n : Nat} {x : Code} {Q : Exit → Fr → St → Prop} {fr : Fr} {S : St} (fr1 : Fr) (S1 : St) (h1 : WpM P n x (fun e fr' S' => e = .normal ∧ FrLe fr' fr1 ∧ S'.Le S1) fr S) (h2 : ∀ fr' S', FrLe fr' fr1 → S'.Le S1 → Q .normal fr' S') : WpM P n x Q fr S := by
  refine h1.mono ?_
  rintro e fr' S' ⟨rfl, hf, hS⟩
  exact h2 _ _ hf hS
/-- An empty slice against nil. -/
theorem wpS_cmp {P : Program} {n : Nat} {fz : List Nat} {ops : Array Oper} {o : Oper} {rest : List Oper} {K : Fr → St → Prop} {l : List (Nat × V)} {S : St} {t e q : TypeId} {x : Operand} (hd : dstOk n o.dst = true) (hg : guardM ops (frOf l) o = some true) (hc : callOf o (frOf l) = none)
    (ho : o.op = .binOp .eql t x (.const (.slice none 0 0)) q) (hx : lkE (frOf l) x = .d (.sl [])) (hu : P.underlying t = some (.slice e)) (h : ∀ b : Bool, wpS P n fz ops rest K (fsetO (frOf l) o.dst (.d (.bool b))) { S with next := S.next + 1 }) : wpS P n fz ops (o :: rest) K (frOf l) S := by
  have hs : ∀ blk nm, stepF P fz o (lkE (frOf l)) blk nm = none := fun blk nm => by
    have hk : lkE (frOf l) (.const (.slice none 0 0)) = .nil := rfl
    simp only [stepF, ownStep, stepF0, stepB, ho, hx, hk, evalBin, evalEqAgg, evalEqAgg0, eqTys, hu, Option.map_none]
  simp only [wpS, hg, hc, hs]
  exact ⟨hd, by simp [nilCmp, ho, hx, hu], h⟩
/-- A slice without room is pure data. -/
theorem Upd.pureNil {n : Nat} {fr : Fr} {S : St} {K : Fr → St → Prop} (t : Nat) (ht : fr t = .nil ∨ fr t = .e0) (h : Upd n (fset fr t (.d (.sl []))) S K) : Upd n fr S K := by
  intro g w a hi
  have hval : ∀ v, RV g w (fr t) v → RV g w (.d (.sl [])) v := by
    intro v hv
    rcases ht with e | e <;> rw [e] at hv <;> cases hv <;> exact .d (.slNil _ _)
  refine h g w a ⟨hi.rs, hi.lt, hi.rf.size, hi.rf.defers, fun t' ht' => ?_, fun t' ht' => ?_⟩
  · simp only [fset]
    split
    · rename_i e
      subst e
      exact hval _ (hi.rf.slot t' ht')
    · exact hi.rf.slot t' ht'
  · simp only [fset]
    split
    · rename_i e
      subst e
      have := hi.rf.out t' ht'
      rcases ht with e | e <;> rw [e] at this <;> cases this
    · exact hi.rf.out t' ht'
theorem allD_snoc (a_s : List D) (x : D) : allD (a_s.map V.d ++ [V.d x]) = some (a_s ++ [x]) := by
  rw [show a_s.map V.d ++ [V.d x] = (a_s ++ [x]).map V.d by simp, allD_map]
theorem wpD_fresh {P : Program} {n : Nat} {fz : List Nat} {ops : Array Oper} {L : List (Nat × Nat)} {b : Nat} {ms : List Met} {o : Oper} {rest : List Oper} {K : Fr → St → Prop} {l l' : List (Nat × V)} {S S' : St} {f : FuncId} {args : List V} {sz : Nat} {ds : List D} (hd : dstOk n o.dst = true) (hg : guardM ops (frOf l) o = some true) (hc : callOf o (frOf l) = some (f, args)) (hp : isPlain P f = true)
    (hF : FreshOn P f args sz ds [] S.get) (hf : fsetO (frOf l) o.dst (.ms (b + ms.length) sz 0 ds.length) = frOf l') (hS : S.set (b + ms.length) (some (.row sz (ds.map V.d))) = S') (h : wpD P n fz ops L b rest K (frOf l') S' (ms ++ [([], [b + ms.length])])) : wpD P n fz ops L b (o :: rest) K (frOf l) S ms := by
  simp only [wpD, hg, hc]
  exact ⟨hd, hp, .inr ⟨sz, ds, [], hF, by rw [hf, hS]; exact h⟩⟩
end Go.Proofs.Ytjjmedgibcffhaa.M
/- A nil slice in a cell of a struct as pure data. -/
namespace Go.Proofs.Ytjjmedgibcffhaa.M
open Go.RowKit
set_option linter.unusedVariables false
set_option linter.unusedSimpArgs false
theorem Upd.nilIn {n : Nat} {fr : Fr} {S : St} {K : Fr → St → Prop} (bx j : Nat) {cs : List V} (hb : S.get bx = some (.box cs)) (ht : cs[j]? = some .nil ∨ cs[j]? = some .e0) (h : Upd n fr (S.set bx (some (.box (cs.set j (.d (.sl [])))))) K) : Upd n fr S K := by
  intro g w a hi
  have hlen : j < cs.length := by rcases ht with ht | ht <;> exact (List.getElem?_eq_some_iff.1 ht).1
  obtain ⟨hU, b0, vs, tt, f1, f2, f3, f4⟩ := hi.rs.ok _ _ hb
  have hcell : RV g w (.d (.sl [])) (vs.getD j undef) := by
    rcases ht with ht | ht
    · have := f4 j _ ht
      generalize vs.getD j undef = v at this
      cases this
      exact .d (.slNil _ _)
    · have := f4 j _ ht
      generalize vs.getD j undef = v at this
      cases this
      exact .d (.slNil _ _)
  have hrs : RS g w (hset S.get bx (some (.box (cs.set j (.d (.sl [])))))) := by
    refine (hi.rs.write (w' := w) (k' := .box (cs.set j (.d (.sl [])))) hb f1 (fun _ _ => rfl) rfl rfl rfl rfl (fun _ => ⟨b0, vs, tt, f1, f2, by simpa using f3, fun j' y hy => ?_⟩)).2
    rw [List.getElem?_set] at hy
    split at hy
    · rename_i e
      subst e
      try rw [if_pos hlen] at hy
      injection hy with hy
      subst hy
      exact hcell
    · exact f4 j' y hy
  have hi' : Inv n g w fr (S.set bx (some (.box (cs.set j (.d (.sl [])))))) a := ⟨by rw [St.get_set]; exact hrs, hi.lt, hi.rf⟩
  exact h g w a hi'
/-- Nil cells of a struct in a row as pure data. -/
def nilC : V → V
  | .nil => .d (.sl [])
  | x => x
theorem nilC_rv {g : Gh} {w : World} {x : V} {v : Value} (h : RV g w x v) : RV g w (nilC x) v := by
  unfold nilC
  split
  · cases h
    exact .d (.slNil _ _)
  · exact h
theorem Upd.rowNil {n : Nat} {fr : Fr} {S : St} {K : Fr → St → Prop} (nm : Nat) {sz : Nat} {ys : List V} (hb : S.get nm = some (.row sz [.agg ys])) (h : Upd n fr (S.set nm (some (.row sz [mkAgg (ys.map nilC)]))) K) : Upd n fr S K := by
  intro g w a hi
  obtain ⟨hU, h1, h2, h3, h4⟩ := hi.rs.ok _ _ hb
  have hys : ys.length = sz := by simpa [V.cells] using h3 0 (.agg ys) rfl
  rcases h4 with ⟨_, h5⟩ | ⟨b0, vs, tt, f1, f2, f3, f4⟩
  · cases h5
  · have hcells : (mkAgg (ys.map nilC)).cells = ys.map nilC := by
      unfold mkAgg
      split
      · rename_i ds hd
        have := allD_some hd
        rw [this]
        rfl
      · rfl
    have hrs : RS g w (hset S.get nm (some (.row sz [mkAgg (ys.map nilC)]))) := by
      refine (hi.rs.write (w' := w) (k' := .row sz [mkAgg (ys.map nilC)]) hb f1 (fun _ _ => rfl) rfl rfl rfl rfl (fun _ => ⟨h1, by simpa using h2, fun i x hx => ?_, .inr ⟨b0, vs, tt, f1, f2, f3, fun i j x y hx hy => ?_⟩⟩)).2
      · cases i with
        | zero => simp at hx; subst hx; rw [hcells]; simpa using hys
        | succ i => simp at hx
      · cases i with
        | zero =>
          simp at hx
          subst hx
          rw [hcells, List.getElem?_map, Option.map_eq_some_iff] at hy
          obtain ⟨z, hz, rfl⟩ := hy
          exact nilC_rv (f4 0 j (.agg ys) z rfl hz)
        | succ i => simp at hx
    exact h g w a ⟨by rw [St.get_set]; exact hrs, hi.lt, hi.rf⟩
end Go.Proofs.Ytjjmedgibcffhaa.M
