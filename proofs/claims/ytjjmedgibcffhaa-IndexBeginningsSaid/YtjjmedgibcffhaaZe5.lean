/- Part 5 of the texts that stand behind this law. -/
import Derived.ProofKit
import Derived.SizedLaws
import Derived.WalkKit
import Derived.WalkSpells
import Derived.WalkLawsBesides
import Derived.BigGuardPart
import Derived.Test.YtjjmedgibcffhaaProg
import Derived.KernelRfl
import Derived.Test.YtjjmedgibcffhaaZe4
/- What comes in as data, opened: the cells of arguments as pure data. -/
namespace Go.Proofs.Ytjjmedgibcffhaa.M
open Go.RowKit Go.MapKept
set_option linter.unusedSimpArgs false
set_option linter.unusedVariables false

/-- The cells of one value. -/
def CellsOf (F : Nat → Prop) (w : World) (d : D) (cs : List Value) : Prop := cs.length = d.cells.length ∧ ∀ (j : Nat) (y : D), d.cells[j]? = some y → RD F w y (cs.getD j undef)
theorem CellsOf.one {F : Nat → Prop} {w : World} {d : D} {cs : List Value} (h : CellsOf F w d cs) (hd : d.cells = [d]) : ∃ c, cs = [c] ∧ RD F w d c := by
  obtain ⟨h1, h2⟩ := h
  rw [hd] at h1 h2
  obtain ⟨c, rfl⟩ := List.length_eq_one_iff.1 h1
  exact ⟨c, rfl, h2 0 d rfl⟩
theorem CellsOf.of {F : Nat → Prop} {w : World} {d : D} {c : Value} (hd : d.cells = [d]) (h : RD F w d c) : CellsOf F w d [c] := by
  refine ⟨by rw [hd]; rfl, fun j y hy => ?_⟩
  rw [hd] at hy
  cases j with
  | zero => injection hy with hy; subst hy; exact h
  | succ j => cases hy

def OpensD {α : Type} (en : α → D) (V : α → Prop) (P : Program) (T : TypeId) : Prop :=
  ∀ {H : Type} {enc : TypeId × Value → H} {w : World} {base : Nat} {spare : Nat → Bool} {held : Bool} {fuel : Nat} {cs : List Value} {x : DataW H × List MemPlace},
    DataW.trod enc P w base spare held fuel T cs = some x → (∀ n ∈ x.1.weights P T, n ≤ reachBytes) → ∃ a, CellsOf (fun b => b < w.heap.size) w (en a) cs ∧ V a

def IntOk (k : IntKind) (n : Int) : Prop := (Lit.int k n).wf = true
section
variable {P : Program} {T : TypeId}
theorem opensD_int {k : IntKind} (hu : P.underlying T = some (.int k)) : OpensD (D.int k) (IntOk k) P T := by
  intro H enc w base spare held fuel cs x h _
  obtain ⟨n, rfl, _, hw⟩ := DataW.trod_int hu h
  exact ⟨n, .of rfl (.int k n), hw⟩
theorem opensD_bool (hu : P.underlying T = some .bool) : OpensD D.bool (fun _ => True) P T := by
  intro H enc w base spare held fuel cs x h _
  obtain ⟨b, rfl, _⟩ := DataW.trod_bool hu h
  exact ⟨b, .of rfl (.bool b), trivial⟩
theorem reach_val : reachBytes = 140737488351232 := by decide
theorem opensD_str (hu : P.underlying T = some .string) : OpensD D.str (fun s => s.size ≤ 140737488351232) P T := by
  intro H enc w base spare held fuel cs x h hz
  obtain ⟨s, rfl, rfl, _⟩ := DataW.trod_string hu h
  refine ⟨s, .of rfl (.str s), ?_⟩
  have := hz s.data.toList.length (by simp [DataW.weights])
  have h1 := Nat.le_trans this (Nat.le_of_lt reachBytes_lt)
  have h2 : s.data.toList.length = s.size := by rw [Array.length_toList]; rfl
  show s.size ≤ 140737488351232
  have h3 := reach_val
  omega

theorem add_plain (b o n : Nat) : (⟨b, o, none⟩ : Addr).add n = ⟨b, o + n, none⟩ := by
  unfold Addr.add
  split
  · rename_i h; subst h; rfl
  · rfl
theorem cells_of {w : World} {base : Nat} {a : Addr} {n : Nat} {cs : List Value} (h : w.cells? base a n = some cs) : base ≤ a.block ∧ cs.length = n ∧ ∀ j v, cs[j]? = some v → w.cell? (a.add j) = some v := by
  unfold World.cells? at h
  split at h
  · rename_i hb
    refine ⟨hb, by simpa using mapM_some_length h, fun j v hv => ?_⟩
    have hj : j < n := by
      have := mapM_some_length h
      have h2 := (List.getElem?_eq_some_iff.1 hv).1
      simp at this
      omega
    rw [← hv]
    exact mapM_some_get h j j (by simp [hj])
  · cases h
theorem weights_all {H : Type} {e : TypeId} {l : List (DataW H)} {d : DataW H} (h : d ∈ l) : ∀ n ∈ d.weights P e, n ∈ DataW.weightsAll P e l := by
  induction l with
  | nil => cases h
  | cons x l ih =>
    intro n hn
    simp only [DataW.weightsAll, List.mem_append]
    rcases List.mem_cons.1 h with rfl | h
    · exact .inl hn
    · exact .inr (ih h n hn)

def SlOk {α : Type} (V : α → Prop) (by_ : Nat) (xs : List α) : Prop := xs.length * by_ ≤ 140737488351232 ∧ ∀ x ∈ xs, V x
/-- A slice, element by element. -/
theorem opensD_sl {α : Type} {en : α → D} {V : α → Prop} {e : TypeId} {sz by_ : Nat} (hu : P.underlying T = some (.slice e)) (ho : OpensD en V P e) (hsz : P.cellsOf e = sz) (hby : P.bytesOf e = by_) (hs : 0 < sz) (hen : ∀ a, (en a).cells.length = sz) :
    OpensD (fun l : List α => D.sl (l.map en)) (SlOk V by_) P T := by
  intro H enc w base spare held fuel cs x h hz
  rcases DataW.trod_slice hu h with ⟨rfl, _⟩ | ⟨a, len, cap, elems, rest, n, _, rfl, rfl, hb, hl, hm, hlen, hel, _, _⟩
  · exact ⟨[], .of rfl (.slNil none 0), by simp [SlOk]⟩
  · have each : ∀ i (hi : i < len), ∃ y : α, V y ∧ ∃ cs, CellsOf (fun b => b < w.heap.size) w (en y) cs ∧ ∀ j v, cs[j]? = some v → w.cell? ((a.add (i * sz)).add j) = some v := by
      intro i hi
      have h1 := hel i hi
      rw [List.getElem?_eq_getElem (by omega), Option.bind_eq_some_iff, hsz] at h1
      obtain ⟨cs, hcs, htr⟩ := h1
      obtain ⟨_, _, hc⟩ := cells_of hcs
      obtain ⟨y, hK, hV⟩ := ho htr (fun n hn => hz n (by
        simp only [DataW.weights, hu, List.mem_cons, List.mem_append]
        exact .inr (.inl (weights_all (List.mem_map.2 ⟨_, List.getElem_mem _, rfl⟩) n hn))))
      exact ⟨y, hV, cs, hK, hc⟩
    classical
    let f : Fin len → α := fun i => Classical.choose (each i.1 i.2)
    have hf : ∀ i : Fin len, V (f i) ∧ ∃ cs, CellsOf (fun b => b < w.heap.size) w (en (f i)) cs ∧ ∀ j v, cs[j]? = some v → w.cell? ((a.add (i.1 * sz)).add j) = some v := fun i => Classical.choose_spec (each i.1 i.2)
    have hsize : len * by_ ≤ 140737488351232 := by
      have := hz ((elems.length + rest.length) * P.bytesOf e) (by simp [DataW.weights, hu])
      rw [hby, reach_val] at this
      refine Nat.le_trans (Nat.mul_le_mul_right _ ?_) this
      omega
    refine ⟨List.ofFn f, .of rfl ?_, by simpa using hsize, ?_⟩
    · rcases Nat.eq_zero_or_pos len with h0 | h0
      · subst h0
        have : List.ofFn f = [] := by simp
        rw [this]
        exact .slNil _ _
      · have hspot : a.spot = none ∧ a.block < w.heap.size := by
          obtain ⟨_, cs, hK, hc⟩ := hf ⟨0, h0⟩
          have hl0 := hK.1.trans (hen _)
          cases hcs : cs with
          | nil => rw [hcs] at hl0; simp at hl0; omega
          | cons v r =>
            have h1 := hc 0 v (by rw [hcs]; rfl)
            have e0 : (a.add (0 * sz)).add 0 = a := by rw [Nat.zero_mul]; rfl
            rw [e0] at h1
            refine ⟨?_, World.block_lt_of_cell? w _ h1⟩
            unfold World.cell? at h1
            split at h1
            · split at h1
              · cases h1
              · rename_i hs; cases hsp : a.spot with
                | none => rfl
                | some s => simp [hsp] at hs
            · cases h1
        obtain ⟨b, o, sp⟩ := a
        obtain ⟨hsp, hbl⟩ := hspot
        subst hsp
        have key : ∀ (i j : Nat) (x y : D), ((List.ofFn f).map en)[i]? = some x → x.cells[j]? = some y → ∃ v, w.cell? ⟨b, o + i * sz + j, none⟩ = some v ∧ RD (fun b => b < w.heap.size) w y v := by
          intro i j x y hx hy
          simp only [List.getElem?_map, Option.map_eq_some_iff] at hx
          obtain ⟨z, hz', rfl⟩ := hx
          have hi : i < len := by simpa using (List.getElem?_eq_some_iff.1 hz').1
          have hze : z = f ⟨i, hi⟩ := by
            rw [List.getElem?_eq_getElem (by simpa using hi)] at hz'
            injection hz' with hz'
            rw [← hz']
            simp
          subst hze
          obtain ⟨_, cs, hK, hc⟩ := hf ⟨i, hi⟩
          have hjl : j < cs.length := by rw [hK.1]; exact (List.getElem?_eq_some_iff.1 hy).1
          refine ⟨cs[j], ?_, ?_⟩
          · have := hc j cs[j] (by simp [hjl])
            rw [add_plain, add_plain] at this
            exact this
          · have := hK.2 j y hy
            simpa [List.getD, hjl] using this
        have hll : len = ((List.ofFn f).map en).length := by simp
        have hres : RD (fun b => b < w.heap.size) w (.sl ((List.ofFn f).map en)) (.slice (some ⟨b, o, none⟩) ((List.ofFn f).map en).length cap) := by
          refine .sl _ b o cap sz (fun i j => (w.cell? ⟨b, o + i * sz + j, none⟩).getD undef) hbl (by rw [← hll]; exact hl) (fun i x hx => ?_) (fun i j x y hx hy => ?_) (fun i j x y hx hy => ?_)
          · simp only [List.getElem?_map, Option.map_eq_some_iff] at hx
            obtain ⟨z, _, rfl⟩ := hx
            exact hen z
          · obtain ⟨v, h1, _⟩ := key i j x y hx hy
            rw [h1]; rfl
          · obtain ⟨v, h1, h2⟩ := key i j x y hx hy
            rw [h1]; exact h2
        rw [← hll] at hres
        exact hres
    · intro y hy
      obtain ⟨i, rfl⟩ := (List.mem_ofFn).1 hy
      exact (hf i).1

/-- A field of a struct. -/
theorem opens_field {fs : Array Field} (hu : P.underlying T = some (.struct fs)) {H : Type} {enc : TypeId × Value → H} {w : World} {base : Nat} {spare : Nat → Bool} {held : Bool} {fuel : Nat} {cs : List Value} {x : DataW H × List MemPlace}
    (h : DataW.trod enc P w base spare held fuel T cs = some x) (hz : ∀ n ∈ x.1.weights P T, n ≤ reachBytes) :
    cs.length = P.cellsOf T ∧ ∀ (i : Nat) (e off k : Nat), (fs[i]?).map (fun f => (f.type, f.offset)) = some (e, off) → P.cellsOf e = k → ∃ (m : Nat) (y : DataW H × List MemPlace), DataW.trod enc P w base spare held m e ((cs.drop off).take k) = some y ∧ ∀ n ∈ y.1.weights P e, n ≤ reachBytes := by
  obtain ⟨xs, n, _, rfl, hl, hlen, hf⟩ := DataW.trod_struct hu h
  refine ⟨hl, fun i e off k hi hk => ?_⟩
  obtain ⟨f, hfi, he⟩ := Option.map_eq_some_iff.1 hi
  injection he with he ho
  subst he ho hk
  have hil : i < fs.size := (Array.getElem?_eq_some_iff.1 hfi).1
  refine ⟨n, xs[i], ?_, fun m hm => hz m ?_⟩
  · rw [hf i f hfi, List.getElem?_eq_getElem]
  · simp only [DataW.weights, hu]
    refine DataW.weights_mem_each (j := i) (t := f.type) (d := xs[i].1) ?_ ?_ m hm
    · simp only [List.getElem?_map]
      rw [Array.getElem?_toList, hfi]
      rfl
    · simp [List.getElem?_map, List.getElem?_eq_getElem (show i < xs.length by omega)]

/-- Cells put together: a struct's. -/
inductive AllRD (F : Nat → Prop) (w : World) : List D → List Value → Prop
  | nil : AllRD F w [] []
  | cons {d : D} {c : Value} {ds : List D} {cs : List Value} (h : RD F w d c) (t : AllRD F w ds cs) : AllRD F w (d :: ds) (c :: cs)
theorem cells_agg {F : Nat → Prop} {w : World} : ∀ {ds : List D} {cs : List Value}, AllRD F w ds cs → CellsOf F w (.agg ds) cs := by
  intro ds cs h
  refine ⟨?_, ?_⟩
  · show cs.length = ds.length
    induction h with
    | nil => rfl
    | cons _ _ ih => simp [ih]
  · show ∀ (j : Nat) (y : D), ds[j]? = some y → _
    induction h with
    | nil => intro j y hy; simp at hy
    | cons h1 _ ih =>
      intro j y hy
      cases j with
      | zero => simp at hy; subst hy; exact h1
      | succ j => simp at hy; simpa using ih j y hy
theorem CellsOf.val {F : Nat → Prop} {w : World} {d : D} {c : Value} (h : CellsOf F w d [c]) (hd : d.cells = [d]) : RD F w d c := by
  obtain ⟨c', h1, h2⟩ := h.one hd
  injection h1 with h1 _
  rw [h1]; exact h2
end
end Go.Proofs.Ytjjmedgibcffhaa.M
/- Calls with effects: what they leave, told weaker. -/
namespace Go.Proofs.Ytjjmedgibcffhaa.M
open Go.RowKit
set_option linter.unusedVariables false
theorem CallM.le {P : Program} {f : FuncId} {args : List V} {S : St} {R R' : V → St → Prop} (h : CallM P f args S R) (hr : ∀ r S', R r S' → ∃ S'', S'.Le S'' ∧ R' r S'') : CallM P f args S R' := by
  intro g w vals h1 h2 h3 h4
  refine (h g w vals h1 h2 h3 h4).mono ?_
  rintro e w' ⟨r, v, S', g', e1, e2, e3, e4, e5, e6⟩
  obtain ⟨S'', hS, hR⟩ := hr r S' e6
  exact ⟨r, v, S'', g', e1, e2, e3.less hS.2, fun k hk => Nat.lt_of_lt_of_le (e4 k hk) hS.1, e5, hR⟩
/-- A call in a state that knows more. -/
theorem CallM.ge {P : Program} {f : FuncId} {args : List V} {S S0 : St} {R : V → St → Prop} (h : CallM P f args S0 R) (hS : S.Le S0) : CallM P f args S R := by
  intro g w vals h1 h2 h3 h4
  exact h g w vals (h1.less hS.2) (fun k hk => Nat.lt_of_lt_of_le (h2 k hk) hS.1) h3 h4
/-- The names of blocks that are known have been used. -/
theorem WpM.known {P : Program} {n : Nat} {c : Code} {Q : Exit → Fr → St → Prop} {fr : Fr} {S : St} (h : (∀ m k, S.get m = some k → m < S.next) → WpM P n c Q fr S) : WpM P n c Q fr S :=
  fun g w a hi => h (fun m k hk => hi.lt _ (hi.rs.ok m k hk).1) g w a hi
/-- The state as one map of blocks, by a name of its own. -/
theorem WpM.norm {P : Program} {n : Nat} {c : Code} {Q : Exit → Fr → St → Prop} {fr : Fr} {S : St} (h : ∀ nx H, nx = S.next → H = S.get → (∀ m k, H m = some k → m < nx) → WpM P n c Q fr ⟨nx, [], H⟩) : WpM P n c Q fr S := by
  refine WpM.known fun hk => ?_
  exact WpM.less (fr' := fr) (S' := ⟨S.next, [], S.get⟩) ⟨Nat.le_refl _, fun m k hk => hk⟩ (FrLe.refl _) (h _ _ rfl rfl hk)
theorem St.Le.norm (S : St) : S.Le ⟨S.next, [], S.get⟩ := ⟨Nat.le_refl _, fun m k hk => hk⟩
theorem St.Le.trans {S S' S'' : St} (a : S.Le S') (b : S'.Le S'') : S.Le S'' := ⟨Nat.le_trans a.1 b.1, fun m k h => a.2 m k (b.2 m k h)⟩
theorem CallM.known {P : Program} {f : FuncId} {args : List V} {S : St} {R : V → St → Prop} (h : (∀ m k, S.get m = some k → m < S.next) → CallM P f args S R) : CallM P f args S R :=
  fun g w vals h1 h2 h3 h4 => h (fun m k hk => h2 _ (h1.ok m k hk).1) g w vals h1 h2 h3 h4
end Go.Proofs.Ytjjmedgibcffhaa.M
/- Cuts: two ways that meet. -/
namespace Go.Proofs.Ytjjmedgibcffhaa.M
open Go.RowKit
set_option linter.unusedVariables false
set_option linter.unusedSimpArgs false
theorem Sub.le {l : List (Nat × V)} : ∀ {l' : List (Nat × V)}, Sub l l' → FrLe (frOf l) (frOf l')
  | [], _ => fun t => .inr rfl
  | (k, v) :: l', h => fun t => by
    simp only [frOf]
    split
    · rename_i e; subst e; exact .inl h.1.symm
    · exact h.2.le t
theorem z_push {d : Nat} {v : V} {l : List (Nat × V)} : fsetO (frOf l) (some d) v = frOf ((d, v) :: l) := by
  funext t; rfl
theorem z_none {t : Nat} : frOf [] t = .undef := rfl
section
variable {P : Program} {n : Nat} {Q : Exit → Fr → St → Prop} {fr : Fr} {S : St}
theorem WpM.regP (fz : List Nat) {id : Nat} {ops : Array Oper} (h : ∀ K : Fr → St → Prop, (∀ l l' S', Sub l l' → Q .normal (frOf l') S' → K (frOf l) S') → wpS P n fz ops ops.toList K fr S) : WpM P n (.region id ops false) Q fr S := by
  refine WpM.weak (WpM.region (h _ fun l l' S' hl hQ => ?_))
  exact ⟨_, S', hl.le, St.Le.refl _, hQ⟩
theorem WpM.regPE (fz : List Nat) {id : Nat} {ops : Array Oper} {l : List (Nat × V)} (l' : List (Nat × V)) {S' : St} (h : wpS P n fz ops ops.toList (fun f s => f = frOf l ∧ s = S') fr S) (hk : Sub l l') (hQ : Q .normal (frOf l') S') : WpM P n (.region id ops false) Q fr S := by
  have h1 : WpM P n (.region id ops false) (fun e f s => e = .normal ∧ f = frOf l ∧ s = S') fr S := WpM.region (Q := fun e f s => e = .normal ∧ f = frOf l ∧ s = S') (fz := fz) (by simpa using h)
  refine WpM.weak (h1.mono ?_)
  rintro e f s ⟨rfl, rfl, rfl⟩
  exact ⟨_, s, hk.le, St.Le.refl _, hQ⟩
theorem WpM.drwPE (fz : List Nat) {id : Nat} {ops : Array Oper} {l : List (Nat × V)} (l' : List (Nat × V)) {S' : St} (hm : P.follows .mixedOrders = true) (hslots : slotsOk ops = true) (hedges : edgesOk ops = true) (L : List (Nat × Nat)) (hL : unord ops = L)
    (h : wpD P n fz ops L S.next ops.toList (fun f s => f = frOf l ∧ s = S') fr S []) (hk : Sub l l') (hQ : Q .normal (frOf l') S') : WpM P n (.region id ops true) Q fr S := by
  have h1 : WpM P n (.region id ops true) (fun e f s => e = .normal ∧ f = frOf l ∧ s = S') fr S := WpM.draw (Q := fun e f s => e = .normal ∧ f = frOf l ∧ s = S') hm hslots hedges hL (by simpa using h)
  refine WpM.weak (h1.mono ?_)
  rintro e f s ⟨rfl, rfl, rfl⟩
  exact ⟨_, s, hk.le, St.Le.refl _, hQ⟩
theorem WpM.drwP (fz : List Nat) {id : Nat} {ops : Array Oper} (hm : P.follows .mixedOrders = true) (hslots : slotsOk ops = true) (hedges : edgesOk ops = true) (L : List (Nat × Nat)) (hL : unord ops = L)
    (h : ∀ K : Fr → St → Prop, (∀ l l' S', Sub l l' → Q .normal (frOf l') S' → K (frOf l) S') → wpD P n fz ops L S.next ops.toList K fr S []) : WpM P n (.region id ops true) Q fr S := by
  refine WpM.weak (WpM.draw hm hslots hedges hL (h _ fun l l' S' hl hQ => ?_))
  exact ⟨_, S', hl.le, St.Le.refl _, hQ⟩
end
theorem WpM.cut {P : Program} {n : Nat} {x y : Code} {Q : Exit → Fr → St → Prop} {fr : Fr} {S : St} (fr1 : Fr) (S1 : St) (h1 : WpM P n x (fun e fr' S' => e = .normal ∧ FrLe fr' fr1 ∧ S'.Le S1) fr S) (h2 : WpM P n y Q fr1 S1) : WpM P n (.seq x y) Q fr S := by
  refine WpM.seq (h1.mono ?_)
  rintro e fr' S' ⟨rfl, hf, hS⟩
  exact WpM.less hS hf h2
theorem WpM.meet {P : Program} {n : Nat} {x : Code} {Q : Exit → Fr → St → Prop} {fr : Fr} {S : St} (fr1 : Fr) (S1 : St) (h1 : WpM P n x (fun e fr' S' => e = .normal ∧ FrLe fr' fr1 ∧ S'.Le S1) fr S) (h2 : ∀ fr' S', FrLe fr' fr1 → S'.Le S1 → Q .normal fr' S') : WpM P n x Q fr S := by
  refine h1.mono ?_
  rintro e fr' S' ⟨rfl, hf, hS⟩
  exact h2 _ _ hf hS
/-- An empty slice against nil. -/
theorem wpS_cmp {P : Program} {n : Nat} {fz : List Nat} {ops : Array Oper} {o : Oper} {rest : List Oper} {K : Fr → St → Prop} {l : List (Nat × V)} {S : St} {t e q : TypeId} {x : Operand} (hd : dstOk n o.dst = true) (hg : guardM ops (frOf l) o = some true) (hc : callOf o (frOf l) = none)
    (ho : o.op = .binOp .eql t x (.const (.slice none 0 0)) q) (hx : lkE (frOf l) x = .d (.sl [])) (hu : P.underlying t = some (.slice e)) (h : ∀ b : Bool, wpS P n fz ops rest K (fsetO (frOf l) o.dst (.d (.bool b))) { S with next := S.next + 1 }) : wpS P n fz ops (o :: rest) K (frOf l) S := by
  have hs : ∀ blk nm, stepF P fz o (lkE (frOf l)) blk nm = none := fun blk nm => by
    have hk : lkE (frOf l) (.const (.slice none 0 0)) = .nil := rfl
    simp only [stepF, ownStep, stepF0, stepB, ho, hx, hk, evalBin, evalEqAgg, evalEqAgg0, eqTys, hu, Option.map_none]
  simp only [wpS, hg, hc, hs]
  exact ⟨hd, by simp [nilCmp, ho, hx, hu], h⟩
/-- A slice without room is pure data. -/
theorem Upd.pureNil {n : Nat} {fr : Fr} {S : St} {K : Fr → St → Prop} (t : Nat) (ht : fr t = .nil ∨ fr t = .e0) (h : Upd n (fset fr t (.d (.sl []))) S K) : Upd n fr S K := by
  intro g w a hi
  have hval : ∀ v, RV g w (fr t) v → RV g w (.d (.sl [])) v := by
    intro v hv
    rcases ht with e | e <;> rw [e] at hv <;> cases hv <;> exact .d (.slNil _ _)
  refine h g w a ⟨hi.rs, hi.lt, hi.rf.size, hi.rf.defers, fun t' ht' => ?_, fun t' ht' => ?_⟩
  · simp only [fset]
    split
    · rename_i e
      subst e
      exact hval _ (hi.rf.slot t' ht')
    · exact hi.rf.slot t' ht'
  · simp only [fset]
    split
    · rename_i e
      subst e
      have := hi.rf.out t' ht'
      rcases ht with e | e <;> rw [e] at this <;> cases this
    · exact hi.rf.out t' ht'
theorem allD_snoc (a_s : List D) (x : D) : allD (a_s.map V.d ++ [V.d x]) = some (a_s ++ [x]) := by
  rw [show a_s.map V.d ++ [V.d x] = (a_s ++ [x]).map V.d by simp, allD_map]
theorem wpD_fresh {P : Program} {n : Nat} {fz : List Nat} {ops : Array Oper} {L : List (Nat × Nat)} {b : Nat} {ms : List Met} {o : Oper} {rest : List Oper} {K : Fr → St → Prop} {l l' : List (Nat × V)} {S S' : St} {f : FuncId} {args : List V} {sz : Nat} {ds : List D} (hd : dstOk n o.dst = true) (hg : guardM ops (frOf l) o = some true) (hc : callOf o (frOf l) = some (f, args)) (hp : isPlain P f = true)
    (hF : FreshOn P f args sz ds [] S.get) (hf : fsetO (frOf l) o.dst (.ms (b + ms.length) sz 0 ds.length) = frOf l') (hS : S.set (b + ms.length) (some (.row sz (ds.map V.d))) = S') (h : wpD P n fz ops L b rest K (frOf l') S' (ms ++ [([], [b + ms.length])])) : wpD P n fz ops L b (o :: rest) K (frOf l) S ms := by
  simp only [wpD, hg, hc]
  exact ⟨hd, hp, .inr ⟨sz, ds, [], hF, by rw [hf, hS]; exact h⟩⟩
end Go.Proofs.Ytjjmedgibcffhaa.M
/- What is known of the program's types: facts by looking. -/
namespace Go.Proofs.Ytjjmedgibcffhaa.M
open Go.RowKit
theorem ti2 : tinf Try.prog 2 = some ⟨1, 8, false, .int .i64 0⟩ := by kernel_rfl
theorem un2 : Try.prog.underlying 2 = some (.int .i64) := by kernel_rfl
theorem ti3 : tinf Try.prog 3 = some ⟨1, 8, false, .int .i64 0⟩ := by kernel_rfl
theorem un3 : Try.prog.underlying 3 = some (.int .i64) := by kernel_rfl
theorem ti4 : tinf Try.prog 4 = some ⟨1, 1, false, .bool false⟩ := by kernel_rfl
theorem ti5 : tinf Try.prog 5 = some ⟨1, 1, false, .int .u8 0⟩ := by kernel_rfl
theorem un5 : Try.prog.underlying 5 = some (.int .u8) := by kernel_rfl
theorem ti6 : tinf Try.prog 6 = some ⟨1, 1, false, .int .u8 0⟩ := by kernel_rfl
theorem un6 : Try.prog.underlying 6 = some (.int .u8) := by kernel_rfl
theorem ti7 : tinf Try.prog 7 = some ⟨4, 24, true, .agg #[(.int .i64 0), (.int .i64 0), (.bool false), (.int .u8 0)]⟩ := by kernel_rfl
theorem bo7 : bldOk Try.prog 7 = true := by kernel_rfl
theorem fo7_0 : fieldOf Try.prog 7 0 = some (0, 1) := by kernel_rfl
theorem fo7_1 : fieldOf Try.prog 7 1 = some (1, 1) := by kernel_rfl
theorem fo7_2 : fieldOf Try.prog 7 2 = some (2, 1) := by kernel_rfl
theorem fo7_3 : fieldOf Try.prog 7 3 = some (3, 1) := by kernel_rfl
theorem ti8 : tinf Try.prog 8 = some ⟨4, 24, true, .agg #[(.int .i64 0), (.int .i64 0), (.bool false), (.int .u8 0)]⟩ := by kernel_rfl
theorem bo8 : bldOk Try.prog 8 = true := by kernel_rfl
theorem fo8_0 : fieldOf Try.prog 8 0 = some (0, 1) := by kernel_rfl
theorem fo8_1 : fieldOf Try.prog 8 1 = some (1, 1) := by kernel_rfl
theorem fo8_2 : fieldOf Try.prog 8 2 = some (2, 1) := by kernel_rfl
theorem fo8_3 : fieldOf Try.prog 8 3 = some (3, 1) := by kernel_rfl
theorem ti9 : tinf Try.prog 9 = some ⟨1, 16, false, .string ⟨#[]⟩⟩ := by kernel_rfl
theorem un9 : Try.prog.underlying 9 = some .string := by kernel_rfl
theorem ti10 : tinf Try.prog 10 = some ⟨1, 16, false, .string ⟨#[]⟩⟩ := by kernel_rfl
theorem un10 : Try.prog.underlying 10 = some .string := by kernel_rfl
theorem ti11 : tinf Try.prog 11 = some ⟨1, 16, false, .string ⟨#[]⟩⟩ := by kernel_rfl
theorem un11 : Try.prog.underlying 11 = some .string := by kernel_rfl
theorem ti12 : tinf Try.prog 12 = some ⟨1, 8, false, .int .u64 0⟩ := by kernel_rfl
theorem un12 : Try.prog.underlying 12 = some (.int .u64) := by kernel_rfl
theorem ti13 : tinf Try.prog 13 = some ⟨2, 24, true, .agg #[(.string ⟨#[]⟩), (.int .u64 0)]⟩ := by kernel_rfl
theorem bo13 : bldOk Try.prog 13 = true := by kernel_rfl
theorem fo13_0 : fieldOf Try.prog 13 0 = some (0, 1) := by kernel_rfl
theorem fo13_1 : fieldOf Try.prog 13 1 = some (1, 1) := by kernel_rfl
theorem ti14 : tinf Try.prog 14 = some ⟨2, 24, true, .agg #[(.string ⟨#[]⟩), (.int .u64 0)]⟩ := by kernel_rfl
theorem bo14 : bldOk Try.prog 14 = true := by kernel_rfl
theorem fo14_0 : fieldOf Try.prog 14 0 = some (0, 1) := by kernel_rfl
theorem fo14_1 : fieldOf Try.prog 14 1 = some (1, 1) := by kernel_rfl
theorem ti15 : tinf Try.prog 15 = some ⟨1, 8, false, .pointer none⟩ := by kernel_rfl
theorem ti16 : tinf Try.prog 16 = some ⟨1, 8, false, .pointer none⟩ := by kernel_rfl
theorem ti17 : tinf Try.prog 17 = some ⟨1, 8, false, .pointer none⟩ := by kernel_rfl
theorem ti18 : tinf Try.prog 18 = some ⟨1, 8, true, .agg #[(.pointer none)]⟩ := by kernel_rfl
theorem bo18 : bldOk Try.prog 18 = true := by kernel_rfl
theorem fo18_0 : fieldOf Try.prog 18 0 = some (0, 1) := by kernel_rfl
theorem ti19 : tinf Try.prog 19 = some ⟨1, 8, true, .agg #[(.pointer none)]⟩ := by kernel_rfl
theorem bo19 : bldOk Try.prog 19 = true := by kernel_rfl
theorem fo19_0 : fieldOf Try.prog 19 0 = some (0, 1) := by kernel_rfl
theorem ti21 : tinf Try.prog 21 = some ⟨1, 4, false, .int .i32 0⟩ := by kernel_rfl
theorem un21 : Try.prog.underlying 21 = some (.int .i32) := by kernel_rfl
theorem ti22 : tinf Try.prog 22 = some ⟨1, 24, false, .slice none 0 0⟩ := by kernel_rfl
theorem se22 : selem Try.prog 22 = some 67 := by kernel_rfl
theorem un22 : Try.prog.underlying 22 = some (.slice 67) := by kernel_rfl
theorem ti23 : tinf Try.prog 23 = some ⟨3, 40, true, .agg #[(.int .i64 0), (.int .i64 0), (.slice none 0 0)]⟩ := by kernel_rfl
theorem bo23 : bldOk Try.prog 23 = true := by kernel_rfl
theorem fo23_0 : fieldOf Try.prog 23 0 = some (0, 1) := by kernel_rfl
theorem fo23_1 : fieldOf Try.prog 23 1 = some (1, 1) := by kernel_rfl
theorem fo23_2 : fieldOf Try.prog 23 2 = some (2, 1) := by kernel_rfl
theorem ti24 : tinf Try.prog 24 = some ⟨3, 40, true, .agg #[(.int .i64 0), (.int .i64 0), (.slice none 0 0)]⟩ := by kernel_rfl
theorem bo24 : bldOk Try.prog 24 = true := by kernel_rfl
theorem fo24_0 : fieldOf Try.prog 24 0 = some (0, 1) := by kernel_rfl
theorem fo24_1 : fieldOf Try.prog 24 1 = some (1, 1) := by kernel_rfl
theorem fo24_2 : fieldOf Try.prog 24 2 = some (2, 1) := by kernel_rfl
theorem ti27 : tinf Try.prog 27 = some ⟨1, 24, false, .slice none 0 0⟩ := by kernel_rfl
theorem se27 : selem Try.prog 27 = some 24 := by kernel_rfl
theorem un27 : Try.prog.underlying 27 = some (.slice 24) := by kernel_rfl
theorem ti28 : tinf Try.prog 28 = some ⟨1, 24, false, .slice none 0 0⟩ := by kernel_rfl
theorem se28 : selem Try.prog 28 = some 37 := by kernel_rfl
theorem un28 : Try.prog.underlying 28 = some (.slice 37) := by kernel_rfl
theorem ti29 : tinf Try.prog 29 = some ⟨1, 8, false, .int .i64 0⟩ := by kernel_rfl
theorem un29 : Try.prog.underlying 29 = some (.int .i64) := by kernel_rfl
theorem ti30 : tinf Try.prog 30 = some ⟨2, 16, true, .agg #[(.int .i64 0), (.int .i64 0)]⟩ := by kernel_rfl
theorem bo30 : bldOk Try.prog 30 = true := by kernel_rfl
theorem fo30_0 : fieldOf Try.prog 30 0 = some (0, 1) := by kernel_rfl
theorem fo30_1 : fieldOf Try.prog 30 1 = some (1, 1) := by kernel_rfl
theorem eq30 : eqTys Try.prog 30 = some [.int .i64, .int .i64] := by kernel_rfl
theorem ti31 : tinf Try.prog 31 = some ⟨2, 16, true, .agg #[(.int .i64 0), (.int .i64 0)]⟩ := by kernel_rfl
theorem bo31 : bldOk Try.prog 31 = true := by kernel_rfl
theorem fo31_0 : fieldOf Try.prog 31 0 = some (0, 1) := by kernel_rfl
theorem fo31_1 : fieldOf Try.prog 31 1 = some (1, 1) := by kernel_rfl
theorem eq31 : eqTys Try.prog 31 = some [.int .i64, .int .i64] := by kernel_rfl
theorem ti34 : tinf Try.prog 34 = some ⟨1, 24, false, .slice none 0 0⟩ := by kernel_rfl
theorem se34 : selem Try.prog 34 = some 4 := by kernel_rfl
theorem un34 : Try.prog.underlying 34 = some (.slice 4) := by kernel_rfl
theorem ti35 : tinf Try.prog 35 = some ⟨1, 8, false, .map none⟩ := by kernel_rfl
theorem mt35 : mapTy Try.prog 35 = some (.int .i64, 2, 3) := by kernel_rfl
theorem ti36 : tinf Try.prog 36 = some ⟨3, 24, true, .agg #[(.int .i64 0), (.int .i64 0), (.int .i64 0)]⟩ := by kernel_rfl
theorem bo36 : bldOk Try.prog 36 = true := by kernel_rfl
theorem fo36_0 : fieldOf Try.prog 36 0 = some (0, 1) := by kernel_rfl
theorem fo36_1 : fieldOf Try.prog 36 1 = some (1, 1) := by kernel_rfl
theorem fo36_2 : fieldOf Try.prog 36 2 = some (2, 1) := by kernel_rfl
theorem eq36 : eqTys Try.prog 36 = some [.int .i64, .int .i64, .int .i64] := by kernel_rfl
theorem ti37 : tinf Try.prog 37 = some ⟨3, 24, true, .agg #[(.int .i64 0), (.int .i64 0), (.int .i64 0)]⟩ := by kernel_rfl
theorem bo37 : bldOk Try.prog 37 = true := by kernel_rfl
theorem fo37_0 : fieldOf Try.prog 37 0 = some (0, 1) := by kernel_rfl
theorem fo37_1 : fieldOf Try.prog 37 1 = some (1, 1) := by kernel_rfl
theorem fo37_2 : fieldOf Try.prog 37 2 = some (2, 1) := by kernel_rfl
theorem eq37 : eqTys Try.prog 37 = some [.int .i64, .int .i64, .int .i64] := by kernel_rfl
theorem ti39 : tinf Try.prog 39 = some ⟨1, 8, false, .int .u64 0⟩ := by kernel_rfl
theorem un39 : Try.prog.underlying 39 = some (.int .u64) := by kernel_rfl
theorem ti41 : tinf Try.prog 41 = some ⟨1, 24, false, .slice none 0 0⟩ := by kernel_rfl
theorem se41 : selem Try.prog 41 = some 3 := by kernel_rfl
theorem un41 : Try.prog.underlying 41 = some (.slice 3) := by kernel_rfl
theorem ti44 : tinf Try.prog 44 = some ⟨1, 24, false, .slice none 0 0⟩ := by kernel_rfl
theorem se44 : selem Try.prog 44 = some 2 := by kernel_rfl
theorem un44 : Try.prog.underlying 44 = some (.slice 2) := by kernel_rfl
theorem ti50 : tinf Try.prog 50 = some ⟨1, 24, false, .slice none 0 0⟩ := by kernel_rfl
theorem se50 : selem Try.prog 50 = some 9 := by kernel_rfl
theorem un50 : Try.prog.underlying 50 = some (.slice 9) := by kernel_rfl
theorem ti51 : tinf Try.prog 51 = some ⟨1, 24, false, .slice none 0 0⟩ := by kernel_rfl
theorem se51 : selem Try.prog 51 = some 63 := by kernel_rfl
theorem un51 : Try.prog.underlying 51 = some (.slice 63) := by kernel_rfl
theorem ti52 : tinf Try.prog 52 = some ⟨2, 48, true, .agg #[(.slice none 0 0), (.slice none 0 0)]⟩ := by kernel_rfl
theorem bo52 : bldOk Try.prog 52 = true := by kernel_rfl
theorem fo52_0 : fieldOf Try.prog 52 0 = some (0, 1) := by kernel_rfl
theorem fo52_1 : fieldOf Try.prog 52 1 = some (1, 1) := by kernel_rfl
theorem ti53 : tinf Try.prog 53 = some ⟨2, 48, true, .agg #[(.slice none 0 0), (.slice none 0 0)]⟩ := by kernel_rfl
theorem bo53 : bldOk Try.prog 53 = true := by kernel_rfl
theorem fo53_0 : fieldOf Try.prog 53 0 = some (0, 1) := by kernel_rfl
theorem fo53_1 : fieldOf Try.prog 53 1 = some (1, 1) := by kernel_rfl
theorem ti60 : tinf Try.prog 60 = some ⟨1, 8, false, .map none⟩ := by kernel_rfl
theorem mt60 : mapTy Try.prog 60 = some (.str, 9, 3) := by kernel_rfl
theorem ti61 : tinf Try.prog 61 = some ⟨1, 24, false, .slice none 0 0⟩ := by kernel_rfl
theorem se61 : selem Try.prog 61 = some 65 := by kernel_rfl
theorem un61 : Try.prog.underlying 61 = some (.slice 65) := by kernel_rfl
theorem ti62 : tinf Try.prog 62 = some ⟨5, 56, true, .agg #[(.int .i64 0), (.int .i64 0), (.int .i64 0), (.int .i64 0), (.slice none 0 0)]⟩ := by kernel_rfl
theorem bo62 : bldOk Try.prog 62 = true := by kernel_rfl
theorem fo62_0 : fieldOf Try.prog 62 0 = some (0, 1) := by kernel_rfl
theorem fo62_1 : fieldOf Try.prog 62 1 = some (1, 1) := by kernel_rfl
theorem fo62_2 : fieldOf Try.prog 62 2 = some (2, 1) := by kernel_rfl
theorem fo62_3 : fieldOf Try.prog 62 3 = some (3, 1) := by kernel_rfl
theorem fo62_4 : fieldOf Try.prog 62 4 = some (4, 1) := by kernel_rfl
theorem ti63 : tinf Try.prog 63 = some ⟨5, 56, true, .agg #[(.int .i64 0), (.int .i64 0), (.int .i64 0), (.int .i64 0), (.slice none 0 0)]⟩ := by kernel_rfl
theorem bo63 : bldOk Try.prog 63 = true := by kernel_rfl
theorem fo63_0 : fieldOf Try.prog 63 0 = some (0, 1) := by kernel_rfl
theorem fo63_1 : fieldOf Try.prog 63 1 = some (1, 1) := by kernel_rfl
theorem fo63_2 : fieldOf Try.prog 63 2 = some (2, 1) := by kernel_rfl
theorem fo63_3 : fieldOf Try.prog 63 3 = some (3, 1) := by kernel_rfl
theorem fo63_4 : fieldOf Try.prog 63 4 = some (4, 1) := by kernel_rfl
theorem ti64 : tinf Try.prog 64 = some ⟨5, 56, true, .agg #[(.int .i64 0), (.int .i64 0), (.int .i64 0), (.bool false), (.slice none 0 0)]⟩ := by kernel_rfl
theorem bo64 : bldOk Try.prog 64 = true := by kernel_rfl
theorem fo64_0 : fieldOf Try.prog 64 0 = some (0, 1) := by kernel_rfl
theorem fo64_1 : fieldOf Try.prog 64 1 = some (1, 1) := by kernel_rfl
theorem fo64_2 : fieldOf Try.prog 64 2 = some (2, 1) := by kernel_rfl
theorem fo64_3 : fieldOf Try.prog 64 3 = some (3, 1) := by kernel_rfl
theorem fo64_4 : fieldOf Try.prog 64 4 = some (4, 1) := by kernel_rfl
theorem ti65 : tinf Try.prog 65 = some ⟨5, 56, true, .agg #[(.int .i64 0), (.int .i64 0), (.int .i64 0), (.bool false), (.slice none 0 0)]⟩ := by kernel_rfl
theorem bo65 : bldOk Try.prog 65 = true := by kernel_rfl
theorem fo65_0 : fieldOf Try.prog 65 0 = some (0, 1) := by kernel_rfl
theorem fo65_1 : fieldOf Try.prog 65 1 = some (1, 1) := by kernel_rfl
theorem fo65_2 : fieldOf Try.prog 65 2 = some (2, 1) := by kernel_rfl
theorem fo65_3 : fieldOf Try.prog 65 3 = some (3, 1) := by kernel_rfl
theorem fo65_4 : fieldOf Try.prog 65 4 = some (4, 1) := by kernel_rfl
theorem ti66 : tinf Try.prog 66 = some ⟨5, 64, true, .agg #[(.int .i64 0), (.string ⟨#[]⟩), (.int .i64 0), (.bool false), (.slice none 0 0)]⟩ := by kernel_rfl
theorem bo66 : bldOk Try.prog 66 = true := by kernel_rfl
theorem fo66_0 : fieldOf Try.prog 66 0 = some (0, 1) := by kernel_rfl
theorem fo66_1 : fieldOf Try.prog 66 1 = some (1, 1) := by kernel_rfl
theorem fo66_2 : fieldOf Try.prog 66 2 = some (2, 1) := by kernel_rfl
theorem fo66_3 : fieldOf Try.prog 66 3 = some (3, 1) := by kernel_rfl
theorem fo66_4 : fieldOf Try.prog 66 4 = some (4, 1) := by kernel_rfl
theorem ti67 : tinf Try.prog 67 = some ⟨5, 64, true, .agg #[(.int .i64 0), (.string ⟨#[]⟩), (.int .i64 0), (.bool false), (.slice none 0 0)]⟩ := by kernel_rfl
theorem bo67 : bldOk Try.prog 67 = true := by kernel_rfl
theorem fo67_0 : fieldOf Try.prog 67 0 = some (0, 1) := by kernel_rfl
theorem fo67_1 : fieldOf Try.prog 67 1 = some (1, 1) := by kernel_rfl
theorem fo67_2 : fieldOf Try.prog 67 2 = some (2, 1) := by kernel_rfl
theorem fo67_3 : fieldOf Try.prog 67 3 = some (3, 1) := by kernel_rfl
theorem fo67_4 : fieldOf Try.prog 67 4 = some (4, 1) := by kernel_rfl
theorem ti70 : tinf Try.prog 70 = some ⟨1, 8, false, .pointer none⟩ := by kernel_rfl
theorem ti82 : tinf Try.prog 82 = some ⟨1, 8, false, .pointer none⟩ := by kernel_rfl
theorem ti85 : tinf Try.prog 85 = some ⟨1, 8, false, .map none⟩ := by kernel_rfl
theorem mt85 : mapTy Try.prog 85 = some (.pair .i64, 108, 109) := by kernel_rfl
theorem ti86 : tinf Try.prog 86 = some ⟨1, 8, false, .map none⟩ := by kernel_rfl
theorem mt86 : mapTy Try.prog 86 = some (.str, 9, 41) := by kernel_rfl
theorem ti87 : tinf Try.prog 87 = some ⟨5, 72, true, .agg #[(.slice none 0 0), (.map none), (.slice none 0 0), (.map none), (.map none)]⟩ := by kernel_rfl
theorem bo87 : bldOk Try.prog 87 = true := by kernel_rfl
theorem fo87_0 : fieldOf Try.prog 87 0 = some (0, 1) := by kernel_rfl
theorem fo87_1 : fieldOf Try.prog 87 1 = some (1, 1) := by kernel_rfl
theorem fo87_2 : fieldOf Try.prog 87 2 = some (2, 1) := by kernel_rfl
theorem fo87_3 : fieldOf Try.prog 87 3 = some (3, 1) := by kernel_rfl
theorem fo87_4 : fieldOf Try.prog 87 4 = some (4, 1) := by kernel_rfl
theorem ti88 : tinf Try.prog 88 = some ⟨5, 72, true, .agg #[(.slice none 0 0), (.map none), (.slice none 0 0), (.map none), (.map none)]⟩ := by kernel_rfl
theorem bo88 : bldOk Try.prog 88 = true := by kernel_rfl
theorem fo88_0 : fieldOf Try.prog 88 0 = some (0, 1) := by kernel_rfl
theorem fo88_1 : fieldOf Try.prog 88 1 = some (1, 1) := by kernel_rfl
theorem fo88_2 : fieldOf Try.prog 88 2 = some (2, 1) := by kernel_rfl
theorem fo88_3 : fieldOf Try.prog 88 3 = some (3, 1) := by kernel_rfl
theorem fo88_4 : fieldOf Try.prog 88 4 = some (4, 1) := by kernel_rfl
theorem ti90 : tinf Try.prog 90 = some ⟨1, 8, false, .pointer none⟩ := by kernel_rfl
theorem ti91 : tinf Try.prog 91 = some ⟨1, 24, false, .slice none 0 0⟩ := by kernel_rfl
theorem se91 : selem Try.prog 91 = some 44 := by kernel_rfl
theorem un91 : Try.prog.underlying 91 = some (.slice 44) := by kernel_rfl
theorem ti92 : tinf Try.prog 92 = some ⟨5, 120, true, .agg #[(.slice none 0 0), (.slice none 0 0), (.slice none 0 0), (.slice none 0 0), (.slice none 0 0)]⟩ := by kernel_rfl
theorem bo92 : bldOk Try.prog 92 = true := by kernel_rfl
theorem fo92_0 : fieldOf Try.prog 92 0 = some (0, 1) := by kernel_rfl
theorem fo92_1 : fieldOf Try.prog 92 1 = some (1, 1) := by kernel_rfl
theorem fo92_2 : fieldOf Try.prog 92 2 = some (2, 1) := by kernel_rfl
theorem fo92_3 : fieldOf Try.prog 92 3 = some (3, 1) := by kernel_rfl
theorem fo92_4 : fieldOf Try.prog 92 4 = some (4, 1) := by kernel_rfl
theorem ti93 : tinf Try.prog 93 = some ⟨5, 120, true, .agg #[(.slice none 0 0), (.slice none 0 0), (.slice none 0 0), (.slice none 0 0), (.slice none 0 0)]⟩ := by kernel_rfl
theorem bo93 : bldOk Try.prog 93 = true := by kernel_rfl
theorem fo93_0 : fieldOf Try.prog 93 0 = some (0, 1) := by kernel_rfl
theorem fo93_1 : fieldOf Try.prog 93 1 = some (1, 1) := by kernel_rfl
theorem fo93_2 : fieldOf Try.prog 93 2 = some (2, 1) := by kernel_rfl
theorem fo93_3 : fieldOf Try.prog 93 3 = some (3, 1) := by kernel_rfl
theorem fo93_4 : fieldOf Try.prog 93 4 = some (4, 1) := by kernel_rfl
theorem ti107 : tinf Try.prog 107 = some ⟨2, 24, true, .agg #[(.string ⟨#[]⟩), (.int .i64 0)]⟩ := by kernel_rfl
theorem bo107 : bldOk Try.prog 107 = true := by kernel_rfl
theorem fo107_0 : fieldOf Try.prog 107 0 = some (0, 1) := by kernel_rfl
theorem fo107_1 : fieldOf Try.prog 107 1 = some (1, 1) := by kernel_rfl
theorem eq107 : eqTys Try.prog 107 = some [.string, .int .i64] := by kernel_rfl
theorem ti108 : tinf Try.prog 108 = some ⟨2, 24, true, .agg #[(.string ⟨#[]⟩), (.int .i64 0)]⟩ := by kernel_rfl
theorem bo108 : bldOk Try.prog 108 = true := by kernel_rfl
theorem fo108_0 : fieldOf Try.prog 108 0 = some (0, 1) := by kernel_rfl
theorem fo108_1 : fieldOf Try.prog 108 1 = some (1, 1) := by kernel_rfl
theorem eq108 : eqTys Try.prog 108 = some [.string, .int .i64] := by kernel_rfl
theorem ti109 : tinf Try.prog 109 = some ⟨0, 0, true, .agg #[]⟩ := by kernel_rfl
theorem bo109 : bldOk Try.prog 109 = true := by kernel_rfl
theorem eq109 : eqTys Try.prog 109 = some [] := by kernel_rfl
theorem ti119 : tinf Try.prog 119 = some ⟨4, 40, true, .agg #[(.pointer none), (.pointer none), (.pointer none), (.string ⟨#[]⟩)]⟩ := by kernel_rfl
theorem bo119 : bldOk Try.prog 119 = true := by kernel_rfl
theorem fo119_0 : fieldOf Try.prog 119 0 = some (0, 1) := by kernel_rfl
theorem fo119_1 : fieldOf Try.prog 119 1 = some (1, 1) := by kernel_rfl
theorem fo119_2 : fieldOf Try.prog 119 2 = some (2, 1) := by kernel_rfl
theorem fo119_3 : fieldOf Try.prog 119 3 = some (3, 1) := by kernel_rfl
theorem ti120 : tinf Try.prog 120 = some ⟨4, 40, true, .agg #[(.pointer none), (.pointer none), (.pointer none), (.string ⟨#[]⟩)]⟩ := by kernel_rfl
theorem bo120 : bldOk Try.prog 120 = true := by kernel_rfl
theorem fo120_0 : fieldOf Try.prog 120 0 = some (0, 1) := by kernel_rfl
theorem fo120_1 : fieldOf Try.prog 120 1 = some (1, 1) := by kernel_rfl
theorem fo120_2 : fieldOf Try.prog 120 2 = some (2, 1) := by kernel_rfl
theorem fo120_3 : fieldOf Try.prog 120 3 = some (3, 1) := by kernel_rfl
theorem ti122 : tinf Try.prog 122 = some ⟨0, 0, true, .agg #[]⟩ := by kernel_rfl
theorem bo122 : bldOk Try.prog 122 = true := by kernel_rfl
theorem ti123 : tinf Try.prog 123 = some ⟨0, 0, true, .agg #[]⟩ := by kernel_rfl
theorem bo123 : bldOk Try.prog 123 = true := by kernel_rfl
theorem ti125 : tinf Try.prog 125 = some ⟨1, 4, false, .int .u32 0⟩ := by kernel_rfl
theorem un125 : Try.prog.underlying 125 = some (.int .u32) := by kernel_rfl
theorem ti126 : tinf Try.prog 126 = some ⟨1, 1, false, .int .u8 0⟩ := by kernel_rfl
theorem un126 : Try.prog.underlying 126 = some (.int .u8) := by kernel_rfl
theorem ti127 : tinf Try.prog 127 = some ⟨1, 1, false, .int .u8 0⟩ := by kernel_rfl
theorem un127 : Try.prog.underlying 127 = some (.int .u8) := by kernel_rfl
theorem ti129 : tinf Try.prog 129 = some ⟨1, 8, false, .pointer none⟩ := by kernel_rfl
theorem ti130 : tinf Try.prog 130 = some ⟨1, 4, false, .int .i32 0⟩ := by kernel_rfl
theorem un130 : Try.prog.underlying 130 = some (.int .i32) := by kernel_rfl
theorem ti131 : tinf Try.prog 131 = some ⟨1, 4, false, .int .i32 0⟩ := by kernel_rfl
theorem un131 : Try.prog.underlying 131 = some (.int .i32) := by kernel_rfl
theorem ti132 : tinf Try.prog 132 = some ⟨11, 48, true, .agg #[(.int .u64 0), (.int .u64 0), (.int .u32 0), (.int .u8 0), (.int .u8 0), (.int .u8 0), (.int .u8 0), .nilFunc, (.pointer none), (.int .i32 0), (.int .i32 0)]⟩ := by kernel_rfl
theorem bo132 : bldOk Try.prog 132 = true := by kernel_rfl
theorem fo132_0 : fieldOf Try.prog 132 0 = some (0, 1) := by kernel_rfl
theorem fo132_1 : fieldOf Try.prog 132 1 = some (1, 1) := by kernel_rfl
theorem fo132_2 : fieldOf Try.prog 132 2 = some (2, 1) := by kernel_rfl
theorem fo132_3 : fieldOf Try.prog 132 3 = some (3, 1) := by kernel_rfl
theorem fo132_4 : fieldOf Try.prog 132 4 = some (4, 1) := by kernel_rfl
theorem fo132_5 : fieldOf Try.prog 132 5 = some (5, 1) := by kernel_rfl
theorem fo132_6 : fieldOf Try.prog 132 6 = some (6, 1) := by kernel_rfl
theorem fo132_7 : fieldOf Try.prog 132 7 = some (7, 1) := by kernel_rfl
theorem fo132_8 : fieldOf Try.prog 132 8 = some (8, 1) := by kernel_rfl
theorem fo132_9 : fieldOf Try.prog 132 9 = some (9, 1) := by kernel_rfl
theorem fo132_10 : fieldOf Try.prog 132 10 = some (10, 1) := by kernel_rfl
theorem ti133 : tinf Try.prog 133 = some ⟨11, 48, true, .agg #[(.int .u64 0), (.int .u64 0), (.int .u32 0), (.int .u8 0), (.int .u8 0), (.int .u8 0), (.int .u8 0), .nilFunc, (.pointer none), (.int .i32 0), (.int .i32 0)]⟩ := by kernel_rfl
theorem bo133 : bldOk Try.prog 133 = true := by kernel_rfl
theorem fo133_0 : fieldOf Try.prog 133 0 = some (0, 1) := by kernel_rfl
theorem fo133_1 : fieldOf Try.prog 133 1 = some (1, 1) := by kernel_rfl
theorem fo133_2 : fieldOf Try.prog 133 2 = some (2, 1) := by kernel_rfl
theorem fo133_3 : fieldOf Try.prog 133 3 = some (3, 1) := by kernel_rfl
theorem fo133_4 : fieldOf Try.prog 133 4 = some (4, 1) := by kernel_rfl
theorem fo133_5 : fieldOf Try.prog 133 5 = some (5, 1) := by kernel_rfl
theorem fo133_6 : fieldOf Try.prog 133 6 = some (6, 1) := by kernel_rfl
theorem fo133_7 : fieldOf Try.prog 133 7 = some (7, 1) := by kernel_rfl
theorem fo133_8 : fieldOf Try.prog 133 8 = some (8, 1) := by kernel_rfl
theorem fo133_9 : fieldOf Try.prog 133 9 = some (9, 1) := by kernel_rfl
theorem fo133_10 : fieldOf Try.prog 133 10 = some (10, 1) := by kernel_rfl
theorem ip3 : isPlain Try.prog 3 = true := by kernel_rfl
theorem ip4 : isPlain Try.prog 4 = true := by kernel_rfl
theorem ip5 : isPlain Try.prog 5 = true := by kernel_rfl
theorem ip6 : isPlain Try.prog 6 = true := by kernel_rfl
theorem ip7 : isPlain Try.prog 7 = true := by kernel_rfl
theorem ip8 : isPlain Try.prog 8 = true := by kernel_rfl
theorem ip9 : isPlain Try.prog 9 = true := by kernel_rfl
theorem ip10 : isPlain Try.prog 10 = true := by kernel_rfl
theorem ip11 : isPlain Try.prog 11 = true := by kernel_rfl
theorem ip12 : isPlain Try.prog 12 = true := by kernel_rfl
theorem ip13 : isPlain Try.prog 13 = true := by kernel_rfl
theorem ip14 : isPlain Try.prog 14 = true := by kernel_rfl
theorem ip15 : isPlain Try.prog 15 = true := by kernel_rfl
theorem ip16 : isPlain Try.prog 16 = true := by kernel_rfl
theorem ip17 : isPlain Try.prog 17 = true := by kernel_rfl
theorem ip18 : isPlain Try.prog 18 = true := by kernel_rfl
theorem ip19 : isPlain Try.prog 19 = true := by kernel_rfl
theorem ip20 : isPlain Try.prog 20 = true := by kernel_rfl
theorem ip21 : isPlain Try.prog 21 = true := by kernel_rfl
theorem ip22 : isPlain Try.prog 22 = true := by kernel_rfl
theorem ip23 : isPlain Try.prog 23 = true := by kernel_rfl
theorem ip24 : isPlain Try.prog 24 = true := by kernel_rfl
theorem ip25 : isPlain Try.prog 25 = true := by kernel_rfl
theorem ip26 : isPlain Try.prog 26 = true := by kernel_rfl
theorem ip27 : isPlain Try.prog 27 = true := by kernel_rfl
theorem ip28 : isPlain Try.prog 28 = true := by kernel_rfl
theorem ip29 : isPlain Try.prog 29 = true := by kernel_rfl
theorem ip30 : isPlain Try.prog 30 = true := by kernel_rfl
theorem ip31 : isPlain Try.prog 31 = true := by kernel_rfl
theorem ip32 : isPlain Try.prog 32 = true := by kernel_rfl
theorem ip33 : isPlain Try.prog 33 = true := by kernel_rfl
theorem ip34 : isPlain Try.prog 34 = true := by kernel_rfl
theorem ip35 : isPlain Try.prog 35 = true := by kernel_rfl
theorem ip36 : isPlain Try.prog 36 = true := by kernel_rfl
theorem ip37 : isPlain Try.prog 37 = true := by kernel_rfl
theorem ip38 : isPlain Try.prog 38 = true := by kernel_rfl
theorem ip39 : isPlain Try.prog 39 = true := by kernel_rfl
theorem ip40 : isPlain Try.prog 40 = true := by kernel_rfl
theorem ip41 : isPlain Try.prog 41 = true := by kernel_rfl
theorem ip42 : isPlain Try.prog 42 = true := by kernel_rfl
theorem ip43 : isPlain Try.prog 43 = true := by kernel_rfl
theorem ip44 : isPlain Try.prog 44 = true := by kernel_rfl
theorem ip45 : isPlain Try.prog 45 = true := by kernel_rfl
theorem ip46 : isPlain Try.prog 46 = true := by kernel_rfl
theorem ip47 : isPlain Try.prog 47 = true := by kernel_rfl
theorem ip48 : isPlain Try.prog 48 = true := by kernel_rfl
theorem ip49 : isPlain Try.prog 49 = true := by kernel_rfl
theorem ip50 : isPlain Try.prog 50 = true := by kernel_rfl
theorem ip51 : isPlain Try.prog 51 = true := by kernel_rfl
theorem ip52 : isPlain Try.prog 52 = true := by kernel_rfl
theorem ip53 : isPlain Try.prog 53 = true := by kernel_rfl
theorem ip54 : isPlain Try.prog 54 = true := by kernel_rfl
theorem ip55 : isPlain Try.prog 55 = true := by kernel_rfl
theorem ip56 : isPlain Try.prog 56 = true := by kernel_rfl
theorem ip57 : isPlain Try.prog 57 = true := by kernel_rfl
theorem ip58 : isPlain Try.prog 58 = true := by kernel_rfl
theorem ip59 : isPlain Try.prog 59 = true := by kernel_rfl
theorem ip60 : isPlain Try.prog 60 = true := by kernel_rfl
theorem ip61 : isPlain Try.prog 61 = true := by kernel_rfl
theorem ip62 : isPlain Try.prog 62 = true := by kernel_rfl
theorem ip63 : isPlain Try.prog 63 = true := by kernel_rfl
theorem ip64 : isPlain Try.prog 64 = true := by kernel_rfl
theorem ip65 : isPlain Try.prog 65 = true := by kernel_rfl
theorem ip66 : isPlain Try.prog 66 = true := by kernel_rfl
theorem ip67 : isPlain Try.prog 67 = true := by kernel_rfl
theorem ip68 : isPlain Try.prog 68 = true := by kernel_rfl
theorem ip69 : isPlain Try.prog 69 = true := by kernel_rfl
theorem ip70 : isPlain Try.prog 70 = true := by kernel_rfl
theorem ip71 : isPlain Try.prog 71 = true := by kernel_rfl
theorem mixed : Try.prog.follows .mixedOrders = true := by kernel_rfl
end Go.Proofs.Ytjjmedgibcffhaa.M
/- The steps of walks: what simp knows, and one lemma for each kind of operation. -/
namespace Go.Proofs.Ytjjmedgibcffhaa
open Go.RowKit M
set_option linter.unusedVariables false
attribute [go_sem] wpS wpD dstOk guardM callOf stepF ownStep stepF0 evalBuildOwn stepB fpOf blkOf
attribute [go_sem] refOf lkE ofConst ofScalar mkAgg allD allD_map evalBin evalUn evalConv evalMax evalExtract
attribute [go_sem] evalFieldAddr evalIndexAddr evalIndex evalSlice bnd intOf? evalBuild fillV setRange evalBuildSlice evalBuildSlice0 nilD
attribute [go_sem] isEnum evalLoad loadV cellsAt evalStore storeB ofCells evalLookup evalUpdate builtinB evalLen evalAppend
attribute [go_sem] baseOf srcD evalMakeSlice evalEqAgg evalEqAgg0 eqCells scEq zeroCs evalEqAgg0 V.cells D.cells V.firm
attribute [go_sem] V.one D.one okEl_int okEl_bool okEl_str okEl_sl okEl_nil okEl_agg allD_mapf frOf_at frOf_nil frKeep
attribute [go_sem] memN argL frPut fset_frOf fsetO Eff.st Eff.touch st_get st_set lget_eq lget_ne lget_nil
attribute [go_sem] lput_eq lput_ne lput_nil lget_lput_eq lget_lput_ne lo_nil lo_cons lo_lput Nat.add_assoc Int.natCast_inj ti2 un2
attribute [go_sem] ti3 un3 ti4 ti5 un5 ti6 un6 ti7 bo7 fo7_0 fo7_1 fo7_2
attribute [go_sem] fo7_3 ti8 bo8 fo8_0 fo8_1 fo8_2 fo8_3 ti9 un9 ti10 un10 ti11
attribute [go_sem] un11 ti12 un12 ti13 bo13 fo13_0 fo13_1 ti14 bo14 fo14_0 fo14_1 ti15
attribute [go_sem] ti16 ti17 ti18 bo18 fo18_0 ti19 bo19 fo19_0 ti21 un21 ti22 se22
attribute [go_sem] un22 ti23 bo23 fo23_0 fo23_1 fo23_2 ti24 bo24 fo24_0 fo24_1 fo24_2 ti27
attribute [go_sem] se27 un27 ti28 se28 un28 ti29 un29 ti30 bo30 fo30_0 fo30_1 eq30
attribute [go_sem] ti31 bo31 fo31_0 fo31_1 eq31 ti34 se34 un34 ti35 mt35 ti36 bo36
attribute [go_sem] fo36_0 fo36_1 fo36_2 eq36 ti37 bo37 fo37_0 fo37_1 fo37_2 eq37 ti39 un39
attribute [go_sem] ti41 se41 un41 ti44 se44 un44 ti50 se50 un50 ti51 se51 un51
attribute [go_sem] ti52 bo52 fo52_0 fo52_1 ti53 bo53 fo53_0 fo53_1 ti60 mt60 ti61 se61
attribute [go_sem] un61 ti62 bo62 fo62_0 fo62_1 fo62_2 fo62_3 fo62_4 ti63 bo63 fo63_0 fo63_1
attribute [go_sem] fo63_2 fo63_3 fo63_4 ti64 bo64 fo64_0 fo64_1 fo64_2 fo64_3 fo64_4 ti65 bo65
attribute [go_sem] fo65_0 fo65_1 fo65_2 fo65_3 fo65_4 ti66 bo66 fo66_0 fo66_1 fo66_2 fo66_3 fo66_4
attribute [go_sem] ti67 bo67 fo67_0 fo67_1 fo67_2 fo67_3 fo67_4 ti70 ti82 ti85 mt85 ti86
attribute [go_sem] mt86 ti87 bo87 fo87_0 fo87_1 fo87_2 fo87_3 fo87_4 ti88 bo88 fo88_0 fo88_1
attribute [go_sem] fo88_2 fo88_3 fo88_4 ti90 ti91 se91 un91 ti92 bo92 fo92_0 fo92_1 fo92_2
attribute [go_sem] fo92_3 fo92_4 ti93 bo93 fo93_0 fo93_1 fo93_2 fo93_3 fo93_4 ti107 bo107 fo107_0
attribute [go_sem] fo107_1 eq107 ti108 bo108 fo108_0 fo108_1 eq108 ti109 bo109 eq109 ti119 bo119
attribute [go_sem] fo119_0 fo119_1 fo119_2 fo119_3 ti120 bo120 fo120_0 fo120_1 fo120_2 fo120_3 ti122 bo122
attribute [go_sem] ti123 bo123 ti125 un125 ti126 un126 ti127 un127 ti129 ti130 un130 ti131
attribute [go_sem] un131 ti132 bo132 fo132_0 fo132_1 fo132_2 fo132_3 fo132_4 fo132_5 fo132_6 fo132_7 fo132_8
attribute [go_sem] fo132_9 fo132_10 ti133 bo133 fo133_0 fo133_1 fo133_2 fo133_3 fo133_4 fo133_5 fo133_6 fo133_7
attribute [go_sem] fo133_8 fo133_9 fo133_10 ip3 ip4 ip5 ip6 ip7 ip8 ip9 ip10 ip11
attribute [go_sem] ip12 ip13 ip14 ip15 ip16 ip17 ip18 ip19 ip20 ip21 ip22 ip23
attribute [go_sem] ip24 ip25 ip26 ip27 ip28 ip29 ip30 ip31 ip32 ip33 ip34 ip35
attribute [go_sem] ip36 ip37 ip38 ip39 ip40 ip41 ip42 ip43 ip44 ip45 ip46 ip47
attribute [go_sem] ip48 ip49 ip50 ip51 ip52 ip53 ip54 ip55 ip56 ip57 ip58 ip59
attribute [go_sem] ip60 ip61 ip62 ip63 ip64 ip65 ip66 ip67 ip68 ip69 ip70 ip71
attribute [go_sem] mixed
attribute [go_sem] if_pos if_neg
section
variable {n : Nat} {fz : List Nat} {ops : Array Oper} {o : Oper} {rest : List Oper} {K : Fr → St → Prop} {l l' : List (Nat × V)} {S S' : St} {v : V} {ef : Eff} {L : List (Nat × Nat)} {b : Nat} {ms : List Met} {m : Met} {f : FuncId} {args : List V}
theorem z_sub0 : Sub l [] := trivial
theorem z_sub1 {t : Nat} {ps : List (Nat × V)} (h : frOf l t = v) (h2 : Sub l ps) : Sub l ((t, v) :: ps) := ⟨h, h2⟩
theorem z_lk {t : Nat} (h : frOf l t = v := by (repeat (first | with_reducible apply frOf_eq | refine frOf_ne rfl ?_ | with_reducible apply z_none | exact frOf_eq))) : frOf l t = v := h
theorem z_su {l0 : List (Nat × V)} (h : Sub l l0 := by (repeat (first | with_reducible apply z_sub0 | refine And.intro (by (repeat (first | with_reducible apply frOf_eq | refine frOf_ne rfl ?_ | with_reducible apply z_none | exact frOf_eq))) ?_))) : Sub l l0 := h
theorem z_fp {dd : Option Nat} (h : fsetO (frOf l) dd v = frOf l' := by (first | with_reducible apply fsetO_none | with_reducible apply z_push)) : fsetO (frOf l) dd v = frOf l' := h
theorem z_ss {S1 : St} (h : S1 = S' := by ((simp (disch := omega) only [Eff.st, st_set, lput_eq, lput_ne, lput_nil, Nat.add_assoc, Nat.reduceAdd]) <;> rfl)) : S1 = S' := h
theorem q_move {lk0 : Operand → V} {blk : Option Blk} {nm : Nat} (h : stepF Try.prog fz o lk0 blk nm = some (v, ef) := by ((simp (disch := omega) only [stepF, ownStep, stepF0, stepB, blkOf, fpOf, refOf, lkE, frOf_at, frOf_nil, frKeep, memN, argL, cond_true, cond_false, if_true, if_false, reduceIte, Nat.reduceEqDiff, reduceCtorEq, ofConst, ofScalar, Option.map_some, Option.bind_some, Option.bind_none, Option.map_none, Array.size_empty, List.map_cons, List.map_nil, List.toList_toArray, List.head?_cons, builtinB, Option.some.injEq, Prod.mk.injEq, z_ex]); (first | exact ⟨rfl, rfl⟩ | rfl | (trace_state; fail)))) : stepF Try.prog fz o lk0 blk nm = some (v, ef) := h
theorem q_unOp {lk0 : Operand → V} {blk : Option Blk} {nm : Nat} (h : stepF Try.prog fz o lk0 blk nm = some (v, ef) := by ((simp (disch := omega) only [stepF, ownStep, stepF0, stepB, blkOf, fpOf, refOf, lkE, frOf_at, frOf_nil, frKeep, memN, argL, cond_true, cond_false, if_true, if_false, reduceIte, Nat.reduceEqDiff, reduceCtorEq, ofConst, ofScalar, Option.map_some, Option.bind_some, Option.bind_none, Option.map_none, Array.size_empty, List.map_cons, List.map_nil, List.toList_toArray, List.head?_cons, builtinB, Option.some.injEq, Prod.mk.injEq, evalUn, z_ex]); (first | exact ⟨rfl, rfl⟩ | rfl | (trace_state; fail)))) : stepF Try.prog fz o lk0 blk nm = some (v, ef) := h
theorem q_extract {lk0 : Operand → V} {blk : Option Blk} {nm : Nat} (h : stepF Try.prog fz o lk0 blk nm = some (v, ef) := by ((simp (disch := omega) only [stepF, ownStep, stepF0, stepB, blkOf, fpOf, refOf, lkE, frOf_at, frOf_nil, frKeep, memN, argL, cond_true, cond_false, if_true, if_false, reduceIte, Nat.reduceEqDiff, reduceCtorEq, ofConst, ofScalar, Option.map_some, Option.bind_some, Option.bind_none, Option.map_none, Array.size_empty, List.map_cons, List.map_nil, List.toList_toArray, List.head?_cons, builtinB, Option.some.injEq, Prod.mk.injEq, evalExtract, V.cells, D.cells, V.firm, V.one, List.all_cons, List.all_nil, Bool.and_self, and_self, List.length_cons, List.length_nil, Nat.reduceAdd, Nat.zero_add, List.drop_zero, List.drop_succ_cons, List.take_succ_cons, List.take_zero, List.cons_append, List.nil_append, List.append_nil, List.getElem?_cons_zero, List.getElem?_cons_succ, Nat.reduceLeDiff, Nat.le_refl, true_and, and_true, setRange, mkAgg, allD, zeroCs, List.getElem?_nil, List.drop_nil, List.take_nil, Bool.false_eq_true, z_ex]); (first | exact ⟨rfl, rfl⟩ | rfl | (trace_state; fail)))) : stepF Try.prog fz o lk0 blk nm = some (v, ef) := h
theorem q_fieldAddr {lk0 : Operand → V} {blk : Option Blk} {nm : Nat} (h : stepF Try.prog fz o lk0 blk nm = some (v, ef) := by ((simp (disch := omega) only [stepF, ownStep, stepF0, stepB, blkOf, fpOf, refOf, lkE, frOf_at, frOf_nil, frKeep, memN, argL, cond_true, cond_false, if_true, if_false, reduceIte, Nat.reduceEqDiff, reduceCtorEq, ofConst, ofScalar, Option.map_some, Option.bind_some, Option.bind_none, Option.map_none, Array.size_empty, List.map_cons, List.map_nil, List.toList_toArray, List.head?_cons, builtinB, Option.some.injEq, Prod.mk.injEq, evalFieldAddr, V.cells, D.cells, V.firm, V.one, List.all_cons, List.all_nil, Bool.and_self, and_self, List.length_cons, List.length_nil, Nat.reduceAdd, Nat.zero_add, List.drop_zero, List.drop_succ_cons, List.take_succ_cons, List.take_zero, List.cons_append, List.nil_append, List.append_nil, List.getElem?_cons_zero, List.getElem?_cons_succ, Nat.reduceLeDiff, Nat.le_refl, true_and, and_true, setRange, mkAgg, allD, zeroCs, List.getElem?_nil, List.drop_nil, List.take_nil, Bool.false_eq_true, fo7_0, fo7_1, fo7_2, fo7_3, fo8_0, fo8_1, fo8_2, fo8_3, fo13_0, fo13_1, fo14_0, fo14_1, fo18_0, fo19_0, fo23_0, fo23_1, fo23_2, fo24_0, fo24_1, fo24_2, fo30_0, fo30_1, fo31_0, fo31_1, fo36_0, fo36_1, fo36_2, fo37_0, fo37_1, fo37_2, fo52_0, fo52_1, fo53_0, fo53_1, fo62_0, fo62_1, fo62_2, fo62_3, fo62_4, fo63_0, fo63_1, fo63_2, fo63_3, fo63_4, fo64_0, fo64_1, fo64_2, fo64_3, fo64_4, fo65_0, fo65_1, fo65_2, fo65_3, fo65_4, fo66_0, fo66_1, fo66_2, fo66_3, fo66_4, fo67_0, fo67_1, fo67_2, fo67_3, fo67_4, fo87_0, fo87_1, fo87_2, fo87_3, fo87_4, fo88_0, fo88_1, fo88_2, fo88_3, fo88_4, fo92_0, fo92_1, fo92_2, fo92_3, fo92_4, fo93_0, fo93_1, fo93_2, fo93_3, fo93_4, fo107_0, fo107_1, fo108_0, fo108_1, fo119_0, fo119_1, fo119_2, fo119_3, fo120_0, fo120_1, fo120_2, fo120_3, fo132_0, fo132_1, fo132_2, fo132_3, fo132_4, fo132_5, fo132_6, fo132_7, fo132_8, fo132_9, fo132_10, fo133_0, fo133_1, fo133_2, fo133_3, fo133_4, fo133_5, fo133_6, fo133_7, fo133_8, fo133_9, fo133_10, z_ex]); (first | exact ⟨rfl, rfl⟩ | rfl | (trace_state; fail)))) : stepF Try.prog fz o lk0 blk nm = some (v, ef) := h
theorem q_box {lk0 : Operand → V} {blk : Option Blk} {nm : Nat} (h : stepF Try.prog fz o lk0 blk nm = some (v, ef) := by ((simp (disch := omega) only [stepF, ownStep, stepF0, stepB, blkOf, fpOf, refOf, lkE, frOf_at, frOf_nil, frKeep, memN, argL, cond_true, cond_false, if_true, if_false, reduceIte, Nat.reduceEqDiff, reduceCtorEq, ofConst, ofScalar, Option.map_some, Option.bind_some, Option.bind_none, Option.map_none, Array.size_empty, List.map_cons, List.map_nil, List.toList_toArray, List.head?_cons, builtinB, Option.some.injEq, Prod.mk.injEq, Value.cells, V.cells, D.cells, V.firm, V.one, List.all_cons, List.all_nil, Bool.and_self, and_self, List.length_cons, List.length_nil, Nat.reduceAdd, Nat.zero_add, List.drop_zero, List.drop_succ_cons, List.take_succ_cons, List.take_zero, List.cons_append, List.nil_append, List.append_nil, List.getElem?_cons_zero, List.getElem?_cons_succ, Nat.reduceLeDiff, Nat.le_refl, true_and, and_true, setRange, mkAgg, allD, zeroCs, List.getElem?_nil, List.drop_nil, List.take_nil, Bool.false_eq_true, z_ex]); (first | exact ⟨rfl, rfl⟩ | rfl | (trace_state; fail)))) : stepF Try.prog fz o lk0 blk nm = some (v, ef) := h
theorem q_alloc {lk0 : Operand → V} {blk : Option Blk} {nm : Nat} (h : stepF Try.prog fz o lk0 blk nm = some (v, ef) := by ((simp (disch := omega) only [stepF, ownStep, stepF0, stepB, blkOf, fpOf, refOf, lkE, frOf_at, frOf_nil, frKeep, memN, argL, cond_true, cond_false, if_true, if_false, reduceIte, Nat.reduceEqDiff, reduceCtorEq, ofConst, ofScalar, Option.map_some, Option.bind_some, Option.bind_none, Option.map_none, Array.size_empty, List.map_cons, List.map_nil, List.toList_toArray, List.head?_cons, builtinB, Option.some.injEq, Prod.mk.injEq, Value.cells, V.cells, D.cells, V.firm, V.one, List.all_cons, List.all_nil, Bool.and_self, and_self, List.length_cons, List.length_nil, Nat.reduceAdd, Nat.zero_add, List.drop_zero, List.drop_succ_cons, List.take_succ_cons, List.take_zero, List.cons_append, List.nil_append, List.append_nil, List.getElem?_cons_zero, List.getElem?_cons_succ, Nat.reduceLeDiff, Nat.le_refl, true_and, and_true, setRange, mkAgg, allD, zeroCs, List.getElem?_nil, List.drop_nil, List.take_nil, Bool.false_eq_true, ti2, ti3, ti4, ti5, ti6, ti7, ti8, ti9, ti10, ti11, ti12, ti13, ti14, ti15, ti16, ti17, ti18, ti19, ti21, ti22, ti23, ti24, ti27, ti28, ti29, ti30, ti31, ti34, ti35, ti36, ti37, ti39, ti41, ti44, ti50, ti51, ti52, ti53, ti60, ti61, ti62, ti63, ti64, ti65, ti66, ti67, ti70, ti82, ti85, ti86, ti87, ti88, ti90, ti91, ti92, ti93, ti107, ti108, ti109, ti119, ti120, ti122, ti123, ti125, ti126, ti127, ti129, ti130, ti131, ti132, ti133, z_ex]); (first | exact ⟨rfl, rfl⟩ | rfl | (trace_state; fail)))) : stepF Try.prog fz o lk0 blk nm = some (v, ef) := h
theorem q_build {lk0 : Operand → V} {blk : Option Blk} {nm : Nat} (h : stepF Try.prog fz o lk0 blk nm = some (v, ef) := by ((simp (disch := omega) only [stepF, ownStep, stepF0, stepB, blkOf, fpOf, refOf, lkE, frOf_at, frOf_nil, frKeep, memN, argL, cond_true, cond_false, if_true, if_false, reduceIte, Nat.reduceEqDiff, reduceCtorEq, ofConst, ofScalar, Option.map_some, Option.bind_some, Option.bind_none, Option.map_none, Array.size_empty, List.map_cons, List.map_nil, List.toList_toArray, List.head?_cons, builtinB, Option.some.injEq, Prod.mk.injEq, evalBuild, fillV, Value.cells, V.cells, D.cells, V.firm, V.one, List.all_cons, List.all_nil, Bool.and_self, and_self, List.length_cons, List.length_nil, Nat.reduceAdd, Nat.zero_add, List.drop_zero, List.drop_succ_cons, List.take_succ_cons, List.take_zero, List.cons_append, List.nil_append, List.append_nil, List.getElem?_cons_zero, List.getElem?_cons_succ, Nat.reduceLeDiff, Nat.le_refl, true_and, and_true, setRange, mkAgg, allD, zeroCs, List.getElem?_nil, List.drop_nil, List.take_nil, Bool.false_eq_true, ti2, ti3, ti4, ti5, ti6, ti7, bo7, fo7_0, fo7_1, fo7_2, fo7_3, ti8, bo8, fo8_0, fo8_1, fo8_2, fo8_3, ti9, ti10, ti11, ti12, ti13, bo13, fo13_0, fo13_1, ti14, bo14, fo14_0, fo14_1, ti15, ti16, ti17, ti18, bo18, fo18_0, ti19, bo19, fo19_0, ti21, ti22, ti23, bo23, fo23_0, fo23_1, fo23_2, ti24, bo24, fo24_0, fo24_1, fo24_2, ti27, ti28, ti29, ti30, bo30, fo30_0, fo30_1, ti31, bo31, fo31_0, fo31_1, ti34, ti35, ti36, bo36, fo36_0, fo36_1, fo36_2, ti37, bo37, fo37_0, fo37_1, fo37_2, ti39, ti41, ti44, ti50, ti51, ti52, bo52, fo52_0, fo52_1, ti53, bo53, fo53_0, fo53_1, ti60, ti61, ti62, bo62, fo62_0, fo62_1, fo62_2, fo62_3, fo62_4, ti63, bo63, fo63_0, fo63_1, fo63_2, fo63_3, fo63_4, ti64, bo64, fo64_0, fo64_1, fo64_2, fo64_3, fo64_4, ti65, bo65, fo65_0, fo65_1, fo65_2, fo65_3, fo65_4, ti66, bo66, fo66_0, fo66_1, fo66_2, fo66_3, fo66_4, ti67, bo67, fo67_0, fo67_1, fo67_2, fo67_3, fo67_4, ti70, ti82, ti85, ti86, ti87, bo87, fo87_0, fo87_1, fo87_2, fo87_3, fo87_4, ti88, bo88, fo88_0, fo88_1, fo88_2, fo88_3, fo88_4, ti90, ti91, ti92, bo92, fo92_0, fo92_1, fo92_2, fo92_3, fo92_4, ti93, bo93, fo93_0, fo93_1, fo93_2, fo93_3, fo93_4, ti107, bo107, fo107_0, fo107_1, ti108, bo108, fo108_0, fo108_1, ti109, bo109, ti119, bo119, fo119_0, fo119_1, fo119_2, fo119_3, ti120, bo120, fo120_0, fo120_1, fo120_2, fo120_3, ti122, bo122, ti123, bo123, ti125, ti126, ti127, ti129, ti130, ti131, ti132, bo132, fo132_0, fo132_1, fo132_2, fo132_3, fo132_4, fo132_5, fo132_6, fo132_7, fo132_8, fo132_9, fo132_10, ti133, bo133, fo133_0, fo133_1, fo133_2, fo133_3, fo133_4, fo133_5, fo133_6, fo133_7, fo133_8, fo133_9, fo133_10, z_ex]); (first | exact ⟨rfl, rfl⟩ | rfl | (trace_state; fail)))) : stepF Try.prog fz o lk0 blk nm = some (v, ef) := h
theorem q_load {lk0 : Operand → V} {blk : Option Blk} {nm : Nat} (h : stepF Try.prog fz o lk0 blk nm = some (v, ef) := by ((simp (disch := omega) only [stepF, ownStep, stepF0, stepB, blkOf, fpOf, refOf, lkE, frOf_at, frOf_nil, frKeep, memN, argL, cond_true, cond_false, if_true, if_false, reduceIte, Nat.reduceEqDiff, reduceCtorEq, ofConst, ofScalar, Option.map_some, Option.bind_some, Option.bind_none, Option.map_none, Array.size_empty, List.map_cons, List.map_nil, List.toList_toArray, List.head?_cons, builtinB, Option.some.injEq, Prod.mk.injEq, evalLoad, loadV, cellsAt, V.cells, D.cells, V.firm, V.one, List.all_cons, List.all_nil, Bool.and_self, and_self, List.length_cons, List.length_nil, Nat.reduceAdd, Nat.zero_add, List.drop_zero, List.drop_succ_cons, List.take_succ_cons, List.take_zero, List.cons_append, List.nil_append, List.append_nil, List.getElem?_cons_zero, List.getElem?_cons_succ, Nat.reduceLeDiff, Nat.le_refl, true_and, and_true, setRange, mkAgg, allD, zeroCs, List.getElem?_nil, List.drop_nil, List.take_nil, Bool.false_eq_true, st_get, lget_eq, lget_ne, lget_nil, lget_lput_eq, lget_lput_ne, Nat.add_assoc, ti2, ti3, ti4, ti5, ti6, ti7, ti8, ti9, ti10, ti11, ti12, ti13, ti14, ti15, ti16, ti17, ti18, ti19, ti21, ti22, ti23, ti24, ti27, ti28, ti29, ti30, ti31, ti34, ti35, ti36, ti37, ti39, ti41, ti44, ti50, ti51, ti52, ti53, ti60, ti61, ti62, ti63, ti64, ti65, ti66, ti67, ti70, ti82, ti85, ti86, ti87, ti88, ti90, ti91, ti92, ti93, ti107, ti108, ti109, ti119, ti120, ti122, ti123, ti125, ti126, ti127, ti129, ti130, ti131, ti132, ti133, z_ex]); (first | exact ⟨rfl, rfl⟩ | rfl | (trace_state; fail)))) : stepF Try.prog fz o lk0 blk nm = some (v, ef) := h
theorem q_store {lk0 : Operand → V} {blk : Option Blk} {nm : Nat} (h : stepF Try.prog fz o lk0 blk nm = some (v, ef) := by ((simp (disch := omega) only [stepF, ownStep, stepF0, stepB, blkOf, fpOf, refOf, lkE, frOf_at, frOf_nil, frKeep, memN, argL, cond_true, cond_false, if_true, if_false, reduceIte, Nat.reduceEqDiff, reduceCtorEq, ofConst, ofScalar, Option.map_some, Option.bind_some, Option.bind_none, Option.map_none, Array.size_empty, List.map_cons, List.map_nil, List.toList_toArray, List.head?_cons, builtinB, Option.some.injEq, Prod.mk.injEq, evalStore, storeB, ofCells, V.cells, D.cells, V.firm, V.one, List.all_cons, List.all_nil, Bool.and_self, and_self, List.length_cons, List.length_nil, Nat.reduceAdd, Nat.zero_add, List.drop_zero, List.drop_succ_cons, List.take_succ_cons, List.take_zero, List.cons_append, List.nil_append, List.append_nil, List.getElem?_cons_zero, List.getElem?_cons_succ, Nat.reduceLeDiff, Nat.le_refl, true_and, and_true, setRange, mkAgg, allD, zeroCs, List.getElem?_nil, List.drop_nil, List.take_nil, Bool.false_eq_true, st_get, lget_eq, lget_ne, lget_nil, lget_lput_eq, lget_lput_ne, Nat.add_assoc, ti2, ti3, ti4, ti5, ti6, ti7, ti8, ti9, ti10, ti11, ti12, ti13, ti14, ti15, ti16, ti17, ti18, ti19, ti21, ti22, ti23, ti24, ti27, ti28, ti29, ti30, ti31, ti34, ti35, ti36, ti37, ti39, ti41, ti44, ti50, ti51, ti52, ti53, ti60, ti61, ti62, ti63, ti64, ti65, ti66, ti67, ti70, ti82, ti85, ti86, ti87, ti88, ti90, ti91, ti92, ti93, ti107, ti108, ti109, ti119, ti120, ti122, ti123, ti125, ti126, ti127, ti129, ti130, ti131, ti132, ti133, z_ex]); (first | exact ⟨rfl, rfl⟩ | rfl | (trace_state; fail)))) : stepF Try.prog fz o lk0 blk nm = some (v, ef) := h
theorem q_makeMap {lk0 : Operand → V} {blk : Option Blk} {nm : Nat} (h : stepF Try.prog fz o lk0 blk nm = some (v, ef) := by ((simp (disch := omega) only [stepF, ownStep, stepF0, stepB, blkOf, fpOf, refOf, lkE, frOf_at, frOf_nil, frKeep, memN, argL, cond_true, cond_false, if_true, if_false, reduceIte, Nat.reduceEqDiff, reduceCtorEq, ofConst, ofScalar, Option.map_some, Option.bind_some, Option.bind_none, Option.map_none, Array.size_empty, List.map_cons, List.map_nil, List.toList_toArray, List.head?_cons, builtinB, Option.some.injEq, Prod.mk.injEq, ti2, ti3, ti4, ti5, ti6, ti7, ti8, ti9, ti10, ti11, ti12, ti13, ti14, ti15, ti16, ti17, ti18, ti19, ti21, ti22, ti23, ti24, ti27, ti28, ti29, ti30, ti31, ti34, ti35, mt35, ti36, ti37, ti39, ti41, ti44, ti50, ti51, ti52, ti53, ti60, mt60, ti61, ti62, ti63, ti64, ti65, ti66, ti67, ti70, ti82, ti85, mt85, ti86, mt86, ti87, ti88, ti90, ti91, ti92, ti93, ti107, ti108, ti109, ti119, ti120, ti122, ti123, ti125, ti126, ti127, ti129, ti130, ti131, ti132, ti133, z_ex]); (first | exact ⟨rfl, rfl⟩ | rfl | (trace_state; fail)))) : stepF Try.prog fz o lk0 blk nm = some (v, ef) := h
theorem q_lookup {lk0 : Operand → V} {blk : Option Blk} {nm : Nat} (h : stepF Try.prog fz o lk0 blk nm = some (v, ef) := by ((simp (disch := omega) only [stepF, ownStep, stepF0, stepB, blkOf, fpOf, refOf, lkE, frOf_at, frOf_nil, frKeep, memN, argL, cond_true, cond_false, if_true, if_false, reduceIte, Nat.reduceEqDiff, reduceCtorEq, ofConst, ofScalar, Option.map_some, Option.bind_some, Option.bind_none, Option.map_none, Array.size_empty, List.map_cons, List.map_nil, List.toList_toArray, List.head?_cons, builtinB, Option.some.injEq, Prod.mk.injEq, evalLookup, keyOk, BEq.rfl, and_self, ofConst, Bool.true_and, beq_self_eq_true, V.cells, D.cells, V.firm, V.one, List.all_cons, List.all_nil, Bool.and_self, and_self, List.length_cons, List.length_nil, Nat.reduceAdd, Nat.zero_add, List.drop_zero, List.drop_succ_cons, List.take_succ_cons, List.take_zero, List.cons_append, List.nil_append, List.append_nil, List.getElem?_cons_zero, List.getElem?_cons_succ, Nat.reduceLeDiff, Nat.le_refl, true_and, and_true, setRange, mkAgg, allD, zeroCs, List.getElem?_nil, List.drop_nil, List.take_nil, Bool.false_eq_true, st_get, lget_eq, lget_ne, lget_nil, lget_lput_eq, lget_lput_ne, Nat.add_assoc, ti2, ti3, ti4, ti5, ti6, ti7, ti8, ti9, ti10, ti11, ti12, ti13, ti14, ti15, ti16, ti17, ti18, ti19, ti21, ti22, ti23, ti24, ti27, ti28, ti29, ti30, ti31, ti34, ti35, mt35, ti36, ti37, ti39, ti41, ti44, ti50, ti51, ti52, ti53, ti60, mt60, ti61, ti62, ti63, ti64, ti65, ti66, ti67, ti70, ti82, ti85, mt85, ti86, mt86, ti87, ti88, ti90, ti91, ti92, ti93, ti107, ti108, ti109, ti119, ti120, ti122, ti123, ti125, ti126, ti127, ti129, ti130, ti131, ti132, ti133, z_ex]); (first | exact ⟨rfl, rfl⟩ | rfl | (trace_state; fail)))) : stepF Try.prog fz o lk0 blk nm = some (v, ef) := h
theorem q_mapUpdate {lk0 : Operand → V} {blk : Option Blk} {nm : Nat} (h : stepF Try.prog fz o lk0 blk nm = some (v, ef) := by ((simp (disch := omega) only [stepF, ownStep, stepF0, stepB, blkOf, fpOf, refOf, lkE, frOf_at, frOf_nil, frKeep, memN, argL, cond_true, cond_false, if_true, if_false, reduceIte, Nat.reduceEqDiff, reduceCtorEq, ofConst, ofScalar, Option.map_some, Option.bind_some, Option.bind_none, Option.map_none, Array.size_empty, List.map_cons, List.map_nil, List.toList_toArray, List.head?_cons, builtinB, Option.some.injEq, Prod.mk.injEq, evalUpdate, keyOk, beq_self_eq_true, and_self, st_get, lget_eq, lget_ne, lget_nil, lget_lput_eq, lget_lput_ne, Nat.add_assoc, mt35, mt60, mt85, mt86, z_ex]); (first | exact ⟨rfl, rfl⟩ | rfl | (trace_state; fail)))) : stepF Try.prog fz o lk0 blk nm = some (v, ef) := h
theorem q_full {lk0 : Operand → V} {blk : Option Blk} {nm : Nat} (h : stepF Try.prog fz o lk0 blk nm = some (v, ef) := by (((try simp only [stepF, ownStep, stepF0, stepB, blkOf, fpOf, refOf, lkE, frOf_at, frOf_nil, frKeep, memN, argL, cond_true, cond_false, if_true, if_false, reduceIte, Nat.reduceEqDiff, reduceCtorEq, ofConst, ofScalar, Option.map_some, Option.bind_some, Option.bind_none, Option.map_none, Array.size_empty, List.map_cons, List.map_nil, List.toList_toArray, List.head?_cons, builtinB, Option.some.injEq, Prod.mk.injEq]); simp (maxSteps := 2000000) (disch := omega) [go_sem, -List.map_map, z_ex]); (first | exact ⟨rfl, rfl⟩ | rfl | (trace_state; fail)))) : stepF Try.prog fz o lk0 blk nm = some (v, ef) := h
theorem s_o (l0 : List (Nat × V)) (hd : dstOk n o.dst = true) (hg : guardM ops (frOf l) o = some true) (hc : callOf o (frOf l) = none) (hsub : Sub l l0) (hin : opsIn l0 o.op.operands.toList = true) (hs : stepF Try.prog fz o (lkE (frOf l0)) (blkOf S.get (fpOf o.op (lkE (frOf l0)))) S.next = some (v, ef)) (hf : fsetO (frOf l) o.dst v = frOf l') (hS : ({ ef.st S with next := S.next + 1 } : St) = S') (h : wpS Try.prog n fz ops rest K (frOf l') S') : wpS Try.prog n fz ops (o :: rest) K (frOf l) S := wpS_opR hd hg hc hsub hin hs hf hS h
theorem s_skip (hd : dstOk n o.dst = true) (hg : guardM ops (frOf l) o = some false) (hf : fsetO (frOf l) o.dst (.tup []) = frOf l') (h : wpS Try.prog n fz ops rest K (frOf l') S) : wpS Try.prog n fz ops (o :: rest) K (frOf l) S := wpS_skip hd hg hf h
theorem s_wit {r : Bool} (h : guardM ops (frOf l) o = some r → wpS Try.prog n fz ops (o :: rest) K (frOf l) S) (hg : guardM ops (frOf l) o = some r := by (first | (refine guardM_tup rfl rfl ?_; (repeat (first | refine frOf_ne rfl ?_ | exact frOf_eq)); done) | (refine guardM_at (r := true) rfl rfl z_lk ?_; (simp (disch := omega) [go_sem, -List.map_map, z_ex]); done) | (refine guardM_at (r := false) rfl rfl z_lk ?_; (simp (disch := omega) [go_sem, -List.map_map, z_ex]); done))) : wpS Try.prog n fz ops (o :: rest) K (frOf l) S := h hg
theorem s_wT (hg : guardM ops (frOf l) o = some true) (h : guardM ops (frOf l) o = some true → wpS Try.prog n fz ops (o :: rest) K (frOf l) S) : wpS Try.prog n fz ops (o :: rest) K (frOf l) S := h hg
theorem s_wF (hg : guardM ops (frOf l) o = some false) (h : guardM ops (frOf l) o = some false → wpS Try.prog n fz ops (o :: rest) K (frOf l) S) : wpS Try.prog n fz ops (o :: rest) K (frOf l) S := h hg
theorem s_pure (hc : callOf o (frOf l) = some (f, args)) (hC : PureC Try.prog f args v) (hd : dstOk n o.dst = true) (hg : guardM ops (frOf l) o = some true) (hp : isPlain Try.prog f = true) (hf : fsetO (frOf l) o.dst v = frOf l') (h : wpS Try.prog n fz ops rest K (frOf l') S) : wpS Try.prog n fz ops (o :: rest) K (frOf l) S := wpS_pure hd hg hc hp hC hf h
theorem d_o (l0 : List (Nat × V)) (hd : dstOk n o.dst = true) (hg : guardM ops (frOf l) o = some true) (hc : callOf o (frOf l) = none) (hsub : Sub l l0) (hin : opsIn l0 o.op.operands.toList = true) (hs : stepF Try.prog fz o (lkE (frOf l0)) (blkOf S.get (fpOf o.op (lkE (frOf l0)))) (b + ms.length) = some (v, ef)) (hf : fsetO (frOf l) o.dst v = frOf l') (hS : ef.st S = S') (hm : ((fpOf o.op (lkE (frOf l0))).toList, ef.touch) = m) (h : wpD Try.prog n fz ops L b rest K (frOf l') S' (ms ++ [m])) : wpD Try.prog n fz ops L b (o :: rest) K (frOf l) S ms := wpD_opR hd hg hc hsub hin hs hf hS hm h
theorem d_skip (hd : dstOk n o.dst = true) (hg : guardM ops (frOf l) o = some false) (hf : fsetO (frOf l) o.dst (.tup []) = frOf l') (h : wpD Try.prog n fz ops L b rest K (frOf l') S (ms ++ [([], [])])) : wpD Try.prog n fz ops L b (o :: rest) K (frOf l) S ms := wpD_skip hd hg hf h
theorem d_wit {r : Bool} (h : guardM ops (frOf l) o = some r → wpD Try.prog n fz ops L b (o :: rest) K (frOf l) S ms) (hg : guardM ops (frOf l) o = some r := by (first | (refine guardM_tup rfl rfl ?_; (repeat (first | refine frOf_ne rfl ?_ | exact frOf_eq)); done) | (refine guardM_at (r := true) rfl rfl z_lk ?_; (simp (disch := omega) [go_sem, -List.map_map, z_ex]); done) | (refine guardM_at (r := false) rfl rfl z_lk ?_; (simp (disch := omega) [go_sem, -List.map_map, z_ex]); done))) : wpD Try.prog n fz ops L b (o :: rest) K (frOf l) S ms := h hg
theorem d_wT (hg : guardM ops (frOf l) o = some true) (h : guardM ops (frOf l) o = some true → wpD Try.prog n fz ops L b (o :: rest) K (frOf l) S ms) : wpD Try.prog n fz ops L b (o :: rest) K (frOf l) S ms := h hg
theorem d_wF (hg : guardM ops (frOf l) o = some false) (h : guardM ops (frOf l) o = some false → wpD Try.prog n fz ops L b (o :: rest) K (frOf l) S ms) : wpD Try.prog n fz ops L b (o :: rest) K (frOf l) S ms := h hg
theorem d_pure (hc : callOf o (frOf l) = some (f, args)) (hC : PureC Try.prog f args v) (hd : dstOk n o.dst = true) (hg : guardM ops (frOf l) o = some true) (hp : isPlain Try.prog f = true) (hr : v.noRef = true) (hf : fsetO (frOf l) o.dst v = frOf l') (h : wpD Try.prog n fz ops L b rest K (frOf l') S (ms ++ [([], [])])) : wpD Try.prog n fz ops L b (o :: rest) K (frOf l) S ms := wpD_pure hd hg hc hp hr hC hf h
theorem s_at (hc : callOf o (frOf l) = some (f, args)) (hC : CallM Try.prog f args S fun r' S' => r' = v ∧ S' = S) (hd : dstOk n o.dst = true) (hg : guardM ops (frOf l) o = some true) (hp : isPlain Try.prog f = true) (hf : fsetO (frOf l) o.dst v = frOf l') (h : wpS Try.prog n fz ops rest K (frOf l') S) : wpS Try.prog n fz ops (o :: rest) K (frOf l) S := wpS_at hd hg hc hp hC hf h
theorem s_call {R : V → St → Prop} (hc : callOf o (frOf l) = some (f, args)) (hC : CallM Try.prog f args S R) (hd : dstOk n o.dst = true) (hg : guardM ops (frOf l) o = some true) (hp : isPlain Try.prog f = true) (h : ∀ r S', R r S' → wpS Try.prog n fz ops rest K (fsetO (frOf l) o.dst r) S') : wpS Try.prog n fz ops (o :: rest) K (frOf l) S := wpS_call hd hg hc hp hC h
theorem s_put {dd : Option Nat} (hf : fsetO (frOf l) dd v = frOf l') (h : wpS Try.prog n fz ops rest K (frOf l') S) : wpS Try.prog n fz ops rest K (fsetO (frOf l) dd v) S := by rw [hf]; exact h
theorem z_ip (h : isPlain Try.prog f = true := by first | simp only [ip3, ip4, ip5, ip6, ip7, ip8, ip9, ip10, ip11, ip12, ip13, ip14, ip15, ip16, ip17, ip18, ip19, ip20, ip21, ip22, ip23, ip24, ip25, ip26, ip27, ip28, ip29, ip30, ip31, ip32, ip33, ip34, ip35, ip36, ip37, ip38, ip39, ip40, ip41, ip42, ip43, ip44, ip45, ip46, ip47, ip48, ip49, ip50, ip51, ip52, ip53, ip54, ip55, ip56, ip57, ip58, ip59, ip60, ip61, ip62, ip63, ip64, ip65, ip66, ip67, ip68, ip69, ip70, ip71] | with_reducible assumption) : isPlain Try.prog f = true := h
theorem bT {want q : Bool} (hb : (q == want) = true := by (simp (maxSteps := 2000000) (disch := omega) [go_sem, -List.map_map, z_ex]; done)) : (q == want) = true := hb
theorem bF {want q : Bool} (hb : (q == want) = false := by (simp (maxSteps := 2000000) (disch := omega) [go_sem, -List.map_map, z_ex]; done)) : (q == want) = false := hb
theorem s_end : wpS Try.prog n fz ops [] (fun f s => f = frOf l ∧ s = S) (frOf l) S := wpS_nil ⟨rfl, rfl⟩
theorem s_endE {Q : Exit → Fr → St → Prop} (l' : List (Nat × V)) (hK : ∀ l l' S', Sub l l' → Q .normal (frOf l') S' → K (frOf l) S') (hk : Sub l l') (h : Q .normal (frOf l') S) : wpS Try.prog n fz ops [] K (frOf l) S := wpS_nil (hK _ _ _ hk h)
theorem z_mt (h : metL L ms := by ((simp only [metL, Met.apart, List.nil_append, List.cons_append, List.append_assoc, List.append_nil, List.getD_cons_succ, List.getD_cons_zero, List.mem_cons, List.not_mem_nil, or_false, false_or, false_implies, implies_true, not_false_eq_true, and_self, true_and, and_true]) <;> (simp (maxSteps := 2000000) (disch := omega) [go_sem, -List.map_map, z_ex]) <;> omega)) : metL L ms := h
theorem z_sn {S1 : St} (h : S1 = S' := by ((try simp only [List.length_append, List.length_cons, List.length_nil, Nat.reduceAdd, Nat.zero_add, Nat.add_assoc]) <;> rfl)) : S1 = S' := h
theorem d_end (hm : metL L ms) (hS : ({ S with next := b + ms.length } : St) = S') : wpD Try.prog n fz ops L b [] (fun f s => f = frOf l ∧ s = S') (frOf l) S ms := wpD_nil hm ⟨rfl, hS⟩
theorem d_endE {Q : Exit → Fr → St → Prop} (l' : List (Nat × V)) (hK : ∀ l l' S', Sub l l' → Q .normal (frOf l') S' → K (frOf l) S') (hm : metL L ms) (hk : Sub l l') (h : Q .normal (frOf l') { S with next := b + ms.length }) : wpD Try.prog n fz ops L b [] K (frOf l) S ms := wpD_nil hm (hK _ _ _ hk h)
end
section
variable {n : Nat} {Q : Exit → Fr → St → Prop} {fr : Fr} {S S' : St} {id : Nat} {ops : Array Oper} {l l' : List (Nat × V)}
end
end Go.Proofs.Ytjjmedgibcffhaa
/- Layer 5: kinds of data and small functions. -/
namespace Go.Proofs.Ytjjmedgibcffhaa
open Go.RowKit M
set_option linter.unusedSimpArgs false
set_option linter.unusedVariables false
def encCall (c : CallD) : D := .agg [.int .i64 c.kind, .str c.key, .int .i64 c.arg, .bool c.got, .sl (c.vals.map (D.int .i64))]
def encEvent (e : EventD) : D := .agg [.int .i64 e.proc, .int .i64 e.kind, .sl (e.calls.map encCall)]
structure OpD where
  kind : Int
  key : Int
  arg : Int
  got : Bool
  vals : List Int
structure TxnD where
  proc : Int
  status : Int
  frm : Int
  to : Int
  ops : List OpD
structure HistD where
  keys : List ByteArray
  txns : List TxnD
def ints (l : List Int) : D := .sl (l.map (D.int .i64))
def strs (l : List ByteArray) : D := .sl (l.map D.str)
def encOp (o : OpD) : D := .agg [.int .i64 o.kind, .int .i64 o.key, .int .i64 o.arg, .bool o.got, .sl (o.vals.map (D.int .i64))]
def encTxn (t : TxnD) : D := .agg [.int .i64 t.proc, .int .i64 t.status, .int .i64 t.frm, .int .i64 t.to, .sl (t.ops.map encOp)]
def encHist (h : HistD) : D := .agg [.sl (h.keys.map D.str), .sl (h.txns.map encTxn)]
theorem wrap_id {x : Int} (h1 : -9223372036854775808 ≤ x) (h2 : x ≤ 9223372036854775807) : IntKind.i64.wrap x = x := by
  rw [IntKind.wrap_i64]; omega
theorem okEl_call (c : CallD) : okEl 5 (encCall c) = true := rfl
theorem okEl_event (c : EventD) : okEl 3 (encEvent c) = true := rfl
theorem okEl_op (c : OpD) : okEl 5 (encOp c) = true := rfl
theorem okEl_txn (c : TxnD) : okEl 5 (encTxn c) = true := rfl
/-- The type of a kind of operation. -/
def tyOf (k : Int) : Int := (k - 1) % 4 + 1
theorem typeOf57 (k : Int) (h1 : 1 ≤ k) (h2 : k ≤ 8) : PureC Try.prog 57 [.d (.int .i64 k)] (.d (.int .i64 (tyOf k))) := by
  refine PureC.of (n := 7) Try.func57 rfl rfl (by simp) (by simp only [argL, Nat.reduceAdd] <;> rfl) rfl ?_
  intro n0 H hH
  obtain rfl | rfl | rfl | rfl | rfl | rfl | rfl | rfl : k = 1 ∨ k = 2 ∨ k = 3 ∨ k = 4 ∨ k = 5 ∨ k = 6 ∨ k = 7 ∨ k = 8 := by omega
  all_goals (((repeat refine WpM.seq ?_); have z_ex := True.intro; refine WpM.regPE [] [(0, _)] (by (refine s_o [] rfl rfl rfl z_su rfl q_move z_fp z_ss ?_; exact wpS_nil ⟨rfl, rfl⟩)) z_su ?_; clear z_ex); ((repeat refine WpM.seq ?_); have z_ex := True.intro; refine WpM.regPE [] [(2, _)] (by (refine s_o [(0, _)] rfl rfl rfl z_su rfl q_move z_fp z_ss ?_; refine s_o [(3, _)] rfl rfl rfl z_su rfl q_full z_fp z_ss ?_; refine s_o [(4, _)] rfl rfl rfl z_su rfl q_full z_fp z_ss ?_; refine s_o [(5, _)] rfl rfl rfl z_su rfl q_full z_fp z_ss ?_; refine s_o [(6, _)] rfl rfl rfl z_su rfl q_move z_fp z_ss ?_; exact wpS_nil ⟨rfl, rfl⟩)) z_su ?_; clear z_ex); (refine WpM.ret ?_; refine ⟨.inr rfl, Upd.done ?_⟩; (simp (maxSteps := 2000000) (disch := omega) [go_sem, -List.map_map, resV, resVs, resV1, tyOf])); all_goals decide)
theorem of35 (k : Int) (h1 : 1 ≤ k) (h2 : k ≤ 8) : PureC Try.prog 35 [.d (.int .i64 k)] (.d (.int .i64 (tyOf k))) := by
  refine PureC.of (n := 7) Try.func35 rfl rfl (by simp) (by simp only [argL, Nat.reduceAdd] <;> rfl) rfl ?_
  intro n0 H hH
  obtain rfl | rfl | rfl | rfl | rfl | rfl | rfl | rfl : k = 1 ∨ k = 2 ∨ k = 3 ∨ k = 4 ∨ k = 5 ∨ k = 6 ∨ k = 7 ∨ k = 8 := by omega
  all_goals (((repeat refine WpM.seq ?_); have z_ex := True.intro; refine WpM.regPE [] [(0, _)] (by (refine s_o [] rfl rfl rfl z_su rfl q_move z_fp z_ss ?_; exact wpS_nil ⟨rfl, rfl⟩)) z_su ?_; clear z_ex); ((repeat refine WpM.seq ?_); have z_ex := True.intro; refine WpM.regPE [] [(2, _)] (by (refine s_o [(0, _)] rfl rfl rfl z_su rfl q_move z_fp z_ss ?_; refine s_o [(3, _)] rfl rfl rfl z_su rfl q_full z_fp z_ss ?_; refine s_o [(4, _)] rfl rfl rfl z_su rfl q_full z_fp z_ss ?_; refine s_o [(5, _)] rfl rfl rfl z_su rfl q_full z_fp z_ss ?_; refine s_o [(6, _)] rfl rfl rfl z_su rfl q_move z_fp z_ss ?_; exact wpS_nil ⟨rfl, rfl⟩)) z_su ?_; clear z_ex); (refine WpM.ret ?_; refine ⟨.inr rfl, Upd.done ?_⟩; (simp (maxSteps := 2000000) (disch := omega) [go_sem, -List.map_map, resV, resVs, resV1, tyOf])); all_goals decide)
theorem writes67 (k : Int) : PureC Try.prog 67 [.d (.int .i64 k)] (.d (.bool (decide (k ≤ 4)))) := by
  refine PureC.of (n := 5) Try.func67 rfl rfl (by simp) (by simp only [argL, Nat.reduceAdd] <;> rfl) rfl ?_
  intro n0 H hH
  ((repeat refine WpM.seq ?_); have z_ex := True.intro; refine WpM.regPE [] [(0, _)] (by (refine s_o [] rfl rfl rfl z_su rfl q_move z_fp z_ss ?_; exact wpS_nil ⟨rfl, rfl⟩)) z_su ?_; clear z_ex)
  ((repeat refine WpM.seq ?_); have z_ex := True.intro; refine WpM.regPE [] [(2, _)] (by (refine s_o [(0, _)] rfl rfl rfl z_su rfl q_move z_fp z_ss ?_; refine s_o [(3, _)] rfl rfl rfl z_su rfl q_full z_fp z_ss ?_; refine s_o [(4, _)] rfl rfl rfl z_su rfl q_move z_fp z_ss ?_; exact wpS_nil ⟨rfl, rfl⟩)) z_su ?_; clear z_ex)
  (refine WpM.ret ?_; refine ⟨.inr rfl, Upd.done ?_⟩; (simp (maxSteps := 2000000) (disch := omega) [go_sem, -List.map_map, resV, resVs, resV1,]))
/-- The number of the first that is s. -/
def findN : List ByteArray → ByteArray → Option Nat
  | [], _ => none
  | k :: r, s => if k = s then some 0 else (findN r s).map (· + 1)
def findI (l : List ByteArray) (s : ByteArray) : Int := match findN l s with | some j => j | none => -1
theorem findN_some : ∀ {l : List ByteArray} {s : ByteArray} {j : Nat}, findN l s = some j → ∃ h : j < l.length, l[j] = s ∧ ∀ i (h : i < l.length), i < j → l[i] ≠ s
  | k :: r, s, j, h => by
    unfold findN at h
    split at h
    · injection h with h
      subst h
      exact ⟨by simp, by simpa, fun i _ hi => by omega⟩
    · rename_i hne
      simp only [Option.map_eq_some_iff] at h
      obtain ⟨j', h, rfl⟩ := h
      obtain ⟨h1, h2, h3⟩ := findN_some h
      refine ⟨by simp; omega, by simpa, fun i hi hij => ?_⟩
      cases i with
      | zero => simpa using hne
      | succ i => simpa using h3 i (by simpa using hi) (by omega)
theorem findN_hit : ∀ (l : List ByteArray) (s : ByteArray) (j : Nat) (h : j < l.length), (∀ i (h : i < l.length), i < j → l[i] ≠ s) → l[j] = s → findN l s = some j
  | k :: r, s, 0, h, _, he => by
    simp only [List.getElem_cons_zero] at he
    simp [findN, he]
  | k :: r, s, j + 1, h, hn, he => by
    have h0 := hn 0 (by simp) (by omega)
    simp only [List.getElem_cons_zero] at h0
    simp only [List.getElem_cons_succ] at he
    have ih := findN_hit r s j (by simpa using h) (fun i hi hij => by have := hn (i + 1) (by simpa using hi) (by omega); simpa using this) he
    rw [findN, if_neg h0, ih]
    rfl
theorem findN_no : ∀ (l : List ByteArray) (s : ByteArray), s ∉ l → findN l s = none
  | [], _, _ => rfl
  | k :: r, s, h => by
    rw [findN, if_neg (by rintro rfl; simp at h), findN_no r s (by simp at h; exact h.2)]
    rfl
theorem findN_mem {l : List ByteArray} {s : ByteArray} : s ∈ l ↔ ∃ j, findN l s = some j := by
  constructor
  · intro h
    cases hf : findN l s with
    | some j => exact ⟨j, rfl⟩
    | none =>
      induction l with
      | nil => cases h
      | cons k r ih =>
        unfold findN at hf
        split at hf
        · cases hf
        · rename_i hne
          simp at hf
          rcases List.mem_cons.1 h with rfl | h
          · exact absurd rfl hne
          · obtain ⟨j, hj⟩ := ih h hf
            cases hj
  · rintro ⟨j, hj⟩
    obtain ⟨h, rfl, _⟩ := findN_some hj
    exact List.getElem_mem _
set_option maxHeartbeats 8000000 in
theorem find51 (l : List ByteArray) (s : ByteArray) (hl : l.length ≤ 140737488351232) : PureC Try.prog 51 [.d (strs l), .d (.str s)] (.d (.int .i64 (findI l s))) := by
  refine PureC.of (n := 19) Try.func51 rfl rfl (by simp) (by simp only [argL, Nat.reduceAdd] <;> rfl) rfl ?_
  intro n0 H hH
  ((repeat refine WpM.seq ?_); have z_ex := True.intro; refine WpM.regPE [] [(0, _), (1, _)] (by (refine s_o [] rfl rfl rfl z_su rfl q_move z_fp z_ss ?_; exact wpS_nil ⟨rfl, rfl⟩)) z_su ?_; clear z_ex)
  ((repeat refine WpM.seq ?_); have z_ex := True.intro; refine WpM.regPE [] [(0, _), (1, _), (5, _)] (by (refine s_o [] rfl rfl rfl z_su rfl q_move z_fp z_ss ?_; exact wpS_nil ⟨rfl, rfl⟩)) z_su ?_; clear z_ex)
  ((repeat refine WpM.seq ?_); refine WpM.block ?_)
  refine WpM.loop (fun (j : Nat) fr S => j ≤ l.length ∧ (∀ i (h : i < l.length), i < j → l[i] ≠ s) ∧ fr = frOf [(0, .d (strs l)), (1, .d (.str s)), (5, .d (.int .i64 j))] ∧ ∃ nx, S = ⟨nx, [], H⟩) (fun j => l.length - j) 0 (St.Le.refl _) (frLe_frOf (by (simp (maxSteps := 2000000) (disch := omega) [go_sem, -List.map_map, strs]))) ⟨by omega, by simp, rfl, _, rfl⟩ ?_
  rintro j fr S' ⟨hj, hall, rfl, nx, rfl⟩
  ((repeat refine WpM.seq ?_); have z_ex := (And.intro @strs.eq_1 True.intro); refine WpM.regPE [] [(0, _), (1, _), (5, _), (9, _)] (by (refine s_o [(5, _)] rfl rfl rfl z_su rfl q_move z_fp z_ss ?_; refine s_o [(0, _)] rfl rfl rfl z_su rfl q_move z_fp z_ss ?_; refine s_o [(7, _)] rfl rfl rfl z_su rfl q_full z_fp z_ss ?_; refine s_o [(6, _), (8, _)] rfl rfl rfl z_su rfl q_full z_fp z_ss ?_; exact wpS_nil ⟨rfl, rfl⟩)) z_su ?_; clear z_ex)
  by_cases hlt : j < l.length
  · ((repeat refine WpM.seq ?_); refine WpM.condT (by (simp (maxSteps := 2000000) (disch := omega) [go_sem, -List.map_map, hlt])) ?_)
    refine WpM.skip ?_
    ((repeat refine WpM.seq ?_); refine WpM.block ?_)
    ((repeat refine WpM.seq ?_); have z_ex := (And.intro @strs.eq_1 (And.intro @hlt True.intro)); refine WpM.regPE [] [(0, _), (1, _), (5, _), (17, _)] (by (refine s_o [(0, _)] rfl rfl rfl z_su rfl q_move z_fp z_ss ?_; refine s_o [(5, _)] rfl rfl rfl z_su rfl q_move z_fp z_ss ?_; refine s_o [(12, _), (13, _)] rfl rfl rfl z_su rfl q_full z_fp z_ss ?_; refine s_o [(14, _)] rfl rfl rfl z_su rfl q_load z_fp z_ss ?_; refine s_o [(1, _)] rfl rfl rfl z_su rfl q_move z_fp z_ss ?_; refine s_o [(15, _), (16, _)] rfl rfl rfl z_su rfl q_full z_fp z_ss ?_; exact wpS_nil ⟨rfl, rfl⟩)) z_su ?_; clear z_ex)
    by_cases he : l[j] = s
    · ((repeat refine WpM.seq ?_); refine WpM.condT (by (simp (maxSteps := 2000000) (disch := omega) [go_sem, -List.map_map, he])) ?_)
      ((repeat refine WpM.seq ?_); have z_ex := True.intro; refine WpM.regPE [] [(4, _)] (by (refine s_o [(5, _)] rfl rfl rfl z_su rfl q_move z_fp z_ss ?_; refine s_o [(18, _)] rfl rfl rfl z_su rfl q_move z_fp z_ss ?_; exact wpS_nil ⟨rfl, rfl⟩)) z_su ?_; clear z_ex)
      have hf : findI l s = j := by rw [findI, findN_hit l s j hlt hall he]
      (refine WpM.ret ?_; refine ⟨.inr rfl, Upd.done ?_⟩; (simp (maxSteps := 2000000) (disch := omega) [go_sem, -List.map_map, resV, resVs, resV1, hf]))
    · ((repeat refine WpM.seq ?_); refine WpM.condF (by (simp (maxSteps := 2000000) (disch := omega) [go_sem, -List.map_map, he])) ?_)
      refine WpM.skip ?_
      ((repeat refine WpM.seq ?_); have z_ex := (And.intro @wrap_id True.intro); refine WpM.regPE [] [(0, _), (1, _), (5, _)] (by (refine s_o [(5, _)] rfl rfl rfl z_su rfl q_move z_fp z_ss ?_; refine s_o [(10, _)] rfl rfl rfl z_su rfl q_full z_fp z_ss ?_; refine s_o [(11, _)] rfl rfl rfl z_su rfl q_move z_fp z_ss ?_; exact wpS_nil ⟨rfl, rfl⟩)) z_su ?_; clear z_ex)
      have hall' : ∀ i (h : i < l.length), i < j + 1 → l[i] ≠ s := fun i h hi => by
        rcases Nat.lt_or_ge i j with h' | h'
        · exact hall i h h'
        · obtain rfl : i = j := by omega
          exact he
      exact round_end (x' := j + 1) (St.Le.refl _) (frLe_frOf (by (simp (maxSteps := 2000000) (disch := omega) [go_sem, -List.map_map, strs, wrap_id]))) ⟨by omega, hall', rfl, _, rfl⟩ (by omega)
  · ((repeat refine WpM.seq ?_); refine WpM.condF (by (simp (maxSteps := 2000000) (disch := omega) [go_sem, -List.map_map, hlt])) ?_)
    (refine WpM.exit ?_; (repeat (with_reducible (first | refine thenM_exit ?_ | refine blockM_eq ?_ | refine blockM_ne (by decide) ?_))))
    obtain rfl : j = l.length := by omega
    have hf : findI l s = -1 := by rw [findI, findN_no l s fun h => by obtain ⟨i, hi, e⟩ := List.getElem_of_mem h; exact hall i hi hi e]
    ((repeat refine WpM.seq ?_); have z_ex := True.intro; refine WpM.regPE [] [(4, _)] (by (refine s_o [] rfl rfl rfl z_su rfl q_move z_fp z_ss ?_; exact wpS_nil ⟨rfl, rfl⟩)) z_su ?_; clear z_ex)
    (refine WpM.ret ?_; refine ⟨.inr rfl, Upd.done ?_⟩; (simp (maxSteps := 2000000) (disch := omega) [go_sem, -List.map_map, resV, resVs, resV1, hf]))
set_option maxHeartbeats 8000000 in
theorem sameInts39 (a b : List Int) (ha : a.length ≤ 140737488351232) : PureC Try.prog 39 [.d (ints a), .d (ints b)] (.d (.bool (decide (a = b)))) := by
  refine PureC.of (n := 26) Try.func39 rfl rfl (by simp) (by simp only [argL, Nat.reduceAdd] <;> rfl) rfl ?_
  intro n0 H hH
  ((repeat refine WpM.seq ?_); have z_ex := True.intro; refine WpM.regPE [] [(0, _), (1, _)] (by (refine s_o [] rfl rfl rfl z_su rfl q_move z_fp z_ss ?_; exact wpS_nil ⟨rfl, rfl⟩)) z_su ?_; clear z_ex)
  ((repeat refine WpM.seq ?_); have z_ex := (And.intro @ints.eq_1 True.intro); refine WpM.regPE [] [(0, _), (1, _), (10, _)] (by (refine s_o [(0, _)] rfl rfl rfl z_su rfl q_move z_fp z_ss ?_; refine s_o [(6, _)] rfl rfl rfl z_su rfl q_full z_fp z_ss ?_; refine s_o [(1, _)] rfl rfl rfl z_su rfl q_move z_fp z_ss ?_; refine s_o [(8, _)] rfl rfl rfl z_su rfl q_full z_fp z_ss ?_; refine s_o [(7, _), (9, _)] rfl rfl rfl z_su rfl q_full z_fp z_ss ?_; exact wpS_nil ⟨rfl, rfl⟩)) z_su ?_; clear z_ex)
  by_cases hl : a.length = b.length
  · ((repeat refine WpM.seq ?_); refine WpM.condF (by (simp (maxSteps := 2000000) (disch := omega) [go_sem, -List.map_map, hl])) ?_)
    refine WpM.skip ?_
    ((repeat refine WpM.seq ?_); have z_ex := True.intro; refine WpM.regPE [] [(0, _), (1, _), (5, _)] (by (refine s_o [] rfl rfl rfl z_su rfl q_move z_fp z_ss ?_; exact wpS_nil ⟨rfl, rfl⟩)) z_su ?_; clear z_ex)
    ((repeat refine WpM.seq ?_); refine WpM.block ?_)
    refine WpM.loop (fun (j : Nat) fr S => j ≤ a.length ∧ (∀ i (h : i < a.length), i < j → a[i] = b[i]'(by omega)) ∧ fr = frOf [(0, .d (ints a)), (1, .d (ints b)), (5, .d (.int .i64 j))] ∧ ∃ nx, S = ⟨nx, [], H⟩) (fun j => a.length - j) 0 (St.Le.refl _) (frLe_frOf (by (simp (maxSteps := 2000000) (disch := omega) [go_sem, -List.map_map, ints]))) ⟨by omega, by simp, rfl, _, rfl⟩ ?_
    rintro j fr S' ⟨hj, hall, rfl, nx, rfl⟩
    ((repeat refine WpM.seq ?_); have z_ex := (And.intro @ints.eq_1 True.intro); refine WpM.regPE [] [(0, _), (1, _), (5, _), (14, _)] (by (refine s_o [(5, _)] rfl rfl rfl z_su rfl q_move z_fp z_ss ?_; refine s_o [(0, _)] rfl rfl rfl z_su rfl q_move z_fp z_ss ?_; refine s_o [(12, _)] rfl rfl rfl z_su rfl q_full z_fp z_ss ?_; refine s_o [(11, _), (13, _)] rfl rfl rfl z_su rfl q_full z_fp z_ss ?_; exact wpS_nil ⟨rfl, rfl⟩)) z_su ?_; clear z_ex)
    by_cases hlt : j < a.length
    · ((repeat refine WpM.seq ?_); refine WpM.condT (by (simp (maxSteps := 2000000) (disch := omega) [go_sem, -List.map_map, hlt])) ?_)
      refine WpM.skip ?_
      ((repeat refine WpM.seq ?_); refine WpM.block ?_)
      have hjb : j < b.length := by omega
      ((repeat refine WpM.seq ?_); have z_ex := (And.intro @ints.eq_1 (And.intro @hlt (And.intro @hjb True.intro))); refine WpM.drwPE [] [(0, _), (1, _), (5, _), (25, _)] mixed (by kernel_rfl) (by kernel_rfl) [] (by kernel_rfl) (by (refine d_o [(0, _)] rfl rfl rfl z_su rfl q_move z_fp z_ss rfl ?_; refine d_o [(5, _)] rfl rfl rfl z_su rfl q_move z_fp z_ss rfl ?_; refine d_o [(17, _), (18, _)] rfl rfl rfl z_su rfl q_full z_fp z_ss rfl ?_; refine d_o [(19, _)] rfl rfl rfl z_su rfl q_load z_fp z_ss rfl ?_; refine d_o [(1, _)] rfl rfl rfl z_su rfl q_move z_fp z_ss rfl ?_; refine d_o [(5, _)] rfl rfl rfl z_su rfl q_move z_fp z_ss rfl ?_; refine d_o [(21, _), (22, _)] rfl rfl rfl z_su rfl q_full z_fp z_ss rfl ?_; refine d_o [(23, _)] rfl rfl rfl z_su rfl q_load z_fp z_ss rfl ?_; refine d_o [(20, _), (24, _)] rfl rfl rfl z_su rfl q_full z_fp z_ss rfl ?_; exact d_end z_mt z_sn)) z_su ?_; clear z_ex)
      by_cases he : a[j] = b[j]
      · ((repeat refine WpM.seq ?_); refine WpM.condF (by (simp (maxSteps := 2000000) (disch := omega) [go_sem, -List.map_map, he])) ?_)
        refine WpM.skip ?_
        ((repeat refine WpM.seq ?_); have z_ex := (And.intro @wrap_id True.intro); refine WpM.regPE [] [(0, _), (1, _), (5, _)] (by (refine s_o [(5, _)] rfl rfl rfl z_su rfl q_move z_fp z_ss ?_; refine s_o [(15, _)] rfl rfl rfl z_su rfl q_full z_fp z_ss ?_; refine s_o [(16, _)] rfl rfl rfl z_su rfl q_move z_fp z_ss ?_; exact wpS_nil ⟨rfl, rfl⟩)) z_su ?_; clear z_ex)
        have hall' : ∀ i (h : i < a.length), i < j + 1 → a[i] = b[i]'(by omega) := fun i h hi => by
          rcases Nat.lt_or_ge i j with h' | h'
          · exact hall i h h'
          · obtain rfl : i = j := by omega
            exact he
        exact round_end (x' := j + 1) (St.Le.refl _) (frLe_frOf (by (simp (maxSteps := 2000000) (disch := omega) [go_sem, -List.map_map, ints, wrap_id]))) ⟨by omega, hall', rfl, _, rfl⟩ (by omega)
      · ((repeat refine WpM.seq ?_); refine WpM.condT (by (simp (maxSteps := 2000000) (disch := omega) [go_sem, -List.map_map, he])) ?_)
        have hne : ¬ a = b := by rintro rfl; exact he rfl
        ((repeat refine WpM.seq ?_); have z_ex := True.intro; refine WpM.regPE [] [(4, _)] (by (refine s_o [] rfl rfl rfl z_su rfl q_move z_fp z_ss ?_; exact wpS_nil ⟨rfl, rfl⟩)) z_su ?_; clear z_ex)
        (refine WpM.ret ?_; refine ⟨.inr rfl, Upd.done ?_⟩; (simp (maxSteps := 2000000) (disch := omega) [go_sem, -List.map_map, resV, resVs, resV1, hne]))
    · ((repeat refine WpM.seq ?_); refine WpM.condF (by (simp (maxSteps := 2000000) (disch := omega) [go_sem, -List.map_map, hlt])) ?_)
      (refine WpM.exit ?_; (repeat (with_reducible (first | refine thenM_exit ?_ | refine blockM_eq ?_ | refine blockM_ne (by decide) ?_))))
      obtain rfl : j = a.length := by omega
      have heq : a = b := List.ext_getElem hl fun i h _ => hall i h h
      ((repeat refine WpM.seq ?_); have z_ex := True.intro; refine WpM.regPE [] [(4, _)] (by (refine s_o [] rfl rfl rfl z_su rfl q_move z_fp z_ss ?_; exact wpS_nil ⟨rfl, rfl⟩)) z_su ?_; clear z_ex)
      (refine WpM.ret ?_; refine ⟨.inr rfl, Upd.done ?_⟩; (simp (maxSteps := 2000000) (disch := omega) [go_sem, -List.map_map, resV, resVs, resV1, heq]))
  · ((repeat refine WpM.seq ?_); refine WpM.condT (by (simp (maxSteps := 2000000) (disch := omega) [go_sem, -List.map_map, ints, hl])) ?_)
    have hne : ¬ a = b := by rintro rfl; exact hl rfl
    ((repeat refine WpM.seq ?_); have z_ex := True.intro; refine WpM.regPE [] [(4, _)] (by (refine s_o [] rfl rfl rfl z_su rfl q_move z_fp z_ss ?_; exact wpS_nil ⟨rfl, rfl⟩)) z_su ?_; clear z_ex)
    (refine WpM.ret ?_; refine ⟨.inr rfl, Upd.done ?_⟩; (simp (maxSteps := 2000000) (disch := omega) [go_sem, -List.map_map, resV, resVs, resV1, hne]))
set_option maxHeartbeats 8000000 in
theorem sameVals25 (a b : List Int) (ha : a.length ≤ 140737488351232) : PureC Try.prog 25 [.d (ints a), .d (ints b)] (.d (.bool (decide (a = b)))) := by
  refine PureC.of (n := 26) Try.func25 rfl rfl (by simp) (by simp only [argL, Nat.reduceAdd] <;> rfl) rfl ?_
  intro n0 H hH
  ((repeat refine WpM.seq ?_); have z_ex := True.intro; refine WpM.regPE [] [(0, _), (1, _)] (by (refine s_o [] rfl rfl rfl z_su rfl q_move z_fp z_ss ?_; exact wpS_nil ⟨rfl, rfl⟩)) z_su ?_; clear z_ex)
  ((repeat refine WpM.seq ?_); have z_ex := (And.intro @ints.eq_1 True.intro); refine WpM.regPE [] [(0, _), (1, _), (10, _)] (by (refine s_o [(0, _)] rfl rfl rfl z_su rfl q_move z_fp z_ss ?_; refine s_o [(6, _)] rfl rfl rfl z_su rfl q_full z_fp z_ss ?_; refine s_o [(1, _)] rfl rfl rfl z_su rfl q_move z_fp z_ss ?_; refine s_o [(8, _)] rfl rfl rfl z_su rfl q_full z_fp z_ss ?_; refine s_o [(7, _), (9, _)] rfl rfl rfl z_su rfl q_full z_fp z_ss ?_; exact wpS_nil ⟨rfl, rfl⟩)) z_su ?_; clear z_ex)
  by_cases hl : a.length = b.length
  · ((repeat refine WpM.seq ?_); refine WpM.condF (by (simp (maxSteps := 2000000) (disch := omega) [go_sem, -List.map_map, hl])) ?_)
    refine WpM.skip ?_
    ((repeat refine WpM.seq ?_); have z_ex := True.intro; refine WpM.regPE [] [(0, _), (1, _), (5, _)] (by (refine s_o [] rfl rfl rfl z_su rfl q_move z_fp z_ss ?_; exact wpS_nil ⟨rfl, rfl⟩)) z_su ?_; clear z_ex)
    ((repeat refine WpM.seq ?_); refine WpM.block ?_)
    refine WpM.loop (fun (j : Nat) fr S => j ≤ a.length ∧ (∀ i (h : i < a.length), i < j → a[i] = b[i]'(by omega)) ∧ fr = frOf [(0, .d (ints a)), (1, .d (ints b)), (5, .d (.int .i64 j))] ∧ ∃ nx, S = ⟨nx, [], H⟩) (fun j => a.length - j) 0 (St.Le.refl _) (frLe_frOf (by (simp (maxSteps := 2000000) (disch := omega) [go_sem, -List.map_map, ints]))) ⟨by omega, by simp, rfl, _, rfl⟩ ?_
    rintro j fr S' ⟨hj, hall, rfl, nx, rfl⟩
    ((repeat refine WpM.seq ?_); have z_ex := (And.intro @ints.eq_1 True.intro); refine WpM.regPE [] [(0, _), (1, _), (5, _), (14, _)] (by (refine s_o [(5, _)] rfl rfl rfl z_su rfl q_move z_fp z_ss ?_; refine s_o [(0, _)] rfl rfl rfl z_su rfl q_move z_fp z_ss ?_; refine s_o [(12, _)] rfl rfl rfl z_su rfl q_full z_fp z_ss ?_; refine s_o [(11, _), (13, _)] rfl rfl rfl z_su rfl q_full z_fp z_ss ?_; exact wpS_nil ⟨rfl, rfl⟩)) z_su ?_; clear z_ex)
    by_cases hlt : j < a.length
    · ((repeat refine WpM.seq ?_); refine WpM.condT (by (simp (maxSteps := 2000000) (disch := omega) [go_sem, -List.map_map, hlt])) ?_)
      refine WpM.skip ?_
      ((repeat refine WpM.seq ?_); refine WpM.block ?_)
      have hjb : j < b.length := by omega
      ((repeat refine WpM.seq ?_); have z_ex := (And.intro @ints.eq_1 (And.intro @hlt (And.intro @hjb True.intro))); refine WpM.drwPE [] [(0, _), (1, _), (5, _), (25, _)] mixed (by kernel_rfl) (by kernel_rfl) [] (by kernel_rfl) (by (refine d_o [(0, _)] rfl rfl rfl z_su rfl q_move z_fp z_ss rfl ?_; refine d_o [(5, _)] rfl rfl rfl z_su rfl q_move z_fp z_ss rfl ?_; refine d_o [(17, _), (18, _)] rfl rfl rfl z_su rfl q_full z_fp z_ss rfl ?_; refine d_o [(19, _)] rfl rfl rfl z_su rfl q_load z_fp z_ss rfl ?_; refine d_o [(1, _)] rfl rfl rfl z_su rfl q_move z_fp z_ss rfl ?_; refine d_o [(5, _)] rfl rfl rfl z_su rfl q_move z_fp z_ss rfl ?_; refine d_o [(21, _), (22, _)] rfl rfl rfl z_su rfl q_full z_fp z_ss rfl ?_; refine d_o [(23, _)] rfl rfl rfl z_su rfl q_load z_fp z_ss rfl ?_; refine d_o [(20, _), (24, _)] rfl rfl rfl z_su rfl q_full z_fp z_ss rfl ?_; exact d_end z_mt z_sn)) z_su ?_; clear z_ex)
      by_cases he : a[j] = b[j]
      · ((repeat refine WpM.seq ?_); refine WpM.condF (by (simp (maxSteps := 2000000) (disch := omega) [go_sem, -List.map_map, he])) ?_)
        refine WpM.skip ?_
        ((repeat refine WpM.seq ?_); have z_ex := (And.intro @wrap_id True.intro); refine WpM.regPE [] [(0, _), (1, _), (5, _)] (by (refine s_o [(5, _)] rfl rfl rfl z_su rfl q_move z_fp z_ss ?_; refine s_o [(15, _)] rfl rfl rfl z_su rfl q_full z_fp z_ss ?_; refine s_o [(16, _)] rfl rfl rfl z_su rfl q_move z_fp z_ss ?_; exact wpS_nil ⟨rfl, rfl⟩)) z_su ?_; clear z_ex)
        have hall' : ∀ i (h : i < a.length), i < j + 1 → a[i] = b[i]'(by omega) := fun i h hi => by
          rcases Nat.lt_or_ge i j with h' | h'
          · exact hall i h h'
          · obtain rfl : i = j := by omega
            exact he
        exact round_end (x' := j + 1) (St.Le.refl _) (frLe_frOf (by (simp (maxSteps := 2000000) (disch := omega) [go_sem, -List.map_map, ints, wrap_id]))) ⟨by omega, hall', rfl, _, rfl⟩ (by omega)
      · ((repeat refine WpM.seq ?_); refine WpM.condT (by (simp (maxSteps := 2000000) (disch := omega) [go_sem, -List.map_map, he])) ?_)
        have hne : ¬ a = b := by rintro rfl; exact he rfl
        ((repeat refine WpM.seq ?_); have z_ex := True.intro; refine WpM.regPE [] [(4, _)] (by (refine s_o [] rfl rfl rfl z_su rfl q_move z_fp z_ss ?_; exact wpS_nil ⟨rfl, rfl⟩)) z_su ?_; clear z_ex)
        (refine WpM.ret ?_; refine ⟨.inr rfl, Upd.done ?_⟩; (simp (maxSteps := 2000000) (disch := omega) [go_sem, -List.map_map, resV, resVs, resV1, hne]))
    · ((repeat refine WpM.seq ?_); refine WpM.condF (by (simp (maxSteps := 2000000) (disch := omega) [go_sem, -List.map_map, hlt])) ?_)
      (refine WpM.exit ?_; (repeat (with_reducible (first | refine thenM_exit ?_ | refine blockM_eq ?_ | refine blockM_ne (by decide) ?_))))
      obtain rfl : j = a.length := by omega
      have heq : a = b := List.ext_getElem hl fun i h _ => hall i h h
      ((repeat refine WpM.seq ?_); have z_ex := True.intro; refine WpM.regPE [] [(4, _)] (by (refine s_o [] rfl rfl rfl z_su rfl q_move z_fp z_ss ?_; exact wpS_nil ⟨rfl, rfl⟩)) z_su ?_; clear z_ex)
      (refine WpM.ret ?_; refine ⟨.inr rfl, Upd.done ?_⟩; (simp (maxSteps := 2000000) (disch := omega) [go_sem, -List.map_map, resV, resVs, resV1, heq]))
  · ((repeat refine WpM.seq ?_); refine WpM.condT (by (simp (maxSteps := 2000000) (disch := omega) [go_sem, -List.map_map, ints, hl])) ?_)
    have hne : ¬ a = b := by rintro rfl; exact hl rfl
    ((repeat refine WpM.seq ?_); have z_ex := True.intro; refine WpM.regPE [] [(4, _)] (by (refine s_o [] rfl rfl rfl z_su rfl q_move z_fp z_ss ?_; exact wpS_nil ⟨rfl, rfl⟩)) z_su ?_; clear z_ex)
    (refine WpM.ret ?_; refine ⟨.inr rfl, Upd.done ?_⟩; (simp (maxSteps := 2000000) (disch := omega) [go_sem, -List.map_map, resV, resVs, resV1, hne]))
theorem clone49 (c : List Int) (hlen : c.length ≤ 1000000000) : PureC Try.prog 49 [.d (ints c)] (.d (ints c)) := by
  refine PureC.of (n := 8) Try.func49 rfl rfl (by simp) (by simp only [argL, Nat.reduceAdd] <;> rfl) rfl ?_
  intro n0 H hH
  cases c with
  | nil =>
    ((repeat refine WpM.seq ?_); have z_ex := True.intro; refine WpM.regPE [] [(0, _)] (by (refine s_o [] rfl rfl rfl z_su rfl q_move z_fp z_ss ?_; exact wpS_nil ⟨rfl, rfl⟩)) z_su ?_; clear z_ex)
    ((repeat refine WpM.seq ?_); have z_ex := True.intro; refine WpM.regP [] ?_; intro K hK; refine s_o [(0, _)] rfl rfl rfl z_su rfl q_move z_fp z_ss ?_; refine wpS_cmp rfl rfl rfl rfl z_lk un44 ?_; intro z_b; refine s_put z_fp ?_; refine s_endE [(0, _), (4, _)] hK z_su ?_; clear hK K; clear z_ex)
    cases z_b with
    | true =>
      ((repeat refine WpM.seq ?_); refine WpM.condT (by (simp (maxSteps := 2000000) (disch := omega) [go_sem, -List.map_map])) ?_)
      ((repeat refine WpM.seq ?_); have z_ex := True.intro; refine WpM.regPE [] [(2, _)] (by (refine s_o [] rfl rfl rfl z_su rfl q_move z_fp z_ss ?_; exact wpS_nil ⟨rfl, rfl⟩)) z_su ?_; clear z_ex)
      refine WpM.ret ?_
      refine ⟨.inr rfl, Upd.pureNil 2 (.inl (by (simp (maxSteps := 2000000) (disch := omega) [go_sem, -List.map_map]))) (Upd.done ?_)⟩
      (simp (maxSteps := 2000000) (disch := omega) [go_sem, -List.map_map, resV, resVs, resV1, ints, fset])
    | false =>
      ((repeat refine WpM.seq ?_); refine WpM.condF (by (simp (maxSteps := 2000000) (disch := omega) [go_sem, -List.map_map])) ?_)
      refine WpM.skip ?_
      ((repeat refine WpM.seq ?_); have z_ex := (And.intro @ints.eq_1 True.intro); refine WpM.regPE [7] [(2, _)] (by (refine s_o [] rfl rfl rfl z_su rfl q_full z_fp z_ss ?_; refine s_o [(0, _)] rfl rfl rfl z_su rfl q_move z_fp z_ss ?_; refine s_o [(5, _), (6, _)] rfl rfl rfl z_su rfl q_full z_fp z_ss ?_; refine s_o [(7, _)] rfl rfl rfl z_su rfl q_move z_fp z_ss ?_; exact wpS_nil ⟨rfl, rfl⟩)) z_su ?_; clear z_ex)
      (refine WpM.ret ?_; refine ⟨.inr rfl, Upd.done ?_⟩; (simp (maxSteps := 2000000) (disch := omega) [go_sem, -List.map_map, resV, resVs, resV1, ints]))
  | cons a r =>
    ((repeat refine WpM.seq ?_); have z_ex := True.intro; refine WpM.regPE [] [(0, _)] (by (refine s_o [] rfl rfl rfl z_su rfl q_move z_fp z_ss ?_; exact wpS_nil ⟨rfl, rfl⟩)) z_su ?_; clear z_ex)
    ((repeat refine WpM.seq ?_); have z_ex := (And.intro @ints.eq_1 True.intro); refine WpM.regPE [] [(0, _), (4, _)] (by (refine s_o [(0, _)] rfl rfl rfl z_su rfl q_move z_fp z_ss ?_; refine s_o [(3, _)] rfl rfl rfl z_su rfl q_full z_fp z_ss ?_; exact wpS_nil ⟨rfl, rfl⟩)) z_su ?_; clear z_ex)
    ((repeat refine WpM.seq ?_); refine WpM.condF (by (simp (maxSteps := 2000000) (disch := omega) [go_sem, -List.map_map])) ?_)
    refine WpM.skip ?_
    simp only [List.length_cons] at hlen
    ((repeat refine WpM.seq ?_); have z_ex := (And.intro @ints.eq_1 True.intro); refine WpM.regPE [7] [(2, _)] (by (refine s_o [] rfl rfl rfl z_su rfl q_full z_fp z_ss ?_; refine s_o [(0, _)] rfl rfl rfl z_su rfl q_move z_fp z_ss ?_; refine s_o [(5, _), (6, _)] rfl rfl rfl z_su rfl q_full z_fp z_ss ?_; refine s_o [(7, _)] rfl rfl rfl z_su rfl q_move z_fp z_ss ?_; exact wpS_nil ⟨rfl, rfl⟩)) z_su ?_; clear z_ex)
    (refine WpM.ret ?_; refine ⟨.inr rfl, Upd.done ?_⟩; (simp (maxSteps := 2000000) (disch := omega) [go_sem, -List.map_map, resV, resVs, resV1, ints]))
set_option maxHeartbeats 8000000 in
theorem index64 (l : List ByteArray) (s : ByteArray) (hl : l.length ≤ 140737488351232) : PureC Try.prog 64 [.d (strs l), .d (.str s)] (.d (.int .i64 (findI l s))) := by
  refine PureC.of (n := 19) Try.func64 rfl rfl (by simp) (by simp only [argL, Nat.reduceAdd] <;> rfl) rfl ?_
  intro n0 H hH
  ((repeat refine WpM.seq ?_); have z_ex := True.intro; refine WpM.regPE [] [(0, _), (1, _)] (by (refine s_o [] rfl rfl rfl z_su rfl q_move z_fp z_ss ?_; exact wpS_nil ⟨rfl, rfl⟩)) z_su ?_; clear z_ex)
  ((repeat refine WpM.seq ?_); have z_ex := (And.intro @strs.eq_1 True.intro); refine WpM.regPE [] [(0, _), (1, _), (7, _), (8, _)] (by (refine s_o [(0, _)] rfl rfl rfl z_su rfl q_move z_fp z_ss ?_; refine s_o [(6, _)] rfl rfl rfl z_su rfl q_full z_fp z_ss ?_; refine s_o [] rfl rfl rfl z_su rfl q_move z_fp z_ss ?_; exact wpS_nil ⟨rfl, rfl⟩)) z_su ?_; clear z_ex)
  ((repeat refine WpM.seq ?_); refine WpM.block ?_)
  refine WpM.loop (fun (j : Nat) fr S => j ≤ l.length ∧ (∀ i (h : i < l.length), i < j → l[i] ≠ s) ∧ fr = frOf [(0, .d (strs l)), (1, .d (.str s)), (7, .d (.int .i64 l.length)), (8, .d (.int .i64 j))] ∧ ∃ nx, S = ⟨nx, [], H⟩) (fun j => l.length - j) 0 (St.Le.refl _) (frLe_frOf (by (simp (maxSteps := 2000000) (disch := omega) [go_sem, -List.map_map, strs]))) ⟨by omega, by simp, rfl, _, rfl⟩ ?_
  rintro j fr S' ⟨hj, hall, rfl, nx, rfl⟩
  ((repeat refine WpM.seq ?_); have z_ex := True.intro; refine WpM.regPE [] [(0, _), (1, _), (7, _), (8, _), (9, _)] (by (refine s_o [(7, _), (8, _)] rfl rfl rfl z_su rfl q_full z_fp z_ss ?_; exact wpS_nil ⟨rfl, rfl⟩)) z_su ?_; clear z_ex)
  by_cases hlt : j < l.length
  · ((repeat refine WpM.seq ?_); refine WpM.condT (by (simp (maxSteps := 2000000) (disch := omega) [go_sem, -List.map_map, hlt])) ?_)
    refine WpM.skip ?_
    ((repeat refine WpM.seq ?_); refine WpM.block ?_)
    ((repeat refine WpM.seq ?_); have z_ex := True.intro; refine WpM.regPE [] [(0, _), (1, _), (5, _), (7, _), (8, _)] (by (refine s_o [(8, _)] rfl rfl rfl z_su rfl q_move z_fp z_ss ?_; refine s_o [(10, _)] rfl rfl rfl z_su rfl q_move z_fp z_ss ?_; exact wpS_nil ⟨rfl, rfl⟩)) z_su ?_; clear z_ex)
    ((repeat refine WpM.seq ?_); have z_ex := (And.intro @strs.eq_1 (And.intro @hlt True.intro)); refine WpM.regPE [] [(0, _), (1, _), (5, _), (7, _), (8, _), (16, _)] (by (refine s_o [(1, _)] rfl rfl rfl z_su rfl q_move z_fp z_ss ?_; refine s_o [(0, _)] rfl rfl rfl z_su rfl q_move z_fp z_ss ?_; refine s_o [(5, _)] rfl rfl rfl z_su rfl q_move z_fp z_ss ?_; refine s_o [(12, _), (13, _)] rfl rfl rfl z_su rfl q_full z_fp z_ss ?_; refine s_o [(14, _)] rfl rfl rfl z_su rfl q_load z_fp z_ss ?_; refine s_o [(11, _), (15, _)] rfl rfl rfl z_su rfl q_full z_fp z_ss ?_; exact wpS_nil ⟨rfl, rfl⟩)) z_su ?_; clear z_ex)
    by_cases he : l[j] = s
    · ((repeat refine WpM.seq ?_); refine WpM.condT (by (simp (maxSteps := 2000000) (disch := omega) [go_sem, -List.map_map, he])) ?_)
      ((repeat refine WpM.seq ?_); have z_ex := True.intro; refine WpM.regPE [] [(4, _)] (by (refine s_o [(5, _)] rfl rfl rfl z_su rfl q_move z_fp z_ss ?_; refine s_o [(17, _)] rfl rfl rfl z_su rfl q_move z_fp z_ss ?_; exact wpS_nil ⟨rfl, rfl⟩)) z_su ?_; clear z_ex)
      have hf : findI l s = j := by rw [findI, findN_hit l s j hlt hall he]
      (refine WpM.ret ?_; refine ⟨.inr rfl, Upd.done ?_⟩; (simp (maxSteps := 2000000) (disch := omega) [go_sem, -List.map_map, resV, resVs, resV1, hf]))
    · have he' : ¬ s = l[j] := fun h => he h.symm
      ((repeat refine WpM.seq ?_); refine WpM.condF (by (simp (maxSteps := 2000000) (disch := omega) [go_sem, -List.map_map, he'])) ?_)
      refine WpM.skip ?_
      ((repeat refine WpM.seq ?_); have z_ex := (And.intro @wrap_id True.intro); refine WpM.regPE [] [(0, _), (1, _), (7, _), (8, _)] (by (refine s_o [(8, _)] rfl rfl rfl z_su rfl q_full z_fp z_ss ?_; refine s_o [(18, _)] rfl rfl rfl z_su rfl q_move z_fp z_ss ?_; exact wpS_nil ⟨rfl, rfl⟩)) z_su ?_; clear z_ex)
      have hall' : ∀ i (h : i < l.length), i < j + 1 → l[i] ≠ s := fun i h hi => by
        rcases Nat.lt_or_ge i j with h' | h'
        · exact hall i h h'
        · obtain rfl : i = j := by omega
          exact he
      exact round_end (x' := j + 1) (St.Le.refl _) (frLe_frOf (by (simp (maxSteps := 2000000) (disch := omega) [go_sem, -List.map_map, strs, wrap_id]))) ⟨by omega, hall', rfl, _, rfl⟩ (by omega)
  · ((repeat refine WpM.seq ?_); refine WpM.condF (by (simp (maxSteps := 2000000) (disch := omega) [go_sem, -List.map_map, hlt])) ?_)
    (refine WpM.exit ?_; (repeat (with_reducible (first | refine thenM_exit ?_ | refine blockM_eq ?_ | refine blockM_ne (by decide) ?_))))
    obtain rfl : j = l.length := by omega
    have hf : findI l s = -1 := by rw [findI, findN_no l s fun h => by obtain ⟨i, hi, e⟩ := List.getElem_of_mem h; exact hall i hi hi e]
    ((repeat refine WpM.seq ?_); have z_ex := True.intro; refine WpM.regPE [] [(4, _)] (by (refine s_o [] rfl rfl rfl z_su rfl q_move z_fp z_ss ?_; exact wpS_nil ⟨rfl, rfl⟩)) z_su ?_; clear z_ex)
    (refine WpM.ret ?_; refine ⟨.inr rfl, Upd.done ?_⟩; (simp (maxSteps := 2000000) (disch := omega) [go_sem, -List.map_map, resV, resVs, resV1, hf]))
theorem contains52 (l : List ByteArray) (s : ByteArray) (hl : l.length ≤ 140737488351232) : PureC Try.prog 52 [.d (strs l), .d (.str s)] (.d (.bool (decide (0 ≤ findI l s)))) := by
  refine PureC.of (n := 9) Try.func52 rfl rfl (by simp) (by simp only [argL, Nat.reduceAdd] <;> rfl) rfl ?_
  intro n0 H hH
  ((repeat refine WpM.seq ?_); have z_ex := True.intro; refine WpM.regPE [] [(0, _), (1, _)] (by (refine s_o [] rfl rfl rfl z_su rfl q_move z_fp z_ss ?_; exact wpS_nil ⟨rfl, rfl⟩)) z_su ?_; clear z_ex)
  ((repeat refine WpM.seq ?_); have z_ex := True.intro; refine WpM.regPE [] [(4, _)] (by (refine s_o [(0, _)] rfl rfl rfl z_su rfl q_move z_fp z_ss ?_; refine s_o [(1, _)] rfl rfl rfl z_su rfl q_move z_fp z_ss ?_; refine s_pure (callOf_eq rfl rfl rfl (mlk_tmp z_lk (mlk_tmp z_lk mlk_nil))) ((index64 l s hl)) rfl rfl z_ip z_fp ?_; refine s_o [(7, _)] rfl rfl rfl z_su rfl q_full z_fp z_ss ?_; refine s_o [(8, _)] rfl rfl rfl z_su rfl q_move z_fp z_ss ?_; exact wpS_nil ⟨rfl, rfl⟩)) z_su ?_; clear z_ex)
  (refine WpM.ret ?_; refine ⟨.inr rfl, Upd.done ?_⟩; (simp (maxSteps := 2000000) (disch := omega) [go_sem, -List.map_map, resV, resVs, resV1,]))
end Go.Proofs.Ytjjmedgibcffhaa
/- assizeref05.Same of a history and itself. -/
namespace Go.Proofs.Ytjjmedgibcffhaa
open Go.RowKit M
set_option linter.unusedSimpArgs false
set_option linter.unusedVariables false
/-- No list is too long. -/
structure OpB (o : OpD) : Prop where
  vals : o.vals.length * 8 ≤ 140737488351232
structure TxnB (t : TxnD) : Prop where
  len : t.ops.length * 56 ≤ 140737488351232
  ops : ∀ o ∈ t.ops, OpB o
structure HistB (h : HistD) : Prop where
  keys : h.keys.length * 16 ≤ 140737488351232
  len : h.txns.length * 56 ≤ 140737488351232
  txns : ∀ t ∈ h.txns, TxnB t
set_option maxHeartbeats 8000000 in
theorem same30 (h : HistD) (hb : HistB h) : PureC Try.prog 30 [.d (encHist h), .d (encHist h)] (.d (.bool true)) := by
  refine PureC.of (n := 149) Try.func30 rfl rfl (by simp) (by simp only [argL, Nat.reduceAdd] <;> rfl) rfl ?_
  intro n0 H hH
  have hb1 := hb.keys
  have hb2 := hb.len
  ((repeat refine WpM.seq ?_); have z_ex := True.intro; refine WpM.regPE [] [(2, _), (3, _)] (by (refine s_o [(0, _)] rfl rfl rfl z_su rfl q_box z_fp z_ss ?_; refine s_o [(1, _)] rfl rfl rfl z_su rfl q_box z_fp z_ss ?_; refine s_o [] rfl rfl rfl z_su rfl q_move z_fp z_ss ?_; exact wpS_nil ⟨rfl, rfl⟩)) z_su ?_; clear z_ex)
  ((repeat refine WpM.seq ?_); have z_ex := (And.intro @encHist.eq_1 True.intro); refine WpM.regPE [] [(2, _), (3, _), (27, _)] (by (refine s_o [(2, _)] rfl rfl rfl z_su rfl q_fieldAddr z_fp z_ss ?_; refine s_o [(12, _)] rfl rfl rfl z_su rfl q_load z_fp z_ss ?_; refine s_o [(13, _)] rfl rfl rfl z_su rfl q_full z_fp z_ss ?_; refine s_o [(3, _)] rfl rfl rfl z_su rfl q_fieldAddr z_fp z_ss ?_; refine s_o [(15, _)] rfl rfl rfl z_su rfl q_load z_fp z_ss ?_; refine s_o [(16, _)] rfl rfl rfl z_su rfl q_full z_fp z_ss ?_; refine s_o [(14, _), (17, _)] rfl rfl rfl z_su rfl q_full z_fp z_ss ?_; refine s_o [(18, _)] rfl rfl rfl z_su rfl q_move z_fp z_ss ?_; refine s_wit ?_; intro z_g; (first | refine s_skip rfl z_g z_fp ?_ | (refine s_o [(2, _)] rfl z_g rfl z_su rfl q_fieldAddr z_fp z_ss ?_)); clear z_g; refine s_wit ?_; intro z_g; (first | refine s_skip rfl z_g z_fp ?_ | (refine s_o [(20, _)] rfl z_g rfl z_su rfl q_load z_fp z_ss ?_)); clear z_g; refine s_wit ?_; intro z_g; (first | refine s_skip rfl z_g z_fp ?_ | (refine s_o [(21, _)] rfl z_g rfl z_su rfl q_full z_fp z_ss ?_)); clear z_g; refine s_wit ?_; intro z_g; (first | refine s_skip rfl z_g z_fp ?_ | (refine s_o [(3, _)] rfl z_g rfl z_su rfl q_fieldAddr z_fp z_ss ?_)); clear z_g; refine s_wit ?_; intro z_g; (first | refine s_skip rfl z_g z_fp ?_ | (refine s_o [(23, _)] rfl z_g rfl z_su rfl q_load z_fp z_ss ?_)); clear z_g; refine s_wit ?_; intro z_g; (first | refine s_skip rfl z_g z_fp ?_ | (refine s_o [(24, _)] rfl z_g rfl z_su rfl q_full z_fp z_ss ?_)); clear z_g; refine s_wit ?_; intro z_g; (first | refine s_skip rfl z_g z_fp ?_ | (refine s_o [(22, _), (25, _)] rfl z_g rfl z_su rfl q_full z_fp z_ss ?_)); clear z_g; refine s_o [(19, _), (26, _)] rfl rfl rfl z_su rfl q_move z_fp z_ss ?_; exact wpS_nil ⟨rfl, rfl⟩)) z_su ?_; clear z_ex)
  ((repeat refine WpM.seq ?_); refine WpM.condF (by (simp (maxSteps := 2000000) (disch := omega) [go_sem, -List.map_map])) ?_)
  refine WpM.skip ?_
  ((repeat refine WpM.seq ?_); have z_ex := True.intro; refine WpM.regPE [] [(2, _), (3, _), (5, _)] (by (refine s_o [] rfl rfl rfl z_su rfl q_move z_fp z_ss ?_; exact wpS_nil ⟨rfl, rfl⟩)) z_su ?_; clear z_ex)
  ((repeat refine WpM.seq ?_); refine WpM.block ?_)
  refine WpM.loop (fun (j : Nat) fr S => j ≤ h.keys.length ∧ fr = frOf [(2, .ptr n0 0), (3, .ptr (n0 + 1) 0), (5, .d (.int .i64 j))] ∧ ∃ nx, n0 + 2 ≤ nx ∧ S = ⟨nx, [(n0, some (.box [.d (strs h.keys), .d (.sl (h.txns.map encTxn))])), (n0 + 1, some (.box [.d (strs h.keys), .d (.sl (h.txns.map encTxn))]))], H⟩) (fun j => h.keys.length - j) 0 (St.Le.refl _) (frLe_frOf (by (simp (maxSteps := 2000000) (disch := omega) [go_sem, -List.map_map]))) ⟨by omega, rfl, n0 + 20, ?_, by (simp (maxSteps := 2000000) (disch := omega) [go_sem, -List.map_map, encHist, strs])⟩ ?_
  · show _ ≤ _ ; omega
  rintro j fr S' ⟨hj, rfl, nx, hnx, rfl⟩
  ((repeat refine WpM.seq ?_); have z_ex := (And.intro @strs.eq_1 True.intro); refine WpM.regPE [] [(2, _), (3, _), (5, _), (32, _)] (by (refine s_o [(5, _)] rfl rfl rfl z_su rfl q_move z_fp z_ss ?_; refine s_o [(2, _)] rfl rfl rfl z_su rfl q_fieldAddr z_fp z_ss ?_; refine s_o [(29, _)] rfl rfl rfl z_su rfl q_load z_fp z_ss ?_; refine s_o [(30, _)] rfl rfl rfl z_su rfl q_full z_fp z_ss ?_; refine s_o [(28, _), (31, _)] rfl rfl rfl z_su rfl q_full z_fp z_ss ?_; exact wpS_nil ⟨rfl, rfl⟩)) z_su ?_; clear z_ex)
  by_cases hlt : j < h.keys.length
  · ((repeat refine WpM.seq ?_); refine WpM.condT (by (simp (maxSteps := 2000000) (disch := omega) [go_sem, -List.map_map, hlt])) ?_)
    refine WpM.skip ?_
    ((repeat refine WpM.seq ?_); refine WpM.block ?_)
    ((repeat refine WpM.seq ?_); have z_ex := (And.intro @strs.eq_1 (And.intro @hlt True.intro)); refine WpM.drwPE [] [(2, _), (3, _), (5, _), (45, _)] mixed (by kernel_rfl) (by kernel_rfl) [] (by kernel_rfl) (by (refine d_o [(2, _)] rfl rfl rfl z_su rfl q_fieldAddr z_fp z_ss rfl ?_; refine d_o [(35, _)] rfl rfl rfl z_su rfl q_load z_fp z_ss rfl ?_; refine d_o [(5, _)] rfl rfl rfl z_su rfl q_move z_fp z_ss rfl ?_; refine d_o [(36, _), (37, _)] rfl rfl rfl z_su rfl q_full z_fp z_ss rfl ?_; refine d_o [(38, _)] rfl rfl rfl z_su rfl q_load z_fp z_ss rfl ?_; refine d_o [(3, _)] rfl rfl rfl z_su rfl q_fieldAddr z_fp z_ss rfl ?_; refine d_o [(40, _)] rfl rfl rfl z_su rfl q_load z_fp z_ss rfl ?_; refine d_o [(5, _)] rfl rfl rfl z_su rfl q_move z_fp z_ss rfl ?_; refine d_o [(41, _), (42, _)] rfl rfl rfl z_su rfl q_full z_fp z_ss rfl ?_; refine d_o [(43, _)] rfl rfl rfl z_su rfl q_load z_fp z_ss rfl ?_; refine d_o [(39, _), (44, _)] rfl rfl rfl z_su rfl q_full z_fp z_ss rfl ?_; exact d_end z_mt z_sn)) z_su ?_; clear z_ex)
    ((repeat refine WpM.seq ?_); refine WpM.condF (by (simp (maxSteps := 2000000) (disch := omega) [go_sem, -List.map_map])) ?_)
    refine WpM.skip ?_
    ((repeat refine WpM.seq ?_); have z_ex := (And.intro @wrap_id True.intro); refine WpM.regPE [] [(2, _), (3, _), (5, _)] (by (refine s_o [(5, _)] rfl rfl rfl z_su rfl q_move z_fp z_ss ?_; refine s_o [(33, _)] rfl rfl rfl z_su rfl q_full z_fp z_ss ?_; refine s_o [(34, _)] rfl rfl rfl z_su rfl q_move z_fp z_ss ?_; exact wpS_nil ⟨rfl, rfl⟩)) z_su ?_; clear z_ex)
    exact round_end (x' := j + 1) (St.Le.refl _) (frLe_frOf (by (simp (maxSteps := 2000000) (disch := omega) [go_sem, -List.map_map, wrap_id]))) ⟨by omega, rfl, _, (by show _ ≤ _; omega), rfl⟩ (by omega)
  · ((repeat refine WpM.seq ?_); refine WpM.condF (by (simp (maxSteps := 2000000) (disch := omega) [go_sem, -List.map_map, hlt])) ?_)
    (refine WpM.exit ?_; (repeat (with_reducible (first | refine thenM_exit ?_ | refine blockM_eq ?_ | refine blockM_ne (by decide) ?_))))
    ((repeat refine WpM.seq ?_); have z_ex := True.intro; refine WpM.regPE [] [(2, _), (3, _), (6, _)] (by (refine s_o [] rfl rfl rfl z_su rfl q_move z_fp z_ss ?_; exact wpS_nil ⟨rfl, rfl⟩)) z_su ?_; clear z_ex)
    ((repeat refine WpM.seq ?_); refine WpM.block ?_)
    refine WpM.loop (fun (j : Nat) fr S => j ≤ h.txns.length ∧ fr = frOf [(2, .ptr n0 0), (3, .ptr (n0 + 1) 0), (6, .d (.int .i64 j))] ∧ ∃ nx, n0 + 2 ≤ nx ∧ S = ⟨nx, [(n0, some (.box [.d (strs h.keys), .d (.sl (h.txns.map encTxn))])), (n0 + 1, some (.box [.d (strs h.keys), .d (.sl (h.txns.map encTxn))]))], H⟩) (fun j => h.txns.length - j) 0 (St.Le.refl _) (frLe_frOf (by (simp (maxSteps := 2000000) (disch := omega) [go_sem, -List.map_map]))) ⟨by omega, rfl, _, ?_, rfl⟩ ?_
    · show _ ≤ _ ; omega
    clear hnx nx
    rintro j2 fr S' ⟨hj2, rfl, nx, hnx, rfl⟩
    ((repeat refine WpM.seq ?_); have z_ex := True.intro; refine WpM.regPE [] [(2, _), (3, _), (6, _), (50, _)] (by (refine s_o [(6, _)] rfl rfl rfl z_su rfl q_move z_fp z_ss ?_; refine s_o [(2, _)] rfl rfl rfl z_su rfl q_fieldAddr z_fp z_ss ?_; refine s_o [(47, _)] rfl rfl rfl z_su rfl q_load z_fp z_ss ?_; refine s_o [(48, _)] rfl rfl rfl z_su rfl q_full z_fp z_ss ?_; refine s_o [(46, _), (49, _)] rfl rfl rfl z_su rfl q_full z_fp z_ss ?_; exact wpS_nil ⟨rfl, rfl⟩)) z_su ?_; clear z_ex)
    by_cases hlt2 : j2 < h.txns.length
    · ((repeat refine WpM.seq ?_); refine WpM.condT (by (simp (maxSteps := 2000000) (disch := omega) [go_sem, -List.map_map, hlt2])) ?_)
      refine WpM.skip ?_
      ((repeat refine WpM.seq ?_); refine WpM.block ?_)
      obtain ⟨t, ht⟩ : ∃ t, t = h.txns[j2] := ⟨_, rfl⟩
      have hget : (h.txns.map encTxn)[j2]? = some (encTxn t) := by simp [hlt2, ht]
      have htb := hb.txns t (ht ▸ List.getElem_mem _)
      have htl := htb.len
      ((repeat refine WpM.seq ?_); have z_ex := (And.intro @hget (And.intro @encTxn.eq_1 True.intro)); refine WpM.drwPE [] [(2, _), (3, _), (6, _), (7, _), (8, _)] mixed (by kernel_rfl) (by kernel_rfl) [(1, 10), (4, 10), (6, 10), (9, 10), (1, 11), (4, 11), (6, 11), (9, 11), (10, 11), (6, 12), (9, 12)] (by kernel_rfl) (by (refine d_o [(2, _)] rfl rfl rfl z_su rfl q_fieldAddr z_fp z_ss rfl ?_; refine d_o [(53, _)] rfl rfl rfl z_su rfl q_load z_fp z_ss rfl ?_; refine d_o [(6, _)] rfl rfl rfl z_su rfl q_move z_fp z_ss rfl ?_; refine d_o [(54, _), (55, _)] rfl rfl rfl z_su rfl q_full z_fp z_ss rfl ?_; refine d_o [(56, _)] rfl rfl rfl z_su rfl q_load z_fp z_ss rfl ?_; refine d_o [(3, _)] rfl rfl rfl z_su rfl q_fieldAddr z_fp z_ss rfl ?_; refine d_o [(58, _)] rfl rfl rfl z_su rfl q_load z_fp z_ss rfl ?_; refine d_o [(6, _)] rfl rfl rfl z_su rfl q_move z_fp z_ss rfl ?_; refine d_o [(59, _), (60, _)] rfl rfl rfl z_su rfl q_full z_fp z_ss rfl ?_; refine d_o [(61, _)] rfl rfl rfl z_su rfl q_load z_fp z_ss rfl ?_; refine d_o [] rfl rfl rfl z_su rfl q_alloc z_fp z_ss rfl ?_; refine d_o [] rfl rfl rfl z_su rfl q_alloc z_fp z_ss rfl ?_; refine d_o [(7, _), (57, _)] rfl rfl rfl z_su rfl q_store z_fp z_ss rfl ?_; refine d_o [(8, _), (62, _)] rfl rfl rfl z_su rfl q_store z_fp z_ss rfl ?_; exact d_end z_mt z_sn)) z_su ?_; clear z_ex)
      ((repeat refine WpM.seq ?_); have z_ex := True.intro; refine WpM.regPE [] [(2, _), (3, _), (6, _), (7, _), (8, _), (97, _)] (by (refine s_o [(7, _)] rfl rfl rfl z_su rfl q_fieldAddr z_fp z_ss ?_; refine s_o [(63, _)] rfl rfl rfl z_su rfl q_load z_fp z_ss ?_; refine s_o [(8, _)] rfl rfl rfl z_su rfl q_fieldAddr z_fp z_ss ?_; refine s_o [(65, _)] rfl rfl rfl z_su rfl q_load z_fp z_ss ?_; refine s_o [(64, _), (66, _)] rfl rfl rfl z_su rfl q_full z_fp z_ss ?_; refine s_o [(67, _)] rfl rfl rfl z_su rfl q_move z_fp z_ss ?_; refine s_wit ?_; intro z_g; (first | refine s_skip rfl z_g z_fp ?_ | (refine s_o [(7, _)] rfl z_g rfl z_su rfl q_fieldAddr z_fp z_ss ?_)); clear z_g; refine s_wit ?_; intro z_g; (first | refine s_skip rfl z_g z_fp ?_ | (refine s_o [(69, _)] rfl z_g rfl z_su rfl q_load z_fp z_ss ?_)); clear z_g; refine s_wit ?_; intro z_g; (first | refine s_skip rfl z_g z_fp ?_ | (refine s_o [(8, _)] rfl z_g rfl z_su rfl q_fieldAddr z_fp z_ss ?_)); clear z_g; refine s_wit ?_; intro z_g; (first | refine s_skip rfl z_g z_fp ?_ | (refine s_o [(71, _)] rfl z_g rfl z_su rfl q_load z_fp z_ss ?_)); clear z_g; refine s_wit ?_; intro z_g; (first | refine s_skip rfl z_g z_fp ?_ | (refine s_o [(70, _), (72, _)] rfl z_g rfl z_su rfl q_full z_fp z_ss ?_)); clear z_g; refine s_o [(68, _), (73, _)] rfl rfl rfl z_su rfl q_move z_fp z_ss ?_; refine s_o [(74, _)] rfl rfl rfl z_su rfl q_move z_fp z_ss ?_; refine s_wit ?_; intro z_g; (first | refine s_skip rfl z_g z_fp ?_ | (refine s_o [(7, _)] rfl z_g rfl z_su rfl q_fieldAddr z_fp z_ss ?_)); clear z_g; refine s_wit ?_; intro z_g; (first | refine s_skip rfl z_g z_fp ?_ | (refine s_o [(76, _)] rfl z_g rfl z_su rfl q_load z_fp z_ss ?_)); clear z_g; refine s_wit ?_; intro z_g; (first | refine s_skip rfl z_g z_fp ?_ | (refine s_o [(8, _)] rfl z_g rfl z_su rfl q_fieldAddr z_fp z_ss ?_)); clear z_g; refine s_wit ?_; intro z_g; (first | refine s_skip rfl z_g z_fp ?_ | (refine s_o [(78, _)] rfl z_g rfl z_su rfl q_load z_fp z_ss ?_)); clear z_g; refine s_wit ?_; intro z_g; (first | refine s_skip rfl z_g z_fp ?_ | (refine s_o [(77, _), (79, _)] rfl z_g rfl z_su rfl q_full z_fp z_ss ?_)); clear z_g; refine s_o [(75, _), (80, _)] rfl rfl rfl z_su rfl q_move z_fp z_ss ?_; refine s_o [(81, _)] rfl rfl rfl z_su rfl q_move z_fp z_ss ?_; refine s_wit ?_; intro z_g; (first | refine s_skip rfl z_g z_fp ?_ | (refine s_o [(7, _)] rfl z_g rfl z_su rfl q_fieldAddr z_fp z_ss ?_)); clear z_g; refine s_wit ?_; intro z_g; (first | refine s_skip rfl z_g z_fp ?_ | (refine s_o [(83, _)] rfl z_g rfl z_su rfl q_load z_fp z_ss ?_)); clear z_g; refine s_wit ?_; intro z_g; (first | refine s_skip rfl z_g z_fp ?_ | (refine s_o [(8, _)] rfl z_g rfl z_su rfl q_fieldAddr z_fp z_ss ?_)); clear z_g; refine s_wit ?_; intro z_g; (first | refine s_skip rfl z_g z_fp ?_ | (refine s_o [(85, _)] rfl z_g rfl z_su rfl q_load z_fp z_ss ?_)); clear z_g; refine s_wit ?_; intro z_g; (first | refine s_skip rfl z_g z_fp ?_ | (refine s_o [(84, _), (86, _)] rfl z_g rfl z_su rfl q_full z_fp z_ss ?_)); clear z_g; refine s_o [(82, _), (87, _)] rfl rfl rfl z_su rfl q_move z_fp z_ss ?_; refine s_o [(88, _)] rfl rfl rfl z_su rfl q_move z_fp z_ss ?_; refine s_wit ?_; intro z_g; (first | refine s_skip rfl z_g z_fp ?_ | (refine s_o [(7, _)] rfl z_g rfl z_su rfl q_fieldAddr z_fp z_ss ?_)); clear z_g; refine s_wit ?_; intro z_g; (first | refine s_skip rfl z_g z_fp ?_ | (refine s_o [(90, _)] rfl z_g rfl z_su rfl q_load z_fp z_ss ?_)); clear z_g; refine s_wit ?_; intro z_g; (first | refine s_skip rfl z_g z_fp ?_ | (refine s_o [(91, _)] rfl z_g rfl z_su rfl q_full z_fp z_ss ?_)); clear z_g; refine s_wit ?_; intro z_g; (first | refine s_skip rfl z_g z_fp ?_ | (refine s_o [(8, _)] rfl z_g rfl z_su rfl q_fieldAddr z_fp z_ss ?_)); clear z_g; refine s_wit ?_; intro z_g; (first | refine s_skip rfl z_g z_fp ?_ | (refine s_o [(93, _)] rfl z_g rfl z_su rfl q_load z_fp z_ss ?_)); clear z_g; refine s_wit ?_; intro z_g; (first | refine s_skip rfl z_g z_fp ?_ | (refine s_o [(94, _)] rfl z_g rfl z_su rfl q_full z_fp z_ss ?_)); clear z_g; refine s_wit ?_; intro z_g; (first | refine s_skip rfl z_g z_fp ?_ | (refine s_o [(92, _), (95, _)] rfl z_g rfl z_su rfl q_full z_fp z_ss ?_)); clear z_g; refine s_o [(89, _), (96, _)] rfl rfl rfl z_su rfl q_move z_fp z_ss ?_; exact wpS_nil ⟨rfl, rfl⟩)) z_su ?_; clear z_ex)
      ((repeat refine WpM.seq ?_); refine WpM.condF (by (simp (maxSteps := 2000000) (disch := omega) [go_sem, -List.map_map])) ?_)
      refine WpM.skip ?_
      ((repeat refine WpM.seq ?_); have z_ex := True.intro; refine WpM.regPE [] [(2, _), (3, _), (6, _), (7, _), (8, _), (9, _)] (by (refine s_o [] rfl rfl rfl z_su rfl q_move z_fp z_ss ?_; exact wpS_nil ⟨rfl, rfl⟩)) z_su ?_; clear z_ex)
      ((repeat refine WpM.seq ?_); refine WpM.block ?_)
      refine WpM.loop (fun (k : Nat) fr S => k ≤ t.ops.length ∧ fr = frOf [(2, .ptr n0 0), (3, .ptr (n0 + 1) 0), (6, .d (.int .i64 j2)), (7, .ptr (nx + 15) 0), (8, .ptr (nx + 16) 0), (9, .d (.int .i64 k))] ∧ ∃ ny, nx + 17 ≤ ny ∧ S = ⟨ny, [(n0, some (.box [.d (strs h.keys), .d (.sl (h.txns.map encTxn))])), (n0 + 1, some (.box [.d (strs h.keys), .d (.sl (h.txns.map encTxn))])), (nx + 15, some (.box [.d (.int .i64 t.proc), .d (.int .i64 t.status), .d (.int .i64 t.frm), .d (.int .i64 t.to), .d (.sl (t.ops.map encOp))])), (nx + 16, some (.box [.d (.int .i64 t.proc), .d (.int .i64 t.status), .d (.int .i64 t.frm), .d (.int .i64 t.to), .d (.sl (t.ops.map encOp))]))], H⟩) (fun k => t.ops.length - k) 0 (St.Le.refl _) (frLe_frOf (by (simp (maxSteps := 2000000) (disch := omega) [go_sem, -List.map_map]))) ⟨by omega, rfl, nx + 55, ?_, rfl⟩ ?_
      · omega
      rintro k fr S' ⟨hk, rfl, ny, hny, rfl⟩
      ((repeat refine WpM.seq ?_); have z_ex := True.intro; refine WpM.regPE [] [(2, _), (3, _), (6, _), (7, _), (8, _), (9, _), (102, _)] (by (refine s_o [(9, _)] rfl rfl rfl z_su rfl q_move z_fp z_ss ?_; refine s_o [(7, _)] rfl rfl rfl z_su rfl q_fieldAddr z_fp z_ss ?_; refine s_o [(99, _)] rfl rfl rfl z_su rfl q_load z_fp z_ss ?_; refine s_o [(100, _)] rfl rfl rfl z_su rfl q_full z_fp z_ss ?_; refine s_o [(98, _), (101, _)] rfl rfl rfl z_su rfl q_full z_fp z_ss ?_; exact wpS_nil ⟨rfl, rfl⟩)) z_su ?_; clear z_ex)
      by_cases hlt3 : k < t.ops.length
      · ((repeat refine WpM.seq ?_); refine WpM.condT (by (simp (maxSteps := 2000000) (disch := omega) [go_sem, -List.map_map, hlt3])) ?_)
        refine WpM.skip ?_
        ((repeat refine WpM.seq ?_); refine WpM.block ?_)
        obtain ⟨o, ho⟩ : ∃ o, o = t.ops[k] := ⟨_, rfl⟩
        have hget2 : (t.ops.map encOp)[k]? = some (encOp o) := by simp [hlt3, ho]
        have hob := (htb.ops o (ho ▸ List.getElem_mem _)).vals
        have hsv := sameVals25 o.vals o.vals (by omega)
        ((repeat refine WpM.seq ?_); have z_ex := (And.intro @hget2 (And.intro @encOp.eq_1 True.intro)); refine WpM.drwPE [] [(2, _), (3, _), (6, _), (7, _), (8, _), (9, _), (10, _), (11, _)] mixed (by kernel_rfl) (by kernel_rfl) [(1, 10), (4, 10), (6, 10), (9, 10), (1, 11), (4, 11), (6, 11), (9, 11), (10, 11), (6, 12), (9, 12)] (by kernel_rfl) (by (refine d_o [(7, _)] rfl rfl rfl z_su rfl q_fieldAddr z_fp z_ss rfl ?_; refine d_o [(105, _)] rfl rfl rfl z_su rfl q_load z_fp z_ss rfl ?_; refine d_o [(9, _)] rfl rfl rfl z_su rfl q_move z_fp z_ss rfl ?_; refine d_o [(106, _), (107, _)] rfl rfl rfl z_su rfl q_full z_fp z_ss rfl ?_; refine d_o [(108, _)] rfl rfl rfl z_su rfl q_load z_fp z_ss rfl ?_; refine d_o [(8, _)] rfl rfl rfl z_su rfl q_fieldAddr z_fp z_ss rfl ?_; refine d_o [(110, _)] rfl rfl rfl z_su rfl q_load z_fp z_ss rfl ?_; refine d_o [(9, _)] rfl rfl rfl z_su rfl q_move z_fp z_ss rfl ?_; refine d_o [(111, _), (112, _)] rfl rfl rfl z_su rfl q_full z_fp z_ss rfl ?_; refine d_o [(113, _)] rfl rfl rfl z_su rfl q_load z_fp z_ss rfl ?_; refine d_o [] rfl rfl rfl z_su rfl q_alloc z_fp z_ss rfl ?_; refine d_o [] rfl rfl rfl z_su rfl q_alloc z_fp z_ss rfl ?_; refine d_o [(10, _), (109, _)] rfl rfl rfl z_su rfl q_store z_fp z_ss rfl ?_; refine d_o [(11, _), (114, _)] rfl rfl rfl z_su rfl q_store z_fp z_ss rfl ?_; exact d_end z_mt z_sn)) z_su ?_; clear z_ex)
        ((repeat refine WpM.seq ?_); have z_ex := True.intro; refine WpM.regPE [] [(2, _), (3, _), (6, _), (7, _), (8, _), (9, _), (148, _)] (by (refine s_o [(10, _)] rfl rfl rfl z_su rfl q_fieldAddr z_fp z_ss ?_; refine s_o [(115, _)] rfl rfl rfl z_su rfl q_load z_fp z_ss ?_; refine s_o [(11, _)] rfl rfl rfl z_su rfl q_fieldAddr z_fp z_ss ?_; refine s_o [(117, _)] rfl rfl rfl z_su rfl q_load z_fp z_ss ?_; refine s_o [(116, _), (118, _)] rfl rfl rfl z_su rfl q_full z_fp z_ss ?_; refine s_o [(119, _)] rfl rfl rfl z_su rfl q_move z_fp z_ss ?_; refine s_wit ?_; intro z_g; (first | refine s_skip rfl z_g z_fp ?_ | (refine s_o [(10, _)] rfl z_g rfl z_su rfl q_fieldAddr z_fp z_ss ?_)); clear z_g; refine s_wit ?_; intro z_g; (first | refine s_skip rfl z_g z_fp ?_ | (refine s_o [(121, _)] rfl z_g rfl z_su rfl q_load z_fp z_ss ?_)); clear z_g; refine s_wit ?_; intro z_g; (first | refine s_skip rfl z_g z_fp ?_ | (refine s_o [(11, _)] rfl z_g rfl z_su rfl q_fieldAddr z_fp z_ss ?_)); clear z_g; refine s_wit ?_; intro z_g; (first | refine s_skip rfl z_g z_fp ?_ | (refine s_o [(123, _)] rfl z_g rfl z_su rfl q_load z_fp z_ss ?_)); clear z_g; refine s_wit ?_; intro z_g; (first | refine s_skip rfl z_g z_fp ?_ | (refine s_o [(122, _), (124, _)] rfl z_g rfl z_su rfl q_full z_fp z_ss ?_)); clear z_g; refine s_o [(120, _), (125, _)] rfl rfl rfl z_su rfl q_move z_fp z_ss ?_; refine s_o [(126, _)] rfl rfl rfl z_su rfl q_move z_fp z_ss ?_; refine s_wit ?_; intro z_g; (first | refine s_skip rfl z_g z_fp ?_ | (refine s_o [(10, _)] rfl z_g rfl z_su rfl q_fieldAddr z_fp z_ss ?_)); clear z_g; refine s_wit ?_; intro z_g; (first | refine s_skip rfl z_g z_fp ?_ | (refine s_o [(128, _)] rfl z_g rfl z_su rfl q_load z_fp z_ss ?_)); clear z_g; refine s_wit ?_; intro z_g; (first | refine s_skip rfl z_g z_fp ?_ | (refine s_o [(11, _)] rfl z_g rfl z_su rfl q_fieldAddr z_fp z_ss ?_)); clear z_g; refine s_wit ?_; intro z_g; (first | refine s_skip rfl z_g z_fp ?_ | (refine s_o [(130, _)] rfl z_g rfl z_su rfl q_load z_fp z_ss ?_)); clear z_g; refine s_wit ?_; intro z_g; (first | refine s_skip rfl z_g z_fp ?_ | (refine s_o [(129, _), (131, _)] rfl z_g rfl z_su rfl q_full z_fp z_ss ?_)); clear z_g; refine s_o [(127, _), (132, _)] rfl rfl rfl z_su rfl q_move z_fp z_ss ?_; refine s_o [(133, _)] rfl rfl rfl z_su rfl q_move z_fp z_ss ?_; refine s_wit ?_; intro z_g; (first | refine s_skip rfl z_g z_fp ?_ | (refine s_o [(10, _)] rfl z_g rfl z_su rfl q_fieldAddr z_fp z_ss ?_)); clear z_g; refine s_wit ?_; intro z_g; (first | refine s_skip rfl z_g z_fp ?_ | (refine s_o [(135, _)] rfl z_g rfl z_su rfl q_load z_fp z_ss ?_)); clear z_g; refine s_wit ?_; intro z_g; (first | refine s_skip rfl z_g z_fp ?_ | (refine s_o [(11, _)] rfl z_g rfl z_su rfl q_fieldAddr z_fp z_ss ?_)); clear z_g; refine s_wit ?_; intro z_g; (first | refine s_skip rfl z_g z_fp ?_ | (refine s_o [(137, _)] rfl z_g rfl z_su rfl q_load z_fp z_ss ?_)); clear z_g; refine s_wit ?_; intro z_g; (first | refine s_skip rfl z_g z_fp ?_ | (refine s_o [(136, _), (138, _)] rfl z_g rfl z_su rfl q_full z_fp z_ss ?_)); clear z_g; refine s_o [(134, _), (139, _)] rfl rfl rfl z_su rfl q_move z_fp z_ss ?_; refine s_o [(140, _)] rfl rfl rfl z_su rfl q_move z_fp z_ss ?_; refine s_wit ?_; intro z_g; (first | refine s_skip rfl z_g z_fp ?_ | (refine s_o [(10, _)] rfl z_g rfl z_su rfl q_fieldAddr z_fp z_ss ?_)); clear z_g; refine s_wit ?_; intro z_g; (first | refine s_skip rfl z_g z_fp ?_ | (refine s_o [(142, _)] rfl z_g rfl z_su rfl q_load z_fp z_ss ?_)); clear z_g; refine s_wit ?_; intro z_g; (first | refine s_skip rfl z_g z_fp ?_ | (refine s_o [(11, _)] rfl z_g rfl z_su rfl q_fieldAddr z_fp z_ss ?_)); clear z_g; refine s_wit ?_; intro z_g; (first | refine s_skip rfl z_g z_fp ?_ | (refine s_o [(144, _)] rfl z_g rfl z_su rfl q_load z_fp z_ss ?_)); clear z_g; refine s_wit ?_; intro z_g; (first | refine s_skip rfl z_g z_fp ?_ | (refine s_pure (callOf_eq rfl rfl rfl (mlk_tmp z_lk (mlk_tmp z_lk mlk_nil))) (hsv) rfl z_g z_ip z_fp ?_)); clear z_g; refine s_wit ?_; intro z_g; (first | refine s_skip rfl z_g z_fp ?_ | (refine s_o [(146, _)] rfl z_g rfl z_su rfl q_unOp z_fp z_ss ?_)); clear z_g; refine s_o [(141, _), (147, _)] rfl rfl rfl z_su rfl q_move z_fp z_ss ?_; exact wpS_nil ⟨rfl, rfl⟩)) z_su ?_; clear z_ex)
        ((repeat refine WpM.seq ?_); refine WpM.condF (by (simp (maxSteps := 2000000) (disch := omega) [go_sem, -List.map_map])) ?_)
        refine WpM.skip ?_
        ((repeat refine WpM.seq ?_); have z_ex := (And.intro @wrap_id True.intro); refine WpM.regPE [] [(2, _), (3, _), (6, _), (7, _), (8, _), (9, _)] (by (refine s_o [(9, _)] rfl rfl rfl z_su rfl q_move z_fp z_ss ?_; refine s_o [(103, _)] rfl rfl rfl z_su rfl q_full z_fp z_ss ?_; refine s_o [(104, _)] rfl rfl rfl z_su rfl q_move z_fp z_ss ?_; exact wpS_nil ⟨rfl, rfl⟩)) z_su ?_; clear z_ex)
        refine round_end (x' := k + 1) (le_cut (l' := [(n0, some (.box [.d (strs h.keys), .d (.sl (h.txns.map encTxn))])), (n0 + 1, some (.box [.d (strs h.keys), .d (.sl (h.txns.map encTxn))])), (nx + 15, some (.box [.d (.int .i64 t.proc), .d (.int .i64 t.status), .d (.int .i64 t.frm), .d (.int .i64 t.to), .d (.sl (t.ops.map encOp))])), (nx + 16, some (.box [.d (.int .i64 t.proc), .d (.int .i64 t.status), .d (.int .i64 t.frm), .d (.int .i64 t.to), .d (.sl (t.ops.map encOp))]))]) hH (by (simp (maxSteps := 2000000) (disch := omega) [go_sem, -List.map_map]); omega) (Nat.le_refl _) (by (simp (maxSteps := 2000000) (disch := omega) [go_sem, -List.map_map]))) (frLe_frOf (by (simp (maxSteps := 2000000) (disch := omega) [go_sem, -List.map_map, wrap_id]))) ⟨by omega, rfl, _, ?_, rfl⟩ (by omega)
        omega
      · ((repeat refine WpM.seq ?_); refine WpM.condF (by (simp (maxSteps := 2000000) (disch := omega) [go_sem, -List.map_map, hlt3])) ?_)
        (refine WpM.exit ?_; (repeat (with_reducible (first | refine thenM_exit ?_ | refine blockM_eq ?_ | refine blockM_ne (by decide) ?_))))
        ((repeat refine WpM.seq ?_); have z_ex := (And.intro @wrap_id True.intro); refine WpM.regPE [] [(2, _), (3, _), (6, _)] (by (refine s_o [(6, _)] rfl rfl rfl z_su rfl q_move z_fp z_ss ?_; refine s_o [(51, _)] rfl rfl rfl z_su rfl q_full z_fp z_ss ?_; refine s_o [(52, _)] rfl rfl rfl z_su rfl q_move z_fp z_ss ?_; exact wpS_nil ⟨rfl, rfl⟩)) z_su ?_; clear z_ex)
        refine round_end (x' := j2 + 1) (le_cut (l' := [(n0, some (.box [.d (strs h.keys), .d (.sl (h.txns.map encTxn))])), (n0 + 1, some (.box [.d (strs h.keys), .d (.sl (h.txns.map encTxn))]))]) hH (by (simp (maxSteps := 2000000) (disch := omega) [go_sem, -List.map_map]); omega) (Nat.le_refl _) (by (simp (maxSteps := 2000000) (disch := omega) [go_sem, -List.map_map]))) (frLe_frOf (by (simp (maxSteps := 2000000) (disch := omega) [go_sem, -List.map_map, wrap_id]))) ⟨by omega, rfl, _, ?_, rfl⟩ (by omega)
        omega
    · ((repeat refine WpM.seq ?_); refine WpM.condF (by (simp (maxSteps := 2000000) (disch := omega) [go_sem, -List.map_map, hlt2])) ?_)
      (refine WpM.exit ?_; (repeat (with_reducible (first | refine thenM_exit ?_ | refine blockM_eq ?_ | refine blockM_ne (by decide) ?_))))
      ((repeat refine WpM.seq ?_); have z_ex := True.intro; refine WpM.regPE [] [(4, _)] (by (refine s_o [] rfl rfl rfl z_su rfl q_move z_fp z_ss ?_; exact wpS_nil ⟨rfl, rfl⟩)) z_su ?_; clear z_ex)
      (refine WpM.ret ?_; refine ⟨.inr rfl, Upd.done ?_⟩; (simp (maxSteps := 2000000) (disch := omega) [go_sem, -List.map_map, resV, resVs, resV1,]))
end Go.Proofs.Ytjjmedgibcffhaa
