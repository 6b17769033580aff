/- What comes in as data, opened: the cells of arguments as kinds of data. -/
import Derived.Test.YtjjmedgibcffhaaRows
import Derived.ProofKit
import Derived.SizedLaws
import Derived.Test.YtjjmedgibcffhaaRKa
namespace Go.Proofs.Ytjjmedgibcffhaa
open Go.RowKit Go.MapKept
set_option linter.unusedSimpArgs false

def Opens {α : Type} (t : Ty α) (P : Program) (T : TypeId) : Prop :=
  ∀ {H : Type} {enc : TypeId × Value → H} {w : World} {base : Nat} {spare : Nat → Bool} {held : Bool} {fuel : Nat} {cs : List Value} {x : DataW H × List MemPlace},
    DataW.trod enc P w base spare held fuel T cs = some x → (∀ n ∈ x.1.weights P T, n ≤ reachBytes) → ∃ a, t.K (fun b => b < w.heap.size) w cs a ∧ t.V a

section
variable {P : Program} {T : TypeId}
theorem opens_int {k : IntKind} (hu : P.underlying T = some (.int k)) : Opens (Ty.int k) P T := by
  intro H enc w base spare held fuel cs x h _
  obtain ⟨n, rfl, _, hw⟩ := DataW.trod_int hu h
  exact ⟨n, rfl, hw⟩
theorem opens_bool (hu : P.underlying T = some .bool) : Opens Ty.bool P T := by
  intro H enc w base spare held fuel cs x h _
  obtain ⟨b, rfl, _⟩ := DataW.trod_bool hu h
  exact ⟨b, rfl, trivial⟩
theorem opens_str (hu : P.underlying T = some .string) : Opens Ty.str P T := by
  intro H enc w base spare held fuel cs x h hz
  obtain ⟨s, rfl, rfl, _⟩ := DataW.trod_string hu h
  refine ⟨s, rfl, ?_⟩
  have := hz s.data.toList.length (by simp [DataW.weights])
  have h1 := Nat.le_trans this (Nat.le_of_lt reachBytes_lt)
  have h2 : s.data.toList.length = s.size := by rw [Array.length_toList]; rfl
  show s.size ≤ 140737488351232
  have h3 : reachBytes = 140737488351232 := by decide
  omega

theorem add_plain (b o n : Nat) : (⟨b, o, none⟩ : Addr).add n = ⟨b, o + n, none⟩ := by
  unfold Addr.add
  split
  · rename_i h; subst h; rfl
  · rfl
theorem cells_of {w : World} {base : Nat} {a : Addr} {n : Nat} {cs : List Value} (h : w.cells? base a n = some cs) : base ≤ a.block ∧ cs.length = n ∧ ∀ j v, cs[j]? = some v → w.cell? (a.add j) = some v := by
  unfold World.cells? at h
  split at h
  · rename_i hb
    refine ⟨hb, by simpa using mapM_some_length h, fun j v hv => ?_⟩
    have hj : j < n := by
      have := mapM_some_length h
      have h2 := (List.getElem?_eq_some_iff.1 hv).1
      simp at this
      omega
    rw [← hv]
    exact mapM_some_get h j j (by simp [hj])
  · cases h
theorem weights_all {H : Type} {e : TypeId} {l : List (DataW H)} {d : DataW H} (h : d ∈ l) : ∀ n ∈ d.weights P e, n ∈ DataW.weightsAll P e l := by
  induction l with
  | nil => cases h
  | cons x l ih =>
    intro n hn
    simp only [DataW.weightsAll, List.mem_append]
    rcases List.mem_cons.1 h with rfl | h
    · exact .inl hn
    · exact .inr (ih h n hn)
theorem reach_val : reachBytes = 140737488351232 := by decide

/-- A slice, element by element. -/
theorem opens_sl {α : Type} {t : Ty α} {e : TypeId} (hu : P.underlying T = some (.slice e)) (ho : Opens t P e) (hsz : P.cellsOf e = t.sz) (hby : P.bytesOf e = t.bytes) (hs : 0 < t.sz)
    {H : Type} {enc : TypeId × Value → H} {w : World} {base : Nat} {spare : Nat → Bool} {held : Bool} {fuel : Nat} {cs : List Value} {x : DataW H × List MemPlace}
    (h : DataW.trod enc P w base spare held fuel T cs = some x) (hz : ∀ n ∈ x.1.weights P T, n ≤ reachBytes) :
    ∃ (A : Option Addr) (c : Nat) (xs : List α), cs = [.slice A xs.length c] ∧ t.Sl (fun b => b < w.heap.size) w A xs ∧ (∀ a ∈ xs, t.V a) ∧ xs.length ≤ c := by
  rcases DataW.trod_slice hu h with ⟨rfl, _⟩ | ⟨a, len, cap, elems, rest, n, _, rfl, rfl, hb, hl, hm, hlen, hel, _, _⟩
  · exact ⟨none, 0, [], rfl, Ty.Sl.nil _ _ _ _, by simp, by simp⟩
  · have each : ∀ i (hi : i < len), ∃ y : α, t.V y ∧ ∃ cs, t.K (fun b => b < w.heap.size) w cs y ∧ ∀ j v, cs[j]? = some v → w.cell? ((a.add (i * t.sz)).add j) = some v := by
      intro i hi
      have h1 := hel i hi
      rw [List.getElem?_eq_getElem (by omega), Option.bind_eq_some_iff, hsz] at h1
      obtain ⟨cs, hcs, htr⟩ := h1
      obtain ⟨_, _, hc⟩ := cells_of hcs
      obtain ⟨y, hK, hV⟩ := ho htr (fun n hn => hz n (by
        simp only [DataW.weights, hu, List.mem_cons, List.mem_append]
        exact .inr (.inl (weights_all (List.mem_map.2 ⟨_, List.getElem_mem _, rfl⟩) n hn))))
      exact ⟨y, hV, cs, hK, hc⟩
    classical
    let f : Fin len → α := fun i => Classical.choose (each i.1 i.2)
    have hf : ∀ i : Fin len, t.V (f i) ∧ ∃ cs, t.K (fun b => b < w.heap.size) w cs (f i) ∧ ∀ j v, cs[j]? = some v → w.cell? ((a.add (i.1 * t.sz)).add j) = some v := fun i => Classical.choose_spec (each i.1 i.2)
    have hsize : len * t.bytes ≤ 140737488351232 := by
      have := hz ((elems.length + rest.length) * P.bytesOf e) (by simp [DataW.weights, hu])
      rw [hby, reach_val] at this
      refine Nat.le_trans (Nat.mul_le_mul_right _ ?_) this
      omega
    refine ⟨some a, cap, List.ofFn f, by simp, ⟨by simpa using hsize, ?_⟩, ?_, by simpa using hl⟩
    · rcases Nat.eq_zero_or_pos len with h0 | h0
      · left
        subst h0
        simp
      · right
        have hspot : a.spot = none ∧ a.block < w.heap.size := by
          obtain ⟨_, cs, hK, hc⟩ := hf ⟨0, h0⟩
          have hl0 := t.len hK
          cases hcs : cs with
          | nil => rw [hcs] at hl0; simp at hl0; omega
          | cons v r =>
            have h1 := hc 0 v (by rw [hcs]; rfl)
            have e0 : (a.add (0 * t.sz)).add 0 = a := by rw [Nat.zero_mul]; rfl
            rw [e0] at h1
            refine ⟨?_, World.block_lt_of_cell? w _ h1⟩
            unfold World.cell? at h1
            split at h1
            · split at h1
              · cases h1
              · rename_i hs; cases hsp : a.spot with
                | none => rfl
                | some s => simp [hsp] at hs
            · cases h1
        obtain ⟨b, o, sp⟩ := a
        obtain ⟨hsp, hbl⟩ := hspot
        subst hsp
        refine ⟨b, o, rfl, hbl, fun i y hy => ?_⟩
        have hi : i < len := by
          have := (List.getElem?_eq_some_iff.1 hy).1
          simpa using this
        have hy' : y = f ⟨i, hi⟩ := by
          rw [List.getElem?_eq_getElem (by simpa using hi)] at hy
          injection hy with hy
          rw [← hy]
          simp
        subst hy'
        obtain ⟨_, cs, hK, hc⟩ := hf ⟨i, hi⟩
        refine ⟨cs, hK, fun j v hv => ?_⟩
        have := hc j v hv
        rw [add_plain, add_plain] at this
        exact this
    · intro y hy
      obtain ⟨i, rfl⟩ := (List.mem_ofFn).1 hy
      exact (hf i).1
theorem opens_slice {α : Type} {t : Ty α} {e : TypeId} (hu : P.underlying T = some (.slice e)) (ho : Opens t P e) (hsz : P.cellsOf e = t.sz) (hby : P.bytesOf e = t.bytes) (hs : 0 < t.sz) : Opens (Ty.slice t) P T := by
  intro H enc w base spare held fuel cs x h hz
  obtain ⟨A, c, xs, rfl, h1, h2, _⟩ := opens_sl hu ho hsz hby hs h hz
  exact ⟨xs, ⟨A, c, rfl, h1⟩, h2⟩

/-- A field of a struct. -/
theorem opens_field {fs : Array Field} (hu : P.underlying T = some (.struct fs)) {H : Type} {enc : TypeId × Value → H} {w : World} {base : Nat} {spare : Nat → Bool} {held : Bool} {fuel : Nat} {cs : List Value} {x : DataW H × List MemPlace}
    (h : DataW.trod enc P w base spare held fuel T cs = some x) (hz : ∀ n ∈ x.1.weights P T, n ≤ reachBytes) :
    cs.length = P.cellsOf T ∧ ∀ (i : Nat) (e off k : Nat), (fs[i]?).map (fun f => (f.type, f.offset)) = some (e, off) → P.cellsOf e = k → ∃ (m : Nat) (y : DataW H × List MemPlace), DataW.trod enc P w base spare held m e ((cs.drop off).take k) = some y ∧ ∀ n ∈ y.1.weights P e, n ≤ reachBytes := by
  obtain ⟨xs, n, _, rfl, hl, hlen, hf⟩ := DataW.trod_struct hu h
  refine ⟨hl, fun i e off k hi hk => ?_⟩
  obtain ⟨f, hfi, he⟩ := Option.map_eq_some_iff.1 hi
  injection he with he ho
  subst he ho hk
  have hil : i < fs.size := (Array.getElem?_eq_some_iff.1 hfi).1
  refine ⟨n, xs[i], ?_, fun m hm => hz m ?_⟩
  · rw [hf i f hfi, List.getElem?_eq_getElem]
  · simp only [DataW.weights, hu]
    refine DataW.weights_mem_each (j := i) (t := f.type) (d := xs[i].1) ?_ ?_ m hm
    · simp only [List.getElem?_map]
      rw [Array.getElem?_toList, hfi]
      rfl
    · simp [List.getElem?_map, List.getElem?_eq_getElem (show i < xs.length by omega)]
end

theorem list5 {α : Type} : ∀ {l : List α}, l.length = 5 → ∃ a b c d e, l = [a, b, c, d, e]
  | [a, b, c, d, e], _ => ⟨a, b, c, d, e, rfl⟩
theorem list3 {α : Type} : ∀ {l : List α}, l.length = 3 → ∃ a b c, l = [a, b, c]
  | [a, b, c], _ => ⟨a, b, c, rfl⟩
set_option maxRecDepth 100000 in
theorem opens_call : Opens Ty.call Try.prog 67 := by
  intro H enc w base spare held fuel cs x h hz
  obtain ⟨hl, hf⟩ := opens_field Try.underlying67 h hz
  have hl5 : cs.length = 5 := hl.trans (by kernel_rfl)
  obtain ⟨c0, c1, c2, c3, c4, rfl⟩ := list5 hl5
  obtain ⟨m0, y0, h0, z0⟩ := hf 0 3 0 1 rfl (by kernel_rfl)
  obtain ⟨m1, y1, h1, z1⟩ := hf 1 9 1 1 rfl (by kernel_rfl)
  obtain ⟨m2, y2, h2, z2⟩ := hf 2 2 2 1 rfl (by kernel_rfl)
  obtain ⟨m3, y3, h3, z3⟩ := hf 3 4 3 1 rfl (by kernel_rfl)
  obtain ⟨m4, y4, h4, z4⟩ := hf 4 44 4 1 rfl (by kernel_rfl)
  obtain ⟨a0, k0, v0⟩ := opens_int Try.underlying3 h0 z0
  obtain ⟨a1, k1, v1⟩ := opens_str Try.underlying9 h1 z1
  obtain ⟨a2, k2, v2⟩ := opens_int Try.underlying2 h2 z2
  obtain ⟨a3, k3, v3⟩ := opens_bool Try.underlying4 h3 z3
  obtain ⟨a4, k4, v4⟩ := opens_slice Try.underlying44 (opens_int Try.underlying2) (by kernel_rfl) (by kernel_rfl) (by decide) h4 z4
  obtain ⟨A, c, k4, hs⟩ := k4
  obtain rfl : c0 = Value.int .i64 a0 := (List.cons.inj (k0 : [c0] = [Value.int .i64 a0])).1
  obtain rfl : c1 = Value.string a1 := (List.cons.inj (k1 : [c1] = [Value.string a1])).1
  obtain rfl : c2 = Value.int .i64 a2 := (List.cons.inj (k2 : [c2] = [Value.int .i64 a2])).1
  obtain rfl : c3 = Value.bool a3 := (List.cons.inj (k3 : [c3] = [Value.bool a3])).1
  obtain rfl : c4 = Value.slice A a4.length c := (List.cons.inj (k4 : [c4] = [Value.slice A a4.length c])).1
  exact ⟨⟨a0, a1, a2, a3, a4⟩, ⟨A, c, rfl, hs⟩, v0, v1, v2, v4⟩
set_option maxRecDepth 100000 in
theorem opens_event : Opens Ty.event Try.prog 24 := by
  intro H enc w base spare held fuel cs x h hz
  obtain ⟨hl, hf⟩ := opens_field Try.underlying24 h hz
  have hl3 : cs.length = 3 := hl.trans (by kernel_rfl)
  obtain ⟨c0, c1, c2, rfl⟩ := list3 hl3
  obtain ⟨m0, y0, h0, z0⟩ := hf 0 2 0 1 rfl (by kernel_rfl)
  obtain ⟨m1, y1, h1, z1⟩ := hf 1 3 1 1 rfl (by kernel_rfl)
  obtain ⟨m2, y2, h2, z2⟩ := hf 2 22 2 1 rfl (by kernel_rfl)
  obtain ⟨a0, k0, v0⟩ := opens_int Try.underlying2 h0 z0
  obtain ⟨a1, k1, v1⟩ := opens_int Try.underlying3 h1 z1
  obtain ⟨a2, k2, v2⟩ := opens_slice Try.underlying22 opens_call (by kernel_rfl) (by kernel_rfl) (by decide) h2 z2
  obtain ⟨A, c, k2, hs⟩ := k2
  obtain rfl : c0 = Value.int .i64 a0 := (List.cons.inj (k0 : [c0] = [Value.int .i64 a0])).1
  obtain rfl : c1 = Value.int .i64 a1 := (List.cons.inj (k1 : [c1] = [Value.int .i64 a1])).1
  obtain rfl : c2 = Value.slice A a2.length c := (List.cons.inj (k2 : [c2] = [Value.slice A a2.length c])).1
  exact ⟨⟨a0, a1, a2⟩, ⟨A, c, rfl, hs⟩, v0, v1, v2⟩
end Go.Proofs.Ytjjmedgibcffhaa
/- From a contract 'true, and nothing that was there has changed' to what a law's row asks. -/
namespace Go.Proofs.Ytjjmedgibcffhaa
open Go.RowKit Go.MapKept Go.ChangeShapes Go.WideShapes Go.ChangeAt
set_option linter.unusedSimpArgs false
set_option linter.unusedVariables false

theorem own : ownKnob Try.prog.godebug = none := by kernel_rfl
theorem laidOut : laidOutB Try.prog = true := by kernel_rfl

theorem trodAll_below {H : Type} {enc : TypeId × Value → H} {P : Program} (hl : laidOutB P = true) {W W' : World} (hb : Below W.heap.size W W') : ∀ {ts : List TypeId} {vs : List Value} {ds : List (DataW H)} {ps : List MemPlace},
    (∀ t ∈ ts, P.readableRec t = true ∧ t < P.types.size) → DataW.TrodAll enc P W 0 (fun _ => true) true ts vs ds ps → (∀ x ∈ ps, x.block < W.heap.size) → DataW.TrodAll enc P W' 0 (fun b => decide (b < W.heap.size)) true ts vs ds ps
  | [], [], [], ps, _, h, _ => h
  | t :: ts, v :: vs, d :: ds, ps, ht, h, hlt => by
    obtain ⟨p, q, h1, h2, rfl⟩ := h
    exact ⟨p, q, Below.trod hl (ht t List.mem_cons_self).1 (ht t List.mem_cons_self).2 h1 hb (fun x hx => hlt x (List.mem_append_left _ hx)), trodAll_below hl hb (fun t' ht' => ht t' (List.mem_cons_of_mem _ ht')) h2 (fun x hx => hlt x (List.mem_append_right _ hx)), rfl⟩
  | [], [], _ :: _, _, _, h, _ => h.elim
  | [], _ :: _, _, _, _, h, _ => h.elim
  | _ :: _, [], _, _, _, h, _ => h.elim
  | _ :: _, _ :: _, [], _, _, h, _ => h.elim

/-- What a law's row asks of the call. -/
theorem law_post {H : Type} {enc : TypeId × Value → H} {f : Func} {s : ChangeSpec} {W W' : World} {args : Array Value} {ds gs : List (DataW H)} {before : List MemPlace} {apart : Bool}
    (hW : DataW.Whole enc Try.prog f.params.toList s.vars apart W args.toList ds gs before) (hv : s.vars = []) (hr : f.resultTypes = #[4]) (hp : ∀ t ∈ f.params.toList, Try.prog.readableRec t = true ∧ t < Try.prog.types.size)
    (hfn : s.fn H (ds ++ gs) = { results := [.lit (.bool true)], args := ds }) (hb : Below W.heap.size W W') : s.post enc Try.prog f apart true false false W args (.bool true) W' := by
  have hlt : ∀ x ∈ before, x.block < W.heap.size := fun x hx => hW.lt x hx
  have hW0 := hW
  obtain ⟨p, q, hA, hV, rfl, hz, hn⟩ := hW
  rw [hv] at hV
  obtain ⟨rfl, rfl⟩ := trodVars_none hV
  refine ⟨ds, [], p ++ [], [], p, [], hW0, ?_, ?_, ?_, ?_, fun h => by cases h⟩
  · rw [hfn, hr]
    exact trodAll_mk1 (shut_bool Try.underlying4 _)
  · rw [hfn]
    exact trodAll_below laidOut hb hp hA (fun x hx => hlt x (by simpa using hx))
  · rw [hfn, hv]
    rfl
  · exact hb.frame _
set_option maxRecDepth 100000 in
/-- A list of events that comes in. -/
theorem open_events {H : Type} {enc : TypeId × Value → H} {W : World} {base : Nat} {v : Value} {d : DataW H} {p : List MemPlace} (hval : Value.okWide Try.prog W .any base 27 v)
    (h : DataW.Trod enc Try.prog W 0 (fun _ => true) true 27 v d p) (hz : ∀ n ∈ d.weights Try.prog 27, n ≤ reachBytes) :
    ∃ A c xs, v = .slice A xs.length c ∧ Ty.event.Sl (fun b => b < W.heap.size) W A xs ∧ xs.length ≤ c ∧ ∀ x ∈ xs, Ty.event.V x := by
  obtain ⟨a, len, cap, rfl⟩ := okWide_slice Try.underlying27 hval
  obtain ⟨_, h⟩ := h
  obtain ⟨A, c, xs, hcs, h1, h2, h3⟩ := opens_sl Try.underlying27 opens_event (by kernel_rfl) (by kernel_rfl) (by decide) h hz
  exact ⟨A, c, xs, (List.cons.inj hcs).1, h1, h3, h2⟩

set_option maxRecDepth 100000 in
/-- The rows of laws over one list of events, and over a list and a number. -/
theorem events_contract (N : Nat) (f : Func) (s : ChangeSpec) (hf : Try.prog.funcs[N]? = some f) (hp : f.params = #[27]) (hr : f.resultTypes = #[4]) (hv : s.vars = []) (hfn : ∀ (H : Type) (d : DataW H), s.fn H [d] = { results := [.lit (.bool true)], args := [d] })
    (hcalls : ∀ (xs : List EventD) (w : World) (A : Option Addr) (c : Nat), Ty.event.Sl (fun b => b < w.heap.size) w A xs → xs.length ≤ c → (∀ x ∈ xs, Ty.event.V x) → Calls Try.prog N #[.slice A xs.length c] w fun e w' => e = .returned (.bool true) ∧ Below w.heap.size w w')
    {H : Type} {enc : TypeId × Value → H} {W : World} {base : Nat} {args : Array Value} {ds gs : List (DataW H)} {before : List MemPlace} {apart : Bool}
    (hval : ∀ (j : Nat) t v, f.params[j]? = some t → args[j]? = some v → Value.okWide Try.prog W .any base t v) (hW : DataW.Whole enc Try.prog f.params.toList s.vars apart W args.toList ds gs before)
    (hz : (DataW.weightsEach Try.prog (f.params.toList ++ s.plain.varTypes Try.prog) (ds ++ gs)).all (· ≤ reachBytes) = true) :
    Calls Try.prog N args W fun e W' => ∃ v, e = .returned v ∧ s.post enc Try.prog f apart true false false W args v W' := by
  have hW' := hW
  obtain ⟨p, q, hA, hV, rfl, hfz, hnd⟩ := hW
  rw [hv] at hV
  obtain ⟨rfl, rfl⟩ := trodVars_none hV
  have hvt : s.plain.varTypes Try.prog = [] := by simp [DataSpec.varTypes, ChangeSpec.plain, hv]
  rw [hp] at hA hz hval
  rw [hvt] at hz
  obtain ⟨v0, d0, rfl, rfl, h0⟩ := trodAll_one hA
  have hall : ∀ n ∈ d0.weights Try.prog 27, n ≤ reachBytes := by
    intro n hn
    have := List.all_eq_true.1 hz n (by simpa [DataW.weightsEach] using hn)
    simpa using this
  obtain ⟨A, c, xs, rfl, h1, h2, h3⟩ := open_events (hval 0 27 v0 rfl rfl) h0 hall
  refine (hcalls xs W A c h1 h2 h3).mono fun e W' ⟨he, hb⟩ => ?_
  refine ⟨_, he, law_post hW' hv hr ?_ (hfn H d0) hb⟩
  rw [hp]
  decide +kernel
set_option maxRecDepth 100000 in
theorem events_int_contract (N : Nat) (f : Func) (s : ChangeSpec) (T : TypeId) (hT : Try.prog.underlying T = some (.int .i64)) (hTr : Try.prog.readableRec T = true ∧ T < Try.prog.types.size) (hf : Try.prog.funcs[N]? = some f) (hp : f.params = #[27, T]) (hr : f.resultTypes = #[4]) (hv : s.vars = []) (hfn : ∀ (H : Type) (d e : DataW H), s.fn H [d, e] = { results := [.lit (.bool true)], args := [d, e] })
    (hcalls : ∀ (xs : List EventD) (k : Int) (w : World) (A : Option Addr) (c : Nat), Ty.event.Sl (fun b => b < w.heap.size) w A xs → xs.length ≤ c → (∀ x ∈ xs, Ty.event.V x) → -9223372036854775808 ≤ k ∧ k ≤ 9223372036854775807 → Calls Try.prog N #[.slice A xs.length c, .int .i64 k] w fun e w' => e = .returned (.bool true) ∧ Below w.heap.size w w')
    {H : Type} {enc : TypeId × Value → H} {W : World} {base : Nat} {args : Array Value} {ds gs : List (DataW H)} {before : List MemPlace} {apart : Bool}
    (hval : ∀ (j : Nat) t v, f.params[j]? = some t → args[j]? = some v → Value.okWide Try.prog W .any base t v) (hW : DataW.Whole enc Try.prog f.params.toList s.vars apart W args.toList ds gs before)
    (hz : (DataW.weightsEach Try.prog (f.params.toList ++ s.plain.varTypes Try.prog) (ds ++ gs)).all (· ≤ reachBytes) = true) :
    Calls Try.prog N args W fun e W' => ∃ v, e = .returned v ∧ s.post enc Try.prog f apart true false false W args v W' := by
  have hW' := hW
  obtain ⟨p, q, hA, hV, rfl, hfz, hnd⟩ := hW
  rw [hv] at hV
  obtain ⟨rfl, rfl⟩ := trodVars_none hV
  have hvt : s.plain.varTypes Try.prog = [] := by simp [DataSpec.varTypes, ChangeSpec.plain, hv]
  rw [hp] at hA hz hval
  rw [hvt] at hz
  obtain ⟨v0, v1, d0, d1, p0, p1, rfl, rfl, rfl, h0, h1⟩ := trodAll_two hA
  have hall : ∀ n ∈ d0.weights Try.prog 27, n ≤ reachBytes := by
    intro n hn
    have := List.all_eq_true.1 hz n (by simp only [DataW.weightsEach, List.cons_append, List.nil_append, List.append_nil]; exact List.mem_append_left _ hn)
    simpa using this
  obtain ⟨A, c, xs, rfl, g1, g2, g3⟩ := open_events (hval 0 27 v0 rfl rfl) h0 hall
  obtain ⟨k, rfl, _, _, hk⟩ := open_int hT (hval 1 T v1 rfl rfl) h1
  have hk' : -9223372036854775808 ≤ k ∧ k ≤ 9223372036854775807 := by
    simpa [Lit.wf, IntKind.min, IntKind.max, IntKind.signed, IntKind.bits] using hk
  refine (hcalls xs k W A c g1 g2 g3 hk').mono fun e W' ⟨he, hb⟩ => ?_
  refine ⟨_, he, law_post hW' hv hr ?_ (hfn H d0 d1) hb⟩
  rw [hp]
  intro t ht
  simp at ht
  rcases ht with rfl | rfl
  · decide +kernel
  · exact hTr
end Go.Proofs.Ytjjmedgibcffhaa
