/- From a contract 'true, and nothing that was there has changed' to what a law's row asks. -/
import Derived.Test.YtjjmedgibcffhaaK4
namespace Go.Proofs.Ytjjmedgibcffhaa
open Go.RowKit Go.MapKept Go.ChangeShapes Go.WideShapes Go.ChangeAt
set_option linter.unusedSimpArgs false
set_option linter.unusedVariables false

theorem own : ownKnob Try.prog.godebug = none := by kernel_rfl
theorem laidOut : laidOutB Try.prog = true := by kernel_rfl

theorem trodAll_below {H : Type} {enc : TypeId × Value → H} {P : Program} (hl : laidOutB P = true) {W W' : World} (hb : Below W.heap.size W W') : ∀ {ts : List TypeId} {vs : List Value} {ds : List (DataW H)} {ps : List MemPlace},
    (∀ t ∈ ts, P.readableRec t = true ∧ t < P.types.size) → DataW.TrodAll enc P W 0 (fun _ => true) true ts vs ds ps → (∀ x ∈ ps, x.block < W.heap.size) → DataW.TrodAll enc P W' 0 (fun b => decide (b < W.heap.size)) true ts vs ds ps
  | [], [], [], ps, _, h, _ => h
  | t :: ts, v :: vs, d :: ds, ps, ht, h, hlt => by
    obtain ⟨p, q, h1, h2, rfl⟩ := h
    exact ⟨p, q, Below.trod hl (ht t List.mem_cons_self).1 (ht t List.mem_cons_self).2 h1 hb (fun x hx => hlt x (List.mem_append_left _ hx)), trodAll_below hl hb (fun t' ht' => ht t' (List.mem_cons_of_mem _ ht')) h2 (fun x hx => hlt x (List.mem_append_right _ hx)), rfl⟩
  | [], [], _ :: _, _, _, h, _ => h.elim
  | [], _ :: _, _, _, _, h, _ => h.elim
  | _ :: _, [], _, _, _, h, _ => h.elim
  | _ :: _, _ :: _, [], _, _, h, _ => h.elim

/-- What a law's row asks of the call. -/
theorem law_post {H : Type} {enc : TypeId × Value → H} {f : Func} {s : ChangeSpec} {W W' : World} {args : Array Value} {ds gs : List (DataW H)} {before : List MemPlace} {apart : Bool}
    (hW : DataW.Whole enc Try.prog f.params.toList s.vars apart W args.toList ds gs before) (hv : s.vars = []) (hr : f.resultTypes = #[4]) (hp : ∀ t ∈ f.params.toList, Try.prog.readableRec t = true ∧ t < Try.prog.types.size)
    (hfn : s.fn H (ds ++ gs) = { results := [.lit (.bool true)], args := ds }) (hb : Below W.heap.size W W') : s.post enc Try.prog f apart true false false W args (.bool true) W' := by
  have hlt : ∀ x ∈ before, x.block < W.heap.size := fun x hx => hW.lt x hx
  have hW0 := hW
  obtain ⟨p, q, hA, hV, rfl, hz, hn⟩ := hW
  rw [hv] at hV
  obtain ⟨rfl, rfl⟩ := trodVars_none hV
  refine ⟨ds, [], p ++ [], [], p, [], hW0, ?_, ?_, ?_, ?_, fun h => by cases h⟩
  · rw [hfn, hr]
    exact trodAll_mk1 (shut_bool Try.underlying4 _)
  · rw [hfn]
    exact trodAll_below laidOut hb hp hA (fun x hx => hlt x (by simpa using hx))
  · rw [hfn, hv]
    rfl
  · exact hb.frame _
set_option maxRecDepth 100000 in
/-- A list of events that comes in. -/
theorem open_events {H : Type} {enc : TypeId × Value → H} {W : World} {base : Nat} {v : Value} {d : DataW H} {p : List MemPlace} (hval : Value.okWide Try.prog W .any base 27 v)
    (h : DataW.Trod enc Try.prog W 0 (fun _ => true) true 27 v d p) (hz : ∀ n ∈ d.weights Try.prog 27, n ≤ reachBytes) :
    ∃ A c xs, v = .slice A xs.length c ∧ Ty.event.Sl (fun b => b < W.heap.size) W A xs ∧ xs.length ≤ c ∧ ∀ x ∈ xs, Ty.event.V x := by
  obtain ⟨a, len, cap, rfl⟩ := okWide_slice Try.underlying27 hval
  obtain ⟨_, h⟩ := h
  obtain ⟨A, c, xs, hcs, h1, h2, h3⟩ := opens_sl Try.underlying27 opens_event (by kernel_rfl) (by kernel_rfl) (by decide) h hz
  exact ⟨A, c, xs, (List.cons.inj hcs).1, h1, h3, h2⟩

set_option maxRecDepth 100000 in
/-- The rows of laws over one list of events, and over a list and a number. -/
theorem events_contract (N : Nat) (f : Func) (s : ChangeSpec) (hf : Try.prog.funcs[N]? = some f) (hp : f.params = #[27]) (hr : f.resultTypes = #[4]) (hv : s.vars = []) (hfn : ∀ (H : Type) (d : DataW H), s.fn H [d] = { results := [.lit (.bool true)], args := [d] })
    (hcalls : ∀ (xs : List EventD) (w : World) (A : Option Addr) (c : Nat), Ty.event.Sl (fun b => b < w.heap.size) w A xs → xs.length ≤ c → (∀ x ∈ xs, Ty.event.V x) → Calls Try.prog N #[.slice A xs.length c] w fun e w' => e = .returned (.bool true) ∧ Below w.heap.size w w')
    {H : Type} {enc : TypeId × Value → H} {W : World} {base : Nat} {args : Array Value} {ds gs : List (DataW H)} {before : List MemPlace} {apart : Bool}
    (hval : ∀ (j : Nat) t v, f.params[j]? = some t → args[j]? = some v → Value.okWide Try.prog W .any base t v) (hW : DataW.Whole enc Try.prog f.params.toList s.vars apart W args.toList ds gs before)
    (hz : (DataW.weightsEach Try.prog (f.params.toList ++ s.plain.varTypes Try.prog) (ds ++ gs)).all (· ≤ reachBytes) = true) :
    Calls Try.prog N args W fun e W' => ∃ v, e = .returned v ∧ s.post enc Try.prog f apart true false false W args v W' := by
  have hW' := hW
  obtain ⟨p, q, hA, hV, rfl, hfz, hnd⟩ := hW
  rw [hv] at hV
  obtain ⟨rfl, rfl⟩ := trodVars_none hV
  have hvt : s.plain.varTypes Try.prog = [] := by simp [DataSpec.varTypes, ChangeSpec.plain, hv]
  rw [hp] at hA hz hval
  rw [hvt] at hz
  obtain ⟨v0, d0, rfl, rfl, h0⟩ := trodAll_one hA
  have hall : ∀ n ∈ d0.weights Try.prog 27, n ≤ reachBytes := by
    intro n hn
    have := List.all_eq_true.1 hz n (by simpa [DataW.weightsEach] using hn)
    simpa using this
  obtain ⟨A, c, xs, rfl, h1, h2, h3⟩ := open_events (hval 0 27 v0 rfl rfl) h0 hall
  refine (hcalls xs W A c h1 h2 h3).mono fun e W' ⟨he, hb⟩ => ?_
  refine ⟨_, he, law_post hW' hv hr ?_ (hfn H d0) hb⟩
  rw [hp]
  decide +kernel
set_option maxRecDepth 100000 in
theorem events_int_contract (N : Nat) (f : Func) (s : ChangeSpec) (T : TypeId) (hT : Try.prog.underlying T = some (.int .i64)) (hTr : Try.prog.readableRec T = true ∧ T < Try.prog.types.size) (hf : Try.prog.funcs[N]? = some f) (hp : f.params = #[27, T]) (hr : f.resultTypes = #[4]) (hv : s.vars = []) (hfn : ∀ (H : Type) (d e : DataW H), s.fn H [d, e] = { results := [.lit (.bool true)], args := [d, e] })
    (hcalls : ∀ (xs : List EventD) (k : Int) (w : World) (A : Option Addr) (c : Nat), Ty.event.Sl (fun b => b < w.heap.size) w A xs → xs.length ≤ c → (∀ x ∈ xs, Ty.event.V x) → -9223372036854775808 ≤ k ∧ k ≤ 9223372036854775807 → Calls Try.prog N #[.slice A xs.length c, .int .i64 k] w fun e w' => e = .returned (.bool true) ∧ Below w.heap.size w w')
    {H : Type} {enc : TypeId × Value → H} {W : World} {base : Nat} {args : Array Value} {ds gs : List (DataW H)} {before : List MemPlace} {apart : Bool}
    (hval : ∀ (j : Nat) t v, f.params[j]? = some t → args[j]? = some v → Value.okWide Try.prog W .any base t v) (hW : DataW.Whole enc Try.prog f.params.toList s.vars apart W args.toList ds gs before)
    (hz : (DataW.weightsEach Try.prog (f.params.toList ++ s.plain.varTypes Try.prog) (ds ++ gs)).all (· ≤ reachBytes) = true) :
    Calls Try.prog N args W fun e W' => ∃ v, e = .returned v ∧ s.post enc Try.prog f apart true false false W args v W' := by
  have hW' := hW
  obtain ⟨p, q, hA, hV, rfl, hfz, hnd⟩ := hW
  rw [hv] at hV
  obtain ⟨rfl, rfl⟩ := trodVars_none hV
  have hvt : s.plain.varTypes Try.prog = [] := by simp [DataSpec.varTypes, ChangeSpec.plain, hv]
  rw [hp] at hA hz hval
  rw [hvt] at hz
  obtain ⟨v0, v1, d0, d1, p0, p1, rfl, rfl, rfl, h0, h1⟩ := trodAll_two hA
  have hall : ∀ n ∈ d0.weights Try.prog 27, n ≤ reachBytes := by
    intro n hn
    have := List.all_eq_true.1 hz n (by simp only [DataW.weightsEach, List.cons_append, List.nil_append, List.append_nil]; exact List.mem_append_left _ hn)
    simpa using this
  obtain ⟨A, c, xs, rfl, g1, g2, g3⟩ := open_events (hval 0 27 v0 rfl rfl) h0 hall
  obtain ⟨k, rfl, _, _, hk⟩ := open_int hT (hval 1 T v1 rfl rfl) h1
  have hk' : -9223372036854775808 ≤ k ∧ k ≤ 9223372036854775807 := by
    simpa [Lit.wf, IntKind.min, IntKind.max, IntKind.signed, IntKind.bits] using hk
  refine (hcalls xs k W A c g1 g2 g3 hk').mono fun e W' ⟨he, hb⟩ => ?_
  refine ⟨_, he, law_post hW' hv hr ?_ (hfn H d0 d1) hb⟩
  rw [hp]
  intro t ht
  simp at ht
  rcases ht with rfl | rfl
  · decide +kernel
  · exact hTr
end Go.Proofs.Ytjjmedgibcffhaa
