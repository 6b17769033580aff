/- Histories that come in; the rows of the laws of layer 5. -/
import Derived.Test.YtjjmedgibcffhaaRKb
import Derived.Test.YtjjmedgibcffhaaRConv
import Derived.Test.YtjjmedgibcffhaaRIx9
namespace Go.Proofs.Ytjjmedgibcffhaa
open Go.RowKit Go.MapKept Go.ChangeShapes Go.WideShapes Go.ChangeAt M
set_option linter.unusedSimpArgs false
set_option linter.unusedVariables false
set_option maxRecDepth 100000 in
theorem opensD_op : OpensD encOp OpOk Try.prog 65 := by
  intro H enc w base spare held fuel cs x h hz
  obtain ⟨hl, hf⟩ := M.opens_field Try.underlying65 h hz
  have hl5 : cs.length = 5 := hl.trans (by kernel_rfl)
  obtain ⟨c0, c1, c2, c3, c4, rfl⟩ := list5 hl5
  obtain ⟨m0, y0, h0, z0⟩ := hf 0 3 0 1 rfl (by kernel_rfl)
  obtain ⟨m1, y1, h1, z1⟩ := hf 1 3 1 1 rfl (by kernel_rfl)
  obtain ⟨m2, y2, h2, z2⟩ := hf 2 2 2 1 rfl (by kernel_rfl)
  obtain ⟨m3, y3, h3, z3⟩ := hf 3 4 3 1 rfl (by kernel_rfl)
  obtain ⟨m4, y4, h4, z4⟩ := hf 4 44 4 1 rfl (by kernel_rfl)
  obtain ⟨a0, k0, v0⟩ := opensD_int Try.underlying3 h0 z0
  obtain ⟨a1, k1, v1⟩ := opensD_int Try.underlying3 h1 z1
  obtain ⟨a2, k2, v2⟩ := opensD_int Try.underlying2 h2 z2
  obtain ⟨a3, k3, v3⟩ := opensD_bool Try.underlying4 h3 z3
  obtain ⟨a4, k4, v4⟩ := opensD_sl (sz := 1) (by_ := 8) Try.underlying44 (opensD_int Try.underlying2) (by kernel_rfl) (by kernel_rfl) (by decide) (fun _ => rfl) h4 z4
  exact ⟨⟨a0, a1, a2, a3, a4⟩, cells_agg (.cons (CellsOf.val k0 rfl) (.cons (CellsOf.val k1 rfl) (.cons (CellsOf.val k2 rfl) (.cons (CellsOf.val k3 rfl) (.cons (CellsOf.val k4 rfl) .nil))))), v0, v1, v2, v4⟩
set_option maxRecDepth 100000 in
theorem opensD_txn : OpensD encTxn TxnOk Try.prog 63 := by
  intro H enc w base spare held fuel cs x h hz
  obtain ⟨hl, hf⟩ := M.opens_field Try.underlying63 h hz
  have hl5 : cs.length = 5 := hl.trans (by kernel_rfl)
  obtain ⟨c0, c1, c2, c3, c4, rfl⟩ := list5 hl5
  obtain ⟨m0, y0, h0, z0⟩ := hf 0 2 0 1 rfl (by kernel_rfl)
  obtain ⟨m1, y1, h1, z1⟩ := hf 1 3 1 1 rfl (by kernel_rfl)
  obtain ⟨m2, y2, h2, z2⟩ := hf 2 3 2 1 rfl (by kernel_rfl)
  obtain ⟨m3, y3, h3, z3⟩ := hf 3 3 3 1 rfl (by kernel_rfl)
  obtain ⟨m4, y4, h4, z4⟩ := hf 4 61 4 1 rfl (by kernel_rfl)
  obtain ⟨a0, k0, v0⟩ := opensD_int Try.underlying2 h0 z0
  obtain ⟨a1, k1, v1⟩ := opensD_int Try.underlying3 h1 z1
  obtain ⟨a2, k2, v2⟩ := opensD_int Try.underlying3 h2 z2
  obtain ⟨a3, k3, v3⟩ := opensD_int Try.underlying3 h3 z3
  obtain ⟨a4, k4, v4⟩ := opensD_sl (sz := 5) (by_ := 56) Try.underlying61 opensD_op (by kernel_rfl) (by kernel_rfl) (by decide) (fun _ => rfl) h4 z4
  exact ⟨⟨a0, a1, a2, a3, a4⟩, cells_agg (.cons (CellsOf.val k0 rfl) (.cons (CellsOf.val k1 rfl) (.cons (CellsOf.val k2 rfl) (.cons (CellsOf.val k3 rfl) (.cons (CellsOf.val k4 rfl) .nil))))), v0, v1, v2, v3, v4⟩
theorem list2 {α : Type} : ∀ {l : List α}, l.length = 2 → ∃ a b, l = [a, b]
  | [a, b], _ => ⟨a, b, rfl⟩
set_option maxRecDepth 100000 in
theorem opensD_hist : OpensD encHist HistOk Try.prog 53 := by
  intro H enc w base spare held fuel cs x h hz
  obtain ⟨hl, hf⟩ := M.opens_field Try.underlying53 h hz
  have hl2 : cs.length = 2 := hl.trans (by kernel_rfl)
  obtain ⟨c0, c1, rfl⟩ := list2 hl2
  obtain ⟨m0, y0, h0, z0⟩ := hf 0 50 0 1 rfl (by kernel_rfl)
  obtain ⟨m1, y1, h1, z1⟩ := hf 1 51 1 1 rfl (by kernel_rfl)
  obtain ⟨a0, k0, v0⟩ := opensD_sl (sz := 1) (by_ := 16) Try.underlying50 (opensD_str Try.underlying9) (by kernel_rfl) (by kernel_rfl) (by decide) (fun _ => rfl) h0 z0
  obtain ⟨a1, k1, v1⟩ := opensD_sl (sz := 5) (by_ := 56) Try.underlying51 opensD_txn (by kernel_rfl) (by kernel_rfl) (by decide) (fun _ => rfl) h1 z1
  exact ⟨⟨a0, a1⟩, cells_agg (.cons (CellsOf.val k0 rfl) (.cons (CellsOf.val k1 rfl) .nil)), v0, v1⟩
theorem rd_cells {F : Nat → Prop} {w : World} {ds : List D} {v : Value} (h : CellsOf F w (.agg ds) v.cells.toList) (hl : ds.length ≠ 1) : RD F w (.agg ds) v := by
  obtain ⟨h1, h2⟩ := h
  have hd : (D.agg ds).cells = ds := rfl
  rw [hd] at h1 h2
  cases v with
  | agg cs =>
    refine .agg _ cs (by simpa [Value.cells] using h1) fun j y hy => ?_
    have := h2 j y hy
    simpa [Value.cells] using this
  | _ => simp [Value.cells] at h1; omega
theorem open_hist {H : Type} {enc : TypeId × Value → H} {W : World} {v : Value} {d : DataW H} {p : List MemPlace} (h : DataW.Trod enc Try.prog W 0 (fun _ => true) true 53 v d p) (hz : ∀ n ∈ d.weights Try.prog 53, n ≤ reachBytes) :
    ∃ x, RD (fun b => b < W.heap.size) W (encHist x) v ∧ HistOk x := by
  obtain ⟨_, h⟩ := h
  obtain ⟨x, h1, h2⟩ := opensD_hist h hz
  exact ⟨x, rd_cells h1 (by simp), h2⟩
def gAll (W : World) : Gh := ⟨fun _ => ⟨none, 0, 0, 0⟩, fun _ => False, fun b => b < W.heap.size⟩
theorem pure_calls {f : FuncId} {args : List V} {vals : Array Value} {W : World} (h : PureC Try.prog f args (.d (.bool true))) (hl : vals.size = args.length) (hv : ∀ (j : Nat) (y : V), args[j]? = some y → RV (gAll W) W y (vals.getD j undef)) :
    Calls Try.prog f vals W fun e W' => e = .returned (.bool true) ∧ Below W.heap.size W W' := by
  refine (h ⟨0, [], fun _ => none⟩ (gAll W) W vals ⟨fun nm k hk => (by cases hk), fun n m b hn => (by cases hn), fun n b hn => (by cases hn), fun b hb => hb⟩ (fun k hk => hk.elim) hl hv).mono ?_
  rintro e w' ⟨r, v', S', g', rfl, hE, hS, _, hr, rfl, _⟩
  cases hr with | d hr =>
  cases hr
  exact ⟨rfl, hE.os, hE.tape, hE.output, hE.size, fun i hi => hE.keep i hi⟩
set_option maxRecDepth 100000 in
theorem hist_contract (N : Nat) (f : Func) (s : ChangeSpec) (hf : Try.prog.funcs[N]? = some f) (hp : f.params = #[53]) (hr : f.resultTypes = #[4]) (hv : s.vars = []) (hfn : ∀ (H : Type) (d : DataW H), s.fn H [d] = { results := [.lit (.bool true)], args := [d] })
    (hcalls : ∀ h : HistD, HistOk h → PureC Try.prog N [.d (encHist h)] (.d (.bool true)))
    {H : Type} {enc : TypeId × Value → H} {W : World} {args : Array Value} {ds gs : List (DataW H)} {before : List MemPlace} {apart : Bool}
    (hW : DataW.Whole enc Try.prog f.params.toList s.vars apart W args.toList ds gs before)
    (hz : (DataW.weightsEach Try.prog (f.params.toList ++ s.plain.varTypes Try.prog) (ds ++ gs)).all (· ≤ reachBytes) = true) :
    Calls Try.prog N args W fun e W' => ∃ v, e = .returned v ∧ s.post enc Try.prog f apart true false false W args v W' := by
  have hW' := hW
  obtain ⟨p, q, hA, hV, rfl, hfz, hnd⟩ := hW
  rw [hv] at hV
  obtain ⟨rfl, rfl⟩ := trodVars_none hV
  have hvt : s.plain.varTypes Try.prog = [] := by simp [DataSpec.varTypes, ChangeSpec.plain, hv]
  rw [hp] at hA hz
  rw [hvt] at hz
  obtain ⟨v0, d0, rfl, rfl, h0⟩ := trodAll_one hA
  have hall : ∀ n ∈ d0.weights Try.prog 53, n ≤ reachBytes := by
    intro n hn
    have := List.all_eq_true.1 hz n (by simpa [DataW.weightsEach] using hn)
    simpa using this
  obtain ⟨x, h1, h2⟩ := open_hist h0 hall
  refine (pure_calls (vals := #[v0]) (hcalls x h2) rfl fun j y hy => ?_).mono fun e W' ⟨he, hb⟩ => ?_
  · match j, hy with
    | 0, hy => simp at hy; subst hy; exact .d h1
    | j + 1, hy => simp at hy
  · refine ⟨_, he, law_post hW' hv hr ?_ (hfn H d0) hb⟩
    rw [hp]
    decide +kernel
end Go.Proofs.Ytjjmedgibcffhaa
/- The rows of the laws of layer 5 over events. -/
namespace Go.Proofs.Ytjjmedgibcffhaa
open Go.RowKit Go.MapKept Go.ChangeShapes Go.WideShapes Go.ChangeAt M
set_option linter.unusedSimpArgs false
set_option linter.unusedVariables false
set_option maxRecDepth 100000 in
theorem open_evs {H : Type} {enc : TypeId × Value → H} {W : World} {base : Nat} {v : Value} {d : DataW H} {p : List MemPlace} (hval : Value.okWide Try.prog W .any base 27 v)
    (h : DataW.Trod enc Try.prog W 0 (fun _ => true) true 27 v d p) (hz : ∀ n ∈ d.weights Try.prog 27, n ≤ reachBytes) :
    ∃ xs, RD (fun b => b < W.heap.size) W (evs xs) v ∧ SlOk EventOk 40 xs := by
  obtain ⟨a, len, cap, rfl⟩ := okWide_slice Try.underlying27 hval
  obtain ⟨_, h⟩ := h
  obtain ⟨xs, h1, h2⟩ := opensD_events h hz
  exact ⟨xs, CellsOf.val h1 rfl, h2⟩
set_option maxRecDepth 100000 in
theorem evs_contract (N : Nat) (f : Func) (s : ChangeSpec) (hf : Try.prog.funcs[N]? = some f) (hp : f.params = #[27]) (hr : f.resultTypes = #[4]) (hv : s.vars = []) (hfn : ∀ (H : Type) (d : DataW H), s.fn H [d] = { results := [.lit (.bool true)], args := [d] })
    (hcalls : ∀ l : List EventD, SlOk EventOk 40 l → PureC Try.prog N [.d (evs l)] (.d (.bool true)))
    {H : Type} {enc : TypeId × Value → H} {W : World} {base : Nat} {args : Array Value} {ds gs : List (DataW H)} {before : List MemPlace} {apart : Bool}
    (hval : ∀ (j : Nat) t v, f.params[j]? = some t → args[j]? = some v → Value.okWide Try.prog W .any base t v) (hW : DataW.Whole enc Try.prog f.params.toList s.vars apart W args.toList ds gs before)
    (hz : (DataW.weightsEach Try.prog (f.params.toList ++ s.plain.varTypes Try.prog) (ds ++ gs)).all (· ≤ reachBytes) = true) :
    Calls Try.prog N args W fun e W' => ∃ v, e = .returned v ∧ s.post enc Try.prog f apart true false false W args v W' := by
  have hW' := hW
  obtain ⟨p, q, hA, hV, rfl, hfz, hnd⟩ := hW
  rw [hv] at hV
  obtain ⟨rfl, rfl⟩ := trodVars_none hV
  have hvt : s.plain.varTypes Try.prog = [] := by simp [DataSpec.varTypes, ChangeSpec.plain, hv]
  rw [hp] at hA hz hval
  rw [hvt] at hz
  obtain ⟨v0, d0, rfl, rfl, h0⟩ := trodAll_one hA
  have hall : ∀ n ∈ d0.weights Try.prog 27, n ≤ reachBytes := by
    intro n hn
    have := List.all_eq_true.1 hz n (by simpa [DataW.weightsEach] using hn)
    simpa using this
  obtain ⟨xs, h1, h2⟩ := open_evs (hval 0 27 v0 rfl rfl) h0 hall
  refine (pure_calls (vals := #[v0]) (hcalls xs h2) rfl fun j y hy => ?_).mono fun e W' ⟨he, hb⟩ => ?_
  · match j, hy with
    | 0, hy => simp at hy; subst hy; exact .d h1
    | j + 1, hy => simp at hy
  · refine ⟨_, he, law_post hW' hv hr ?_ (hfn H d0) hb⟩
    rw [hp]
    decide +kernel
end Go.Proofs.Ytjjmedgibcffhaa
