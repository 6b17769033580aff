/- Events are put together, and busy processes told, as the document says. The law PairPairs answers true at every input, and leaves its arguments as they were. No condition. -/
import Derived.Test.YtjjmedgibcffhaaK5
import Derived.Test.YtjjmedgibcffhaaLawPairs
namespace Go.Proofs.Ytjjmedgibcffhaa
open Go.RowKit Go.MapKept Go.ChangeShapes Go.WideShapes Go.ChangeAt
set_option linter.unusedVariables false

set_option maxRecDepth 100000 in
theorem open_eventsD {H : Type} {enc : TypeId × Value → H} {W : World} {base : Nat} {v : Value} {d : DataW H} {p : List MemPlace} (hval : Value.okWide Try.prog W .any base 27 v)
    (h : DataW.Trod enc Try.prog W 0 (fun _ => true) true 27 v d p) (hz : ∀ n ∈ d.weights Try.prog 27, n ≤ reachBytes) :
    ∃ xs, M.RD (fun b => b < W.heap.size) W (.sl (xs.map encEvent)) v ∧ M.SlOk EventOk 40 xs := by
  obtain ⟨a, len, cap, rfl⟩ := okWide_slice Try.underlying27 hval
  obtain ⟨_, h⟩ := h
  obtain ⟨xs, h1, h2⟩ := opensD_events h hz
  exact ⟨xs, M.CellsOf.val h1 rfl, h2⟩

set_option maxRecDepth 100000 in
theorem eventsD_contract (N : Nat) (f : Func) (s : ChangeSpec) (hf : Try.prog.funcs[N]? = some f) (hp : f.params = #[27]) (hr : f.resultTypes = #[4]) (hv : s.vars = []) (hfn : ∀ (H : Type) (d : DataW H), s.fn H [d] = { results := [.lit (.bool true)], args := [d] })
    (hcalls : ∀ (xs : List EventD) (w : World) (v : Value), M.RD (fun b => b < w.heap.size) w (.sl (xs.map encEvent)) v → M.SlOk EventOk 40 xs → Calls Try.prog N #[v] w fun e w' => e = .returned (.bool true) ∧ Below w.heap.size w w')
    {H : Type} {enc : TypeId × Value → H} {W : World} {base : Nat} {args : Array Value} {ds gs : List (DataW H)} {before : List MemPlace} {apart : Bool}
    (hval : ∀ (j : Nat) t v, f.params[j]? = some t → args[j]? = some v → Value.okWide Try.prog W .any base t v) (hW : DataW.Whole enc Try.prog f.params.toList s.vars apart W args.toList ds gs before)
    (hz : (DataW.weightsEach Try.prog (f.params.toList ++ s.plain.varTypes Try.prog) (ds ++ gs)).all (· ≤ reachBytes) = true) :
    Calls Try.prog N args W fun e W' => ∃ v, e = .returned v ∧ s.post enc Try.prog f apart true false false W args v W' := by
  have hW' := hW
  obtain ⟨p, q, hA, hV, rfl, hfz, hnd⟩ := hW
  rw [hv] at hV
  obtain ⟨rfl, rfl⟩ := trodVars_none hV
  have hvt : s.plain.varTypes Try.prog = [] := by simp [DataSpec.varTypes, ChangeSpec.plain, hv]
  rw [hp] at hA hz hval
  rw [hvt] at hz
  obtain ⟨v0, d0, rfl, rfl, h0⟩ := trodAll_one hA
  have hall : ∀ n ∈ d0.weights Try.prog 27, n ≤ reachBytes := by
    intro n hn
    have := List.all_eq_true.1 hz n (by simpa [DataW.weightsEach] using hn)
    simpa using this
  obtain ⟨xs, h1, h2⟩ := open_eventsD (hval 0 27 v0 rfl rfl) h0 hall
  refine (hcalls xs W v0 h1 h2).mono fun e W' ⟨he, hb⟩ => ?_
  refine ⟨_, he, law_post hW' hv hr ?_ (hfn H d0) hb⟩
  rw [hp]
  decide +kernel

set_option maxRecDepth 100000 in
theorem pairPairs_lifted (os : Os) (started : os.Started) (H : Type) (enc : TypeId × Value → H) :
    ReturnsInHanded {} Try.checked os 7 .any (Rows.pairPairsSpec.pre6 enc Try.prog Try.f7 Rows.pairPairsRow.domain false) (Rows.pairPairsSpec.post enc Try.prog Try.f7 false true false false) := by
  refine returnsInHanded_of_change_sized (C := Try.checked) own started (by kernel_rfl) Try.func7
    (ChangeSpec.witness6 (enc := enc) (C := Try.checked) false ⟨#[], #[.slice none 0 0], []⟩ 7 (by kernel_rfl) (by kernel_rfl) (by kernel_rfl) (by kernel_rfl)) ?_
  intro W base args ds gs before hval hW _ hz _
  refine eventsD_contract 7 Try.f7 Rows.pairPairsSpec Try.func7 rfl rfl rfl (fun _ _ => rfl)
    (fun xs w v h1 h2 => ?_) hval hW hz
  obtain ⟨A, c, rfl, _, _⟩ := conv_events h1 h2
  exact lawPairs_calls xs _ w A c h1 h2 (fun b hb => hb)

theorem pairPairs_holds : Rows.PairPairsSaid :=
  OpenClaim.holds_of_wide 7 Try.f7 rfl rfl rfl rfl rfl rfl rfl ⟨rfl, rfl, rfl, rfl, rfl⟩ rfl rfl rfl rfl rfl (by kernel_rfl) Try.func7 (by kernel_rfl)
    (of_decide_eq_true (by kernel_rfl)) (by unfold Func.isWrapper; first | (rw [if_pos (by decide +kernel)]; kernel_rfl) | (rw [if_neg (by decide +kernel)]; exact ⟨rfl, rfl⟩))
    (fun os started H enc _ => pairPairs_lifted os started H enc)
#print axioms pairPairs_holds
end Go.Proofs.Ytjjmedgibcffhaa
