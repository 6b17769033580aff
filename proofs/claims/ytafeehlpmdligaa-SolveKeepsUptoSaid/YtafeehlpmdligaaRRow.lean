/- From a contract 'true, whatever the arguments' to what a law's row asks, for arguments of small bulk. -/
import Derived.OpenShut
import Derived.Carry
import Derived.Test.YtafeehlpmdligaaRMd
import Derived.Test.YtafeehlpmdligaaRXa
namespace Go.Proofs.Ytafeehlpmdligaa
open Go.RowKit Go.ChangeShapes Go.WideShapes Go.ChangeAt M
set_option linter.unusedSimpArgs false
set_option linter.unusedVariables false
theorem own : ownKnob Try.prog.godebug = none := by kernel_rfl
theorem laidOut : laidOutB Try.prog = true := by kernel_rfl
theorem trodAll_below {H : Type} {enc : TypeId × Value → H} {P : Program} (hl : laidOutB P = true) {W W' : World} (hb : Below W.heap.size W W') : ∀ {ts : List TypeId} {vs : List Value} {ds : List (DataW H)} {ps : List MemPlace},
    (∀ t ∈ ts, P.readableRec t = true ∧ t < P.types.size) → DataW.TrodAll enc P W 0 (fun _ => true) true ts vs ds ps → (∀ x ∈ ps, x.block < W.heap.size) → DataW.TrodAll enc P W' 0 (fun b => decide (b < W.heap.size)) true ts vs ds ps
  | [], [], [], ps, _, h, _ => h
  | t :: ts, v :: vs, d :: ds, ps, ht, h, hlt => by
    obtain ⟨p, q, h1, h2, rfl⟩ := h
    exact ⟨p, q, Below.trod hl (ht t List.mem_cons_self).1 (ht t List.mem_cons_self).2 h1 hb (fun x hx => hlt x (List.mem_append_left _ hx)), trodAll_below hl hb (fun t' ht' => ht t' (List.mem_cons_of_mem _ ht')) h2 (fun x hx => hlt x (List.mem_append_right _ hx)), rfl⟩
  | [], [], _ :: _, _, _, h, _ => h.elim
  | [], _ :: _, _, _, _, h, _ => h.elim
  | _ :: _, [], _, _, _, h, _ => h.elim
  | _ :: _, _ :: _, [], _, _, h, _ => h.elim
/-- What a law's row asks of the call. -/
theorem law_post {H : Type} {enc : TypeId × Value → H} {f : Func} {s : ChangeSpec} {W W' : World} {args : Array Value} {ds gs : List (DataW H)} {before : List MemPlace} {apart : Bool}
    (hW : DataW.Whole enc Try.prog f.params.toList s.vars apart W args.toList ds gs before) (hv : s.vars = []) (hr : f.resultTypes = #[4]) (hp : ∀ t ∈ f.params.toList, Try.prog.readableRec t = true ∧ t < Try.prog.types.size)
    (hfn : s.fn H (ds ++ gs) = { results := [.lit (.bool true)], args := ds }) (hb : Below W.heap.size W W') : s.post enc Try.prog f apart true false false W args (.bool true) W' := by
  have hlt : ∀ x ∈ before, x.block < W.heap.size := fun x hx => hW.lt x hx
  have hW0 := hW
  obtain ⟨p, q, hA, hV, rfl, hz, hn⟩ := hW
  rw [hv] at hV
  obtain ⟨rfl, rfl⟩ := trodVars_none hV
  refine ⟨ds, [], p ++ [], [], p, [], hW0, ?_, ?_, ?_, ?_, fun h => by cases h⟩
  · rw [hfn, hr]
    exact trodAll_mk1 (shut_bool Try.underlying4 _)
  · rw [hfn]
    exact trodAll_below laidOut hb hp hA (fun x hx => hlt x (by simpa using hx))
  · rw [hfn, hv]
    rfl
  · exact hb.frame _
/-- An argument that comes in. -/
def OpenV (T : TypeId) (Q : D → Prop) : Prop := ∀ {H : Type} {enc : TypeId × Value → H} {W : World} {base : Nat} {v : Value} {d : DataW H} {p : List MemPlace}, Value.okWide Try.prog W .any base T v → DataW.Trod enc Try.prog W 0 (fun _ => true) true T v d p →
  SmallB d → ∃ x, Q x ∧ RD (fun b => b < W.heap.size) W x v
inductive OpenVs : List TypeId → List (D → Prop) → Prop
  | nil : OpenVs [] []
  | cons {T : TypeId} {Q : D → Prop} {ts : List TypeId} {qs : List (D → Prop)} (h : OpenV T Q) (t : OpenVs ts qs) : OpenVs (T :: ts) (Q :: qs)
def AllQ : List (D → Prop) → List D → Prop
  | [], [] => True
  | q :: qs, x :: xs => q x ∧ AllQ qs xs
  | _, _ => False
theorem all1 {q : D → Prop} {xs : List D} (h : AllQ [q] xs) : ∃ x, xs = [x] ∧ q x := by
  cases xs with
  | nil => exact h.elim
  | cons x xs => cases xs with
    | nil => exact ⟨x, rfl, h.1⟩
    | cons _ _ => exact h.2.elim
theorem all2 {q r : D → Prop} {xs : List D} (h : AllQ [q, r] xs) : ∃ x y, xs = [x, y] ∧ q x ∧ r y := by
  cases xs with
  | nil => exact h.elim
  | cons x xs => obtain ⟨y, rfl, hy⟩ := all1 h.2; exact ⟨x, y, rfl, h.1, hy⟩
theorem all3 {q r s : D → Prop} {xs : List D} (h : AllQ [q, r, s] xs) : ∃ x y z, xs = [x, y, z] ∧ q x ∧ r y ∧ s z := by
  cases xs with
  | nil => exact h.elim
  | cons x xs => obtain ⟨y, z, rfl, hy, hz⟩ := all2 h.2; exact ⟨x, y, z, rfl, h.1, hy, hz⟩
set_option maxRecDepth 100000 in
theorem open_all {H : Type} {enc : TypeId × Value → H} {W : World} {base : Nat} {ts : List TypeId} {qs : List (D → Prop)} (hO : OpenVs ts qs) : ∀ {vs : List Value} {ds : List (DataW H)} {ps : List MemPlace},
    (∀ (j : Nat) t v, ts[j]? = some t → vs[j]? = some v → Value.okWide Try.prog W .any base t v) → DataW.TrodAll enc Try.prog W 0 (fun _ => true) true ts vs ds ps → Rows.uptoBulkAll ds ≤ 1048576 → ∃ xs, AllQ qs xs ∧ AllRD (fun b => b < W.heap.size) W xs vs := by
  induction hO with
  | nil =>
    intro vs ds ps _ hA _
    cases vs with
    | nil => exact ⟨[], trivial, .nil⟩
    | cons v vs => cases ds <;> exact hA.elim
  | cons h ht ih =>
    intro vs ds ps hw hA hb
    cases vs with
    | nil => cases ds <;> exact hA.elim
    | cons v vs => cases ds with
      | nil => exact hA.elim
      | cons d ds =>
        obtain ⟨p, q, h1, h2, rfl⟩ := hA
        simp only [Rows.uptoBulkAll] at hb
        obtain ⟨x, hx, hr⟩ := h (hw 0 _ v rfl rfl) h1 ⟨by omega⟩
        obtain ⟨xs, hxs, hrs⟩ := ih (fun j t' v' ht' hv' => hw (j + 1) t' v' ht' hv') h2 (by omega)
        exact ⟨x :: xs, ⟨hx, hxs⟩, .cons hr hrs⟩
theorem allRD_get {F : Nat → Prop} {w : World} : ∀ {ds : List D} {cs : List Value}, AllRD F w ds cs → cs.length = ds.length ∧ ∀ (j : Nat) (y : D), ds[j]? = some y → RD F w y (cs.getD j undef)
  | _, _, .nil => ⟨rfl, fun j y h => by simp at h⟩
  | _, _, .cons h t => by
    obtain ⟨h1, h2⟩ := allRD_get t
    refine ⟨by simp [h1], fun j y hy => ?_⟩
    cases j with
    | zero => simp at hy; subst hy; exact h
    | succ j => simp at hy; simpa using h2 j y hy
theorem pure_calls {N : FuncId} {xs : List D} (hP : PureC Try.prog N (xs.map V.d) (.d (.bool true))) {W : World} {args : Array Value} (hR : AllRD (fun b => b < W.heap.size) W xs args.toList) :
    Calls Try.prog N args W fun e w' => e = .returned (.bool true) ∧ Below W.heap.size W w' := by
  obtain ⟨hl, hg⟩ := allRD_get hR
  have h := hP ⟨0, [], fun _ => none⟩ ⟨fun _ => ⟨none, 0, 0, 0⟩, fun _ => False, fun b => b < W.heap.size⟩ W args
    ⟨fun nm k hk => (by cases hk), fun n m b hn => (by cases hn), fun n b hn => (by cases hn), fun b hb => hb⟩ (fun k hk => hk.elim) (by simpa using hl) (fun j y hy => by
      simp only [List.getElem?_map, Option.map_eq_some_iff] at hy
      obtain ⟨x, hx, rfl⟩ := hy
      have := hg j x hx
      have e : args.toList.getD j undef = args.getD j undef := by simp [List.getD, Array.getD_eq_getD_getElem?]
      rw [e] at this
      exact .d this)
  refine h.mono ?_
  rintro e w' ⟨r, v', S', g', rfl, hE, hS, _, hv, rfl, _⟩
  cases hv with | d hv =>
  cases hv
  exact ⟨rfl, hE.os, hE.tape, hE.output, hE.size, fun i hi => hE.keep i hi⟩
set_option maxRecDepth 100000 in
theorem upto_contract (N : Nat) (f : Func) (s : ChangeSpec) (qs : List (D → Prop)) (hp : OpenVs f.params.toList qs) (hpr : ∀ t ∈ f.params.toList, Try.prog.readableRec t = true ∧ t < Try.prog.types.size) (hr : f.resultTypes = #[4]) (hv : s.vars = [])
    (hfn : ∀ (H : Type) (ds : List (DataW H)), ds.length = f.params.size → s.fn H ds = { results := [.lit (.bool true)], args := ds })
    (hcalls : ∀ xs : List D, AllQ qs xs → PureC Try.prog N (xs.map V.d) (.d (.bool true)))
    {H : Type} {enc : TypeId × Value → H} {W : World} {base : Nat} {args : Array Value} {ds gs : List (DataW H)} {before : List MemPlace} {apart : Bool}
    (hval : ∀ (j : Nat) t v, f.params[j]? = some t → args[j]? = some v → Value.okWide Try.prog W .any base t v) (hW : DataW.Whole enc Try.prog f.params.toList s.vars apart W args.toList ds gs before)
    (hk : Rows.uptoSmall H (ds ++ gs) = true) :
    Calls Try.prog N args W fun e W' => ∃ v, e = .returned v ∧ s.post enc Try.prog f apart true false false W args v W' := by
  have hW' := hW
  obtain ⟨p, q, hA, hV, rfl, hfz, hnd⟩ := hW
  rw [hv] at hV
  obtain ⟨rfl, rfl⟩ := trodVars_none hV
  simp only [List.append_nil] at hk
  have hk' : Rows.uptoBulkAll ds ≤ 1048576 := of_decide_eq_true hk
  obtain ⟨xs, hx, hR⟩ := open_all (base := base) hp (fun j t v ht hv' => hval j t v (by simpa using ht) (by simpa using hv')) hA hk'
  have hlen : ∀ {ts : List TypeId} {vs : List Value} {ds : List (DataW H)} {ps : List MemPlace}, DataW.TrodAll enc Try.prog W 0 (fun _ => true) true ts vs ds ps → ds.length = ts.length := by
    intro ts
    induction ts with
    | nil => intro vs ds ps h; cases vs <;> cases ds <;> first | rfl | exact h.elim
    | cons t ts ih =>
      intro vs ds ps h
      cases vs with
      | nil => exact h.elim
      | cons v vs => cases ds with
        | nil => exact h.elim
        | cons d ds => obtain ⟨_, _, _, h2, _⟩ := h; simp [ih h2]
  refine (pure_calls (hcalls xs hx) hR).mono fun e W' ⟨he, hb⟩ => ?_
  exact ⟨_, he, law_post hW' hv hr hpr (by rw [List.append_nil]; exact hfn H ds (by rw [hlen hA]; simp)) hb⟩
-- The types of arguments.
set_option maxRecDepth 100000 in
theorem openV_of {α : Type} {en : α → D} {V : α → Prop} {T : TypeId} (ho : OpensB en V Try.prog T) (hc : ∀ {W : World} {base : Nat} {v : Value}, Value.okWide Try.prog W .any base T v → v.cells.toList = [v]) (hd : ∀ a, (en a).cells = [en a]) : OpenV T (fun x => ∃ a, x = en a ∧ V a) := by
  intro H enc W base v d p hw ht hb
  obtain ⟨fuel, h⟩ := ht
  rw [hc hw] at h
  obtain ⟨a, hC, hV⟩ := ho h hb
  exact ⟨en a, ⟨a, rfl, hV⟩, hC.val (hd a)⟩
set_option maxRecDepth 100000 in
theorem cells_slice {T e : TypeId} (hu : Try.prog.underlying T = some (.slice e)) {W : World} {base : Nat} {v : Value} (h : Value.okWide Try.prog W .any base T v) : v.cells.toList = [v] := by
  obtain ⟨a, len, cap, rfl⟩ := okWide_slice hu h
  rfl
set_option maxRecDepth 100000 in
theorem cells_int {T : TypeId} {k : IntKind} (hu : Try.prog.underlying T = some (.int k)) {W : World} {base : Nat} {v : Value} (h : Value.okWide Try.prog W .any base T v) : v.cells.toList = [v] := by
  obtain ⟨n, rfl⟩ := okWide_int hu h
  rfl
set_option maxRecDepth 100000 in
theorem opensB_ints : OpensB ints (SlB (IntOk .i64)) Try.prog 35 := by
  intro H enc w base spare held fuel cs x h hz
  exact opensB_sl (sz := 1) Try.underlying35 (opensB_int Try.underlying3) (by kernel_rfl) (by decide) (fun _ => rfl) h hz
set_option maxRecDepth 100000 in
theorem opensB_cls : OpensB cls (SlB (SlB (IntOk .i64))) Try.prog 22 := by
  intro H enc w base spare held fuel cs x h hz
  exact opensB_sl (sz := 1) Try.underlying22 opensB_ints (by kernel_rfl) (by decide) (fun _ => rfl) h hz
theorem list2 {α : Type} {l : List α} (h : l.length = 2) : ∃ a b, l = [a, b] := by
  match l, h with
  | [a, b], _ => exact ⟨a, b, rfl⟩
def cnf_ (p : Int × List (List Int)) : D := .agg [.int .i64 p.1, cls p.2]
set_option maxRecDepth 100000 in
theorem opensB_cnf : OpensB cnf_ (fun p => IntOk .i64 p.1 ∧ SlB (SlB (IntOk .i64)) p.2) Try.prog 24 := by
  intro H enc w base spare held fuel cs x h hz
  obtain ⟨hl, hf⟩ := M.opensB_field Try.underlying24 h hz
  have hl2 : cs.length = 2 := hl.trans (by kernel_rfl)
  obtain ⟨c0, c1, rfl⟩ := list2 hl2
  obtain ⟨m0, y0, h0, z0⟩ := hf 0 3 0 1 rfl (by kernel_rfl)
  obtain ⟨m1, y1, h1, z1⟩ := hf 1 22 1 1 rfl (by kernel_rfl)
  obtain ⟨a0, k0, v0⟩ := opensB_int Try.underlying3 h0 z0
  obtain ⟨a1, k1, v1⟩ := opensB_cls h1 z1
  exact ⟨⟨a0, a1⟩, cells_agg (.cons (CellsOf.val k0 rfl) (.cons (CellsOf.val k1 rfl) .nil)), v0, v1⟩
set_option maxRecDepth 100000 in
theorem openV_cnf : OpenV 24 (fun x => ∃ n cs, x = cnf_ (n, cs) ∧ IntOk .i64 n ∧ SlB (SlB (IntOk .i64)) cs) := by
  intro H enc W base v d p hw ht hb
  obtain ⟨cs, rfl, hsz⟩ := okWide_struct Try.underlying24 hw
  obtain ⟨fuel, h⟩ := ht
  obtain ⟨⟨n, l⟩, hC, h1, h2⟩ := opensB_cnf h hb
  refine ⟨_, ⟨n, l, rfl, h1, h2⟩, .agg _ _ ?_ fun j y hy => ?_⟩
  · have := hC.1
    simpa [cnf_, D.cells, Value.cells] using this
  · have := hC.2 j y hy
    have e : (Value.agg cs).cells.toList.getD j undef = cs.getD j undef := by simp [Value.cells, List.getD, Array.getD_eq_getD_getElem?]
    rw [e] at this
    exact this
set_option maxRecDepth 100000 in
theorem openV_cls : OpenV 22 (fun x => ∃ l, x = cls l ∧ SlB (SlB (IntOk .i64)) l) := openV_of opensB_cls (cells_slice Try.underlying22) (fun _ => rfl)
set_option maxRecDepth 100000 in
theorem openV_ints : OpenV 35 (fun x => ∃ l, x = ints l ∧ SlB (IntOk .i64) l) := openV_of opensB_ints (cells_slice Try.underlying35) (fun _ => rfl)
set_option maxRecDepth 100000 in
theorem openV_int : OpenV 3 (fun x => ∃ n, x = .int .i64 n ∧ IntOk .i64 n) := openV_of (opensB_int Try.underlying3) (cells_int Try.underlying3) (fun _ => rfl)
end Go.Proofs.Ytafeehlpmdligaa
