/- index.calls and what stands behind index.placed. -/
import Derived.Test.YtjjmedgibcffhaaROp2
import Derived.Test.YtjjmedgibcffhaaRIx2
import Derived.Test.YtjjmedgibcffhaaRBr
namespace Go.Proofs.Ytjjmedgibcffhaa
open Go.RowKit M
set_option linter.unusedSimpArgs false
set_option linter.unusedVariables false
/-- What is known of a history that comes in. -/
def OpOk (o : OpD) : Prop := IntOk .i64 o.kind ∧ IntOk .i64 o.key ∧ IntOk .i64 o.arg ∧ SlOk (IntOk .i64) 8 o.vals
def TxnOk (t : TxnD) : Prop := IntOk .i64 t.proc ∧ IntOk .i64 t.status ∧ IntOk .i64 t.frm ∧ IntOk .i64 t.to ∧ SlOk OpOk 56 t.ops
def HistOk (h : HistD) : Prop := SlOk (fun s => s.size ≤ 140737488351232) 16 h.keys ∧ SlOk TxnOk 56 h.txns
theorem TxnOk.b {t : TxnD} (h : TxnOk t) : TxnB t := ⟨h.2.2.2.2.1, fun o ho => ⟨(h.2.2.2.2.2 o ho).2.2.2.1⟩⟩
theorem HistOk.b {h : HistD} (hh : HistOk h) : HistB h := ⟨hh.1.1, hh.2.1, fun t ht => (hh.2.2 t ht).b⟩
def okKey (n : Nat) (o : OpD) : Bool := decide (0 ≤ o.key ∧ o.key < n)
def callOf' (keys : List ByteArray) (o : OpD) : CallD := ⟨o.kind, keys.getD o.key.toNat ByteArray.empty, o.arg, o.got, o.vals⟩
/-- The operations of a transaction as an event, up to the first without a key. -/
def evOf (keys : List ByteArray) (t : TxnD) : EventD := ⟨0, t.status, (t.ops.takeWhile (okKey keys.length)).map (callOf' keys)⟩
def evOkB (keys : List ByteArray) (t : TxnD) : Bool := t.ops.all (okKey keys.length) && eventOk (evOf keys t)
theorem takeWhile_bad {α : Type} (p : α → Bool) : ∀ (l : List α) (j : Nat) (h : j < l.length), (∀ i (h : i < l.length), i < j → p l[i] = true) → p l[j] = false → l.takeWhile p = l.take j ∧ l.all p = false
  | a :: l, 0, _, _, hb => by
    simp only [List.getElem_cons_zero] at hb
    simp [List.takeWhile, hb]
  | a :: l, j + 1, h, hg, hb => by
    have h0 := hg 0 (by simp) (by omega)
    simp only [List.getElem_cons_zero] at h0
    simp only [List.getElem_cons_succ] at hb
    obtain ⟨h1, h2⟩ := takeWhile_bad p l j (by simpa using h) (fun i hi hij => by have := hg (i + 1) (by simpa using hi) (by omega); simpa using this) hb
    simp [List.takeWhile, h0, h1, h2]
theorem takeWhile_good {α : Type} (p : α → Bool) (l : List α) (h : ∀ i (h : i < l.length), p l[i] = true) : l.takeWhile p = l ∧ l.all p = true := by
  have ha : ∀ a ∈ l, p a = true := fun a ha => by obtain ⟨i, hi, rfl⟩ := List.getElem_of_mem ha; exact h i hi
  refine ⟨?_, List.all_eq_true.2 ha⟩
  clear h
  induction l with
  | nil => rfl
  | cons a l ih => simp [List.takeWhile, ha a (by simp), ih fun b hb => ha b (by simp [hb])]
theorem IntOk.le {n : Int} (h : IntOk .i64 n) : -9223372036854775808 ≤ n ∧ n ≤ 9223372036854775807 := by
  have h' : (decide (-9223372036854775808 ≤ n) && decide (n ≤ 9223372036854775807)) = true := h
  simpa using h'
theorem listOk_one (e : EventD) : errnoOf (listOk [e]) = if eventOk e then 0 else 1 := by
  simp [errnoOf, listOk]
/-- wire.Check of an event with too many calls. -/
theorem check44L (e : EventD) (hl : 16 < e.calls.length) : PureC Try.prog 44 [.d (evs [e])] (.d (.int .i64 1)) := by
  refine PureC.of (n := 33) Try.func44 rfl rfl (by simp) (by simp only [argL, Nat.reduceAdd] <;> rfl) rfl ?_
  intro n0 H hH
  ((repeat refine WpM.seq ?_); have z_ex := True.intro; refine WpM.regPE [] [(0, _)] (by (refine s_m [] ?_; exact wpS_nil ⟨rfl, rfl⟩)) z_su ?_; clear z_ex)
  ((repeat refine WpM.seq ?_); have z_ex := (And.intro @evs.eq_1 True.intro); refine WpM.regPE [] [(0, _), (7, _)] (by (refine s_m [(0, _)] ?_; refine s_q [(5, _)] ?_; refine s_q [(6, _)] ?_; exact wpS_nil ⟨rfl, rfl⟩)) z_su ?_; clear z_ex)
  ((repeat refine WpM.seq ?_); refine WpM.condF (by (simp (maxSteps := 2000000) (disch := omega) [go_sem, -List.map_map])) ?_)
  refine WpM.skip ?_
  ((repeat refine WpM.seq ?_); have z_ex := (And.intro @evs.eq_1 True.intro); refine WpM.regPE [] [(8, _), (9, _), (10, _)] (by (refine s_m [(0, _)] ?_; refine s_q [(8, _)] ?_; refine s_m [] ?_; exact wpS_nil ⟨rfl, rfl⟩)) z_su ?_; clear z_ex)
  ((repeat refine WpM.seq ?_); refine WpM.block ?_)
  refine WpM.loop (fun (j : Nat) fr S => fr = frOf [(8, .d (evs [e])), (9, .d (.int .i64 1)), (10, .d (.int .i64 0))] ∧ ∃ nx, n0 ≤ nx ∧ S = ⟨nx, [], H⟩) (fun j => 0) 0 (St.Le.refl _) (frLe_frOf (by (simp (maxSteps := 2000000) (disch := omega) [go_sem, -List.map_map, evs]))) ⟨rfl, _, ?_, rfl⟩ ?_
  · omega
  rintro j fr S' ⟨rfl, nx, hnx, rfl⟩
  ((repeat refine WpM.seq ?_); have z_ex := True.intro; refine WpM.regPE [] [(8, _), (9, _), (10, _), (11, _)] (by (refine s_q [(9, _), (10, _)] ?_; exact wpS_nil ⟨rfl, rfl⟩)) z_su ?_; clear z_ex)
  ((repeat refine WpM.seq ?_); refine WpM.condT (by (simp (maxSteps := 2000000) (disch := omega) [go_sem, -List.map_map])) ?_)
  refine WpM.skip ?_
  ((repeat refine WpM.seq ?_); refine WpM.block ?_)
  ((repeat refine WpM.seq ?_); have z_ex := (And.intro @evs.eq_1 (And.intro @encEvent.eq_1 True.intro)); refine WpM.regPE [] [(4, _), (8, _), (9, _), (10, _)] (by (refine s_q [(8, _), (10, _)] ?_; refine s_l [(12, _)] ?_; refine s_a [] ?_; refine s_s [(4, _), (13, _)] ?_; exact wpS_nil ⟨rfl, rfl⟩)) z_su ?_; clear z_ex)
  by_cases h1 : e.kind < 0
  · ((repeat refine WpM.seq ?_); have z_ex := (And.intro @h1 True.intro); refine WpM.regPE [] [(4, _), (8, _), (9, _), (10, _), (27, _)] (by (refine s_f [(4, _)] ?_; refine s_l [(14, _)] ?_; refine s_q [(15, _)] ?_; refine s_m [(16, _)] ?_; refine s_wit ?_; intro z_g; (first | refine s_skip rfl z_g z_fp ?_ | (refine s_f [(4, _)] ?_ (hg := z_g))); clear z_g; refine s_wit ?_; intro z_g; (first | refine s_skip rfl z_g z_fp ?_ | (refine s_l [(18, _)] ?_ (hg := z_g))); clear z_g; refine s_wit ?_; intro z_g; (first | refine s_skip rfl z_g z_fp ?_ | (refine s_q [(19, _)] ?_ (hg := z_g))); clear z_g; refine s_m [(17, _), (20, _)] ?_; refine s_m [(21, _)] ?_; refine s_wit ?_; intro z_g; (first | refine s_skip rfl z_g z_fp ?_ | (refine s_f [(4, _)] ?_ (hg := z_g))); clear z_g; refine s_wit ?_; intro z_g; (first | refine s_skip rfl z_g z_fp ?_ | (refine s_l [(23, _)] ?_ (hg := z_g))); clear z_g; refine s_wit ?_; intro z_g; (first | refine s_skip rfl z_g z_fp ?_ | (refine s_q [(24, _)] ?_ (hg := z_g))); clear z_g; refine s_wit ?_; intro z_g; (first | refine s_skip rfl z_g z_fp ?_ | (refine s_q [(25, _)] ?_ (hg := z_g))); clear z_g; refine s_m [(22, _), (26, _)] ?_; exact wpS_nil ⟨rfl, rfl⟩)) z_su ?_; clear z_ex)
    ((repeat refine WpM.seq ?_); refine WpM.condT (by (simp (maxSteps := 2000000) (disch := omega) [go_sem, -List.map_map, h1])) ?_)
    ((repeat refine WpM.seq ?_); have z_ex := True.intro; refine WpM.regPE [] [(2, _)] (by (refine s_m [] ?_; exact wpS_nil ⟨rfl, rfl⟩)) z_su ?_; clear z_ex)
    (refine WpM.ret ?_; refine ⟨.inr rfl, Upd.done ?_⟩; (simp (maxSteps := 2000000) (disch := omega) [go_sem, -List.map_map, resV, resVs, resV1,]))
    omega
  · by_cases h2 : 3 < e.kind
    · ((repeat refine WpM.seq ?_); have z_ex := (And.intro @h1 (And.intro @h2 True.intro)); refine WpM.regPE [] [(4, _), (8, _), (9, _), (10, _), (27, _)] (by (refine s_f [(4, _)] ?_; refine s_l [(14, _)] ?_; refine s_q [(15, _)] ?_; refine s_m [(16, _)] ?_; refine s_wit ?_; intro z_g; (first | refine s_skip rfl z_g z_fp ?_ | (refine s_f [(4, _)] ?_ (hg := z_g))); clear z_g; refine s_wit ?_; intro z_g; (first | refine s_skip rfl z_g z_fp ?_ | (refine s_l [(18, _)] ?_ (hg := z_g))); clear z_g; refine s_wit ?_; intro z_g; (first | refine s_skip rfl z_g z_fp ?_ | (refine s_q [(19, _)] ?_ (hg := z_g))); clear z_g; refine s_m [(17, _), (20, _)] ?_; refine s_m [(21, _)] ?_; refine s_wit ?_; intro z_g; (first | refine s_skip rfl z_g z_fp ?_ | (refine s_f [(4, _)] ?_ (hg := z_g))); clear z_g; refine s_wit ?_; intro z_g; (first | refine s_skip rfl z_g z_fp ?_ | (refine s_l [(23, _)] ?_ (hg := z_g))); clear z_g; refine s_wit ?_; intro z_g; (first | refine s_skip rfl z_g z_fp ?_ | (refine s_q [(24, _)] ?_ (hg := z_g))); clear z_g; refine s_wit ?_; intro z_g; (first | refine s_skip rfl z_g z_fp ?_ | (refine s_q [(25, _)] ?_ (hg := z_g))); clear z_g; refine s_m [(22, _), (26, _)] ?_; exact wpS_nil ⟨rfl, rfl⟩)) z_su ?_; clear z_ex)
      ((repeat refine WpM.seq ?_); refine WpM.condT (by (simp (maxSteps := 2000000) (disch := omega) [go_sem, -List.map_map, h1, h2])) ?_)
      ((repeat refine WpM.seq ?_); have z_ex := True.intro; refine WpM.regPE [] [(2, _)] (by (refine s_m [] ?_; exact wpS_nil ⟨rfl, rfl⟩)) z_su ?_; clear z_ex)
      (refine WpM.ret ?_; refine ⟨.inr rfl, Upd.done ?_⟩; (simp (maxSteps := 2000000) (disch := omega) [go_sem, -List.map_map, resV, resVs, resV1,]))
      omega
    · have hl' : (16 : Int) < e.calls.length := by omega
      ((repeat refine WpM.seq ?_); have z_ex := (And.intro @h1 (And.intro @h2 (And.intro @hl' True.intro))); refine WpM.regPE [] [(4, _), (8, _), (9, _), (10, _), (27, _)] (by (refine s_f [(4, _)] ?_; refine s_l [(14, _)] ?_; refine s_q [(15, _)] ?_; refine s_m [(16, _)] ?_; refine s_wit ?_; intro z_g; (first | refine s_skip rfl z_g z_fp ?_ | (refine s_f [(4, _)] ?_ (hg := z_g))); clear z_g; refine s_wit ?_; intro z_g; (first | refine s_skip rfl z_g z_fp ?_ | (refine s_l [(18, _)] ?_ (hg := z_g))); clear z_g; refine s_wit ?_; intro z_g; (first | refine s_skip rfl z_g z_fp ?_ | (refine s_q [(19, _)] ?_ (hg := z_g))); clear z_g; refine s_m [(17, _), (20, _)] ?_; refine s_m [(21, _)] ?_; refine s_wit ?_; intro z_g; (first | refine s_skip rfl z_g z_fp ?_ | (refine s_f [(4, _)] ?_ (hg := z_g))); clear z_g; refine s_wit ?_; intro z_g; (first | refine s_skip rfl z_g z_fp ?_ | (refine s_l [(23, _)] ?_ (hg := z_g))); clear z_g; refine s_wit ?_; intro z_g; (first | refine s_skip rfl z_g z_fp ?_ | (refine s_q [(24, _)] ?_ (hg := z_g))); clear z_g; refine s_wit ?_; intro z_g; (first | refine s_skip rfl z_g z_fp ?_ | (refine s_q [(25, _)] ?_ (hg := z_g))); clear z_g; refine s_m [(22, _), (26, _)] ?_; exact wpS_nil ⟨rfl, rfl⟩)) z_su ?_; clear z_ex)
      ((repeat refine WpM.seq ?_); refine WpM.condT (by (simp (maxSteps := 2000000) (disch := omega) [go_sem, -List.map_map, h1, h2, hl'])) ?_)
      ((repeat refine WpM.seq ?_); have z_ex := True.intro; refine WpM.regPE [] [(2, _)] (by (refine s_m [] ?_; exact wpS_nil ⟨rfl, rfl⟩)) z_su ?_; clear z_ex)
      (refine WpM.ret ?_; refine ⟨.inr rfl, Upd.done ?_⟩; (simp (maxSteps := 2000000) (disch := omega) [go_sem, -List.map_map, resV, resVs, resV1,]))
      omega
theorem evOf_call {keys : List ByteArray} (hk : SlOk (fun s => s.size ≤ 140737488351232) 16 keys) {o : OpD} (ho : OpOk o) : CallOk (callOf' keys o) := by
  refine ⟨ho.1, ?_, ho.2.2.1, ho.2.2.2⟩
  show (keys.getD o.key.toNat ByteArray.empty).size ≤ _
  by_cases hl : o.key.toNat < keys.length
  · have := hk.2 keys[o.key.toNat] (List.getElem_mem _)
    simpa [hl] using this
  · simp [List.getD_eq_getElem?_getD, List.getElem?_eq_none (by omega : keys.length ≤ o.key.toNat)]
theorem evOf_ok {keys : List ByteArray} (hk : SlOk (fun s => s.size ≤ 140737488351232) 16 keys) {t : TxnD} (ht : TxnOk t) (hl : (evOf keys t).calls.length ≤ 16) : SlOk EventOk 40 [evOf keys t] := by
  refine ⟨by simp, fun e he => ?_⟩
  simp only [List.mem_singleton] at he
  subst he
  refine ⟨(show (Lit.int .i64 0).wf = true by decide), ht.2.1, by omega, fun c hc => ?_⟩
  simp only [evOf, List.mem_map] at hc
  obtain ⟨o, ho, rfl⟩ := hc
  exact evOf_call hk (ht.2.2.2.2.2 o (List.takeWhile_subset _ ho))
theorem check44_one {keys : List ByteArray} (hk : SlOk (fun s => s.size ≤ 140737488351232) 16 keys) {t : TxnD} (ht : TxnOk t) : PureC Try.prog 44 [.d (evs [evOf keys t])] (.d (.int .i64 (if eventOk (evOf keys t) then 0 else 1))) := by
  by_cases hl : (evOf keys t).calls.length ≤ 16
  · have := check44 [evOf keys t] (evOf_ok hk ht hl)
    rw [listOk_one] at this
    exact this
  · have : eventOk (evOf keys t) = false := by simp [eventOk, hl]
    rw [this]
    exact check44L _ (by omega)
set_option maxHeartbeats 8000000 in
theorem calls53 (h : HistD) (hh : HistOk h) (t : TxnD) (ht : TxnOk t) : PureC Try.prog 53 [.d (encHist h), .d (encTxn t)] (.tup [.d (encEvent (evOf h.keys t)), .d (.bool (evOkB h.keys t))]) := by
  refine PureC.of (n := 57) Try.func53 rfl rfl (by simp) (by simp only [argL, Nat.reduceAdd] <;> rfl) rfl ?_
  intro n0 H hH
  have hb1 := hh.1.1
  have hb2 := ht.2.2.2.2.1
  ((repeat refine WpM.seq ?_); have z_ex := True.intro; refine WpM.regPE [] [(2, _), (3, _), (4, _)] (by (refine s_b [(0, _)] ?_; refine s_b [(1, _)] ?_; refine s_a [] ?_; refine s_m [] ?_; exact wpS_nil ⟨rfl, rfl⟩)) z_su ?_; clear z_ex)
  ((repeat refine WpM.seq ?_); have z_ex := (And.intro @encTxn.eq_1 True.intro); refine WpM.regPE [] [(2, _), (3, _), (4, _), (6, _)] (by (refine s_f [(3, _)] ?_; refine s_l [(9, _)] ?_; refine s_g [(10, _)] ?_; refine s_a [] ?_; refine s_s [(6, _), (11, _)] ?_; exact wpS_nil ⟨rfl, rfl⟩)) z_su ?_; clear z_ex)
  refine Upd.wp (Upd.ghostIn (n0 + 7) 2 5 (cs := [.d (.int .i64 0), .d (.int .i64 t.status), .nil]) (by (simp (maxSteps := 2000000) (disch := omega) [go_sem, -List.map_map])) (.inl (by rfl)) (Upd.done ?_))
  refine WpM.less (St.Le.refl _) (frLe_frOf (l := [(2, .ptr n0 0), (3, .ptr (n0 + 1) 0), (4, .ptr (n0 + 2) 0), (6, .ptr (n0 + 7) 0)]) (by (simp (maxSteps := 2000000) (disch := omega) [go_sem, -List.map_map]))) ?_
  ((repeat refine WpM.seq ?_); have z_ex := (And.intro @encTxn.eq_1 True.intro); refine WpM.regPE [] [(2, _), (4, _), (6, _), (13, _), (14, _), (15, _)] (by (refine s_f [(3, _)] ?_; refine s_l [(12, _)] ?_; refine s_q [(13, _)] ?_; refine s_m [] ?_; exact wpS_nil ⟨rfl, rfl⟩)) z_su ?_; clear z_ex)
  ((repeat refine WpM.seq ?_); refine WpM.block ?_)
  refine WpM.loop (fun (j : Nat) fr S => j ≤ t.ops.length ∧ (∀ i (h' : i < t.ops.length), i < j → okKey h.keys.length t.ops[i] = true) ∧ ∃ nx nr ys, n0 + 8 ≤ nr ∧ nr < nx ∧ ys = ((t.ops.take j).map fun o => V.d (encCall (callOf' h.keys o))) ∧ fr = frOf [(2, .ptr n0 0), (4, .ptr (n0 + 2) 0), (6, .ptr (n0 + 7) 0), (13, .d (.sl (t.ops.map encOp))), (14, .d (.int .i64 t.ops.length)), (15, .d (.int .i64 j))] ∧ S = ⟨nx, [(n0, some (.box [.d (strs h.keys), .d (.sl (h.txns.map encTxn))])), (n0 + 2, some (.box [.d (.int .i64 0), .d (.int .i64 0), .nil])), (n0 + 7, some (.box [.d (.int .i64 0), .d (.int .i64 t.status), .ms nr 5 0 ys.length])), (nr, some (.row 5 ys))], H⟩) (fun j => t.ops.length - j) 0 (le_cut hH (by (simp (maxSteps := 2000000) (disch := omega) [go_sem, -List.map_map])) (Nat.le_refl _) (by (simp (maxSteps := 2000000) (disch := omega) [go_sem, -List.map_map, encHist, strs]))) (frLe_frOf (by (simp (maxSteps := 2000000) (disch := omega) [go_sem, -List.map_map]))) ⟨by omega, by simp, n0 + 14, n0 + 9, [], by omega, by omega, by simp, rfl, rfl⟩ ?_
  rintro j fr S' ⟨hj, hall, nx, nr, ys, hnr, hnx, hys, rfl, rfl⟩
  have hyl : ys.length = j := by rw [hys]; simp; omega
  ((repeat refine WpM.seq ?_); have z_ex := True.intro; refine WpM.regPE [] [(2, _), (4, _), (6, _), (13, _), (14, _), (15, _), (16, _)] (by (refine s_q [(14, _), (15, _)] ?_; exact wpS_nil ⟨rfl, rfl⟩)) z_su ?_; clear z_ex)
  by_cases hlt : j < t.ops.length
  · ((repeat refine WpM.seq ?_); refine WpM.condT (by (simp (maxSteps := 2000000) (disch := omega) [go_sem, -List.map_map, hlt])) ?_)
    refine WpM.skip ?_
    ((repeat refine WpM.seq ?_); refine WpM.block ?_)
    obtain ⟨o, ho⟩ : ∃ o, o = t.ops[j] := ⟨_, rfl⟩
    have hget : (t.ops.map encOp)[j]? = some (encOp o) := by simp [hlt, ho]
    obtain ⟨ok1, ok2, ok3, ok4⟩ := ht.2.2.2.2.2 o (ho ▸ List.getElem_mem _)
    have bad : okKey h.keys.length o = false → ys.length = j → (t.ops.takeWhile (okKey h.keys.length) = t.ops.take j ∧ evOkB h.keys t = false) := fun hb _ => by
      obtain ⟨h1, h2⟩ := takeWhile_bad _ t.ops j hlt hall (ho ▸ hb)
      exact ⟨h1, by simp [evOkB, h2]⟩
    ((repeat refine WpM.seq ?_); have z_ex := (And.intro @hget (And.intro @encOp.eq_1 True.intro)); refine WpM.regPE [] [(2, _), (4, _), (6, _), (8, _), (13, _), (14, _), (15, _)] (by (refine s_q [(13, _), (15, _)] ?_; refine s_l [(17, _)] ?_; refine s_a [] ?_; refine s_s [(8, _), (18, _)] ?_; exact wpS_nil ⟨rfl, rfl⟩)) z_su ?_; clear z_ex)
    by_cases hk : okKey h.keys.length o = true
    · obtain ⟨hk1, hk2⟩ : 0 ≤ o.key ∧ o.key < h.keys.length := by simpa [okKey] using hk
      obtain ⟨kn, hkn⟩ : ∃ kn : Nat, o.key = kn := ⟨o.key.toNat, by omega⟩
      have hkl : kn < h.keys.length := by omega
      have hkx : h.keys[kn]? = some (h.keys.getD kn ByteArray.empty) := by simp [hkl]
      have hcall : callOf' h.keys o = ⟨o.kind, h.keys.getD kn ByteArray.empty, o.arg, o.got, o.vals⟩ := by simp [callOf', hkn]
      obtain ⟨key, hkey⟩ : ∃ key, key = h.keys.getD kn ByteArray.empty := ⟨_, rfl⟩
      have hkg : (h.keys.map D.str)[kn]? = some (.str key) := by rw [List.getElem?_map, hkx, hkey]; rfl
      rw [← hkey] at hcall
      have hn1 : ¬ ((kn : Int) < 0) := by omega
      have hn2 : ¬ ((h.keys.length : Int) ≤ kn) := by omega
      ((repeat refine WpM.seq ?_); have z_ex := (And.intro @hkn (And.intro @hn1 (And.intro @hn2 (And.intro @strs.eq_1 (And.intro @hkl True.intro))))); refine WpM.regPE [] [(2, _), (4, _), (6, _), (8, _), (13, _), (14, _), (15, _), (29, _)] (by (refine s_f [(8, _)] ?_; refine s_l [(19, _)] ?_; refine s_q [(20, _)] ?_; refine s_m [(21, _)] ?_; refine s_wit ?_; intro z_g; (first | refine s_skip rfl z_g z_fp ?_ | (refine s_f [(8, _)] ?_ (hg := z_g))); clear z_g; refine s_wit ?_; intro z_g; (first | refine s_skip rfl z_g z_fp ?_ | (refine s_l [(23, _)] ?_ (hg := z_g))); clear z_g; refine s_wit ?_; intro z_g; (first | refine s_skip rfl z_g z_fp ?_ | (refine s_f [(2, _)] ?_ (hg := z_g))); clear z_g; refine s_wit ?_; intro z_g; (first | refine s_skip rfl z_g z_fp ?_ | (refine s_l [(25, _)] ?_ (hg := z_g))); clear z_g; refine s_wit ?_; intro z_g; (first | refine s_skip rfl z_g z_fp ?_ | (refine s_q [(26, _)] ?_ (hg := z_g))); clear z_g; refine s_wit ?_; intro z_g; (first | refine s_skip rfl z_g z_fp ?_ | (refine s_q [(24, _), (27, _)] ?_ (hg := z_g))); clear z_g; refine s_m [(22, _), (28, _)] ?_; exact wpS_nil ⟨rfl, rfl⟩)) z_su ?_; clear z_ex)
      ((repeat refine WpM.seq ?_); refine WpM.condF (by (simp (maxSteps := 2000000) (disch := omega) [go_sem, -List.map_map, hn1, hn2])) ?_)
      refine WpM.skip ?_
      have hys' : ys ++ [V.d (encCall (callOf' h.keys o))] = (t.ops.take (j + 1)).map (fun o => V.d (encCall (callOf' h.keys o))) := by rw [hys, List.take_succ_eq_append_getElem hlt, ← ho]; simp
      rw [hcall] at hys'
      have hall' : ∀ i (h' : i < t.ops.length), i < j + 1 → okKey h.keys.length t.ops[i] = true := fun i h' hi => by
        rcases Nat.lt_or_ge i j with h2 | h2
        · exact hall i h' h2
        · obtain rfl : i = j := by omega
          rw [← ho]; exact hk
      ((repeat refine WpM.seq ?_); have z_ex := (And.intro @hkn (And.intro @hn1 (And.intro @hn2 (And.intro @strs.eq_1 (And.intro @hkl (And.intro @hkg True.intro)))))); refine WpM.drwPE [] [(2, _), (4, _), (6, _), (13, _), (14, _), (15, _)] mixed (by kernel_rfl) (by kernel_rfl) [(1, 17)] (by kernel_rfl) (by (refine d_f [(6, _)] ?_; refine d_l [(31, _)] ?_; refine d_f [(8, _)] ?_; refine d_l [(33, _)] ?_; refine d_f [(2, _)] ?_; refine d_l [(35, _)] ?_; refine d_f [(8, _)] ?_; refine d_l [(37, _)] ?_; refine d_q [(36, _), (38, _)] ?_; refine d_l [(39, _)] ?_; refine d_f [(8, _)] ?_; refine d_l [(41, _)] ?_; refine d_f [(8, _)] ?_; refine d_l [(43, _)] ?_; refine d_f [(8, _)] ?_; refine d_l [(45, _)] ?_; refine d_g [(34, _), (40, _), (42, _), (44, _), (46, _)] ?_; refine d_q [(47, _)] ?_; refine d_q [(32, _), (48, _)] ?_; refine d_f [(6, _)] ?_; refine d_s [(49, _), (50, _)] ?_; exact d_end z_mt z_sn)) z_su ?_; clear z_ex)
      ((repeat refine WpM.seq ?_); have z_ex := (And.intro @wrap_id True.intro); refine WpM.regPE [] [(2, _), (4, _), (6, _), (13, _), (14, _), (15, _)] (by (refine s_q [(15, _)] ?_; refine s_m [(51, _)] ?_; exact wpS_nil ⟨rfl, rfl⟩)) z_su ?_; clear z_ex)
      exact round_end (x' := j + 1) (le_cut (l' := [(n0, some (.box [.d (strs h.keys), .d (.sl (h.txns.map encTxn))])), (n0 + 2, some (.box [.d (.int .i64 0), .d (.int .i64 0), .nil])), (n0 + 7, some (.box [.d (.int .i64 0), .d (.int .i64 t.status), .ms (nx + 34) 5 0 (ys.length + 1)])), (nx + 34, some (.row 5 (ys ++ [V.d (encCall ⟨o.kind, key, o.arg, o.got, o.vals⟩)])))]) hH (by (simp (maxSteps := 2000000) (disch := omega) [go_sem, -List.map_map]); omega) (Nat.le_refl _) (by (simp (maxSteps := 2000000) (disch := omega) [go_sem, -List.map_map, encCall]))) (frLe_frOf (by (simp (maxSteps := 2000000) (disch := omega) [go_sem, -List.map_map, wrap_id]))) ⟨by omega, hall', nx + 39, nx + 34, _, by omega, by omega, hys', rfl, by (simp (maxSteps := 2000000) (disch := omega) [go_sem, -List.map_map])⟩ (by omega)
    · have hk' : okKey h.keys.length o = false := by simpa using hk
      obtain ⟨hb1, hb2⟩ := bad hk' hyl
      have hev : encEvent (evOf h.keys t) = .agg [.int .i64 0, .int .i64 t.status, .sl ((t.ops.take j).map fun o => encCall (callOf' h.keys o))] := by simp [encEvent, evOf, hb1, List.map_map, Function.comp_def]
      rw [hev, hb2]
      refine Upd.wp (Upd.freezeIn (n0 + 7) 2 (cs := [.d (.int .i64 0), .d (.int .i64 t.status), .ms nr 5 0 ys.length]) (xs := ys) ((t.ops.take j).map fun o => encCall (callOf' h.keys o)) (by (simp (maxSteps := 2000000) (disch := omega) [go_sem, -List.map_map])) (by rfl) (by (simp (maxSteps := 2000000) (disch := omega) [go_sem, -List.map_map])) (by rw [List.drop_zero, List.take_length, hys, List.map_map]; rfl) (by simp [hys]) (Upd.done ?_))
      refine WpM.less (le_cut (n' := nx + 6) (l' := [(n0, some (.box [.d (strs h.keys), .d (.sl (h.txns.map encTxn))])), (n0 + 2, some (.box [.d (.int .i64 0), .d (.int .i64 0), .nil])), (n0 + 7, some (.box [.d (.int .i64 0), .d (.int .i64 t.status), .d (.sl ((t.ops.take j).map fun o => encCall (callOf' h.keys o)))])), (nx + 3, some (.box [.d (.int .i64 o.kind), .d (.int .i64 o.key), .d (.int .i64 o.arg), .d (.bool o.got), .d (.sl (o.vals.map (D.int .i64)))]))]) hH (by (simp (maxSteps := 2000000) (disch := omega) [go_sem, -List.map_map]); omega) (by (simp (maxSteps := 2000000) (disch := omega) [go_sem, -List.map_map])) (by (simp (maxSteps := 2000000) (disch := omega) [go_sem, -List.map_map]))) (frLe_frOf (l := [(2, .ptr n0 0), (4, .ptr (n0 + 2) 0), (6, .ptr (n0 + 7) 0), (8, .ptr (nx + 3) 0)]) (by (simp (maxSteps := 2000000) (disch := omega) [go_sem, -List.map_map]))) ?_
      have hcase : o.key < 0 ∨ ¬ o.key < 0 ∧ (h.keys.length : Int) ≤ o.key := by
        have : ¬ (0 ≤ o.key ∧ o.key < h.keys.length) := by simpa [okKey] using hk'
        omega
      rcases hcase with hc | ⟨hc1, hc2⟩
      · ((repeat refine WpM.seq ?_); have z_ex := (And.intro @hc (And.intro @strs.eq_1 True.intro)); refine WpM.regPE [] [(2, _), (4, _), (6, _), (8, _), (13, _), (14, _), (15, _), (29, _)] (by (refine s_f [(8, _)] ?_; refine s_l [(19, _)] ?_; refine s_q [(20, _)] ?_; refine s_m [(21, _)] ?_; refine s_wit ?_; intro z_g; (first | refine s_skip rfl z_g z_fp ?_ | (refine s_f [(8, _)] ?_ (hg := z_g))); clear z_g; refine s_wit ?_; intro z_g; (first | refine s_skip rfl z_g z_fp ?_ | (refine s_l [(23, _)] ?_ (hg := z_g))); clear z_g; refine s_wit ?_; intro z_g; (first | refine s_skip rfl z_g z_fp ?_ | (refine s_f [(2, _)] ?_ (hg := z_g))); clear z_g; refine s_wit ?_; intro z_g; (first | refine s_skip rfl z_g z_fp ?_ | (refine s_l [(25, _)] ?_ (hg := z_g))); clear z_g; refine s_wit ?_; intro z_g; (first | refine s_skip rfl z_g z_fp ?_ | (refine s_q [(26, _)] ?_ (hg := z_g))); clear z_g; refine s_wit ?_; intro z_g; (first | refine s_skip rfl z_g z_fp ?_ | (refine s_q [(24, _), (27, _)] ?_ (hg := z_g))); clear z_g; refine s_m [(22, _), (28, _)] ?_; exact wpS_nil ⟨rfl, rfl⟩)) z_su ?_; clear z_ex)
        ((repeat refine WpM.seq ?_); refine WpM.condT (by (simp (maxSteps := 2000000) (disch := omega) [go_sem, -List.map_map, hc])) ?_)
        ((repeat refine WpM.seq ?_); have z_ex := True.intro; refine WpM.regPE [] [(4, _), (5, _)] (by (refine s_l [(6, _)] ?_; refine s_s [(4, _), (30, _)] ?_; refine s_m [] ?_; exact wpS_nil ⟨rfl, rfl⟩)) z_su ?_; clear z_ex)
        (refine WpM.ret ?_; refine ⟨.inr rfl, Upd.done ?_⟩; (simp (maxSteps := 2000000) (disch := omega) [go_sem, -List.map_map, resV, resVs, resV1,]))
        omega
      · ((repeat refine WpM.seq ?_); have z_ex := (And.intro @hc1 (And.intro @hc2 (And.intro @strs.eq_1 True.intro))); refine WpM.regPE [] [(2, _), (4, _), (6, _), (8, _), (13, _), (14, _), (15, _), (29, _)] (by (refine s_f [(8, _)] ?_; refine s_l [(19, _)] ?_; refine s_q [(20, _)] ?_; refine s_m [(21, _)] ?_; refine s_wit ?_; intro z_g; (first | refine s_skip rfl z_g z_fp ?_ | (refine s_f [(8, _)] ?_ (hg := z_g))); clear z_g; refine s_wit ?_; intro z_g; (first | refine s_skip rfl z_g z_fp ?_ | (refine s_l [(23, _)] ?_ (hg := z_g))); clear z_g; refine s_wit ?_; intro z_g; (first | refine s_skip rfl z_g z_fp ?_ | (refine s_f [(2, _)] ?_ (hg := z_g))); clear z_g; refine s_wit ?_; intro z_g; (first | refine s_skip rfl z_g z_fp ?_ | (refine s_l [(25, _)] ?_ (hg := z_g))); clear z_g; refine s_wit ?_; intro z_g; (first | refine s_skip rfl z_g z_fp ?_ | (refine s_q [(26, _)] ?_ (hg := z_g))); clear z_g; refine s_wit ?_; intro z_g; (first | refine s_skip rfl z_g z_fp ?_ | (refine s_q [(24, _), (27, _)] ?_ (hg := z_g))); clear z_g; refine s_m [(22, _), (28, _)] ?_; exact wpS_nil ⟨rfl, rfl⟩)) z_su ?_; clear z_ex)
        ((repeat refine WpM.seq ?_); refine WpM.condT (by (simp (maxSteps := 2000000) (disch := omega) [go_sem, -List.map_map, hc1, hc2])) ?_)
        ((repeat refine WpM.seq ?_); have z_ex := True.intro; refine WpM.regPE [] [(4, _), (5, _)] (by (refine s_l [(6, _)] ?_; refine s_s [(4, _), (30, _)] ?_; refine s_m [] ?_; exact wpS_nil ⟨rfl, rfl⟩)) z_su ?_; clear z_ex)
        (refine WpM.ret ?_; refine ⟨.inr rfl, Upd.done ?_⟩; (simp (maxSteps := 2000000) (disch := omega) [go_sem, -List.map_map, resV, resVs, resV1,]))
        omega
  · ((repeat refine WpM.seq ?_); refine WpM.condF (by (simp (maxSteps := 2000000) (disch := omega) [go_sem, -List.map_map, hlt])) ?_)
    (refine WpM.exit ?_; (repeat (with_reducible (first | refine thenM_exit ?_ | refine blockM_eq ?_ | refine blockM_ne (by decide) ?_))))
    obtain rfl : j = t.ops.length := by omega
    rw [List.take_length] at hys
    obtain ⟨g1, g2⟩ := takeWhile_good (okKey h.keys.length) t.ops (fun i hi => hall i hi hi)
    have hev : encEvent (evOf h.keys t) = .agg [.int .i64 0, .int .i64 t.status, .sl (t.ops.map fun o => encCall (callOf' h.keys o))] := by simp [encEvent, evOf, g1, List.map_map, Function.comp_def]
    have hevok : evOkB h.keys t = eventOk (evOf h.keys t) := by simp [evOkB, g2]
    have hck := check44_one hh.1 ht
    rw [← hevok] at hck
    rw [show evs [evOf h.keys t] = .sl [encEvent (evOf h.keys t)] from rfl, hev] at hck
    rw [hev]
    refine Upd.wp (Upd.freezeIn (n0 + 7) 2 (cs := [.d (.int .i64 0), .d (.int .i64 t.status), .ms nr 5 0 ys.length]) (xs := ys) (t.ops.map fun o => encCall (callOf' h.keys o)) (by (simp (maxSteps := 2000000) (disch := omega) [go_sem, -List.map_map])) (by rfl) (by (simp (maxSteps := 2000000) (disch := omega) [go_sem, -List.map_map])) (by rw [List.drop_zero, List.take_length, hys, List.map_map]; rfl) (by simp [hys]) (Upd.done ?_))
    refine WpM.less (le_cut (n' := nx + 1) (l' := [(n0, some (.box [.d (strs h.keys), .d (.sl (h.txns.map encTxn))])), (n0 + 2, some (.box [.d (.int .i64 0), .d (.int .i64 0), .nil])), (n0 + 7, some (.box [.d (.int .i64 0), .d (.int .i64 t.status), .d (.sl (t.ops.map fun o => encCall (callOf' h.keys o)))]))]) hH (by (simp (maxSteps := 2000000) (disch := omega) [go_sem, -List.map_map]); omega) (by (simp (maxSteps := 2000000) (disch := omega) [go_sem, -List.map_map])) (by (simp (maxSteps := 2000000) (disch := omega) [go_sem, -List.map_map]))) (frLe_frOf (l := [(4, .ptr (n0 + 2) 0), (6, .ptr (n0 + 7) 0)]) (by (simp (maxSteps := 2000000) (disch := omega) [go_sem, -List.map_map]))) ?_
    cases hb : evOkB h.keys t with
    | true =>
      rw [hb] at hck
      ((repeat refine WpM.seq ?_); have z_ex := True.intro; refine WpM.drwPE [] [(4, _), (5, _)] mixed (by kernel_rfl) (by kernel_rfl) [(0, 2), (0, 3)] (by kernel_rfl) (by (refine d_l [(6, _)] ?_; refine d_l [(6, _)] ?_; refine d_q [(53, _)] ?_; refine d_pure (callOf_eq rfl rfl rfl (mlk_tmp z_lk mlk_nil)) (hck) rfl rfl z_ip rfl z_fp ?_; refine d_q [(55, _)] ?_; refine d_s [(4, _), (52, _)] ?_; refine d_m [(56, _)] ?_; exact d_end z_mt z_sn)) z_su ?_; clear z_ex)
      (refine WpM.ret ?_; refine ⟨.inr rfl, Upd.done ?_⟩; (simp (maxSteps := 2000000) (disch := omega) [go_sem, -List.map_map, resV, resVs, resV1,]))
    | false =>
      rw [hb] at hck
      ((repeat refine WpM.seq ?_); have z_ex := True.intro; refine WpM.drwPE [] [(4, _), (5, _)] mixed (by kernel_rfl) (by kernel_rfl) [(0, 2), (0, 3)] (by kernel_rfl) (by (refine d_l [(6, _)] ?_; refine d_l [(6, _)] ?_; refine d_q [(53, _)] ?_; refine d_pure (callOf_eq rfl rfl rfl (mlk_tmp z_lk mlk_nil)) (hck) rfl rfl z_ip rfl z_fp ?_; refine d_q [(55, _)] ?_; refine d_s [(4, _), (52, _)] ?_; refine d_m [(56, _)] ?_; exact d_end z_mt z_sn)) z_su ?_; clear z_ex)
      (refine WpM.ret ?_; refine ⟨.inr rfl, Upd.done ?_⟩; (simp (maxSteps := 2000000) (disch := omega) [go_sem, -List.map_map, resV, resVs, resV1,]))
end Go.Proofs.Ytjjmedgibcffhaa
