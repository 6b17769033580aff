/- Both placed, and names. -/
import Derived.Test.YtjjmedgibcffhaaROp2
import Derived.Test.YtjjmedgibcffhaaRIx2
namespace Go.Proofs.Ytjjmedgibcffhaa
open Go.RowKit M
set_option linter.unusedSimpArgs false
set_option linter.unusedVariables false
/-- Is the process of t still busy with o when t begins? -/
def busyB (t o : TxnD) : Bool := decide (o.proc = t.proc) && (decide (o.to = -1) || decide (t.frm ≤ o.to))
open Classical in
noncomputable def placedB (ahead : List TxnD) (t : TxnD) : Bool :=
  decide (1 ≤ t.status ∧ t.status ≤ 3 ∧ 0 ≤ t.frm ∧ (t.to = -1 → t.status = 3) ∧ (t.to ≠ -1 → t.frm < t.to) ∧ (∀ o, ahead.getLast? = some o → o.frm < t.frm)) && !ahead.any (busyB t)
set_option maxHeartbeats 8000000 in
theorem busy66 (t o : TxnD) (bx : Nat) (S : St) (hS : S.get bx = some (.box [.d (.int .i64 t.proc), .d (.int .i64 t.status), .d (.int .i64 t.frm), .d (.int .i64 t.to), .d (.sl (t.ops.map encOp))])) : PureS Try.prog 66 [.d (encTxn o), .ptr bx 0] (.d (.bool (busyB t o))) S := by
  refine PureS.of (n := 21) Try.func66 rfl rfl (by simp) (by simp only [argL, Nat.reduceAdd] <;> rfl) rfl ?_
  intro n0 H hH0 hH
  rw [hH0] at hS
  have hbx := hH _ _ hS
  ((repeat refine WpM.seq ?_); have z_ex := (And.intro @encTxn.eq_1 True.intro); refine WpM.regPE [] [(1, _), (2, _)] (by (refine s_b [(0, _)] ?_; refine s_m [] ?_; exact wpS_nil ⟨rfl, rfl⟩)) z_su ?_; clear z_ex)
  by_cases h1 : o.proc = t.proc
  · by_cases h2 : o.to = -1
    · have hr : busyB t o = true := by simp [busyB, h1, h2]
      ((repeat refine WpM.seq ?_); have z_ex := (And.intro @hS (And.intro @h1 (And.intro @h2 True.intro))); refine WpM.regPE [] [(3, _)] (by (refine s_f [(2, _)] ?_; refine s_l [(4, _)] ?_; refine s_f [(1, _)] ?_; refine s_l [(6, _)] ?_; refine s_q [(5, _), (7, _)] ?_; refine s_m [(8, _)] ?_; refine s_wit ?_; intro z_g; (first | refine s_skip rfl z_g z_fp ?_ | (refine s_f [(2, _)] ?_ (hg := z_g))); clear z_g; refine s_wit ?_; intro z_g; (first | refine s_skip rfl z_g z_fp ?_ | (refine s_l [(10, _)] ?_ (hg := z_g))); clear z_g; refine s_wit ?_; intro z_g; (first | refine s_skip rfl z_g z_fp ?_ | (refine s_q [(11, _)] ?_ (hg := z_g))); clear z_g; refine s_wit ?_; intro z_g; (first | refine s_skip rfl z_g z_fp ?_ | (refine s_m [(12, _)] ?_ (hg := z_g))); clear z_g; refine s_wit ?_; intro z_g; (first | refine s_skip rfl z_g z_fp ?_ | (refine s_f [(2, _)] ?_ (hg := z_g))); clear z_g; refine s_wit ?_; intro z_g; (first | refine s_skip rfl z_g z_fp ?_ | (refine s_l [(14, _)] ?_ (hg := z_g))); clear z_g; refine s_wit ?_; intro z_g; (first | refine s_skip rfl z_g z_fp ?_ | (refine s_f [(1, _)] ?_ (hg := z_g))); clear z_g; refine s_wit ?_; intro z_g; (first | refine s_skip rfl z_g z_fp ?_ | (refine s_l [(16, _)] ?_ (hg := z_g))); clear z_g; refine s_wit ?_; intro z_g; (first | refine s_skip rfl z_g z_fp ?_ | (refine s_q [(15, _), (17, _)] ?_ (hg := z_g))); clear z_g; refine s_wit ?_; intro z_g; (first | refine s_skip rfl z_g z_fp ?_ | (refine s_m [(13, _), (18, _)] ?_ (hg := z_g))); clear z_g; refine s_m [(9, _), (19, _)] ?_; refine s_m [(20, _)] ?_; exact wpS_nil ⟨rfl, rfl⟩)) z_su ?_; clear z_ex)
      (refine WpM.ret ?_; refine ⟨.inr rfl, Upd.done ?_⟩; (simp (maxSteps := 2000000) (disch := omega) [go_sem, -List.map_map, resV, resVs, resV1, hr]))
    · by_cases h3 : t.frm ≤ o.to
      · have hr : busyB t o = true := by simp [busyB, h1, h3]
        ((repeat refine WpM.seq ?_); have z_ex := (And.intro @hS (And.intro @h1 (And.intro @h2 (And.intro @h3 True.intro)))); refine WpM.regPE [] [(3, _)] (by (refine s_f [(2, _)] ?_; refine s_l [(4, _)] ?_; refine s_f [(1, _)] ?_; refine s_l [(6, _)] ?_; refine s_q [(5, _), (7, _)] ?_; refine s_m [(8, _)] ?_; refine s_wit ?_; intro z_g; (first | refine s_skip rfl z_g z_fp ?_ | (refine s_f [(2, _)] ?_ (hg := z_g))); clear z_g; refine s_wit ?_; intro z_g; (first | refine s_skip rfl z_g z_fp ?_ | (refine s_l [(10, _)] ?_ (hg := z_g))); clear z_g; refine s_wit ?_; intro z_g; (first | refine s_skip rfl z_g z_fp ?_ | (refine s_q [(11, _)] ?_ (hg := z_g))); clear z_g; refine s_wit ?_; intro z_g; (first | refine s_skip rfl z_g z_fp ?_ | (refine s_m [(12, _)] ?_ (hg := z_g))); clear z_g; refine s_wit ?_; intro z_g; (first | refine s_skip rfl z_g z_fp ?_ | (refine s_f [(2, _)] ?_ (hg := z_g))); clear z_g; refine s_wit ?_; intro z_g; (first | refine s_skip rfl z_g z_fp ?_ | (refine s_l [(14, _)] ?_ (hg := z_g))); clear z_g; refine s_wit ?_; intro z_g; (first | refine s_skip rfl z_g z_fp ?_ | (refine s_f [(1, _)] ?_ (hg := z_g))); clear z_g; refine s_wit ?_; intro z_g; (first | refine s_skip rfl z_g z_fp ?_ | (refine s_l [(16, _)] ?_ (hg := z_g))); clear z_g; refine s_wit ?_; intro z_g; (first | refine s_skip rfl z_g z_fp ?_ | (refine s_q [(15, _), (17, _)] ?_ (hg := z_g))); clear z_g; refine s_wit ?_; intro z_g; (first | refine s_skip rfl z_g z_fp ?_ | (refine s_m [(13, _), (18, _)] ?_ (hg := z_g))); clear z_g; refine s_m [(9, _), (19, _)] ?_; refine s_m [(20, _)] ?_; exact wpS_nil ⟨rfl, rfl⟩)) z_su ?_; clear z_ex)
        (refine WpM.ret ?_; refine ⟨.inr rfl, Upd.done ?_⟩; (simp (maxSteps := 2000000) (disch := omega) [go_sem, -List.map_map, resV, resVs, resV1, hr]))
      · have hr : busyB t o = false := by simp [busyB, h2, h3]
        ((repeat refine WpM.seq ?_); have z_ex := (And.intro @hS (And.intro @h1 (And.intro @h2 (And.intro @h3 True.intro)))); refine WpM.regPE [] [(3, _)] (by (refine s_f [(2, _)] ?_; refine s_l [(4, _)] ?_; refine s_f [(1, _)] ?_; refine s_l [(6, _)] ?_; refine s_q [(5, _), (7, _)] ?_; refine s_m [(8, _)] ?_; refine s_wit ?_; intro z_g; (first | refine s_skip rfl z_g z_fp ?_ | (refine s_f [(2, _)] ?_ (hg := z_g))); clear z_g; refine s_wit ?_; intro z_g; (first | refine s_skip rfl z_g z_fp ?_ | (refine s_l [(10, _)] ?_ (hg := z_g))); clear z_g; refine s_wit ?_; intro z_g; (first | refine s_skip rfl z_g z_fp ?_ | (refine s_q [(11, _)] ?_ (hg := z_g))); clear z_g; refine s_wit ?_; intro z_g; (first | refine s_skip rfl z_g z_fp ?_ | (refine s_m [(12, _)] ?_ (hg := z_g))); clear z_g; refine s_wit ?_; intro z_g; (first | refine s_skip rfl z_g z_fp ?_ | (refine s_f [(2, _)] ?_ (hg := z_g))); clear z_g; refine s_wit ?_; intro z_g; (first | refine s_skip rfl z_g z_fp ?_ | (refine s_l [(14, _)] ?_ (hg := z_g))); clear z_g; refine s_wit ?_; intro z_g; (first | refine s_skip rfl z_g z_fp ?_ | (refine s_f [(1, _)] ?_ (hg := z_g))); clear z_g; refine s_wit ?_; intro z_g; (first | refine s_skip rfl z_g z_fp ?_ | (refine s_l [(16, _)] ?_ (hg := z_g))); clear z_g; refine s_wit ?_; intro z_g; (first | refine s_skip rfl z_g z_fp ?_ | (refine s_q [(15, _), (17, _)] ?_ (hg := z_g))); clear z_g; refine s_wit ?_; intro z_g; (first | refine s_skip rfl z_g z_fp ?_ | (refine s_m [(13, _), (18, _)] ?_ (hg := z_g))); clear z_g; refine s_m [(9, _), (19, _)] ?_; refine s_m [(20, _)] ?_; exact wpS_nil ⟨rfl, rfl⟩)) z_su ?_; clear z_ex)
        (refine WpM.ret ?_; refine ⟨.inr rfl, Upd.done ?_⟩; (simp (maxSteps := 2000000) (disch := omega) [go_sem, -List.map_map, resV, resVs, resV1, hr]))
  · have hr : busyB t o = false := by simp [busyB, h1]
    ((repeat refine WpM.seq ?_); have z_ex := (And.intro @hS (And.intro @h1 True.intro)); refine WpM.regPE [] [(3, _)] (by (refine s_f [(2, _)] ?_; refine s_l [(4, _)] ?_; refine s_f [(1, _)] ?_; refine s_l [(6, _)] ?_; refine s_q [(5, _), (7, _)] ?_; refine s_m [(8, _)] ?_; refine s_wit ?_; intro z_g; (first | refine s_skip rfl z_g z_fp ?_ | (refine s_f [(2, _)] ?_ (hg := z_g))); clear z_g; refine s_wit ?_; intro z_g; (first | refine s_skip rfl z_g z_fp ?_ | (refine s_l [(10, _)] ?_ (hg := z_g))); clear z_g; refine s_wit ?_; intro z_g; (first | refine s_skip rfl z_g z_fp ?_ | (refine s_q [(11, _)] ?_ (hg := z_g))); clear z_g; refine s_wit ?_; intro z_g; (first | refine s_skip rfl z_g z_fp ?_ | (refine s_m [(12, _)] ?_ (hg := z_g))); clear z_g; refine s_wit ?_; intro z_g; (first | refine s_skip rfl z_g z_fp ?_ | (refine s_f [(2, _)] ?_ (hg := z_g))); clear z_g; refine s_wit ?_; intro z_g; (first | refine s_skip rfl z_g z_fp ?_ | (refine s_l [(14, _)] ?_ (hg := z_g))); clear z_g; refine s_wit ?_; intro z_g; (first | refine s_skip rfl z_g z_fp ?_ | (refine s_f [(1, _)] ?_ (hg := z_g))); clear z_g; refine s_wit ?_; intro z_g; (first | refine s_skip rfl z_g z_fp ?_ | (refine s_l [(16, _)] ?_ (hg := z_g))); clear z_g; refine s_wit ?_; intro z_g; (first | refine s_skip rfl z_g z_fp ?_ | (refine s_q [(15, _), (17, _)] ?_ (hg := z_g))); clear z_g; refine s_wit ?_; intro z_g; (first | refine s_skip rfl z_g z_fp ?_ | (refine s_m [(13, _), (18, _)] ?_ (hg := z_g))); clear z_g; refine s_m [(9, _), (19, _)] ?_; refine s_m [(20, _)] ?_; exact wpS_nil ⟨rfl, rfl⟩)) z_su ?_; clear z_ex)
    (refine WpM.ret ?_; refine ⟨.inr rfl, Upd.done ?_⟩; (simp (maxSteps := 2000000) (disch := omega) [go_sem, -List.map_map, resV, resVs, resV1, hr]))
theorem indexFunc71 (l : List TxnD) (p : TxnD → Bool) (f : FuncId) (cs : List V) (S : St) (hl : l.length ≤ 140737488351232) (hp : ∀ x ∈ l, ∀ S' : St, (∀ m k, S.get m = some k → S'.get m = some k) → PureS Try.prog f ([.d (encTxn x)] ++ cs) (.d (.bool (p x))) S') (hip : isPlain Try.prog f = true) :
    PureS Try.prog 71 [.d (.sl (l.map encTxn)), .fn f cs] (.d (.int .i64 (match l.findIdx? p with | some i => i | none => -1))) S := by
  refine PureS.of (n := 19) Try.func71 rfl rfl (by simp) (by simp only [argL, Nat.reduceAdd] <;> rfl) rfl ?_
  intro n0 H hH0 hH
  rw [hH0] at hp
  ((repeat refine WpM.seq ?_); have z_ex := True.intro; refine WpM.regPE [] [(0, _), (1, _)] (by (refine s_m [] ?_; exact wpS_nil ⟨rfl, rfl⟩)) z_su ?_; clear z_ex)
  ((repeat refine WpM.seq ?_); have z_ex := True.intro; refine WpM.regPE [] [(0, _), (1, _), (7, _), (8, _)] (by (refine s_m [(0, _)] ?_; refine s_q [(6, _)] ?_; refine s_m [] ?_; exact wpS_nil ⟨rfl, rfl⟩)) z_su ?_; clear z_ex)
  ((repeat refine WpM.seq ?_); refine WpM.block ?_)
  refine WpM.loop (fun (j : Nat) fr S => j ≤ l.length ∧ (∀ i (h : i < l.length), i < j → p l[i] = false) ∧ fr = frOf [(0, .d (.sl (l.map encTxn))), (1, .fn f cs), (7, .d (.int .i64 l.length)), (8, .d (.int .i64 j))] ∧ ∃ nx, S = ⟨nx, [], H⟩) (fun j => l.length - j) 0 (St.Le.refl _) (frLe_frOf (by (simp (maxSteps := 2000000) (disch := omega) [go_sem, -List.map_map]))) ⟨by omega, by simp, rfl, _, rfl⟩ ?_
  rintro j fr S' ⟨hj, hall, rfl, nx, rfl⟩
  ((repeat refine WpM.seq ?_); have z_ex := True.intro; refine WpM.regPE [] [(0, _), (1, _), (7, _), (8, _), (9, _)] (by (refine s_q [(7, _), (8, _)] ?_; exact wpS_nil ⟨rfl, rfl⟩)) z_su ?_; clear z_ex)
  by_cases hlt : j < l.length
  · ((repeat refine WpM.seq ?_); refine WpM.condT (by (simp (maxSteps := 2000000) (disch := omega) [go_sem, -List.map_map, hlt])) ?_)
    refine WpM.skip ?_
    ((repeat refine WpM.seq ?_); refine WpM.block ?_)
    have hget : (l.map encTxn)[j]? = some (encTxn l[j]) := by simp [hlt]
    have hcl : V.d (encTxn l[j]) = .d (.agg [.int .i64 l[j].proc, .int .i64 l[j].status, .int .i64 l[j].frm, .int .i64 l[j].to, .sl (l[j].ops.map encOp)]) := rfl
    ((repeat refine WpM.seq ?_); have z_ex := True.intro; refine WpM.regPE [] [(0, _), (1, _), (5, _), (7, _), (8, _)] (by (refine s_m [(8, _)] ?_; refine s_m [(10, _)] ?_; exact wpS_nil ⟨rfl, rfl⟩)) z_su ?_; clear z_ex)
    ((repeat refine WpM.seq ?_); have z_ex := (And.intro @hget (And.intro @hlt (And.intro @hip (And.intro @encTxn.eq_1 True.intro)))); refine WpM.regPE [] [(0, _), (1, _), (5, _), (7, _), (8, _), (16, _)] (by (refine s_m [(1, _)] ?_; refine s_m [(0, _)] ?_; refine s_m [(5, _)] ?_; refine s_q [(12, _), (13, _)] ?_; refine s_l [(14, _)] ?_; refine s_at (callOf_eq rfl rfl z_lk (mlk_tmp z_lk mlk_nil)) (hp l[j] (List.getElem_mem _) ⟨_, [], H⟩ (fun m k h => h)) rfl rfl z_ip z_fp ?_; exact wpS_nil ⟨rfl, rfl⟩)) z_su ?_; clear z_ex)
    cases hpj : p l[j] with
    | false =>
      ((repeat refine WpM.seq ?_); refine WpM.condF (by (simp (maxSteps := 2000000) (disch := omega) [go_sem, -List.map_map, hpj])) ?_)
      refine WpM.skip ?_
      ((repeat refine WpM.seq ?_); have z_ex := (And.intro @wrap_id True.intro); refine WpM.regPE [] [(0, _), (1, _), (7, _), (8, _)] (by (refine s_q [(8, _)] ?_; refine s_m [(18, _)] ?_; exact wpS_nil ⟨rfl, rfl⟩)) z_su ?_; clear z_ex)
      have hall' : ∀ i (h : i < l.length), i < j + 1 → p l[i] = false := fun i h hi => by
        rcases Nat.lt_or_ge i j with h' | h'
        · exact hall i h h'
        · obtain rfl : i = j := by omega
          exact hpj
      exact round_end (x' := j + 1) (St.Le.refl _) (frLe_frOf (by (simp (maxSteps := 2000000) (disch := omega) [go_sem, -List.map_map, wrap_id]))) ⟨by omega, hall', rfl, _, rfl⟩ (by omega)
    | true =>
      ((repeat refine WpM.seq ?_); refine WpM.condT (by (simp (maxSteps := 2000000) (disch := omega) [go_sem, -List.map_map, hpj])) ?_)
      have hfi : l.findIdx? p = some j := by
        rw [List.findIdx?_eq_some_iff_getElem]
        exact ⟨hlt, hpj, fun i hi => by simp [hall i (by omega) hi]⟩
      ((repeat refine WpM.seq ?_); have z_ex := True.intro; refine WpM.regPE [] [(4, _)] (by (refine s_m [(5, _)] ?_; refine s_m [(17, _)] ?_; exact wpS_nil ⟨rfl, rfl⟩)) z_su ?_; clear z_ex)
      (refine WpM.ret ?_; refine ⟨.inr rfl, Upd.done ?_⟩; (simp (maxSteps := 2000000) (disch := omega) [go_sem, -List.map_map, resV, resVs, resV1, hfi]))
  · ((repeat refine WpM.seq ?_); refine WpM.condF (by (simp (maxSteps := 2000000) (disch := omega) [go_sem, -List.map_map, hlt])) ?_)
    (refine WpM.exit ?_; (repeat (with_reducible (first | refine thenM_exit ?_ | refine blockM_eq ?_ | refine blockM_ne (by decide) ?_))))
    have hfi : l.findIdx? p = none := by
      rw [List.findIdx?_eq_none_iff]
      intro x hx
      obtain ⟨i, hi, rfl⟩ := List.getElem_of_mem hx
      exact hall i hi (by omega)
    ((repeat refine WpM.seq ?_); have z_ex := True.intro; refine WpM.regPE [] [(4, _)] (by (refine s_m [] ?_; exact wpS_nil ⟨rfl, rfl⟩)) z_su ?_; clear z_ex)
    (refine WpM.ret ?_; refine ⟨.inr rfl, Upd.done ?_⟩; (simp (maxSteps := 2000000) (disch := omega) [go_sem, -List.map_map, resV, resVs, resV1, hfi]))
theorem containsFunc65 (l : List TxnD) (p : TxnD → Bool) (f : FuncId) (cs : List V) (S : St) (hl : l.length ≤ 140737488351232) (hp : ∀ x ∈ l, ∀ S' : St, (∀ m k, S.get m = some k → S'.get m = some k) → PureS Try.prog f ([.d (encTxn x)] ++ cs) (.d (.bool (p x))) S') (hip : isPlain Try.prog f = true) :
    PureS Try.prog 65 [.d (.sl (l.map encTxn)), .fn f cs] (.d (.bool (l.any p))) S := by
  refine PureS.of (n := 9) Try.func65 rfl rfl (by simp) (by simp only [argL, Nat.reduceAdd] <;> rfl) rfl ?_
  intro n0 H hH0 hH
  rw [hH0] at hp
  ((repeat refine WpM.seq ?_); have z_ex := True.intro; refine WpM.regPE [] [(0, _), (1, _)] (by (refine s_m [] ?_; exact wpS_nil ⟨rfl, rfl⟩)) z_su ?_; clear z_ex)
  cases hf : l.findIdx? p with
  | none =>
    have ha : l.any p = false := by
      rw [List.findIdx?_eq_none_iff] at hf
      rw [List.any_eq_false]
      intro x hx
      simp [hf x hx]
    ((repeat refine WpM.seq ?_); have z_ex := (And.intro @hf True.intro); refine WpM.regPE [] [(4, _)] (by (refine s_m [(0, _)] ?_; refine s_m [(1, _)] ?_; refine s_at (callOf_eq rfl rfl rfl (mlk_tmp z_lk (mlk_tmp z_lk mlk_nil))) (indexFunc71 l p f cs ⟨_, [], H⟩ hl hp hip) rfl rfl z_ip z_fp ?_; refine s_q [(7, _)] ?_; refine s_m [(8, _)] ?_; exact wpS_nil ⟨rfl, rfl⟩)) z_su ?_; clear z_ex)
    (refine WpM.ret ?_; refine ⟨.inr rfl, Upd.done ?_⟩; (simp (maxSteps := 2000000) (disch := omega) [go_sem, -List.map_map, resV, resVs, resV1, ha]))
  | some i =>
    have ha : l.any p = true := by
      rw [List.findIdx?_eq_some_iff_getElem] at hf
      rw [List.any_eq_true]
      exact ⟨l[i]'hf.1, List.getElem_mem _, hf.2.1⟩
    ((repeat refine WpM.seq ?_); have z_ex := (And.intro @hf True.intro); refine WpM.regPE [] [(4, _)] (by (refine s_m [(0, _)] ?_; refine s_m [(1, _)] ?_; refine s_at (callOf_eq rfl rfl rfl (mlk_tmp z_lk (mlk_tmp z_lk mlk_nil))) (indexFunc71 l p f cs ⟨_, [], H⟩ hl hp hip) rfl rfl z_ip z_fp ?_; refine s_q [(7, _)] ?_; refine s_m [(8, _)] ?_; exact wpS_nil ⟨rfl, rfl⟩)) z_su ?_; clear z_ex)
    (refine WpM.ret ?_; refine ⟨.inr rfl, Upd.done ?_⟩; (simp (maxSteps := 2000000) (disch := omega) [go_sem, -List.map_map, resV, resVs, resV1, ha]))
end Go.Proofs.Ytjjmedgibcffhaa
