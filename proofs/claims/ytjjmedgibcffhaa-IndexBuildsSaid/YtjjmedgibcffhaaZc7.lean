/- Part 7 of the texts that stand behind this law. -/
import Derived.Test.YtjjmedgibcffhaaZc6
/- index.placed. -/
namespace Go.Proofs.Ytjjmedgibcffhaa
open Go.RowKit M
set_option linter.unusedSimpArgs false
set_option linter.unusedVariables false
/-- Status and places go together. -/
def statOk (t : TxnD) : Prop := 1 ≤ t.status ∧ t.status ≤ 3 ∧ (0 ≤ t.frm → (t.to = -1 → t.status = 3) ∧ (t.to ≠ -1 → t.frm < t.to))
theorem placedB_no {ahead : List TxnD} {t : TxnD} (h : ¬ statOk t) : placedB ahead t = false := by
  unfold placedB
  rw [Bool.and_eq_false_iff]
  left
  rw [decide_eq_false_iff_not]
  rintro ⟨a, b, c, d, e, _⟩
  exact h ⟨a, b, fun _ => ⟨d, e⟩⟩
theorem placedB_neg {ahead : List TxnD} {t : TxnD} (h : t.frm < 0) : placedB ahead t = false := by
  unfold placedB
  rw [Bool.and_eq_false_iff]
  left
  rw [decide_eq_false_iff_not]
  rintro ⟨a, b, c, d, e, _⟩
  omega
theorem placedB_last {ahead : List TxnD} {t o : TxnD} (h : ahead.getLast? = some o) (hl : t.frm ≤ o.frm) : placedB ahead t = false := by
  unfold placedB
  rw [Bool.and_eq_false_iff]
  left
  rw [decide_eq_false_iff_not]
  rintro ⟨a, b, c, d, e, f⟩
  have := f o h
  omega
theorem placedB_yes {ahead : List TxnD} {t : TxnD} (h : statOk t) (h0 : 0 ≤ t.frm) (hl : ∀ o, ahead.getLast? = some o → o.frm < t.frm) : placedB ahead t = !ahead.any (busyB t) := by
  unfold placedB
  rw [decide_eq_true, Bool.true_and]
  exact ⟨h.1, h.2.1, h0, (h.2.2 h0).1, (h.2.2 h0).2, hl⟩
set_option maxHeartbeats 8000000 in
theorem placed54 (l : List TxnD) (hl : l.length ≤ 140737488351232) (t : TxnD) : PureC Try.prog 54 [.d (.sl (l.map encTxn)), .d (encTxn t)] (.d (.bool (placedB l t))) := by
  intro S
  refine CallM.pure' (by rfl) (CallM.start (n := 51) Try.func54 rfl rfl (by simp) (by simp only [argL, Nat.reduceAdd] <;> rfl) ?_)
  intro hH
  obtain ⟨H, hHe⟩ : ∃ H, H = S.get := ⟨_, rfl⟩
  obtain ⟨n0, hne⟩ : ∃ n0, n0 = S.next := ⟨_, rfl⟩
  rw [← hHe, ← hne] at hH ⊢
  ((repeat refine WpM.seq ?_); have z_ex := (And.intro @encTxn.eq_1 True.intro); refine WpM.regPE [] [(0, _), (3, _)] (by (refine s_o [(1, _)] rfl rfl rfl z_su rfl q_box z_fp z_ss ?_; refine s_o [] rfl rfl rfl z_su rfl q_move z_fp z_ss ?_; exact wpS_nil ⟨rfl, rfl⟩)) z_su ?_; clear z_ex)
  ((repeat refine WpM.seq ?_); have z_ex := True.intro; refine WpM.regPE [] [(0, _), (3, _), (6, _)] (by (refine s_o [(3, _)] rfl rfl rfl z_su rfl q_fieldAddr z_fp z_ss ?_; refine s_o [(5, _)] rfl rfl rfl z_su rfl q_load z_fp z_ss ?_; exact wpS_nil ⟨rfl, rfl⟩)) z_su ?_; clear z_ex)
  refine wpMid (Mid := fun (fr : Fr) (S' : St) => statOk t ∧ ∃ nx, n0 < nx ∧ S' = ⟨nx, [(n0, some (.box [.d (.int .i64 t.proc), .d (.int .i64 t.status), .d (.int .i64 t.frm), .d (.int .i64 t.to), .d (.sl (t.ops.map encOp))]))], H⟩ ∧ FrLe fr (frOf [(0, .d (.sl (l.map encTxn))), (3, .ptr n0 0)])) ?_ ?_
  · ((repeat refine WpM.seq ?_); refine WpM.block ?_)
    by_cases h12 : t.status = 1 ∨ t.status = 2
    · by_cases hto : t.to ≤ t.frm
      · have hr : placedB l t = false := by
          by_cases h0 : 0 ≤ t.frm
          · exact placedB_no fun h => by have := h.2.2 h0; omega
          · exact placedB_neg (by omega)
        rw [hr]
        rcases h12 with h1 | h1
        · ((repeat refine WpM.seq ?_); have z_ex := (And.intro @h1 True.intro); refine WpM.regPE [] [(0, _), (3, _), (6, _), (7, _)] (by (refine s_o [(6, _)] rfl rfl rfl z_su rfl q_full z_fp z_ss ?_; refine s_o [(8, _)] rfl rfl rfl z_su rfl q_move z_fp z_ss ?_; exact wpS_nil ⟨rfl, rfl⟩)) z_su ?_; clear z_ex)
          ((repeat refine WpM.seq ?_); refine WpM.condT (by (simp (maxSteps := 2000000) (disch := omega) [go_sem, -List.map_map, h1])) ?_)
          refine WpM.skip ?_
          ((repeat refine WpM.seq ?_); refine WpM.condT (by (simp (maxSteps := 2000000) (disch := omega) [go_sem, -List.map_map, h1])) ?_)
          ((repeat refine WpM.seq ?_); have z_ex := (And.intro @hto True.intro); refine WpM.regPE [] [(0, _), (3, _), (14, _)] (by (refine s_o [(3, _)] rfl rfl rfl z_su rfl q_fieldAddr z_fp z_ss ?_; refine s_o [(10, _)] rfl rfl rfl z_su rfl q_load z_fp z_ss ?_; refine s_o [(3, _)] rfl rfl rfl z_su rfl q_fieldAddr z_fp z_ss ?_; refine s_o [(12, _)] rfl rfl rfl z_su rfl q_load z_fp z_ss ?_; refine s_o [(11, _), (13, _)] rfl rfl rfl z_su rfl q_full z_fp z_ss ?_; exact wpS_nil ⟨rfl, rfl⟩)) z_su ?_; clear z_ex)
          ((repeat refine WpM.seq ?_); refine WpM.condT (by (simp (maxSteps := 2000000) (disch := omega) [go_sem, -List.map_map, hto])) ?_)
          ((repeat refine WpM.seq ?_); have z_ex := True.intro; refine WpM.regPE [] [(4, _)] (by (refine s_o [] rfl rfl rfl z_su rfl q_move z_fp z_ss ?_; exact wpS_nil ⟨rfl, rfl⟩)) z_su ?_; clear z_ex)
          refine WpM.ret ?_
          exact ⟨.inr rfl, Upd.done ⟨_, (by (simp (maxSteps := 2000000) (disch := omega) [go_sem, -List.map_map, resV, resVs, resV1])), rfl, fun m k _ hk => by have := hH _ _ hk; (simp (maxSteps := 2000000) (disch := omega) [go_sem, -List.map_map, hk])⟩⟩
        · ((repeat refine WpM.seq ?_); have z_ex := (And.intro @h1 True.intro); refine WpM.regPE [] [(0, _), (3, _), (6, _), (7, _)] (by (refine s_o [(6, _)] rfl rfl rfl z_su rfl q_full z_fp z_ss ?_; refine s_o [(8, _)] rfl rfl rfl z_su rfl q_move z_fp z_ss ?_; exact wpS_nil ⟨rfl, rfl⟩)) z_su ?_; clear z_ex)
          ((repeat refine WpM.seq ?_); refine WpM.condF (by (simp (maxSteps := 2000000) (disch := omega) [go_sem, -List.map_map, h1])) ?_)
          ((repeat refine WpM.seq ?_); have z_ex := (And.intro @h1 True.intro); refine WpM.regPE [] [(0, _), (3, _), (6, _), (7, _)] (by (refine s_o [(6, _)] rfl rfl rfl z_su rfl q_full z_fp z_ss ?_; refine s_o [(9, _)] rfl rfl rfl z_su rfl q_move z_fp z_ss ?_; exact wpS_nil ⟨rfl, rfl⟩)) z_su ?_; clear z_ex)
          ((repeat refine WpM.seq ?_); refine WpM.condT (by (simp (maxSteps := 2000000) (disch := omega) [go_sem, -List.map_map, h1])) ?_)
          ((repeat refine WpM.seq ?_); have z_ex := (And.intro @hto True.intro); refine WpM.regPE [] [(0, _), (3, _), (14, _)] (by (refine s_o [(3, _)] rfl rfl rfl z_su rfl q_fieldAddr z_fp z_ss ?_; refine s_o [(10, _)] rfl rfl rfl z_su rfl q_load z_fp z_ss ?_; refine s_o [(3, _)] rfl rfl rfl z_su rfl q_fieldAddr z_fp z_ss ?_; refine s_o [(12, _)] rfl rfl rfl z_su rfl q_load z_fp z_ss ?_; refine s_o [(11, _), (13, _)] rfl rfl rfl z_su rfl q_full z_fp z_ss ?_; exact wpS_nil ⟨rfl, rfl⟩)) z_su ?_; clear z_ex)
          ((repeat refine WpM.seq ?_); refine WpM.condT (by (simp (maxSteps := 2000000) (disch := omega) [go_sem, -List.map_map, hto])) ?_)
          ((repeat refine WpM.seq ?_); have z_ex := True.intro; refine WpM.regPE [] [(4, _)] (by (refine s_o [] rfl rfl rfl z_su rfl q_move z_fp z_ss ?_; exact wpS_nil ⟨rfl, rfl⟩)) z_su ?_; clear z_ex)
          refine WpM.ret ?_
          exact ⟨.inr rfl, Upd.done ⟨_, (by (simp (maxSteps := 2000000) (disch := omega) [go_sem, -List.map_map, resV, resVs, resV1])), rfl, fun m k _ hk => by have := hH _ _ hk; (simp (maxSteps := 2000000) (disch := omega) [go_sem, -List.map_map, hk])⟩⟩
      · have hto' : ¬ t.to ≤ t.frm := hto
        have hst : statOk t := ⟨by omega, by omega, fun h0 => ⟨fun h => by omega, fun _ => by omega⟩⟩
        rcases h12 with h1 | h1
        · ((repeat refine WpM.seq ?_); have z_ex := (And.intro @h1 True.intro); refine WpM.regPE [] [(0, _), (3, _), (6, _), (7, _)] (by (refine s_o [(6, _)] rfl rfl rfl z_su rfl q_full z_fp z_ss ?_; refine s_o [(8, _)] rfl rfl rfl z_su rfl q_move z_fp z_ss ?_; exact wpS_nil ⟨rfl, rfl⟩)) z_su ?_; clear z_ex)
          ((repeat refine WpM.seq ?_); refine WpM.condT (by (simp (maxSteps := 2000000) (disch := omega) [go_sem, -List.map_map, h1])) ?_)
          refine WpM.skip ?_
          ((repeat refine WpM.seq ?_); refine WpM.condT (by (simp (maxSteps := 2000000) (disch := omega) [go_sem, -List.map_map, h1])) ?_)
          ((repeat refine WpM.seq ?_); have z_ex := (And.intro @hto' True.intro); refine WpM.regPE [] [(0, _), (3, _), (14, _)] (by (refine s_o [(3, _)] rfl rfl rfl z_su rfl q_fieldAddr z_fp z_ss ?_; refine s_o [(10, _)] rfl rfl rfl z_su rfl q_load z_fp z_ss ?_; refine s_o [(3, _)] rfl rfl rfl z_su rfl q_fieldAddr z_fp z_ss ?_; refine s_o [(12, _)] rfl rfl rfl z_su rfl q_load z_fp z_ss ?_; refine s_o [(11, _), (13, _)] rfl rfl rfl z_su rfl q_full z_fp z_ss ?_; exact wpS_nil ⟨rfl, rfl⟩)) z_su ?_; clear z_ex)
          ((repeat refine WpM.seq ?_); refine WpM.condF (by (simp (maxSteps := 2000000) (disch := omega) [go_sem, -List.map_map, hto'])) ?_)
          refine WpM.skip ?_
          exact ⟨hst, _, (by show n0 < n0 + _; omega), rfl, frLe_frOf (by (simp (maxSteps := 2000000) (disch := omega) [go_sem, -List.map_map]))⟩
        · ((repeat refine WpM.seq ?_); have z_ex := (And.intro @h1 True.intro); refine WpM.regPE [] [(0, _), (3, _), (6, _), (7, _)] (by (refine s_o [(6, _)] rfl rfl rfl z_su rfl q_full z_fp z_ss ?_; refine s_o [(8, _)] rfl rfl rfl z_su rfl q_move z_fp z_ss ?_; exact wpS_nil ⟨rfl, rfl⟩)) z_su ?_; clear z_ex)
          ((repeat refine WpM.seq ?_); refine WpM.condF (by (simp (maxSteps := 2000000) (disch := omega) [go_sem, -List.map_map, h1])) ?_)
          ((repeat refine WpM.seq ?_); have z_ex := (And.intro @h1 True.intro); refine WpM.regPE [] [(0, _), (3, _), (6, _), (7, _)] (by (refine s_o [(6, _)] rfl rfl rfl z_su rfl q_full z_fp z_ss ?_; refine s_o [(9, _)] rfl rfl rfl z_su rfl q_move z_fp z_ss ?_; exact wpS_nil ⟨rfl, rfl⟩)) z_su ?_; clear z_ex)
          ((repeat refine WpM.seq ?_); refine WpM.condT (by (simp (maxSteps := 2000000) (disch := omega) [go_sem, -List.map_map, h1])) ?_)
          ((repeat refine WpM.seq ?_); have z_ex := (And.intro @hto' True.intro); refine WpM.regPE [] [(0, _), (3, _), (14, _)] (by (refine s_o [(3, _)] rfl rfl rfl z_su rfl q_fieldAddr z_fp z_ss ?_; refine s_o [(10, _)] rfl rfl rfl z_su rfl q_load z_fp z_ss ?_; refine s_o [(3, _)] rfl rfl rfl z_su rfl q_fieldAddr z_fp z_ss ?_; refine s_o [(12, _)] rfl rfl rfl z_su rfl q_load z_fp z_ss ?_; refine s_o [(11, _), (13, _)] rfl rfl rfl z_su rfl q_full z_fp z_ss ?_; exact wpS_nil ⟨rfl, rfl⟩)) z_su ?_; clear z_ex)
          ((repeat refine WpM.seq ?_); refine WpM.condF (by (simp (maxSteps := 2000000) (disch := omega) [go_sem, -List.map_map, hto'])) ?_)
          refine WpM.skip ?_
          exact ⟨hst, _, (by show n0 < n0 + _; omega), rfl, frLe_frOf (by (simp (maxSteps := 2000000) (disch := omega) [go_sem, -List.map_map]))⟩
    · have h1 : ¬ t.status = 1 := fun h => h12 (.inl h)
      have h2 : ¬ t.status = 2 := fun h => h12 (.inr h)
      ((repeat refine WpM.seq ?_); have z_ex := (And.intro @h1 True.intro); refine WpM.regPE [] [(0, _), (3, _), (6, _), (7, _)] (by (refine s_o [(6, _)] rfl rfl rfl z_su rfl q_full z_fp z_ss ?_; refine s_o [(8, _)] rfl rfl rfl z_su rfl q_move z_fp z_ss ?_; exact wpS_nil ⟨rfl, rfl⟩)) z_su ?_; clear z_ex)
      ((repeat refine WpM.seq ?_); refine WpM.condF (by (simp (maxSteps := 2000000) (disch := omega) [go_sem, -List.map_map, h1])) ?_)
      ((repeat refine WpM.seq ?_); have z_ex := (And.intro @h2 True.intro); refine WpM.regPE [] [(0, _), (3, _), (6, _), (7, _)] (by (refine s_o [(6, _)] rfl rfl rfl z_su rfl q_full z_fp z_ss ?_; refine s_o [(9, _)] rfl rfl rfl z_su rfl q_move z_fp z_ss ?_; exact wpS_nil ⟨rfl, rfl⟩)) z_su ?_; clear z_ex)
      ((repeat refine WpM.seq ?_); refine WpM.condF (by (simp (maxSteps := 2000000) (disch := omega) [go_sem, -List.map_map, h2])) ?_)
      by_cases h3 : t.status = 3
      · ((repeat refine WpM.seq ?_); have z_ex := (And.intro @h3 True.intro); refine WpM.regPE [] [(0, _), (3, _), (15, _)] (by (refine s_o [(6, _)] rfl rfl rfl z_su rfl q_full z_fp z_ss ?_; refine s_o [(16, _)] rfl rfl rfl z_su rfl q_move z_fp z_ss ?_; exact wpS_nil ⟨rfl, rfl⟩)) z_su ?_; clear z_ex)
        ((repeat refine WpM.seq ?_); refine WpM.condT (by (simp (maxSteps := 2000000) (disch := omega) [go_sem, -List.map_map, h3])) ?_)
        by_cases hm : t.to = -1
        · ((repeat refine WpM.seq ?_); have z_ex := (And.intro @hm True.intro); refine WpM.regPE [] [(0, _), (3, _), (26, _)] (by (refine s_o [(3, _)] rfl rfl rfl z_su rfl q_fieldAddr z_fp z_ss ?_; refine s_o [(17, _)] rfl rfl rfl z_su rfl q_load z_fp z_ss ?_; refine s_o [(18, _)] rfl rfl rfl z_su rfl q_full z_fp z_ss ?_; refine s_o [(19, _)] rfl rfl rfl z_su rfl q_move z_fp z_ss ?_; refine s_wit ?_; intro z_g; (first | refine s_skip rfl z_g z_fp ?_ | (refine s_o [(3, _)] rfl z_g rfl z_su rfl q_fieldAddr z_fp z_ss ?_)); clear z_g; refine s_wit ?_; intro z_g; (first | refine s_skip rfl z_g z_fp ?_ | (refine s_o [(21, _)] rfl z_g rfl z_su rfl q_load z_fp z_ss ?_)); clear z_g; refine s_wit ?_; intro z_g; (first | refine s_skip rfl z_g z_fp ?_ | (refine s_o [(3, _)] rfl z_g rfl z_su rfl q_fieldAddr z_fp z_ss ?_)); clear z_g; refine s_wit ?_; intro z_g; (first | refine s_skip rfl z_g z_fp ?_ | (refine s_o [(23, _)] rfl z_g rfl z_su rfl q_load z_fp z_ss ?_)); clear z_g; refine s_wit ?_; intro z_g; (first | refine s_skip rfl z_g z_fp ?_ | (refine s_o [(22, _), (24, _)] rfl z_g rfl z_su rfl q_full z_fp z_ss ?_)); clear z_g; refine s_o [(20, _), (25, _)] rfl rfl rfl z_su rfl q_move z_fp z_ss ?_; exact wpS_nil ⟨rfl, rfl⟩)) z_su ?_; clear z_ex)
          ((repeat refine WpM.seq ?_); refine WpM.condF (by (simp (maxSteps := 2000000) (disch := omega) [go_sem, -List.map_map, hm])) ?_)
          refine WpM.skip ?_
          exact ⟨⟨by omega, by omega, fun h0 => ⟨fun h => by omega, fun h => by omega⟩⟩, _, (by show n0 < n0 + _; omega), rfl, frLe_frOf (by (simp (maxSteps := 2000000) (disch := omega) [go_sem, -List.map_map]))⟩
        · by_cases hto : t.to ≤ t.frm
          · have hr : placedB l t = false := by
              by_cases h0 : 0 ≤ t.frm
              · exact placedB_no fun h => by have := h.2.2 h0; omega
              · exact placedB_neg (by omega)
            rw [hr]
            ((repeat refine WpM.seq ?_); have z_ex := (And.intro @hm (And.intro @hto True.intro)); refine WpM.regPE [] [(0, _), (3, _), (26, _)] (by (refine s_o [(3, _)] rfl rfl rfl z_su rfl q_fieldAddr z_fp z_ss ?_; refine s_o [(17, _)] rfl rfl rfl z_su rfl q_load z_fp z_ss ?_; refine s_o [(18, _)] rfl rfl rfl z_su rfl q_full z_fp z_ss ?_; refine s_o [(19, _)] rfl rfl rfl z_su rfl q_move z_fp z_ss ?_; refine s_wit ?_; intro z_g; (first | refine s_skip rfl z_g z_fp ?_ | (refine s_o [(3, _)] rfl z_g rfl z_su rfl q_fieldAddr z_fp z_ss ?_)); clear z_g; refine s_wit ?_; intro z_g; (first | refine s_skip rfl z_g z_fp ?_ | (refine s_o [(21, _)] rfl z_g rfl z_su rfl q_load z_fp z_ss ?_)); clear z_g; refine s_wit ?_; intro z_g; (first | refine s_skip rfl z_g z_fp ?_ | (refine s_o [(3, _)] rfl z_g rfl z_su rfl q_fieldAddr z_fp z_ss ?_)); clear z_g; refine s_wit ?_; intro z_g; (first | refine s_skip rfl z_g z_fp ?_ | (refine s_o [(23, _)] rfl z_g rfl z_su rfl q_load z_fp z_ss ?_)); clear z_g; refine s_wit ?_; intro z_g; (first | refine s_skip rfl z_g z_fp ?_ | (refine s_o [(22, _), (24, _)] rfl z_g rfl z_su rfl q_full z_fp z_ss ?_)); clear z_g; refine s_o [(20, _), (25, _)] rfl rfl rfl z_su rfl q_move z_fp z_ss ?_; exact wpS_nil ⟨rfl, rfl⟩)) z_su ?_; clear z_ex)
            ((repeat refine WpM.seq ?_); refine WpM.condT (by (simp (maxSteps := 2000000) (disch := omega) [go_sem, -List.map_map, hm, hto])) ?_)
            ((repeat refine WpM.seq ?_); have z_ex := True.intro; refine WpM.regPE [] [(4, _)] (by (refine s_o [] rfl rfl rfl z_su rfl q_move z_fp z_ss ?_; exact wpS_nil ⟨rfl, rfl⟩)) z_su ?_; clear z_ex)
            refine WpM.ret ?_
            exact ⟨.inr rfl, Upd.done ⟨_, (by (simp (maxSteps := 2000000) (disch := omega) [go_sem, -List.map_map, resV, resVs, resV1])), rfl, fun m k _ hk => by have := hH _ _ hk; (simp (maxSteps := 2000000) (disch := omega) [go_sem, -List.map_map, hk])⟩⟩
          · ((repeat refine WpM.seq ?_); have z_ex := (And.intro @hm (And.intro @hto True.intro)); refine WpM.regPE [] [(0, _), (3, _), (26, _)] (by (refine s_o [(3, _)] rfl rfl rfl z_su rfl q_fieldAddr z_fp z_ss ?_; refine s_o [(17, _)] rfl rfl rfl z_su rfl q_load z_fp z_ss ?_; refine s_o [(18, _)] rfl rfl rfl z_su rfl q_full z_fp z_ss ?_; refine s_o [(19, _)] rfl rfl rfl z_su rfl q_move z_fp z_ss ?_; refine s_wit ?_; intro z_g; (first | refine s_skip rfl z_g z_fp ?_ | (refine s_o [(3, _)] rfl z_g rfl z_su rfl q_fieldAddr z_fp z_ss ?_)); clear z_g; refine s_wit ?_; intro z_g; (first | refine s_skip rfl z_g z_fp ?_ | (refine s_o [(21, _)] rfl z_g rfl z_su rfl q_load z_fp z_ss ?_)); clear z_g; refine s_wit ?_; intro z_g; (first | refine s_skip rfl z_g z_fp ?_ | (refine s_o [(3, _)] rfl z_g rfl z_su rfl q_fieldAddr z_fp z_ss ?_)); clear z_g; refine s_wit ?_; intro z_g; (first | refine s_skip rfl z_g z_fp ?_ | (refine s_o [(23, _)] rfl z_g rfl z_su rfl q_load z_fp z_ss ?_)); clear z_g; refine s_wit ?_; intro z_g; (first | refine s_skip rfl z_g z_fp ?_ | (refine s_o [(22, _), (24, _)] rfl z_g rfl z_su rfl q_full z_fp z_ss ?_)); clear z_g; refine s_o [(20, _), (25, _)] rfl rfl rfl z_su rfl q_move z_fp z_ss ?_; exact wpS_nil ⟨rfl, rfl⟩)) z_su ?_; clear z_ex)
            ((repeat refine WpM.seq ?_); refine WpM.condF (by (simp (maxSteps := 2000000) (disch := omega) [go_sem, -List.map_map, hm, hto])) ?_)
            refine WpM.skip ?_
            exact ⟨⟨by omega, by omega, fun h0 => ⟨fun h => by omega, fun h => by omega⟩⟩, _, (by show n0 < n0 + _; omega), rfl, frLe_frOf (by (simp (maxSteps := 2000000) (disch := omega) [go_sem, -List.map_map]))⟩
      · have hr : placedB l t = false := placedB_no fun h => by have := h.1; have := h.2.1; omega
        rw [hr]
        ((repeat refine WpM.seq ?_); have z_ex := (And.intro @h3 True.intro); refine WpM.regPE [] [(0, _), (3, _), (15, _)] (by (refine s_o [(6, _)] rfl rfl rfl z_su rfl q_full z_fp z_ss ?_; refine s_o [(16, _)] rfl rfl rfl z_su rfl q_move z_fp z_ss ?_; exact wpS_nil ⟨rfl, rfl⟩)) z_su ?_; clear z_ex)
        ((repeat refine WpM.seq ?_); refine WpM.condF (by (simp (maxSteps := 2000000) (disch := omega) [go_sem, -List.map_map, h3])) ?_)
        ((repeat refine WpM.seq ?_); have z_ex := True.intro; refine WpM.regPE [] [(4, _)] (by (refine s_o [] rfl rfl rfl z_su rfl q_move z_fp z_ss ?_; exact wpS_nil ⟨rfl, rfl⟩)) z_su ?_; clear z_ex)
        refine WpM.ret ?_
        exact ⟨.inr rfl, Upd.done ⟨_, (by (simp (maxSteps := 2000000) (disch := omega) [go_sem, -List.map_map, resV, resVs, resV1])), rfl, fun m k _ hk => by have := hH _ _ hk; (simp (maxSteps := 2000000) (disch := omega) [go_sem, -List.map_map, hk])⟩⟩
  · rintro fr S' ⟨hst, nx, hnx, rfl, hfr⟩
    refine WpM.less (St.Le.refl _) hfr ?_
    clear hfr
    by_cases h0 : t.frm < 0
    · rw [placedB_neg h0]
      ((repeat refine WpM.seq ?_); have z_ex := (And.intro @h0 True.intro); refine WpM.drwPE [] [(0, _), (3, _), (46, _)] mixed (by kernel_rfl) (by kernel_rfl) [] (by kernel_rfl) (by (refine d_o [(3, _)] rfl rfl rfl z_su rfl q_fieldAddr z_fp z_ss rfl ?_; refine d_o [(27, _)] rfl rfl rfl z_su rfl q_load z_fp z_ss rfl ?_; refine d_o [(28, _)] rfl rfl rfl z_su rfl q_full z_fp z_ss rfl ?_; refine d_o [(29, _)] rfl rfl rfl z_su rfl q_move z_fp z_ss rfl ?_; refine d_wit ?_; intro z_g; (first | refine d_skip rfl z_g z_fp ?_ | (refine d_o [(0, _)] rfl z_g rfl z_su rfl q_move z_fp z_ss rfl ?_)); clear z_g; refine d_wit ?_; intro z_g; (first | refine d_skip rfl z_g z_fp ?_ | (refine d_o [(31, _)] rfl z_g rfl z_su rfl q_full z_fp z_ss rfl ?_)); clear z_g; refine d_wit ?_; intro z_g; (first | refine d_skip rfl z_g z_fp ?_ | (refine d_o [(32, _)] rfl z_g rfl z_su rfl q_full z_fp z_ss rfl ?_)); clear z_g; refine d_wit ?_; intro z_g; (first | refine d_skip rfl z_g z_fp ?_ | (refine d_o [(33, _)] rfl z_g rfl z_su rfl q_move z_fp z_ss rfl ?_)); clear z_g; refine d_wit ?_; intro z_g; (first | refine d_skip rfl z_g z_fp ?_ | (refine d_o [(0, _)] rfl z_g rfl z_su rfl q_move z_fp z_ss rfl ?_)); clear z_g; refine d_wit ?_; intro z_g; (first | refine d_skip rfl z_g z_fp ?_ | (refine d_o [(0, _)] rfl z_g rfl z_su rfl q_move z_fp z_ss rfl ?_)); clear z_g; refine d_wit ?_; intro z_g; (first | refine d_skip rfl z_g z_fp ?_ | (refine d_o [(36, _)] rfl z_g rfl z_su rfl q_full z_fp z_ss rfl ?_)); clear z_g; refine d_wit ?_; intro z_g; (first | refine d_skip rfl z_g z_fp ?_ | (refine d_o [(37, _)] rfl z_g rfl z_su rfl q_full z_fp z_ss rfl ?_)); clear z_g; refine d_wit ?_; intro z_g; (first | refine d_skip rfl z_g z_fp ?_ | (refine d_o [(35, _), (38, _)] rfl z_g rfl z_su rfl q_full z_fp z_ss rfl ?_)); clear z_g; refine d_wit ?_; intro z_g; (first | refine d_skip rfl z_g z_fp ?_ | (refine d_o [(39, _)] rfl z_g rfl z_su rfl q_fieldAddr z_fp z_ss rfl ?_)); clear z_g; refine d_wit ?_; intro z_g; (first | refine d_skip rfl z_g z_fp ?_ | (refine d_o [(40, _)] rfl z_g rfl z_su rfl q_load z_fp z_ss rfl ?_)); clear z_g; refine d_wit ?_; intro z_g; (first | refine d_skip rfl z_g z_fp ?_ | (refine d_o [(3, _)] rfl z_g rfl z_su rfl q_fieldAddr z_fp z_ss rfl ?_)); clear z_g; refine d_wit ?_; intro z_g; (first | refine d_skip rfl z_g z_fp ?_ | (refine d_o [(42, _)] rfl z_g rfl z_su rfl q_load z_fp z_ss rfl ?_)); clear z_g; refine d_wit ?_; intro z_g; (first | refine d_skip rfl z_g z_fp ?_ | (refine d_o [(41, _), (43, _)] rfl z_g rfl z_su rfl q_full z_fp z_ss rfl ?_)); clear z_g; refine d_wit ?_; intro z_g; (first | refine d_skip rfl z_g z_fp ?_ | (refine d_o [(34, _), (44, _)] rfl z_g rfl z_su rfl q_move z_fp z_ss rfl ?_)); clear z_g; refine d_o [(30, _), (45, _)] rfl rfl rfl z_su rfl q_move z_fp z_ss rfl ?_; exact d_end z_mt z_sn)) z_su ?_; clear z_ex)
      ((repeat refine WpM.seq ?_); refine WpM.condT (by (simp (maxSteps := 2000000) (disch := omega) [go_sem, -List.map_map, h0])) ?_)
      ((repeat refine WpM.seq ?_); have z_ex := True.intro; refine WpM.regPE [] [(4, _)] (by (refine s_o [] rfl rfl rfl z_su rfl q_move z_fp z_ss ?_; exact wpS_nil ⟨rfl, rfl⟩)) z_su ?_; clear z_ex)
      refine WpM.ret ?_
      exact ⟨.inr rfl, Upd.done ⟨_, (by (simp (maxSteps := 2000000) (disch := omega) [go_sem, -List.map_map, resV, resVs, resV1])), rfl, fun m k _ hk => by have := hH _ _ hk; (simp (maxSteps := 2000000) (disch := omega) [go_sem, -List.map_map, hk])⟩⟩
    · have h0' : ¬ t.frm < 0 := h0
      cases hg : l.getLast? with
      | none =>
        have hnil : l = [] := by simpa using hg
        have hlen : l.length = 0 := by simp [hnil]
        rw [placedB_yes hst (by omega) (by rw [hg]; simp)]
        ((repeat refine WpM.seq ?_); have z_ex := (And.intro @h0' (And.intro @hlen (And.intro @encTxn.eq_1 True.intro))); refine WpM.drwPE [] [(0, _), (3, _), (46, _)] mixed (by kernel_rfl) (by kernel_rfl) [] (by kernel_rfl) (by (refine d_o [(3, _)] rfl rfl rfl z_su rfl q_fieldAddr z_fp z_ss rfl ?_; refine d_o [(27, _)] rfl rfl rfl z_su rfl q_load z_fp z_ss rfl ?_; refine d_o [(28, _)] rfl rfl rfl z_su rfl q_full z_fp z_ss rfl ?_; refine d_o [(29, _)] rfl rfl rfl z_su rfl q_move z_fp z_ss rfl ?_; refine d_wit ?_; intro z_g; (first | refine d_skip rfl z_g z_fp ?_ | (refine d_o [(0, _)] rfl z_g rfl z_su rfl q_move z_fp z_ss rfl ?_)); clear z_g; refine d_wit ?_; intro z_g; (first | refine d_skip rfl z_g z_fp ?_ | (refine d_o [(31, _)] rfl z_g rfl z_su rfl q_full z_fp z_ss rfl ?_)); clear z_g; refine d_wit ?_; intro z_g; (first | refine d_skip rfl z_g z_fp ?_ | (refine d_o [(32, _)] rfl z_g rfl z_su rfl q_full z_fp z_ss rfl ?_)); clear z_g; refine d_wit ?_; intro z_g; (first | refine d_skip rfl z_g z_fp ?_ | (refine d_o [(33, _)] rfl z_g rfl z_su rfl q_move z_fp z_ss rfl ?_)); clear z_g; refine d_wit ?_; intro z_g; (first | refine d_skip rfl z_g z_fp ?_ | (refine d_o [(0, _)] rfl z_g rfl z_su rfl q_move z_fp z_ss rfl ?_)); clear z_g; refine d_wit ?_; intro z_g; (first | refine d_skip rfl z_g z_fp ?_ | (refine d_o [(0, _)] rfl z_g rfl z_su rfl q_move z_fp z_ss rfl ?_)); clear z_g; refine d_wit ?_; intro z_g; (first | refine d_skip rfl z_g z_fp ?_ | (refine d_o [(36, _)] rfl z_g rfl z_su rfl q_full z_fp z_ss rfl ?_)); clear z_g; refine d_wit ?_; intro z_g; (first | refine d_skip rfl z_g z_fp ?_ | (refine d_o [(37, _)] rfl z_g rfl z_su rfl q_full z_fp z_ss rfl ?_)); clear z_g; refine d_wit ?_; intro z_g; (first | refine d_skip rfl z_g z_fp ?_ | (refine d_o [(35, _), (38, _)] rfl z_g rfl z_su rfl q_full z_fp z_ss rfl ?_)); clear z_g; refine d_wit ?_; intro z_g; (first | refine d_skip rfl z_g z_fp ?_ | (refine d_o [(39, _)] rfl z_g rfl z_su rfl q_fieldAddr z_fp z_ss rfl ?_)); clear z_g; refine d_wit ?_; intro z_g; (first | refine d_skip rfl z_g z_fp ?_ | (refine d_o [(40, _)] rfl z_g rfl z_su rfl q_load z_fp z_ss rfl ?_)); clear z_g; refine d_wit ?_; intro z_g; (first | refine d_skip rfl z_g z_fp ?_ | (refine d_o [(3, _)] rfl z_g rfl z_su rfl q_fieldAddr z_fp z_ss rfl ?_)); clear z_g; refine d_wit ?_; intro z_g; (first | refine d_skip rfl z_g z_fp ?_ | (refine d_o [(42, _)] rfl z_g rfl z_su rfl q_load z_fp z_ss rfl ?_)); clear z_g; refine d_wit ?_; intro z_g; (first | refine d_skip rfl z_g z_fp ?_ | (refine d_o [(41, _), (43, _)] rfl z_g rfl z_su rfl q_full z_fp z_ss rfl ?_)); clear z_g; refine d_wit ?_; intro z_g; (first | refine d_skip rfl z_g z_fp ?_ | (refine d_o [(34, _), (44, _)] rfl z_g rfl z_su rfl q_move z_fp z_ss rfl ?_)); clear z_g; refine d_o [(30, _), (45, _)] rfl rfl rfl z_su rfl q_move z_fp z_ss rfl ?_; exact d_end z_mt z_sn)) z_su ?_; clear z_ex)
        ((repeat refine WpM.seq ?_); refine WpM.condF (by (simp (maxSteps := 2000000) (disch := omega) [go_sem, -List.map_map])) ?_)
        refine WpM.skip ?_
        ((repeat refine WpM.seq ?_); have z_ex := True.intro; refine WpM.regPE [] [(4, _)] (by (refine s_o [(0, _)] rfl rfl rfl z_su rfl q_move z_fp z_ss ?_; refine s_o [(3, _)] rfl rfl rfl z_su rfl q_move z_fp z_ss ?_; refine s_at (callOf_eq rfl rfl rfl (mlk_tmp z_lk (mlk_tmp z_lk mlk_nil))) (containsFunc65 l (busyB t) 66 [.ptr n0 0] ⟨_, [(n0, some (.box [.d (.int .i64 t.proc), .d (.int .i64 t.status), .d (.int .i64 t.frm), .d (.int .i64 t.to), .d (.sl (t.ops.map encOp))]))], H⟩ hl (fun x _ S' h => busy66 t x n0 S' (h _ _ (by simp [go_sem]))) (by kernel_rfl)) rfl rfl z_ip z_fp ?_; refine s_o [(49, _)] rfl rfl rfl z_su rfl q_unOp z_fp z_ss ?_; refine s_o [(50, _)] rfl rfl rfl z_su rfl q_move z_fp z_ss ?_; exact wpS_nil ⟨rfl, rfl⟩)) z_su ?_; clear z_ex)
        refine WpM.ret ?_
        exact ⟨.inr rfl, Upd.done ⟨_, (by (simp (maxSteps := 2000000) (disch := omega) [go_sem, -List.map_map, resV, resVs, resV1])), rfl, fun m k _ hk => by have := hH _ _ hk; (simp (maxSteps := 2000000) (disch := omega) [go_sem, -List.map_map, hk])⟩⟩
      | some o =>
        obtain ⟨len, hlen⟩ : ∃ len, l.length = len + 1 := by
          cases l with
          | nil => simp at hg
          | cons a r => exact ⟨r.length, rfl⟩
        have hgo : (l.map encTxn)[len]? = some (encTxn o) := by
          rw [List.getLast?_eq_getElem?, hlen] at hg
          rw [List.getElem?_map, show len = len + 1 - 1 by omega, hg]
          rfl
        have hidx : (len : Int) + 1 - 1 = len := by omega
        have hpos : (0 : Int) < len + 1 := by omega
        by_cases hlo : t.frm ≤ o.frm
        · rw [placedB_last hg hlo]
          ((repeat refine WpM.seq ?_); have z_ex := (And.intro @h0' (And.intro @hlen (And.intro @hgo (And.intro @hidx (And.intro @hpos (And.intro @hlo (And.intro @wrap_id (And.intro @encTxn.eq_1 True.intro)))))))); refine WpM.drwPE [] [(0, _), (3, _), (46, _)] mixed (by kernel_rfl) (by kernel_rfl) [] (by kernel_rfl) (by (refine d_o [(3, _)] rfl rfl rfl z_su rfl q_fieldAddr z_fp z_ss rfl ?_; refine d_o [(27, _)] rfl rfl rfl z_su rfl q_load z_fp z_ss rfl ?_; refine d_o [(28, _)] rfl rfl rfl z_su rfl q_full z_fp z_ss rfl ?_; refine d_o [(29, _)] rfl rfl rfl z_su rfl q_move z_fp z_ss rfl ?_; refine d_wit ?_; intro z_g; (first | refine d_skip rfl z_g z_fp ?_ | (refine d_o [(0, _)] rfl z_g rfl z_su rfl q_move z_fp z_ss rfl ?_)); clear z_g; refine d_wit ?_; intro z_g; (first | refine d_skip rfl z_g z_fp ?_ | (refine d_o [(31, _)] rfl z_g rfl z_su rfl q_full z_fp z_ss rfl ?_)); clear z_g; refine d_wit ?_; intro z_g; (first | refine d_skip rfl z_g z_fp ?_ | (refine d_o [(32, _)] rfl z_g rfl z_su rfl q_full z_fp z_ss rfl ?_)); clear z_g; refine d_wit ?_; intro z_g; (first | refine d_skip rfl z_g z_fp ?_ | (refine d_o [(33, _)] rfl z_g rfl z_su rfl q_move z_fp z_ss rfl ?_)); clear z_g; refine d_wit ?_; intro z_g; (first | refine d_skip rfl z_g z_fp ?_ | (refine d_o [(0, _)] rfl z_g rfl z_su rfl q_move z_fp z_ss rfl ?_)); clear z_g; refine d_wit ?_; intro z_g; (first | refine d_skip rfl z_g z_fp ?_ | (refine d_o [(0, _)] rfl z_g rfl z_su rfl q_move z_fp z_ss rfl ?_)); clear z_g; refine d_wit ?_; intro z_g; (first | refine d_skip rfl z_g z_fp ?_ | (refine d_o [(36, _)] rfl z_g rfl z_su rfl q_full z_fp z_ss rfl ?_)); clear z_g; refine d_wit ?_; intro z_g; (first | refine d_skip rfl z_g z_fp ?_ | (refine d_o [(37, _)] rfl z_g rfl z_su rfl q_full z_fp z_ss rfl ?_)); clear z_g; refine d_wit ?_; intro z_g; (first | refine d_skip rfl z_g z_fp ?_ | (refine d_o [(35, _), (38, _)] rfl z_g rfl z_su rfl q_full z_fp z_ss rfl ?_)); clear z_g; refine d_wit ?_; intro z_g; (first | refine d_skip rfl z_g z_fp ?_ | (refine d_o [(39, _)] rfl z_g rfl z_su rfl q_fieldAddr z_fp z_ss rfl ?_)); clear z_g; refine d_wit ?_; intro z_g; (first | refine d_skip rfl z_g z_fp ?_ | (refine d_o [(40, _)] rfl z_g rfl z_su rfl q_load z_fp z_ss rfl ?_)); clear z_g; refine d_wit ?_; intro z_g; (first | refine d_skip rfl z_g z_fp ?_ | (refine d_o [(3, _)] rfl z_g rfl z_su rfl q_fieldAddr z_fp z_ss rfl ?_)); clear z_g; refine d_wit ?_; intro z_g; (first | refine d_skip rfl z_g z_fp ?_ | (refine d_o [(42, _)] rfl z_g rfl z_su rfl q_load z_fp z_ss rfl ?_)); clear z_g; refine d_wit ?_; intro z_g; (first | refine d_skip rfl z_g z_fp ?_ | (refine d_o [(41, _), (43, _)] rfl z_g rfl z_su rfl q_full z_fp z_ss rfl ?_)); clear z_g; refine d_wit ?_; intro z_g; (first | refine d_skip rfl z_g z_fp ?_ | (refine d_o [(34, _), (44, _)] rfl z_g rfl z_su rfl q_move z_fp z_ss rfl ?_)); clear z_g; refine d_o [(30, _), (45, _)] rfl rfl rfl z_su rfl q_move z_fp z_ss rfl ?_; exact d_end z_mt z_sn)) z_su ?_; clear z_ex)
          ((repeat refine WpM.seq ?_); refine WpM.condT (by (simp (maxSteps := 2000000) (disch := omega) [go_sem, -List.map_map, hlo])) ?_)
          ((repeat refine WpM.seq ?_); have z_ex := True.intro; refine WpM.regPE [] [(4, _)] (by (refine s_o [] rfl rfl rfl z_su rfl q_move z_fp z_ss ?_; exact wpS_nil ⟨rfl, rfl⟩)) z_su ?_; clear z_ex)
          refine WpM.ret ?_
          exact ⟨.inr rfl, Upd.done ⟨_, (by (simp (maxSteps := 2000000) (disch := omega) [go_sem, -List.map_map, resV, resVs, resV1])), rfl, fun m k _ hk => by have := hH _ _ hk; (simp (maxSteps := 2000000) (disch := omega) [go_sem, -List.map_map, hk])⟩⟩
        · rw [placedB_yes hst (by omega) (fun o' ho' => by rw [hg] at ho'; injection ho' with ho'; subst ho'; omega)]
          ((repeat refine WpM.seq ?_); have z_ex := (And.intro @h0' (And.intro @hlen (And.intro @hgo (And.intro @hidx (And.intro @hpos (And.intro @hlo (And.intro @wrap_id (And.intro @encTxn.eq_1 True.intro)))))))); refine WpM.drwPE [] [(0, _), (3, _), (46, _)] mixed (by kernel_rfl) (by kernel_rfl) [] (by kernel_rfl) (by (refine d_o [(3, _)] rfl rfl rfl z_su rfl q_fieldAddr z_fp z_ss rfl ?_; refine d_o [(27, _)] rfl rfl rfl z_su rfl q_load z_fp z_ss rfl ?_; refine d_o [(28, _)] rfl rfl rfl z_su rfl q_full z_fp z_ss rfl ?_; refine d_o [(29, _)] rfl rfl rfl z_su rfl q_move z_fp z_ss rfl ?_; refine d_wit ?_; intro z_g; (first | refine d_skip rfl z_g z_fp ?_ | (refine d_o [(0, _)] rfl z_g rfl z_su rfl q_move z_fp z_ss rfl ?_)); clear z_g; refine d_wit ?_; intro z_g; (first | refine d_skip rfl z_g z_fp ?_ | (refine d_o [(31, _)] rfl z_g rfl z_su rfl q_full z_fp z_ss rfl ?_)); clear z_g; refine d_wit ?_; intro z_g; (first | refine d_skip rfl z_g z_fp ?_ | (refine d_o [(32, _)] rfl z_g rfl z_su rfl q_full z_fp z_ss rfl ?_)); clear z_g; refine d_wit ?_; intro z_g; (first | refine d_skip rfl z_g z_fp ?_ | (refine d_o [(33, _)] rfl z_g rfl z_su rfl q_move z_fp z_ss rfl ?_)); clear z_g; refine d_wit ?_; intro z_g; (first | refine d_skip rfl z_g z_fp ?_ | (refine d_o [(0, _)] rfl z_g rfl z_su rfl q_move z_fp z_ss rfl ?_)); clear z_g; refine d_wit ?_; intro z_g; (first | refine d_skip rfl z_g z_fp ?_ | (refine d_o [(0, _)] rfl z_g rfl z_su rfl q_move z_fp z_ss rfl ?_)); clear z_g; refine d_wit ?_; intro z_g; (first | refine d_skip rfl z_g z_fp ?_ | (refine d_o [(36, _)] rfl z_g rfl z_su rfl q_full z_fp z_ss rfl ?_)); clear z_g; refine d_wit ?_; intro z_g; (first | refine d_skip rfl z_g z_fp ?_ | (refine d_o [(37, _)] rfl z_g rfl z_su rfl q_full z_fp z_ss rfl ?_)); clear z_g; refine d_wit ?_; intro z_g; (first | refine d_skip rfl z_g z_fp ?_ | (refine d_o [(35, _), (38, _)] rfl z_g rfl z_su rfl q_full z_fp z_ss rfl ?_)); clear z_g; refine d_wit ?_; intro z_g; (first | refine d_skip rfl z_g z_fp ?_ | (refine d_o [(39, _)] rfl z_g rfl z_su rfl q_fieldAddr z_fp z_ss rfl ?_)); clear z_g; refine d_wit ?_; intro z_g; (first | refine d_skip rfl z_g z_fp ?_ | (refine d_o [(40, _)] rfl z_g rfl z_su rfl q_load z_fp z_ss rfl ?_)); clear z_g; refine d_wit ?_; intro z_g; (first | refine d_skip rfl z_g z_fp ?_ | (refine d_o [(3, _)] rfl z_g rfl z_su rfl q_fieldAddr z_fp z_ss rfl ?_)); clear z_g; refine d_wit ?_; intro z_g; (first | refine d_skip rfl z_g z_fp ?_ | (refine d_o [(42, _)] rfl z_g rfl z_su rfl q_load z_fp z_ss rfl ?_)); clear z_g; refine d_wit ?_; intro z_g; (first | refine d_skip rfl z_g z_fp ?_ | (refine d_o [(41, _), (43, _)] rfl z_g rfl z_su rfl q_full z_fp z_ss rfl ?_)); clear z_g; refine d_wit ?_; intro z_g; (first | refine d_skip rfl z_g z_fp ?_ | (refine d_o [(34, _), (44, _)] rfl z_g rfl z_su rfl q_move z_fp z_ss rfl ?_)); clear z_g; refine d_o [(30, _), (45, _)] rfl rfl rfl z_su rfl q_move z_fp z_ss rfl ?_; exact d_end z_mt z_sn)) z_su ?_; clear z_ex)
          ((repeat refine WpM.seq ?_); refine WpM.condF (by (simp (maxSteps := 2000000) (disch := omega) [go_sem, -List.map_map, hlo])) ?_)
          refine WpM.skip ?_
          ((repeat refine WpM.seq ?_); have z_ex := True.intro; refine WpM.regPE [] [(4, _)] (by (refine s_o [(0, _)] rfl rfl rfl z_su rfl q_move z_fp z_ss ?_; refine s_o [(3, _)] rfl rfl rfl z_su rfl q_move z_fp z_ss ?_; refine s_at (callOf_eq rfl rfl rfl (mlk_tmp z_lk (mlk_tmp z_lk mlk_nil))) (containsFunc65 l (busyB t) 66 [.ptr n0 0] ⟨_, [(n0, some (.box [.d (.int .i64 t.proc), .d (.int .i64 t.status), .d (.int .i64 t.frm), .d (.int .i64 t.to), .d (.sl (t.ops.map encOp))]))], H⟩ hl (fun x _ S' h => busy66 t x n0 S' (h _ _ (by simp [go_sem]))) (by kernel_rfl)) rfl rfl z_ip z_fp ?_; refine s_o [(49, _)] rfl rfl rfl z_su rfl q_unOp z_fp z_ss ?_; refine s_o [(50, _)] rfl rfl rfl z_su rfl q_move z_fp z_ss ?_; exact wpS_nil ⟨rfl, rfl⟩)) z_su ?_; clear z_ex)
          refine WpM.ret ?_
          exact ⟨.inr rfl, Upd.done ⟨_, (by (simp (maxSteps := 2000000) (disch := omega) [go_sem, -List.map_map, resV, resVs, resV1])), rfl, fun m k _ hk => by have := hH _ _ hk; (simp (maxSteps := 2000000) (disch := omega) [go_sem, -List.map_map, hk])⟩⟩
theorem last_lt {l : List TxnD} {i : Nat} (h : i < l.length) : (l.take i).getLast? = if i = 0 then none else l[i - 1]? := by
  rw [List.getLast?_eq_getElem?]
  have hl : (l.take i).length = i := by simp; omega
  rw [hl]
  by_cases h0 : i = 0
  · simp [h0]
  · rw [if_neg h0, List.getElem?_take, if_pos (by omega)]
set_option maxHeartbeats 8000000 in
theorem placed56 (l : List TxnD) (hl : l.length ≤ 140737488351232) (i : Nat) (hi : i < l.length) : PureC Try.prog 56 [.d (.sl (l.map encTxn)), .d (.int .i64 i)] (.d (.bool (placedB (l.take i) l[i]))) := by
  intro S
  refine CallM.pure' (by rfl) (CallM.start (n := 90) Try.func56 rfl rfl (by simp) (by simp only [argL, Nat.reduceAdd] <;> rfl) ?_)
  intro hH
  obtain ⟨H, hHe⟩ : ∃ H, H = S.get := ⟨_, rfl⟩
  obtain ⟨n0, hne⟩ : ∃ n0, n0 = S.next := ⟨_, rfl⟩
  rw [← hHe, ← hne] at hH ⊢
  have hlast := last_lt hi
  obtain ⟨t, ht⟩ : ∃ t, t = l[i] := ⟨_, rfl⟩
  have hget : (l.map encTxn)[i]? = some (encTxn t) := by simp [hi, ht]
  rw [← ht]
  ((repeat refine WpM.seq ?_); have z_ex := True.intro; refine WpM.regPE [] [(0, _), (1, _)] (by (refine s_o [] rfl rfl rfl z_su rfl q_move z_fp z_ss ?_; exact wpS_nil ⟨rfl, rfl⟩)) z_su ?_; clear z_ex)
  ((repeat refine WpM.seq ?_); have z_ex := (And.intro @hget (And.intro @hi (And.intro @encTxn.eq_1 True.intro))); refine WpM.regPE [] [(0, _), (1, _), (5, _)] (by (refine s_o [(0, _)] rfl rfl rfl z_su rfl q_move z_fp z_ss ?_; refine s_o [(1, _)] rfl rfl rfl z_su rfl q_move z_fp z_ss ?_; refine s_o [(7, _), (8, _)] rfl rfl rfl z_su rfl q_full z_fp z_ss ?_; refine s_o [(9, _)] rfl rfl rfl z_su rfl q_load z_fp z_ss ?_; refine s_o [] rfl rfl rfl z_su rfl q_alloc z_fp z_ss ?_; refine s_o [(5, _), (10, _)] rfl rfl rfl z_su rfl q_store z_fp z_ss ?_; exact wpS_nil ⟨rfl, rfl⟩)) z_su ?_; clear z_ex)
  by_cases hbad : ¬ (statOk t ∧ 0 ≤ t.frm)
  · have hr : placedB (l.take i) t = false := by
      by_cases h0 : 0 ≤ t.frm
      · exact placedB_no fun h => hbad ⟨h, h0⟩
      · exact placedB_neg (by omega)
    rw [hr]
    have fin : ∀ {c1 c2 c3 c4 : Prop}, c1 → c1 := fun h => h
    have hcase : t.status < 1 ∨ (¬ t.status < 1 ∧ 3 < t.status) ∨ (¬ t.status < 1 ∧ t.status ≤ 3 ∧ t.frm < 0) ∨ (¬ t.status < 1 ∧ t.status ≤ 3 ∧ ¬ t.frm < 0 ∧ ¬ t.to = -1 ∧ t.to ≤ t.frm) ∨ (¬ t.status < 1 ∧ t.status ≤ 3 ∧ ¬ t.frm < 0 ∧ t.to = -1 ∧ ¬ t.status = 3) := by
      unfold statOk at hbad
      by_cases h1 : t.status < 1
      · exact .inl h1
      · by_cases h2 : 3 < t.status
        · exact .inr (.inl ⟨h1, h2⟩)
        · by_cases h3 : t.frm < 0
          · exact .inr (.inr (.inl ⟨h1, by omega, h3⟩))
          · by_cases h4 : t.to = -1
            · by_cases h5 : t.status = 3
              · exact absurd ⟨⟨by omega, by omega, fun _ => ⟨fun _ => h5, fun h => absurd h4 h⟩⟩, by omega⟩ hbad
              · exact .inr (.inr (.inr (.inr ⟨h1, by omega, h3, h4, h5⟩)))
            · by_cases h5 : t.to ≤ t.frm
              · exact .inr (.inr (.inr (.inl ⟨h1, by omega, h3, h4, h5⟩)))
              · exact absurd ⟨⟨by omega, by omega, fun _ => ⟨fun h => absurd h h4, fun _ => by omega⟩⟩, by omega⟩ hbad
    rcases hcase with h1 | ⟨h1, h2⟩ | ⟨h1, h2, h3⟩ | ⟨h1, h2, h3, h4, h5⟩ | ⟨h1, h2, h3, h4, h5⟩
    · ((repeat refine WpM.seq ?_); have z_ex := (And.intro @h1 True.intro); refine WpM.regPE [] [(0, _), (1, _), (5, _), (45, _)] (by (refine s_o [(5, _)] rfl rfl rfl z_su rfl q_fieldAddr z_fp z_ss ?_; refine s_o [(11, _)] rfl rfl rfl z_su rfl q_load z_fp z_ss ?_; refine s_o [(12, _)] rfl rfl rfl z_su rfl q_full z_fp z_ss ?_; refine s_o [(13, _)] rfl rfl rfl z_su rfl q_move z_fp z_ss ?_; refine s_wit ?_; intro z_g; (first | refine s_skip rfl z_g z_fp ?_ | (refine s_o [(5, _)] rfl z_g rfl z_su rfl q_fieldAddr z_fp z_ss ?_)); clear z_g; refine s_wit ?_; intro z_g; (first | refine s_skip rfl z_g z_fp ?_ | (refine s_o [(15, _)] rfl z_g rfl z_su rfl q_load z_fp z_ss ?_)); clear z_g; refine s_wit ?_; intro z_g; (first | refine s_skip rfl z_g z_fp ?_ | (refine s_o [(16, _)] rfl z_g rfl z_su rfl q_full z_fp z_ss ?_)); clear z_g; refine s_o [(14, _), (17, _)] rfl rfl rfl z_su rfl q_move z_fp z_ss ?_; refine s_o [(18, _)] rfl rfl rfl z_su rfl q_move z_fp z_ss ?_; refine s_wit ?_; intro z_g; (first | refine s_skip rfl z_g z_fp ?_ | (refine s_o [(5, _)] rfl z_g rfl z_su rfl q_fieldAddr z_fp z_ss ?_)); clear z_g; refine s_wit ?_; intro z_g; (first | refine s_skip rfl z_g z_fp ?_ | (refine s_o [(20, _)] rfl z_g rfl z_su rfl q_load z_fp z_ss ?_)); clear z_g; refine s_wit ?_; intro z_g; (first | refine s_skip rfl z_g z_fp ?_ | (refine s_o [(21, _)] rfl z_g rfl z_su rfl q_full z_fp z_ss ?_)); clear z_g; refine s_o [(19, _), (22, _)] rfl rfl rfl z_su rfl q_move z_fp z_ss ?_; refine s_o [(23, _)] rfl rfl rfl z_su rfl q_move z_fp z_ss ?_; refine s_wit ?_; intro z_g; (first | refine s_skip rfl z_g z_fp ?_ | (refine s_o [(5, _)] rfl z_g rfl z_su rfl q_fieldAddr z_fp z_ss ?_)); clear z_g; refine s_wit ?_; intro z_g; (first | refine s_skip rfl z_g z_fp ?_ | (refine s_o [(25, _)] rfl z_g rfl z_su rfl q_load z_fp z_ss ?_)); clear z_g; refine s_wit ?_; intro z_g; (first | refine s_skip rfl z_g z_fp ?_ | (refine s_o [(26, _)] rfl z_g rfl z_su rfl q_full z_fp z_ss ?_)); clear z_g; refine s_wit ?_; intro z_g; (first | refine s_skip rfl z_g z_fp ?_ | (refine s_o [(27, _)] rfl z_g rfl z_su rfl q_move z_fp z_ss ?_)); clear z_g; refine s_wit ?_; intro z_g; (first | refine s_skip rfl z_g z_fp ?_ | (refine s_o [(5, _)] rfl z_g rfl z_su rfl q_fieldAddr z_fp z_ss ?_)); clear z_g; refine s_wit ?_; intro z_g; (first | refine s_skip rfl z_g z_fp ?_ | (refine s_o [(29, _)] rfl z_g rfl z_su rfl q_load z_fp z_ss ?_)); clear z_g; refine s_wit ?_; intro z_g; (first | refine s_skip rfl z_g z_fp ?_ | (refine s_o [(5, _)] rfl z_g rfl z_su rfl q_fieldAddr z_fp z_ss ?_)); clear z_g; refine s_wit ?_; intro z_g; (first | refine s_skip rfl z_g z_fp ?_ | (refine s_o [(31, _)] rfl z_g rfl z_su rfl q_load z_fp z_ss ?_)); clear z_g; refine s_wit ?_; intro z_g; (first | refine s_skip rfl z_g z_fp ?_ | (refine s_o [(30, _), (32, _)] rfl z_g rfl z_su rfl q_full z_fp z_ss ?_)); clear z_g; refine s_wit ?_; intro z_g; (first | refine s_skip rfl z_g z_fp ?_ | (refine s_o [(28, _), (33, _)] rfl z_g rfl z_su rfl q_move z_fp z_ss ?_)); clear z_g; refine s_o [(24, _), (34, _)] rfl rfl rfl z_su rfl q_move z_fp z_ss ?_; refine s_o [(35, _)] rfl rfl rfl z_su rfl q_move z_fp z_ss ?_; refine s_wit ?_; intro z_g; (first | refine s_skip rfl z_g z_fp ?_ | (refine s_o [(5, _)] rfl z_g rfl z_su rfl q_fieldAddr z_fp z_ss ?_)); clear z_g; refine s_wit ?_; intro z_g; (first | refine s_skip rfl z_g z_fp ?_ | (refine s_o [(37, _)] rfl z_g rfl z_su rfl q_load z_fp z_ss ?_)); clear z_g; refine s_wit ?_; intro z_g; (first | refine s_skip rfl z_g z_fp ?_ | (refine s_o [(38, _)] rfl z_g rfl z_su rfl q_full z_fp z_ss ?_)); clear z_g; refine s_wit ?_; intro z_g; (first | refine s_skip rfl z_g z_fp ?_ | (refine s_o [(39, _)] rfl z_g rfl z_su rfl q_move z_fp z_ss ?_)); clear z_g; refine s_wit ?_; intro z_g; (first | refine s_skip rfl z_g z_fp ?_ | (refine s_o [(5, _)] rfl z_g rfl z_su rfl q_fieldAddr z_fp z_ss ?_)); clear z_g; refine s_wit ?_; intro z_g; (first | refine s_skip rfl z_g z_fp ?_ | (refine s_o [(41, _)] rfl z_g rfl z_su rfl q_load z_fp z_ss ?_)); clear z_g; refine s_wit ?_; intro z_g; (first | refine s_skip rfl z_g z_fp ?_ | (refine s_o [(42, _)] rfl z_g rfl z_su rfl q_full z_fp z_ss ?_)); clear z_g; refine s_wit ?_; intro z_g; (first | refine s_skip rfl z_g z_fp ?_ | (refine s_o [(40, _), (43, _)] rfl z_g rfl z_su rfl q_move z_fp z_ss ?_)); clear z_g; refine s_o [(36, _), (44, _)] rfl rfl rfl z_su rfl q_move z_fp z_ss ?_; exact wpS_nil ⟨rfl, rfl⟩)) z_su ?_; clear z_ex)
      ((repeat refine WpM.seq ?_); refine WpM.condT (by (simp (maxSteps := 2000000) (disch := omega) [go_sem, -List.map_map, h1])) ?_)
      ((repeat refine WpM.seq ?_); have z_ex := True.intro; refine WpM.regPE [] [(4, _)] (by (refine s_o [] rfl rfl rfl z_su rfl q_move z_fp z_ss ?_; exact wpS_nil ⟨rfl, rfl⟩)) z_su ?_; clear z_ex)
      refine WpM.ret ?_
      exact ⟨.inr rfl, Upd.done ⟨_, (by (simp (maxSteps := 2000000) (disch := omega) [go_sem, -List.map_map, resV, resVs, resV1])), rfl, fun m k _ hk => by have := hH _ _ hk; (simp (maxSteps := 2000000) (disch := omega) [go_sem, -List.map_map, hk])⟩⟩
    · have h2' : ¬ t.status ≤ 3 := by omega
      ((repeat refine WpM.seq ?_); have z_ex := (And.intro @h1 (And.intro @h2 (And.intro @h2' True.intro))); refine WpM.regPE [] [(0, _), (1, _), (5, _), (45, _)] (by (refine s_o [(5, _)] rfl rfl rfl z_su rfl q_fieldAddr z_fp z_ss ?_; refine s_o [(11, _)] rfl rfl rfl z_su rfl q_load z_fp z_ss ?_; refine s_o [(12, _)] rfl rfl rfl z_su rfl q_full z_fp z_ss ?_; refine s_o [(13, _)] rfl rfl rfl z_su rfl q_move z_fp z_ss ?_; refine s_wit ?_; intro z_g; (first | refine s_skip rfl z_g z_fp ?_ | (refine s_o [(5, _)] rfl z_g rfl z_su rfl q_fieldAddr z_fp z_ss ?_)); clear z_g; refine s_wit ?_; intro z_g; (first | refine s_skip rfl z_g z_fp ?_ | (refine s_o [(15, _)] rfl z_g rfl z_su rfl q_load z_fp z_ss ?_)); clear z_g; refine s_wit ?_; intro z_g; (first | refine s_skip rfl z_g z_fp ?_ | (refine s_o [(16, _)] rfl z_g rfl z_su rfl q_full z_fp z_ss ?_)); clear z_g; refine s_o [(14, _), (17, _)] rfl rfl rfl z_su rfl q_move z_fp z_ss ?_; refine s_o [(18, _)] rfl rfl rfl z_su rfl q_move z_fp z_ss ?_; refine s_wit ?_; intro z_g; (first | refine s_skip rfl z_g z_fp ?_ | (refine s_o [(5, _)] rfl z_g rfl z_su rfl q_fieldAddr z_fp z_ss ?_)); clear z_g; refine s_wit ?_; intro z_g; (first | refine s_skip rfl z_g z_fp ?_ | (refine s_o [(20, _)] rfl z_g rfl z_su rfl q_load z_fp z_ss ?_)); clear z_g; refine s_wit ?_; intro z_g; (first | refine s_skip rfl z_g z_fp ?_ | (refine s_o [(21, _)] rfl z_g rfl z_su rfl q_full z_fp z_ss ?_)); clear z_g; refine s_o [(19, _), (22, _)] rfl rfl rfl z_su rfl q_move z_fp z_ss ?_; refine s_o [(23, _)] rfl rfl rfl z_su rfl q_move z_fp z_ss ?_; refine s_wit ?_; intro z_g; (first | refine s_skip rfl z_g z_fp ?_ | (refine s_o [(5, _)] rfl z_g rfl z_su rfl q_fieldAddr z_fp z_ss ?_)); clear z_g; refine s_wit ?_; intro z_g; (first | refine s_skip rfl z_g z_fp ?_ | (refine s_o [(25, _)] rfl z_g rfl z_su rfl q_load z_fp z_ss ?_)); clear z_g; refine s_wit ?_; intro z_g; (first | refine s_skip rfl z_g z_fp ?_ | (refine s_o [(26, _)] rfl z_g rfl z_su rfl q_full z_fp z_ss ?_)); clear z_g; refine s_wit ?_; intro z_g; (first | refine s_skip rfl z_g z_fp ?_ | (refine s_o [(27, _)] rfl z_g rfl z_su rfl q_move z_fp z_ss ?_)); clear z_g; refine s_wit ?_; intro z_g; (first | refine s_skip rfl z_g z_fp ?_ | (refine s_o [(5, _)] rfl z_g rfl z_su rfl q_fieldAddr z_fp z_ss ?_)); clear z_g; refine s_wit ?_; intro z_g; (first | refine s_skip rfl z_g z_fp ?_ | (refine s_o [(29, _)] rfl z_g rfl z_su rfl q_load z_fp z_ss ?_)); clear z_g; refine s_wit ?_; intro z_g; (first | refine s_skip rfl z_g z_fp ?_ | (refine s_o [(5, _)] rfl z_g rfl z_su rfl q_fieldAddr z_fp z_ss ?_)); clear z_g; refine s_wit ?_; intro z_g; (first | refine s_skip rfl z_g z_fp ?_ | (refine s_o [(31, _)] rfl z_g rfl z_su rfl q_load z_fp z_ss ?_)); clear z_g; refine s_wit ?_; intro z_g; (first | refine s_skip rfl z_g z_fp ?_ | (refine s_o [(30, _), (32, _)] rfl z_g rfl z_su rfl q_full z_fp z_ss ?_)); clear z_g; refine s_wit ?_; intro z_g; (first | refine s_skip rfl z_g z_fp ?_ | (refine s_o [(28, _), (33, _)] rfl z_g rfl z_su rfl q_move z_fp z_ss ?_)); clear z_g; refine s_o [(24, _), (34, _)] rfl rfl rfl z_su rfl q_move z_fp z_ss ?_; refine s_o [(35, _)] rfl rfl rfl z_su rfl q_move z_fp z_ss ?_; refine s_wit ?_; intro z_g; (first | refine s_skip rfl z_g z_fp ?_ | (refine s_o [(5, _)] rfl z_g rfl z_su rfl q_fieldAddr z_fp z_ss ?_)); clear z_g; refine s_wit ?_; intro z_g; (first | refine s_skip rfl z_g z_fp ?_ | (refine s_o [(37, _)] rfl z_g rfl z_su rfl q_load z_fp z_ss ?_)); clear z_g; refine s_wit ?_; intro z_g; (first | refine s_skip rfl z_g z_fp ?_ | (refine s_o [(38, _)] rfl z_g rfl z_su rfl q_full z_fp z_ss ?_)); clear z_g; refine s_wit ?_; intro z_g; (first | refine s_skip rfl z_g z_fp ?_ | (refine s_o [(39, _)] rfl z_g rfl z_su rfl q_move z_fp z_ss ?_)); clear z_g; refine s_wit ?_; intro z_g; (first | refine s_skip rfl z_g z_fp ?_ | (refine s_o [(5, _)] rfl z_g rfl z_su rfl q_fieldAddr z_fp z_ss ?_)); clear z_g; refine s_wit ?_; intro z_g; (first | refine s_skip rfl z_g z_fp ?_ | (refine s_o [(41, _)] rfl z_g rfl z_su rfl q_load z_fp z_ss ?_)); clear z_g; refine s_wit ?_; intro z_g; (first | refine s_skip rfl z_g z_fp ?_ | (refine s_o [(42, _)] rfl z_g rfl z_su rfl q_full z_fp z_ss ?_)); clear z_g; refine s_wit ?_; intro z_g; (first | refine s_skip rfl z_g z_fp ?_ | (refine s_o [(40, _), (43, _)] rfl z_g rfl z_su rfl q_move z_fp z_ss ?_)); clear z_g; refine s_o [(36, _), (44, _)] rfl rfl rfl z_su rfl q_move z_fp z_ss ?_; exact wpS_nil ⟨rfl, rfl⟩)) z_su ?_; clear z_ex)
      ((repeat refine WpM.seq ?_); refine WpM.condT (by (simp (maxSteps := 2000000) (disch := omega) [go_sem, -List.map_map, h1, h2, h2'])) ?_)
      ((repeat refine WpM.seq ?_); have z_ex := True.intro; refine WpM.regPE [] [(4, _)] (by (refine s_o [] rfl rfl rfl z_su rfl q_move z_fp z_ss ?_; exact wpS_nil ⟨rfl, rfl⟩)) z_su ?_; clear z_ex)
      refine WpM.ret ?_
      exact ⟨.inr rfl, Upd.done ⟨_, (by (simp (maxSteps := 2000000) (disch := omega) [go_sem, -List.map_map, resV, resVs, resV1])), rfl, fun m k _ hk => by have := hH _ _ hk; (simp (maxSteps := 2000000) (disch := omega) [go_sem, -List.map_map, hk])⟩⟩
    · have h2' : ¬ 3 < t.status := by omega
      ((repeat refine WpM.seq ?_); have z_ex := (And.intro @h1 (And.intro @h2 (And.intro @h2' (And.intro @h3 True.intro)))); refine WpM.regPE [] [(0, _), (1, _), (5, _), (45, _)] (by (refine s_o [(5, _)] rfl rfl rfl z_su rfl q_fieldAddr z_fp z_ss ?_; refine s_o [(11, _)] rfl rfl rfl z_su rfl q_load z_fp z_ss ?_; refine s_o [(12, _)] rfl rfl rfl z_su rfl q_full z_fp z_ss ?_; refine s_o [(13, _)] rfl rfl rfl z_su rfl q_move z_fp z_ss ?_; refine s_wit ?_; intro z_g; (first | refine s_skip rfl z_g z_fp ?_ | (refine s_o [(5, _)] rfl z_g rfl z_su rfl q_fieldAddr z_fp z_ss ?_)); clear z_g; refine s_wit ?_; intro z_g; (first | refine s_skip rfl z_g z_fp ?_ | (refine s_o [(15, _)] rfl z_g rfl z_su rfl q_load z_fp z_ss ?_)); clear z_g; refine s_wit ?_; intro z_g; (first | refine s_skip rfl z_g z_fp ?_ | (refine s_o [(16, _)] rfl z_g rfl z_su rfl q_full z_fp z_ss ?_)); clear z_g; refine s_o [(14, _), (17, _)] rfl rfl rfl z_su rfl q_move z_fp z_ss ?_; refine s_o [(18, _)] rfl rfl rfl z_su rfl q_move z_fp z_ss ?_; refine s_wit ?_; intro z_g; (first | refine s_skip rfl z_g z_fp ?_ | (refine s_o [(5, _)] rfl z_g rfl z_su rfl q_fieldAddr z_fp z_ss ?_)); clear z_g; refine s_wit ?_; intro z_g; (first | refine s_skip rfl z_g z_fp ?_ | (refine s_o [(20, _)] rfl z_g rfl z_su rfl q_load z_fp z_ss ?_)); clear z_g; refine s_wit ?_; intro z_g; (first | refine s_skip rfl z_g z_fp ?_ | (refine s_o [(21, _)] rfl z_g rfl z_su rfl q_full z_fp z_ss ?_)); clear z_g; refine s_o [(19, _), (22, _)] rfl rfl rfl z_su rfl q_move z_fp z_ss ?_; refine s_o [(23, _)] rfl rfl rfl z_su rfl q_move z_fp z_ss ?_; refine s_wit ?_; intro z_g; (first | refine s_skip rfl z_g z_fp ?_ | (refine s_o [(5, _)] rfl z_g rfl z_su rfl q_fieldAddr z_fp z_ss ?_)); clear z_g; refine s_wit ?_; intro z_g; (first | refine s_skip rfl z_g z_fp ?_ | (refine s_o [(25, _)] rfl z_g rfl z_su rfl q_load z_fp z_ss ?_)); clear z_g; refine s_wit ?_; intro z_g; (first | refine s_skip rfl z_g z_fp ?_ | (refine s_o [(26, _)] rfl z_g rfl z_su rfl q_full z_fp z_ss ?_)); clear z_g; refine s_wit ?_; intro z_g; (first | refine s_skip rfl z_g z_fp ?_ | (refine s_o [(27, _)] rfl z_g rfl z_su rfl q_move z_fp z_ss ?_)); clear z_g; refine s_wit ?_; intro z_g; (first | refine s_skip rfl z_g z_fp ?_ | (refine s_o [(5, _)] rfl z_g rfl z_su rfl q_fieldAddr z_fp z_ss ?_)); clear z_g; refine s_wit ?_; intro z_g; (first | refine s_skip rfl z_g z_fp ?_ | (refine s_o [(29, _)] rfl z_g rfl z_su rfl q_load z_fp z_ss ?_)); clear z_g; refine s_wit ?_; intro z_g; (first | refine s_skip rfl z_g z_fp ?_ | (refine s_o [(5, _)] rfl z_g rfl z_su rfl q_fieldAddr z_fp z_ss ?_)); clear z_g; refine s_wit ?_; intro z_g; (first | refine s_skip rfl z_g z_fp ?_ | (refine s_o [(31, _)] rfl z_g rfl z_su rfl q_load z_fp z_ss ?_)); clear z_g; refine s_wit ?_; intro z_g; (first | refine s_skip rfl z_g z_fp ?_ | (refine s_o [(30, _), (32, _)] rfl z_g rfl z_su rfl q_full z_fp z_ss ?_)); clear z_g; refine s_wit ?_; intro z_g; (first | refine s_skip rfl z_g z_fp ?_ | (refine s_o [(28, _), (33, _)] rfl z_g rfl z_su rfl q_move z_fp z_ss ?_)); clear z_g; refine s_o [(24, _), (34, _)] rfl rfl rfl z_su rfl q_move z_fp z_ss ?_; refine s_o [(35, _)] rfl rfl rfl z_su rfl q_move z_fp z_ss ?_; refine s_wit ?_; intro z_g; (first | refine s_skip rfl z_g z_fp ?_ | (refine s_o [(5, _)] rfl z_g rfl z_su rfl q_fieldAddr z_fp z_ss ?_)); clear z_g; refine s_wit ?_; intro z_g; (first | refine s_skip rfl z_g z_fp ?_ | (refine s_o [(37, _)] rfl z_g rfl z_su rfl q_load z_fp z_ss ?_)); clear z_g; refine s_wit ?_; intro z_g; (first | refine s_skip rfl z_g z_fp ?_ | (refine s_o [(38, _)] rfl z_g rfl z_su rfl q_full z_fp z_ss ?_)); clear z_g; refine s_wit ?_; intro z_g; (first | refine s_skip rfl z_g z_fp ?_ | (refine s_o [(39, _)] rfl z_g rfl z_su rfl q_move z_fp z_ss ?_)); clear z_g; refine s_wit ?_; intro z_g; (first | refine s_skip rfl z_g z_fp ?_ | (refine s_o [(5, _)] rfl z_g rfl z_su rfl q_fieldAddr z_fp z_ss ?_)); clear z_g; refine s_wit ?_; intro z_g; (first | refine s_skip rfl z_g z_fp ?_ | (refine s_o [(41, _)] rfl z_g rfl z_su rfl q_load z_fp z_ss ?_)); clear z_g; refine s_wit ?_; intro z_g; (first | refine s_skip rfl z_g z_fp ?_ | (refine s_o [(42, _)] rfl z_g rfl z_su rfl q_full z_fp z_ss ?_)); clear z_g; refine s_wit ?_; intro z_g; (first | refine s_skip rfl z_g z_fp ?_ | (refine s_o [(40, _), (43, _)] rfl z_g rfl z_su rfl q_move z_fp z_ss ?_)); clear z_g; refine s_o [(36, _), (44, _)] rfl rfl rfl z_su rfl q_move z_fp z_ss ?_; exact wpS_nil ⟨rfl, rfl⟩)) z_su ?_; clear z_ex)
      ((repeat refine WpM.seq ?_); refine WpM.condT (by (simp (maxSteps := 2000000) (disch := omega) [go_sem, -List.map_map, h1, h2, h2', h3])) ?_)
      ((repeat refine WpM.seq ?_); have z_ex := True.intro; refine WpM.regPE [] [(4, _)] (by (refine s_o [] rfl rfl rfl z_su rfl q_move z_fp z_ss ?_; exact wpS_nil ⟨rfl, rfl⟩)) z_su ?_; clear z_ex)
      refine WpM.ret ?_
      exact ⟨.inr rfl, Upd.done ⟨_, (by (simp (maxSteps := 2000000) (disch := omega) [go_sem, -List.map_map, resV, resVs, resV1])), rfl, fun m k _ hk => by have := hH _ _ hk; (simp (maxSteps := 2000000) (disch := omega) [go_sem, -List.map_map, hk])⟩⟩
    · have h2' : ¬ 3 < t.status := by omega
      ((repeat refine WpM.seq ?_); have z_ex := (And.intro @h1 (And.intro @h2 (And.intro @h2' (And.intro @h3 (And.intro @h4 (And.intro @h5 True.intro)))))); refine WpM.regPE [] [(0, _), (1, _), (5, _), (45, _)] (by (refine s_o [(5, _)] rfl rfl rfl z_su rfl q_fieldAddr z_fp z_ss ?_; refine s_o [(11, _)] rfl rfl rfl z_su rfl q_load z_fp z_ss ?_; refine s_o [(12, _)] rfl rfl rfl z_su rfl q_full z_fp z_ss ?_; refine s_o [(13, _)] rfl rfl rfl z_su rfl q_move z_fp z_ss ?_; refine s_wit ?_; intro z_g; (first | refine s_skip rfl z_g z_fp ?_ | (refine s_o [(5, _)] rfl z_g rfl z_su rfl q_fieldAddr z_fp z_ss ?_)); clear z_g; refine s_wit ?_; intro z_g; (first | refine s_skip rfl z_g z_fp ?_ | (refine s_o [(15, _)] rfl z_g rfl z_su rfl q_load z_fp z_ss ?_)); clear z_g; refine s_wit ?_; intro z_g; (first | refine s_skip rfl z_g z_fp ?_ | (refine s_o [(16, _)] rfl z_g rfl z_su rfl q_full z_fp z_ss ?_)); clear z_g; refine s_o [(14, _), (17, _)] rfl rfl rfl z_su rfl q_move z_fp z_ss ?_; refine s_o [(18, _)] rfl rfl rfl z_su rfl q_move z_fp z_ss ?_; refine s_wit ?_; intro z_g; (first | refine s_skip rfl z_g z_fp ?_ | (refine s_o [(5, _)] rfl z_g rfl z_su rfl q_fieldAddr z_fp z_ss ?_)); clear z_g; refine s_wit ?_; intro z_g; (first | refine s_skip rfl z_g z_fp ?_ | (refine s_o [(20, _)] rfl z_g rfl z_su rfl q_load z_fp z_ss ?_)); clear z_g; refine s_wit ?_; intro z_g; (first | refine s_skip rfl z_g z_fp ?_ | (refine s_o [(21, _)] rfl z_g rfl z_su rfl q_full z_fp z_ss ?_)); clear z_g; refine s_o [(19, _), (22, _)] rfl rfl rfl z_su rfl q_move z_fp z_ss ?_; refine s_o [(23, _)] rfl rfl rfl z_su rfl q_move z_fp z_ss ?_; refine s_wit ?_; intro z_g; (first | refine s_skip rfl z_g z_fp ?_ | (refine s_o [(5, _)] rfl z_g rfl z_su rfl q_fieldAddr z_fp z_ss ?_)); clear z_g; refine s_wit ?_; intro z_g; (first | refine s_skip rfl z_g z_fp ?_ | (refine s_o [(25, _)] rfl z_g rfl z_su rfl q_load z_fp z_ss ?_)); clear z_g; refine s_wit ?_; intro z_g; (first | refine s_skip rfl z_g z_fp ?_ | (refine s_o [(26, _)] rfl z_g rfl z_su rfl q_full z_fp z_ss ?_)); clear z_g; refine s_wit ?_; intro z_g; (first | refine s_skip rfl z_g z_fp ?_ | (refine s_o [(27, _)] rfl z_g rfl z_su rfl q_move z_fp z_ss ?_)); clear z_g; refine s_wit ?_; intro z_g; (first | refine s_skip rfl z_g z_fp ?_ | (refine s_o [(5, _)] rfl z_g rfl z_su rfl q_fieldAddr z_fp z_ss ?_)); clear z_g; refine s_wit ?_; intro z_g; (first | refine s_skip rfl z_g z_fp ?_ | (refine s_o [(29, _)] rfl z_g rfl z_su rfl q_load z_fp z_ss ?_)); clear z_g; refine s_wit ?_; intro z_g; (first | refine s_skip rfl z_g z_fp ?_ | (refine s_o [(5, _)] rfl z_g rfl z_su rfl q_fieldAddr z_fp z_ss ?_)); clear z_g; refine s_wit ?_; intro z_g; (first | refine s_skip rfl z_g z_fp ?_ | (refine s_o [(31, _)] rfl z_g rfl z_su rfl q_load z_fp z_ss ?_)); clear z_g; refine s_wit ?_; intro z_g; (first | refine s_skip rfl z_g z_fp ?_ | (refine s_o [(30, _), (32, _)] rfl z_g rfl z_su rfl q_full z_fp z_ss ?_)); clear z_g; refine s_wit ?_; intro z_g; (first | refine s_skip rfl z_g z_fp ?_ | (refine s_o [(28, _), (33, _)] rfl z_g rfl z_su rfl q_move z_fp z_ss ?_)); clear z_g; refine s_o [(24, _), (34, _)] rfl rfl rfl z_su rfl q_move z_fp z_ss ?_; refine s_o [(35, _)] rfl rfl rfl z_su rfl q_move z_fp z_ss ?_; refine s_wit ?_; intro z_g; (first | refine s_skip rfl z_g z_fp ?_ | (refine s_o [(5, _)] rfl z_g rfl z_su rfl q_fieldAddr z_fp z_ss ?_)); clear z_g; refine s_wit ?_; intro z_g; (first | refine s_skip rfl z_g z_fp ?_ | (refine s_o [(37, _)] rfl z_g rfl z_su rfl q_load z_fp z_ss ?_)); clear z_g; refine s_wit ?_; intro z_g; (first | refine s_skip rfl z_g z_fp ?_ | (refine s_o [(38, _)] rfl z_g rfl z_su rfl q_full z_fp z_ss ?_)); clear z_g; refine s_wit ?_; intro z_g; (first | refine s_skip rfl z_g z_fp ?_ | (refine s_o [(39, _)] rfl z_g rfl z_su rfl q_move z_fp z_ss ?_)); clear z_g; refine s_wit ?_; intro z_g; (first | refine s_skip rfl z_g z_fp ?_ | (refine s_o [(5, _)] rfl z_g rfl z_su rfl q_fieldAddr z_fp z_ss ?_)); clear z_g; refine s_wit ?_; intro z_g; (first | refine s_skip rfl z_g z_fp ?_ | (refine s_o [(41, _)] rfl z_g rfl z_su rfl q_load z_fp z_ss ?_)); clear z_g; refine s_wit ?_; intro z_g; (first | refine s_skip rfl z_g z_fp ?_ | (refine s_o [(42, _)] rfl z_g rfl z_su rfl q_full z_fp z_ss ?_)); clear z_g; refine s_wit ?_; intro z_g; (first | refine s_skip rfl z_g z_fp ?_ | (refine s_o [(40, _), (43, _)] rfl z_g rfl z_su rfl q_move z_fp z_ss ?_)); clear z_g; refine s_o [(36, _), (44, _)] rfl rfl rfl z_su rfl q_move z_fp z_ss ?_; exact wpS_nil ⟨rfl, rfl⟩)) z_su ?_; clear z_ex)
      ((repeat refine WpM.seq ?_); refine WpM.condT (by (simp (maxSteps := 2000000) (disch := omega) [go_sem, -List.map_map, h1, h2, h2', h3, h4, h5])) ?_)
      ((repeat refine WpM.seq ?_); have z_ex := True.intro; refine WpM.regPE [] [(4, _)] (by (refine s_o [] rfl rfl rfl z_su rfl q_move z_fp z_ss ?_; exact wpS_nil ⟨rfl, rfl⟩)) z_su ?_; clear z_ex)
      refine WpM.ret ?_
      exact ⟨.inr rfl, Upd.done ⟨_, (by (simp (maxSteps := 2000000) (disch := omega) [go_sem, -List.map_map, resV, resVs, resV1])), rfl, fun m k _ hk => by have := hH _ _ hk; (simp (maxSteps := 2000000) (disch := omega) [go_sem, -List.map_map, hk])⟩⟩
    · have h2' : ¬ 3 < t.status := by omega
      have h6 : ¬ (-1 : Int) ≤ t.frm → False := fun h => by omega
      have h7 : (-1 : Int) ≤ t.frm := by omega
      ((repeat refine WpM.seq ?_); have z_ex := (And.intro @h1 (And.intro @h2 (And.intro @h2' (And.intro @h3 (And.intro @h4 (And.intro @h5 (And.intro @h7 True.intro))))))); refine WpM.regPE [] [(0, _), (1, _), (5, _), (45, _)] (by (refine s_o [(5, _)] rfl rfl rfl z_su rfl q_fieldAddr z_fp z_ss ?_; refine s_o [(11, _)] rfl rfl rfl z_su rfl q_load z_fp z_ss ?_; refine s_o [(12, _)] rfl rfl rfl z_su rfl q_full z_fp z_ss ?_; refine s_o [(13, _)] rfl rfl rfl z_su rfl q_move z_fp z_ss ?_; refine s_wit ?_; intro z_g; (first | refine s_skip rfl z_g z_fp ?_ | (refine s_o [(5, _)] rfl z_g rfl z_su rfl q_fieldAddr z_fp z_ss ?_)); clear z_g; refine s_wit ?_; intro z_g; (first | refine s_skip rfl z_g z_fp ?_ | (refine s_o [(15, _)] rfl z_g rfl z_su rfl q_load z_fp z_ss ?_)); clear z_g; refine s_wit ?_; intro z_g; (first | refine s_skip rfl z_g z_fp ?_ | (refine s_o [(16, _)] rfl z_g rfl z_su rfl q_full z_fp z_ss ?_)); clear z_g; refine s_o [(14, _), (17, _)] rfl rfl rfl z_su rfl q_move z_fp z_ss ?_; refine s_o [(18, _)] rfl rfl rfl z_su rfl q_move z_fp z_ss ?_; refine s_wit ?_; intro z_g; (first | refine s_skip rfl z_g z_fp ?_ | (refine s_o [(5, _)] rfl z_g rfl z_su rfl q_fieldAddr z_fp z_ss ?_)); clear z_g; refine s_wit ?_; intro z_g; (first | refine s_skip rfl z_g z_fp ?_ | (refine s_o [(20, _)] rfl z_g rfl z_su rfl q_load z_fp z_ss ?_)); clear z_g; refine s_wit ?_; intro z_g; (first | refine s_skip rfl z_g z_fp ?_ | (refine s_o [(21, _)] rfl z_g rfl z_su rfl q_full z_fp z_ss ?_)); clear z_g; refine s_o [(19, _), (22, _)] rfl rfl rfl z_su rfl q_move z_fp z_ss ?_; refine s_o [(23, _)] rfl rfl rfl z_su rfl q_move z_fp z_ss ?_; refine s_wit ?_; intro z_g; (first | refine s_skip rfl z_g z_fp ?_ | (refine s_o [(5, _)] rfl z_g rfl z_su rfl q_fieldAddr z_fp z_ss ?_)); clear z_g; refine s_wit ?_; intro z_g; (first | refine s_skip rfl z_g z_fp ?_ | (refine s_o [(25, _)] rfl z_g rfl z_su rfl q_load z_fp z_ss ?_)); clear z_g; refine s_wit ?_; intro z_g; (first | refine s_skip rfl z_g z_fp ?_ | (refine s_o [(26, _)] rfl z_g rfl z_su rfl q_full z_fp z_ss ?_)); clear z_g; refine s_wit ?_; intro z_g; (first | refine s_skip rfl z_g z_fp ?_ | (refine s_o [(27, _)] rfl z_g rfl z_su rfl q_move z_fp z_ss ?_)); clear z_g; refine s_wit ?_; intro z_g; (first | refine s_skip rfl z_g z_fp ?_ | (refine s_o [(5, _)] rfl z_g rfl z_su rfl q_fieldAddr z_fp z_ss ?_)); clear z_g; refine s_wit ?_; intro z_g; (first | refine s_skip rfl z_g z_fp ?_ | (refine s_o [(29, _)] rfl z_g rfl z_su rfl q_load z_fp z_ss ?_)); clear z_g; refine s_wit ?_; intro z_g; (first | refine s_skip rfl z_g z_fp ?_ | (refine s_o [(5, _)] rfl z_g rfl z_su rfl q_fieldAddr z_fp z_ss ?_)); clear z_g; refine s_wit ?_; intro z_g; (first | refine s_skip rfl z_g z_fp ?_ | (refine s_o [(31, _)] rfl z_g rfl z_su rfl q_load z_fp z_ss ?_)); clear z_g; refine s_wit ?_; intro z_g; (first | refine s_skip rfl z_g z_fp ?_ | (refine s_o [(30, _), (32, _)] rfl z_g rfl z_su rfl q_full z_fp z_ss ?_)); clear z_g; refine s_wit ?_; intro z_g; (first | refine s_skip rfl z_g z_fp ?_ | (refine s_o [(28, _), (33, _)] rfl z_g rfl z_su rfl q_move z_fp z_ss ?_)); clear z_g; refine s_o [(24, _), (34, _)] rfl rfl rfl z_su rfl q_move z_fp z_ss ?_; refine s_o [(35, _)] rfl rfl rfl z_su rfl q_move z_fp z_ss ?_; refine s_wit ?_; intro z_g; (first | refine s_skip rfl z_g z_fp ?_ | (refine s_o [(5, _)] rfl z_g rfl z_su rfl q_fieldAddr z_fp z_ss ?_)); clear z_g; refine s_wit ?_; intro z_g; (first | refine s_skip rfl z_g z_fp ?_ | (refine s_o [(37, _)] rfl z_g rfl z_su rfl q_load z_fp z_ss ?_)); clear z_g; refine s_wit ?_; intro z_g; (first | refine s_skip rfl z_g z_fp ?_ | (refine s_o [(38, _)] rfl z_g rfl z_su rfl q_full z_fp z_ss ?_)); clear z_g; refine s_wit ?_; intro z_g; (first | refine s_skip rfl z_g z_fp ?_ | (refine s_o [(39, _)] rfl z_g rfl z_su rfl q_move z_fp z_ss ?_)); clear z_g; refine s_wit ?_; intro z_g; (first | refine s_skip rfl z_g z_fp ?_ | (refine s_o [(5, _)] rfl z_g rfl z_su rfl q_fieldAddr z_fp z_ss ?_)); clear z_g; refine s_wit ?_; intro z_g; (first | refine s_skip rfl z_g z_fp ?_ | (refine s_o [(41, _)] rfl z_g rfl z_su rfl q_load z_fp z_ss ?_)); clear z_g; refine s_wit ?_; intro z_g; (first | refine s_skip rfl z_g z_fp ?_ | (refine s_o [(42, _)] rfl z_g rfl z_su rfl q_full z_fp z_ss ?_)); clear z_g; refine s_wit ?_; intro z_g; (first | refine s_skip rfl z_g z_fp ?_ | (refine s_o [(40, _), (43, _)] rfl z_g rfl z_su rfl q_move z_fp z_ss ?_)); clear z_g; refine s_o [(36, _), (44, _)] rfl rfl rfl z_su rfl q_move z_fp z_ss ?_; exact wpS_nil ⟨rfl, rfl⟩)) z_su ?_; clear z_ex)
      ((repeat refine WpM.seq ?_); refine WpM.condT (by (simp (maxSteps := 2000000) (disch := omega) [go_sem, -List.map_map, h1, h2, h2', h3, h4, h5, h7])) ?_)
      ((repeat refine WpM.seq ?_); have z_ex := True.intro; refine WpM.regPE [] [(4, _)] (by (refine s_o [] rfl rfl rfl z_su rfl q_move z_fp z_ss ?_; exact wpS_nil ⟨rfl, rfl⟩)) z_su ?_; clear z_ex)
      refine WpM.ret ?_
      exact ⟨.inr rfl, Upd.done ⟨_, (by (simp (maxSteps := 2000000) (disch := omega) [go_sem, -List.map_map, resV, resVs, resV1])), rfl, fun m k _ hk => by have := hH _ _ hk; (simp (maxSteps := 2000000) (disch := omega) [go_sem, -List.map_map, hk])⟩⟩
  · have hgood : statOk t ∧ 0 ≤ t.frm := Classical.not_not.1 hbad
    clear hbad
    obtain ⟨hst, h0⟩ := hgood
    have h1 : ¬ t.status < 1 := by have := hst.1; omega
    have h2 : ¬ 3 < t.status := by have := hst.2.1; omega
    have h2' : t.status ≤ 3 := by omega
    have h3 : ¬ t.frm < 0 := by omega
    obtain ⟨c1, c2⟩ := hst.2.2 h0
    refine WpM.seq ?_
    refine wpMid (Mid := fun (fr : Fr) (S' : St) => ∃ nx, n0 < nx ∧ ∃ nt, n0 ≤ nt ∧ nt < nx ∧ S' = ⟨nx, [(nt, some (.box [.d (.int .i64 t.proc), .d (.int .i64 t.status), .d (.int .i64 t.frm), .d (.int .i64 t.to), .d (.sl (t.ops.map encOp))]))], H⟩ ∧ FrLe fr (frOf [(0, .d (.sl (l.map encTxn))), (1, .d (.int .i64 i)), (5, .ptr nt 0)])) ?_ ?_
    · by_cases h4 : t.to = -1
      · have h5 := c1 h4
        have h7 : (-1 : Int) ≤ t.frm := by omega
        ((repeat refine WpM.seq ?_); have z_ex := (And.intro @h1 (And.intro @h2 (And.intro @h2' (And.intro @h3 (And.intro @h4 (And.intro @h5 (And.intro @h7 True.intro))))))); refine WpM.regPE [] [(0, _), (1, _), (5, _), (45, _)] (by (refine s_o [(5, _)] rfl rfl rfl z_su rfl q_fieldAddr z_fp z_ss ?_; refine s_o [(11, _)] rfl rfl rfl z_su rfl q_load z_fp z_ss ?_; refine s_o [(12, _)] rfl rfl rfl z_su rfl q_full z_fp z_ss ?_; refine s_o [(13, _)] rfl rfl rfl z_su rfl q_move z_fp z_ss ?_; refine s_wit ?_; intro z_g; (first | refine s_skip rfl z_g z_fp ?_ | (refine s_o [(5, _)] rfl z_g rfl z_su rfl q_fieldAddr z_fp z_ss ?_)); clear z_g; refine s_wit ?_; intro z_g; (first | refine s_skip rfl z_g z_fp ?_ | (refine s_o [(15, _)] rfl z_g rfl z_su rfl q_load z_fp z_ss ?_)); clear z_g; refine s_wit ?_; intro z_g; (first | refine s_skip rfl z_g z_fp ?_ | (refine s_o [(16, _)] rfl z_g rfl z_su rfl q_full z_fp z_ss ?_)); clear z_g; refine s_o [(14, _), (17, _)] rfl rfl rfl z_su rfl q_move z_fp z_ss ?_; refine s_o [(18, _)] rfl rfl rfl z_su rfl q_move z_fp z_ss ?_; refine s_wit ?_; intro z_g; (first | refine s_skip rfl z_g z_fp ?_ | (refine s_o [(5, _)] rfl z_g rfl z_su rfl q_fieldAddr z_fp z_ss ?_)); clear z_g; refine s_wit ?_; intro z_g; (first | refine s_skip rfl z_g z_fp ?_ | (refine s_o [(20, _)] rfl z_g rfl z_su rfl q_load z_fp z_ss ?_)); clear z_g; refine s_wit ?_; intro z_g; (first | refine s_skip rfl z_g z_fp ?_ | (refine s_o [(21, _)] rfl z_g rfl z_su rfl q_full z_fp z_ss ?_)); clear z_g; refine s_o [(19, _), (22, _)] rfl rfl rfl z_su rfl q_move z_fp z_ss ?_; refine s_o [(23, _)] rfl rfl rfl z_su rfl q_move z_fp z_ss ?_; refine s_wit ?_; intro z_g; (first | refine s_skip rfl z_g z_fp ?_ | (refine s_o [(5, _)] rfl z_g rfl z_su rfl q_fieldAddr z_fp z_ss ?_)); clear z_g; refine s_wit ?_; intro z_g; (first | refine s_skip rfl z_g z_fp ?_ | (refine s_o [(25, _)] rfl z_g rfl z_su rfl q_load z_fp z_ss ?_)); clear z_g; refine s_wit ?_; intro z_g; (first | refine s_skip rfl z_g z_fp ?_ | (refine s_o [(26, _)] rfl z_g rfl z_su rfl q_full z_fp z_ss ?_)); clear z_g; refine s_wit ?_; intro z_g; (first | refine s_skip rfl z_g z_fp ?_ | (refine s_o [(27, _)] rfl z_g rfl z_su rfl q_move z_fp z_ss ?_)); clear z_g; refine s_wit ?_; intro z_g; (first | refine s_skip rfl z_g z_fp ?_ | (refine s_o [(5, _)] rfl z_g rfl z_su rfl q_fieldAddr z_fp z_ss ?_)); clear z_g; refine s_wit ?_; intro z_g; (first | refine s_skip rfl z_g z_fp ?_ | (refine s_o [(29, _)] rfl z_g rfl z_su rfl q_load z_fp z_ss ?_)); clear z_g; refine s_wit ?_; intro z_g; (first | refine s_skip rfl z_g z_fp ?_ | (refine s_o [(5, _)] rfl z_g rfl z_su rfl q_fieldAddr z_fp z_ss ?_)); clear z_g; refine s_wit ?_; intro z_g; (first | refine s_skip rfl z_g z_fp ?_ | (refine s_o [(31, _)] rfl z_g rfl z_su rfl q_load z_fp z_ss ?_)); clear z_g; refine s_wit ?_; intro z_g; (first | refine s_skip rfl z_g z_fp ?_ | (refine s_o [(30, _), (32, _)] rfl z_g rfl z_su rfl q_full z_fp z_ss ?_)); clear z_g; refine s_wit ?_; intro z_g; (first | refine s_skip rfl z_g z_fp ?_ | (refine s_o [(28, _), (33, _)] rfl z_g rfl z_su rfl q_move z_fp z_ss ?_)); clear z_g; refine s_o [(24, _), (34, _)] rfl rfl rfl z_su rfl q_move z_fp z_ss ?_; refine s_o [(35, _)] rfl rfl rfl z_su rfl q_move z_fp z_ss ?_; refine s_wit ?_; intro z_g; (first | refine s_skip rfl z_g z_fp ?_ | (refine s_o [(5, _)] rfl z_g rfl z_su rfl q_fieldAddr z_fp z_ss ?_)); clear z_g; refine s_wit ?_; intro z_g; (first | refine s_skip rfl z_g z_fp ?_ | (refine s_o [(37, _)] rfl z_g rfl z_su rfl q_load z_fp z_ss ?_)); clear z_g; refine s_wit ?_; intro z_g; (first | refine s_skip rfl z_g z_fp ?_ | (refine s_o [(38, _)] rfl z_g rfl z_su rfl q_full z_fp z_ss ?_)); clear z_g; refine s_wit ?_; intro z_g; (first | refine s_skip rfl z_g z_fp ?_ | (refine s_o [(39, _)] rfl z_g rfl z_su rfl q_move z_fp z_ss ?_)); clear z_g; refine s_wit ?_; intro z_g; (first | refine s_skip rfl z_g z_fp ?_ | (refine s_o [(5, _)] rfl z_g rfl z_su rfl q_fieldAddr z_fp z_ss ?_)); clear z_g; refine s_wit ?_; intro z_g; (first | refine s_skip rfl z_g z_fp ?_ | (refine s_o [(41, _)] rfl z_g rfl z_su rfl q_load z_fp z_ss ?_)); clear z_g; refine s_wit ?_; intro z_g; (first | refine s_skip rfl z_g z_fp ?_ | (refine s_o [(42, _)] rfl z_g rfl z_su rfl q_full z_fp z_ss ?_)); clear z_g; refine s_wit ?_; intro z_g; (first | refine s_skip rfl z_g z_fp ?_ | (refine s_o [(40, _), (43, _)] rfl z_g rfl z_su rfl q_move z_fp z_ss ?_)); clear z_g; refine s_o [(36, _), (44, _)] rfl rfl rfl z_su rfl q_move z_fp z_ss ?_; exact wpS_nil ⟨rfl, rfl⟩)) z_su ?_; clear z_ex)
        ((repeat refine WpM.seq ?_); refine WpM.condF (by (simp (maxSteps := 2000000) (disch := omega) [go_sem, -List.map_map, h1, h2, h2', h3, h4, h5, h7])) ?_)
        refine WpM.skip ?_
        exact ⟨_, (by show n0 < n0 + _; omega), n0 + 5, (by omega), (by show _ < n0 + _; omega), rfl, frLe_frOf (by (simp (maxSteps := 2000000) (disch := omega) [go_sem, -List.map_map]))⟩
      · have h5 := c2 h4
        have h5' : ¬ t.to ≤ t.frm := by omega
        ((repeat refine WpM.seq ?_); have z_ex := (And.intro @h1 (And.intro @h2 (And.intro @h2' (And.intro @h3 (And.intro @h4 (And.intro @h5' True.intro)))))); refine WpM.regPE [] [(0, _), (1, _), (5, _), (45, _)] (by (refine s_o [(5, _)] rfl rfl rfl z_su rfl q_fieldAddr z_fp z_ss ?_; refine s_o [(11, _)] rfl rfl rfl z_su rfl q_load z_fp z_ss ?_; refine s_o [(12, _)] rfl rfl rfl z_su rfl q_full z_fp z_ss ?_; refine s_o [(13, _)] rfl rfl rfl z_su rfl q_move z_fp z_ss ?_; refine s_wit ?_; intro z_g; (first | refine s_skip rfl z_g z_fp ?_ | (refine s_o [(5, _)] rfl z_g rfl z_su rfl q_fieldAddr z_fp z_ss ?_)); clear z_g; refine s_wit ?_; intro z_g; (first | refine s_skip rfl z_g z_fp ?_ | (refine s_o [(15, _)] rfl z_g rfl z_su rfl q_load z_fp z_ss ?_)); clear z_g; refine s_wit ?_; intro z_g; (first | refine s_skip rfl z_g z_fp ?_ | (refine s_o [(16, _)] rfl z_g rfl z_su rfl q_full z_fp z_ss ?_)); clear z_g; refine s_o [(14, _), (17, _)] rfl rfl rfl z_su rfl q_move z_fp z_ss ?_; refine s_o [(18, _)] rfl rfl rfl z_su rfl q_move z_fp z_ss ?_; refine s_wit ?_; intro z_g; (first | refine s_skip rfl z_g z_fp ?_ | (refine s_o [(5, _)] rfl z_g rfl z_su rfl q_fieldAddr z_fp z_ss ?_)); clear z_g; refine s_wit ?_; intro z_g; (first | refine s_skip rfl z_g z_fp ?_ | (refine s_o [(20, _)] rfl z_g rfl z_su rfl q_load z_fp z_ss ?_)); clear z_g; refine s_wit ?_; intro z_g; (first | refine s_skip rfl z_g z_fp ?_ | (refine s_o [(21, _)] rfl z_g rfl z_su rfl q_full z_fp z_ss ?_)); clear z_g; refine s_o [(19, _), (22, _)] rfl rfl rfl z_su rfl q_move z_fp z_ss ?_; refine s_o [(23, _)] rfl rfl rfl z_su rfl q_move z_fp z_ss ?_; refine s_wit ?_; intro z_g; (first | refine s_skip rfl z_g z_fp ?_ | (refine s_o [(5, _)] rfl z_g rfl z_su rfl q_fieldAddr z_fp z_ss ?_)); clear z_g; refine s_wit ?_; intro z_g; (first | refine s_skip rfl z_g z_fp ?_ | (refine s_o [(25, _)] rfl z_g rfl z_su rfl q_load z_fp z_ss ?_)); clear z_g; refine s_wit ?_; intro z_g; (first | refine s_skip rfl z_g z_fp ?_ | (refine s_o [(26, _)] rfl z_g rfl z_su rfl q_full z_fp z_ss ?_)); clear z_g; refine s_wit ?_; intro z_g; (first | refine s_skip rfl z_g z_fp ?_ | (refine s_o [(27, _)] rfl z_g rfl z_su rfl q_move z_fp z_ss ?_)); clear z_g; refine s_wit ?_; intro z_g; (first | refine s_skip rfl z_g z_fp ?_ | (refine s_o [(5, _)] rfl z_g rfl z_su rfl q_fieldAddr z_fp z_ss ?_)); clear z_g; refine s_wit ?_; intro z_g; (first | refine s_skip rfl z_g z_fp ?_ | (refine s_o [(29, _)] rfl z_g rfl z_su rfl q_load z_fp z_ss ?_)); clear z_g; refine s_wit ?_; intro z_g; (first | refine s_skip rfl z_g z_fp ?_ | (refine s_o [(5, _)] rfl z_g rfl z_su rfl q_fieldAddr z_fp z_ss ?_)); clear z_g; refine s_wit ?_; intro z_g; (first | refine s_skip rfl z_g z_fp ?_ | (refine s_o [(31, _)] rfl z_g rfl z_su rfl q_load z_fp z_ss ?_)); clear z_g; refine s_wit ?_; intro z_g; (first | refine s_skip rfl z_g z_fp ?_ | (refine s_o [(30, _), (32, _)] rfl z_g rfl z_su rfl q_full z_fp z_ss ?_)); clear z_g; refine s_wit ?_; intro z_g; (first | refine s_skip rfl z_g z_fp ?_ | (refine s_o [(28, _), (33, _)] rfl z_g rfl z_su rfl q_move z_fp z_ss ?_)); clear z_g; refine s_o [(24, _), (34, _)] rfl rfl rfl z_su rfl q_move z_fp z_ss ?_; refine s_o [(35, _)] rfl rfl rfl z_su rfl q_move z_fp z_ss ?_; refine s_wit ?_; intro z_g; (first | refine s_skip rfl z_g z_fp ?_ | (refine s_o [(5, _)] rfl z_g rfl z_su rfl q_fieldAddr z_fp z_ss ?_)); clear z_g; refine s_wit ?_; intro z_g; (first | refine s_skip rfl z_g z_fp ?_ | (refine s_o [(37, _)] rfl z_g rfl z_su rfl q_load z_fp z_ss ?_)); clear z_g; refine s_wit ?_; intro z_g; (first | refine s_skip rfl z_g z_fp ?_ | (refine s_o [(38, _)] rfl z_g rfl z_su rfl q_full z_fp z_ss ?_)); clear z_g; refine s_wit ?_; intro z_g; (first | refine s_skip rfl z_g z_fp ?_ | (refine s_o [(39, _)] rfl z_g rfl z_su rfl q_move z_fp z_ss ?_)); clear z_g; refine s_wit ?_; intro z_g; (first | refine s_skip rfl z_g z_fp ?_ | (refine s_o [(5, _)] rfl z_g rfl z_su rfl q_fieldAddr z_fp z_ss ?_)); clear z_g; refine s_wit ?_; intro z_g; (first | refine s_skip rfl z_g z_fp ?_ | (refine s_o [(41, _)] rfl z_g rfl z_su rfl q_load z_fp z_ss ?_)); clear z_g; refine s_wit ?_; intro z_g; (first | refine s_skip rfl z_g z_fp ?_ | (refine s_o [(42, _)] rfl z_g rfl z_su rfl q_full z_fp z_ss ?_)); clear z_g; refine s_wit ?_; intro z_g; (first | refine s_skip rfl z_g z_fp ?_ | (refine s_o [(40, _), (43, _)] rfl z_g rfl z_su rfl q_move z_fp z_ss ?_)); clear z_g; refine s_o [(36, _), (44, _)] rfl rfl rfl z_su rfl q_move z_fp z_ss ?_; exact wpS_nil ⟨rfl, rfl⟩)) z_su ?_; clear z_ex)
        ((repeat refine WpM.seq ?_); refine WpM.condF (by (simp (maxSteps := 2000000) (disch := omega) [go_sem, -List.map_map, h1, h2, h2', h3, h4, h5'])) ?_)
        refine WpM.skip ?_
        exact ⟨_, (by show n0 < n0 + _; omega), n0 + 5, (by omega), (by show _ < n0 + _; omega), rfl, frLe_frOf (by (simp (maxSteps := 2000000) (disch := omega) [go_sem, -List.map_map]))⟩
    rintro fr S' ⟨nx, hnx, nt, hnt, hntx, rfl, hfr⟩
    refine WpM.less (St.Le.refl _) hfr ?_
    clear hfr
    by_cases hlo : ∃ o, (l.take i).getLast? = some o ∧ t.frm ≤ o.frm
    · obtain ⟨o, hg, hlo⟩ := hlo
      rw [placedB_last hg hlo]
      rw [hlast] at hg
      have hi0 : ¬ i = 0 := by rintro rfl; simp at hg
      rw [if_neg hi0] at hg
      obtain ⟨j, rfl⟩ : ∃ j, i = j + 1 := ⟨i - 1, by omega⟩
      have hgo : (l.map encTxn)[j]? = some (encTxn o) := by rw [List.getElem?_map, show j = j + 1 - 1 by omega, hg]; rfl
      have hjl : j < l.length := by omega
      have hidx : (j : Int) + 1 - 1 = j := by omega
      have hpos : (0 : Int) < j + 1 := by omega
      ((repeat refine WpM.seq ?_); have z_ex := (And.intro @hgo (And.intro @hidx (And.intro @hpos (And.intro @hlo (And.intro @wrap_id (And.intro @encTxn.eq_1 (And.intro @hjl True.intro))))))); refine WpM.drwPE [] [(0, _), (1, _), (5, _), (58, _)] mixed (by kernel_rfl) (by kernel_rfl) [] (by kernel_rfl) (by (refine d_o [(1, _)] rfl rfl rfl z_su rfl q_move z_fp z_ss rfl ?_; refine d_o [(46, _)] rfl rfl rfl z_su rfl q_full z_fp z_ss rfl ?_; refine d_o [(47, _)] rfl rfl rfl z_su rfl q_move z_fp z_ss rfl ?_; refine d_wit ?_; intro z_g; (first | refine d_skip rfl z_g z_fp ?_ | (refine d_o [(5, _)] rfl z_g rfl z_su rfl q_fieldAddr z_fp z_ss rfl ?_)); clear z_g; refine d_wit ?_; intro z_g; (first | refine d_skip rfl z_g z_fp ?_ | (refine d_o [(49, _)] rfl z_g rfl z_su rfl q_load z_fp z_ss rfl ?_)); clear z_g; refine d_wit ?_; intro z_g; (first | refine d_skip rfl z_g z_fp ?_ | (refine d_o [(0, _)] rfl z_g rfl z_su rfl q_move z_fp z_ss rfl ?_)); clear z_g; refine d_wit ?_; intro z_g; (first | refine d_skip rfl z_g z_fp ?_ | (refine d_o [(1, _)] rfl z_g rfl z_su rfl q_move z_fp z_ss rfl ?_)); clear z_g; refine d_wit ?_; intro z_g; (first | refine d_skip rfl z_g z_fp ?_ | (refine d_o [(52, _)] rfl z_g rfl z_su rfl q_full z_fp z_ss rfl ?_)); clear z_g; refine d_wit ?_; intro z_g; (first | refine d_skip rfl z_g z_fp ?_ | (refine d_o [(51, _), (53, _)] rfl z_g rfl z_su rfl q_full z_fp z_ss rfl ?_)); clear z_g; refine d_wit ?_; intro z_g; (first | refine d_skip rfl z_g z_fp ?_ | (refine d_o [(54, _)] rfl z_g rfl z_su rfl q_fieldAddr z_fp z_ss rfl ?_)); clear z_g; refine d_wit ?_; intro z_g; (first | refine d_skip rfl z_g z_fp ?_ | (refine d_o [(55, _)] rfl z_g rfl z_su rfl q_load z_fp z_ss rfl ?_)); clear z_g; refine d_wit ?_; intro z_g; (first | refine d_skip rfl z_g z_fp ?_ | (refine d_o [(50, _), (56, _)] rfl z_g rfl z_su rfl q_full z_fp z_ss rfl ?_)); clear z_g; refine d_o [(48, _), (57, _)] rfl rfl rfl z_su rfl q_move z_fp z_ss rfl ?_; exact d_end z_mt z_sn)) z_su ?_; clear z_ex)
      ((repeat refine WpM.seq ?_); refine WpM.condT (by (simp (maxSteps := 2000000) (disch := omega) [go_sem, -List.map_map, hlo])) ?_)
      ((repeat refine WpM.seq ?_); have z_ex := True.intro; refine WpM.regPE [] [(4, _)] (by (refine s_o [] rfl rfl rfl z_su rfl q_move z_fp z_ss ?_; exact wpS_nil ⟨rfl, rfl⟩)) z_su ?_; clear z_ex)
      refine WpM.ret ?_
      exact ⟨.inr rfl, Upd.done ⟨_, (by (simp (maxSteps := 2000000) (disch := omega) [go_sem, -List.map_map, resV, resVs, resV1])), rfl, fun m k _ hk => by have := hH _ _ hk; (simp (maxSteps := 2000000) (disch := omega) [go_sem, -List.map_map, hk])⟩⟩
    · have hlast2 : ∀ o, (l.take i).getLast? = some o → o.frm < t.frm := fun o ho => by
        rcases Int.lt_or_le o.frm t.frm with h | h
        · exact h
        · exact absurd ⟨o, ho, h⟩ hlo
      rw [placedB_yes hst h0 hlast2]
      refine WpM.seq ?_
      refine wpMid (Mid := fun (fr : Fr) (S' : St) => ∃ nx, nt < nx ∧ S' = ⟨nx, [(nt, some (.box [.d (.int .i64 t.proc), .d (.int .i64 t.status), .d (.int .i64 t.frm), .d (.int .i64 t.to), .d (.sl (t.ops.map encOp))]))], H⟩ ∧ FrLe fr (frOf [(0, .d (.sl (l.map encTxn))), (1, .d (.int .i64 i)), (5, .ptr nt 0)])) ?_ ?_
      · by_cases hi0 : i = 0
        · subst hi0
          ((repeat refine WpM.seq ?_); have z_ex := True.intro; refine WpM.drwPE [] [(0, _), (1, _), (5, _), (58, _)] mixed (by kernel_rfl) (by kernel_rfl) [] (by kernel_rfl) (by (refine d_o [(1, _)] rfl rfl rfl z_su rfl q_move z_fp z_ss rfl ?_; refine d_o [(46, _)] rfl rfl rfl z_su rfl q_full z_fp z_ss rfl ?_; refine d_o [(47, _)] rfl rfl rfl z_su rfl q_move z_fp z_ss rfl ?_; refine d_wit ?_; intro z_g; (first | refine d_skip rfl z_g z_fp ?_ | (refine d_o [(5, _)] rfl z_g rfl z_su rfl q_fieldAddr z_fp z_ss rfl ?_)); clear z_g; refine d_wit ?_; intro z_g; (first | refine d_skip rfl z_g z_fp ?_ | (refine d_o [(49, _)] rfl z_g rfl z_su rfl q_load z_fp z_ss rfl ?_)); clear z_g; refine d_wit ?_; intro z_g; (first | refine d_skip rfl z_g z_fp ?_ | (refine d_o [(0, _)] rfl z_g rfl z_su rfl q_move z_fp z_ss rfl ?_)); clear z_g; refine d_wit ?_; intro z_g; (first | refine d_skip rfl z_g z_fp ?_ | (refine d_o [(1, _)] rfl z_g rfl z_su rfl q_move z_fp z_ss rfl ?_)); clear z_g; refine d_wit ?_; intro z_g; (first | refine d_skip rfl z_g z_fp ?_ | (refine d_o [(52, _)] rfl z_g rfl z_su rfl q_full z_fp z_ss rfl ?_)); clear z_g; refine d_wit ?_; intro z_g; (first | refine d_skip rfl z_g z_fp ?_ | (refine d_o [(51, _), (53, _)] rfl z_g rfl z_su rfl q_full z_fp z_ss rfl ?_)); clear z_g; refine d_wit ?_; intro z_g; (first | refine d_skip rfl z_g z_fp ?_ | (refine d_o [(54, _)] rfl z_g rfl z_su rfl q_fieldAddr z_fp z_ss rfl ?_)); clear z_g; refine d_wit ?_; intro z_g; (first | refine d_skip rfl z_g z_fp ?_ | (refine d_o [(55, _)] rfl z_g rfl z_su rfl q_load z_fp z_ss rfl ?_)); clear z_g; refine d_wit ?_; intro z_g; (first | refine d_skip rfl z_g z_fp ?_ | (refine d_o [(50, _), (56, _)] rfl z_g rfl z_su rfl q_full z_fp z_ss rfl ?_)); clear z_g; refine d_o [(48, _), (57, _)] rfl rfl rfl z_su rfl q_move z_fp z_ss rfl ?_; exact d_end z_mt z_sn)) z_su ?_; clear z_ex)
          ((repeat refine WpM.seq ?_); refine WpM.condF (by (simp (maxSteps := 2000000) (disch := omega) [go_sem, -List.map_map])) ?_)
          refine WpM.skip ?_
          exact ⟨_, (by show nt < nx + _; omega), rfl, frLe_frOf (by (simp (maxSteps := 2000000) (disch := omega) [go_sem, -List.map_map]))⟩
        · obtain ⟨j, rfl⟩ : ∃ j, i = j + 1 := ⟨i - 1, by omega⟩
          have hjl : j < l.length := by omega
          obtain ⟨o, ho⟩ : ∃ o, o = l[j] := ⟨_, rfl⟩
          have hgo : (l.map encTxn)[j]? = some (encTxn o) := by simp [hjl, ho]
          have hlt : o.frm < t.frm := by
            refine hlast2 o ?_
            rw [hlast, if_neg hi0, ho]
            simp [hjl]
          have hle : ¬ t.frm ≤ o.frm := by omega
          have hidx : (j : Int) + 1 - 1 = j := by omega
          have hpos : (0 : Int) < j + 1 := by omega
          ((repeat refine WpM.seq ?_); have z_ex := (And.intro @hgo (And.intro @hidx (And.intro @hpos (And.intro @hle (And.intro @wrap_id (And.intro @encTxn.eq_1 (And.intro @hjl True.intro))))))); refine WpM.drwPE [] [(0, _), (1, _), (5, _), (58, _)] mixed (by kernel_rfl) (by kernel_rfl) [] (by kernel_rfl) (by (refine d_o [(1, _)] rfl rfl rfl z_su rfl q_move z_fp z_ss rfl ?_; refine d_o [(46, _)] rfl rfl rfl z_su rfl q_full z_fp z_ss rfl ?_; refine d_o [(47, _)] rfl rfl rfl z_su rfl q_move z_fp z_ss rfl ?_; refine d_wit ?_; intro z_g; (first | refine d_skip rfl z_g z_fp ?_ | (refine d_o [(5, _)] rfl z_g rfl z_su rfl q_fieldAddr z_fp z_ss rfl ?_)); clear z_g; refine d_wit ?_; intro z_g; (first | refine d_skip rfl z_g z_fp ?_ | (refine d_o [(49, _)] rfl z_g rfl z_su rfl q_load z_fp z_ss rfl ?_)); clear z_g; refine d_wit ?_; intro z_g; (first | refine d_skip rfl z_g z_fp ?_ | (refine d_o [(0, _)] rfl z_g rfl z_su rfl q_move z_fp z_ss rfl ?_)); clear z_g; refine d_wit ?_; intro z_g; (first | refine d_skip rfl z_g z_fp ?_ | (refine d_o [(1, _)] rfl z_g rfl z_su rfl q_move z_fp z_ss rfl ?_)); clear z_g; refine d_wit ?_; intro z_g; (first | refine d_skip rfl z_g z_fp ?_ | (refine d_o [(52, _)] rfl z_g rfl z_su rfl q_full z_fp z_ss rfl ?_)); clear z_g; refine d_wit ?_; intro z_g; (first | refine d_skip rfl z_g z_fp ?_ | (refine d_o [(51, _), (53, _)] rfl z_g rfl z_su rfl q_full z_fp z_ss rfl ?_)); clear z_g; refine d_wit ?_; intro z_g; (first | refine d_skip rfl z_g z_fp ?_ | (refine d_o [(54, _)] rfl z_g rfl z_su rfl q_fieldAddr z_fp z_ss rfl ?_)); clear z_g; refine d_wit ?_; intro z_g; (first | refine d_skip rfl z_g z_fp ?_ | (refine d_o [(55, _)] rfl z_g rfl z_su rfl q_load z_fp z_ss rfl ?_)); clear z_g; refine d_wit ?_; intro z_g; (first | refine d_skip rfl z_g z_fp ?_ | (refine d_o [(50, _), (56, _)] rfl z_g rfl z_su rfl q_full z_fp z_ss rfl ?_)); clear z_g; refine d_o [(48, _), (57, _)] rfl rfl rfl z_su rfl q_move z_fp z_ss rfl ?_; exact d_end z_mt z_sn)) z_su ?_; clear z_ex)
          ((repeat refine WpM.seq ?_); refine WpM.condF (by (simp (maxSteps := 2000000) (disch := omega) [go_sem, -List.map_map, hle])) ?_)
          refine WpM.skip ?_
          exact ⟨_, (by show nt < nx + _; omega), rfl, frLe_frOf (by (simp (maxSteps := 2000000) (disch := omega) [go_sem, -List.map_map]))⟩
      rintro fr S' ⟨nx2, hnx2, rfl, hfr⟩
      refine WpM.less (St.Le.refl _) hfr ?_
      clear hfr hnx hntx
      ((repeat refine WpM.seq ?_); have z_ex := True.intro; refine WpM.regPE [] [(0, _), (1, _), (5, _), (6, _)] (by (refine s_o [] rfl rfl rfl z_su rfl q_move z_fp z_ss ?_; exact wpS_nil ⟨rfl, rfl⟩)) z_su ?_; clear z_ex)
      ((repeat refine WpM.seq ?_); refine WpM.block ?_)
      refine WpM.loop (fun (k : Nat) fr S => k ≤ i ∧ (∀ q (h : q < l.length), q < k → busyB t l[q] = false) ∧ fr = frOf [(0, .d (.sl (l.map encTxn))), (1, .d (.int .i64 i)), (5, .ptr nt 0), (6, .d (.int .i64 k))] ∧ ∃ nx, nt < nx ∧ S = ⟨nx, [(nt, some (.box [.d (.int .i64 t.proc), .d (.int .i64 t.status), .d (.int .i64 t.frm), .d (.int .i64 t.to), .d (.sl (t.ops.map encOp))]))], H⟩) (fun k => i - k) 0 (St.Le.refl _) (frLe_frOf (by (simp (maxSteps := 2000000) (disch := omega) [go_sem, -List.map_map]))) ⟨by omega, by simp, rfl, _, ?_, rfl⟩ ?_
      · show nt < _; omega
      rintro k fr S' ⟨hk, hall, rfl, nx3, hnx3, rfl⟩
      ((repeat refine WpM.seq ?_); have z_ex := True.intro; refine WpM.regPE [] [(0, _), (1, _), (5, _), (6, _), (61, _)] (by (refine s_o [(6, _)] rfl rfl rfl z_su rfl q_move z_fp z_ss ?_; refine s_o [(1, _)] rfl rfl rfl z_su rfl q_move z_fp z_ss ?_; refine s_o [(59, _), (60, _)] rfl rfl rfl z_su rfl q_full z_fp z_ss ?_; exact wpS_nil ⟨rfl, rfl⟩)) z_su ?_; clear z_ex)
      by_cases hlt : k < i
      · ((repeat refine WpM.seq ?_); refine WpM.condT (by (simp (maxSteps := 2000000) (disch := omega) [go_sem, -List.map_map, hlt])) ?_)
        refine WpM.skip ?_
        ((repeat refine WpM.seq ?_); refine WpM.block ?_)
        have hkl : k < l.length := by omega
        obtain ⟨o, ho⟩ : ∃ o, o = l[k] := ⟨_, rfl⟩
        have hgo : (l.map encTxn)[k]? = some (encTxn o) := by simp [hkl, ho]
        have hbz : busyB t o = true → (l.take i).any (busyB t) = true := fun h => by
          rw [List.any_eq_true]
          exact ⟨o, by rw [ho, List.mem_take_iff_getElem]; exact ⟨k, by omega, rfl⟩, h⟩
        have next : busyB t o = false → ∀ q (h : q < l.length), q < k + 1 → busyB t l[q] = false := fun hb q h hq => by
          rcases Nat.lt_or_ge q k with h' | h'
          · exact hall q h h'
          · obtain rfl : q = k := by omega
            rw [← ho]; exact hb
        by_cases e1 : o.proc = t.proc
        · by_cases e2 : o.to = -1
          · rw [hbz (by simp [busyB, e1, e2])]
            ((repeat refine WpM.seq ?_); have z_ex := (And.intro @hgo (And.intro @hkl (And.intro @encTxn.eq_1 (And.intro @e1 (And.intro @e2 True.intro))))); refine WpM.drwPE [] [(0, _), (1, _), (5, _), (6, _), (89, _)] mixed (by kernel_rfl) (by kernel_rfl) [] (by kernel_rfl) (by (refine d_o [(0, _)] rfl rfl rfl z_su rfl q_move z_fp z_ss rfl ?_; refine d_o [(6, _)] rfl rfl rfl z_su rfl q_move z_fp z_ss rfl ?_; refine d_o [(64, _), (65, _)] rfl rfl rfl z_su rfl q_full z_fp z_ss rfl ?_; refine d_o [(66, _)] rfl rfl rfl z_su rfl q_fieldAddr z_fp z_ss rfl ?_; refine d_o [(67, _)] rfl rfl rfl z_su rfl q_load z_fp z_ss rfl ?_; refine d_o [(5, _)] rfl rfl rfl z_su rfl q_fieldAddr z_fp z_ss rfl ?_; refine d_o [(69, _)] rfl rfl rfl z_su rfl q_load z_fp z_ss rfl ?_; refine d_o [(68, _), (70, _)] rfl rfl rfl z_su rfl q_full z_fp z_ss rfl ?_; refine d_o [(71, _)] rfl rfl rfl z_su rfl q_move z_fp z_ss rfl ?_; refine d_wit ?_; intro z_g; (first | refine d_skip rfl z_g z_fp ?_ | (refine d_o [(0, _)] rfl z_g rfl z_su rfl q_move z_fp z_ss rfl ?_)); clear z_g; refine d_wit ?_; intro z_g; (first | refine d_skip rfl z_g z_fp ?_ | (refine d_o [(6, _)] rfl z_g rfl z_su rfl q_move z_fp z_ss rfl ?_)); clear z_g; refine d_wit ?_; intro z_g; (first | refine d_skip rfl z_g z_fp ?_ | (refine d_o [(73, _), (74, _)] rfl z_g rfl z_su rfl q_full z_fp z_ss rfl ?_)); clear z_g; refine d_wit ?_; intro z_g; (first | refine d_skip rfl z_g z_fp ?_ | (refine d_o [(75, _)] rfl z_g rfl z_su rfl q_fieldAddr z_fp z_ss rfl ?_)); clear z_g; refine d_wit ?_; intro z_g; (first | refine d_skip rfl z_g z_fp ?_ | (refine d_o [(76, _)] rfl z_g rfl z_su rfl q_load z_fp z_ss rfl ?_)); clear z_g; refine d_wit ?_; intro z_g; (first | refine d_skip rfl z_g z_fp ?_ | (refine d_o [(77, _)] rfl z_g rfl z_su rfl q_full z_fp z_ss rfl ?_)); clear z_g; refine d_wit ?_; intro z_g; (first | refine d_skip rfl z_g z_fp ?_ | (refine d_o [(78, _)] rfl z_g rfl z_su rfl q_move z_fp z_ss rfl ?_)); clear z_g; refine d_wit ?_; intro z_g; (first | refine d_skip rfl z_g z_fp ?_ | (refine d_o [(0, _)] rfl z_g rfl z_su rfl q_move z_fp z_ss rfl ?_)); clear z_g; refine d_wit ?_; intro z_g; (first | refine d_skip rfl z_g z_fp ?_ | (refine d_o [(6, _)] rfl z_g rfl z_su rfl q_move z_fp z_ss rfl ?_)); clear z_g; refine d_wit ?_; intro z_g; (first | refine d_skip rfl z_g z_fp ?_ | (refine d_o [(80, _), (81, _)] rfl z_g rfl z_su rfl q_full z_fp z_ss rfl ?_)); clear z_g; refine d_wit ?_; intro z_g; (first | refine d_skip rfl z_g z_fp ?_ | (refine d_o [(82, _)] rfl z_g rfl z_su rfl q_fieldAddr z_fp z_ss rfl ?_)); clear z_g; refine d_wit ?_; intro z_g; (first | refine d_skip rfl z_g z_fp ?_ | (refine d_o [(83, _)] rfl z_g rfl z_su rfl q_load z_fp z_ss rfl ?_)); clear z_g; refine d_wit ?_; intro z_g; (first | refine d_skip rfl z_g z_fp ?_ | (refine d_o [(5, _)] rfl z_g rfl z_su rfl q_fieldAddr z_fp z_ss rfl ?_)); clear z_g; refine d_wit ?_; intro z_g; (first | refine d_skip rfl z_g z_fp ?_ | (refine d_o [(85, _)] rfl z_g rfl z_su rfl q_load z_fp z_ss rfl ?_)); clear z_g; refine d_wit ?_; intro z_g; (first | refine d_skip rfl z_g z_fp ?_ | (refine d_o [(84, _), (86, _)] rfl z_g rfl z_su rfl q_full z_fp z_ss rfl ?_)); clear z_g; refine d_wit ?_; intro z_g; (first | refine d_skip rfl z_g z_fp ?_ | (refine d_o [(79, _), (87, _)] rfl z_g rfl z_su rfl q_move z_fp z_ss rfl ?_)); clear z_g; refine d_o [(72, _), (88, _)] rfl rfl rfl z_su rfl q_move z_fp z_ss rfl ?_; exact d_end z_mt z_sn)) z_su ?_; clear z_ex)
            ((repeat refine WpM.seq ?_); refine WpM.condT (by (simp (maxSteps := 2000000) (disch := omega) [go_sem, -List.map_map, e1, e2])) ?_)
            ((repeat refine WpM.seq ?_); have z_ex := True.intro; refine WpM.regPE [] [(4, _)] (by (refine s_o [] rfl rfl rfl z_su rfl q_move z_fp z_ss ?_; exact wpS_nil ⟨rfl, rfl⟩)) z_su ?_; clear z_ex)
            refine WpM.ret ?_
            exact ⟨.inr rfl, Upd.done ⟨_, (by (simp (maxSteps := 2000000) (disch := omega) [go_sem, -List.map_map, resV, resVs, resV1])), rfl, fun m k _ hk => by have := hH _ _ hk; (simp (maxSteps := 2000000) (disch := omega) [go_sem, -List.map_map, hk])⟩⟩
          · by_cases e3 : t.frm ≤ o.to
            · rw [hbz (by simp [busyB, e1, e3])]
              ((repeat refine WpM.seq ?_); have z_ex := (And.intro @hgo (And.intro @hkl (And.intro @encTxn.eq_1 (And.intro @e1 (And.intro @e2 (And.intro @e3 True.intro)))))); refine WpM.drwPE [] [(0, _), (1, _), (5, _), (6, _), (89, _)] mixed (by kernel_rfl) (by kernel_rfl) [] (by kernel_rfl) (by (refine d_o [(0, _)] rfl rfl rfl z_su rfl q_move z_fp z_ss rfl ?_; refine d_o [(6, _)] rfl rfl rfl z_su rfl q_move z_fp z_ss rfl ?_; refine d_o [(64, _), (65, _)] rfl rfl rfl z_su rfl q_full z_fp z_ss rfl ?_; refine d_o [(66, _)] rfl rfl rfl z_su rfl q_fieldAddr z_fp z_ss rfl ?_; refine d_o [(67, _)] rfl rfl rfl z_su rfl q_load z_fp z_ss rfl ?_; refine d_o [(5, _)] rfl rfl rfl z_su rfl q_fieldAddr z_fp z_ss rfl ?_; refine d_o [(69, _)] rfl rfl rfl z_su rfl q_load z_fp z_ss rfl ?_; refine d_o [(68, _), (70, _)] rfl rfl rfl z_su rfl q_full z_fp z_ss rfl ?_; refine d_o [(71, _)] rfl rfl rfl z_su rfl q_move z_fp z_ss rfl ?_; refine d_wit ?_; intro z_g; (first | refine d_skip rfl z_g z_fp ?_ | (refine d_o [(0, _)] rfl z_g rfl z_su rfl q_move z_fp z_ss rfl ?_)); clear z_g; refine d_wit ?_; intro z_g; (first | refine d_skip rfl z_g z_fp ?_ | (refine d_o [(6, _)] rfl z_g rfl z_su rfl q_move z_fp z_ss rfl ?_)); clear z_g; refine d_wit ?_; intro z_g; (first | refine d_skip rfl z_g z_fp ?_ | (refine d_o [(73, _), (74, _)] rfl z_g rfl z_su rfl q_full z_fp z_ss rfl ?_)); clear z_g; refine d_wit ?_; intro z_g; (first | refine d_skip rfl z_g z_fp ?_ | (refine d_o [(75, _)] rfl z_g rfl z_su rfl q_fieldAddr z_fp z_ss rfl ?_)); clear z_g; refine d_wit ?_; intro z_g; (first | refine d_skip rfl z_g z_fp ?_ | (refine d_o [(76, _)] rfl z_g rfl z_su rfl q_load z_fp z_ss rfl ?_)); clear z_g; refine d_wit ?_; intro z_g; (first | refine d_skip rfl z_g z_fp ?_ | (refine d_o [(77, _)] rfl z_g rfl z_su rfl q_full z_fp z_ss rfl ?_)); clear z_g; refine d_wit ?_; intro z_g; (first | refine d_skip rfl z_g z_fp ?_ | (refine d_o [(78, _)] rfl z_g rfl z_su rfl q_move z_fp z_ss rfl ?_)); clear z_g; refine d_wit ?_; intro z_g; (first | refine d_skip rfl z_g z_fp ?_ | (refine d_o [(0, _)] rfl z_g rfl z_su rfl q_move z_fp z_ss rfl ?_)); clear z_g; refine d_wit ?_; intro z_g; (first | refine d_skip rfl z_g z_fp ?_ | (refine d_o [(6, _)] rfl z_g rfl z_su rfl q_move z_fp z_ss rfl ?_)); clear z_g; refine d_wit ?_; intro z_g; (first | refine d_skip rfl z_g z_fp ?_ | (refine d_o [(80, _), (81, _)] rfl z_g rfl z_su rfl q_full z_fp z_ss rfl ?_)); clear z_g; refine d_wit ?_; intro z_g; (first | refine d_skip rfl z_g z_fp ?_ | (refine d_o [(82, _)] rfl z_g rfl z_su rfl q_fieldAddr z_fp z_ss rfl ?_)); clear z_g; refine d_wit ?_; intro z_g; (first | refine d_skip rfl z_g z_fp ?_ | (refine d_o [(83, _)] rfl z_g rfl z_su rfl q_load z_fp z_ss rfl ?_)); clear z_g; refine d_wit ?_; intro z_g; (first | refine d_skip rfl z_g z_fp ?_ | (refine d_o [(5, _)] rfl z_g rfl z_su rfl q_fieldAddr z_fp z_ss rfl ?_)); clear z_g; refine d_wit ?_; intro z_g; (first | refine d_skip rfl z_g z_fp ?_ | (refine d_o [(85, _)] rfl z_g rfl z_su rfl q_load z_fp z_ss rfl ?_)); clear z_g; refine d_wit ?_; intro z_g; (first | refine d_skip rfl z_g z_fp ?_ | (refine d_o [(84, _), (86, _)] rfl z_g rfl z_su rfl q_full z_fp z_ss rfl ?_)); clear z_g; refine d_wit ?_; intro z_g; (first | refine d_skip rfl z_g z_fp ?_ | (refine d_o [(79, _), (87, _)] rfl z_g rfl z_su rfl q_move z_fp z_ss rfl ?_)); clear z_g; refine d_o [(72, _), (88, _)] rfl rfl rfl z_su rfl q_move z_fp z_ss rfl ?_; exact d_end z_mt z_sn)) z_su ?_; clear z_ex)
              ((repeat refine WpM.seq ?_); refine WpM.condT (by (simp (maxSteps := 2000000) (disch := omega) [go_sem, -List.map_map, e1, e2, e3])) ?_)
              ((repeat refine WpM.seq ?_); have z_ex := True.intro; refine WpM.regPE [] [(4, _)] (by (refine s_o [] rfl rfl rfl z_su rfl q_move z_fp z_ss ?_; exact wpS_nil ⟨rfl, rfl⟩)) z_su ?_; clear z_ex)
              refine WpM.ret ?_
              exact ⟨.inr rfl, Upd.done ⟨_, (by (simp (maxSteps := 2000000) (disch := omega) [go_sem, -List.map_map, resV, resVs, resV1])), rfl, fun m k _ hk => by have := hH _ _ hk; (simp (maxSteps := 2000000) (disch := omega) [go_sem, -List.map_map, hk])⟩⟩
            · ((repeat refine WpM.seq ?_); have z_ex := (And.intro @hgo (And.intro @hkl (And.intro @encTxn.eq_1 (And.intro @e1 (And.intro @e2 (And.intro @e3 True.intro)))))); refine WpM.drwPE [] [(0, _), (1, _), (5, _), (6, _), (89, _)] mixed (by kernel_rfl) (by kernel_rfl) [] (by kernel_rfl) (by (refine d_o [(0, _)] rfl rfl rfl z_su rfl q_move z_fp z_ss rfl ?_; refine d_o [(6, _)] rfl rfl rfl z_su rfl q_move z_fp z_ss rfl ?_; refine d_o [(64, _), (65, _)] rfl rfl rfl z_su rfl q_full z_fp z_ss rfl ?_; refine d_o [(66, _)] rfl rfl rfl z_su rfl q_fieldAddr z_fp z_ss rfl ?_; refine d_o [(67, _)] rfl rfl rfl z_su rfl q_load z_fp z_ss rfl ?_; refine d_o [(5, _)] rfl rfl rfl z_su rfl q_fieldAddr z_fp z_ss rfl ?_; refine d_o [(69, _)] rfl rfl rfl z_su rfl q_load z_fp z_ss rfl ?_; refine d_o [(68, _), (70, _)] rfl rfl rfl z_su rfl q_full z_fp z_ss rfl ?_; refine d_o [(71, _)] rfl rfl rfl z_su rfl q_move z_fp z_ss rfl ?_; refine d_wit ?_; intro z_g; (first | refine d_skip rfl z_g z_fp ?_ | (refine d_o [(0, _)] rfl z_g rfl z_su rfl q_move z_fp z_ss rfl ?_)); clear z_g; refine d_wit ?_; intro z_g; (first | refine d_skip rfl z_g z_fp ?_ | (refine d_o [(6, _)] rfl z_g rfl z_su rfl q_move z_fp z_ss rfl ?_)); clear z_g; refine d_wit ?_; intro z_g; (first | refine d_skip rfl z_g z_fp ?_ | (refine d_o [(73, _), (74, _)] rfl z_g rfl z_su rfl q_full z_fp z_ss rfl ?_)); clear z_g; refine d_wit ?_; intro z_g; (first | refine d_skip rfl z_g z_fp ?_ | (refine d_o [(75, _)] rfl z_g rfl z_su rfl q_fieldAddr z_fp z_ss rfl ?_)); clear z_g; refine d_wit ?_; intro z_g; (first | refine d_skip rfl z_g z_fp ?_ | (refine d_o [(76, _)] rfl z_g rfl z_su rfl q_load z_fp z_ss rfl ?_)); clear z_g; refine d_wit ?_; intro z_g; (first | refine d_skip rfl z_g z_fp ?_ | (refine d_o [(77, _)] rfl z_g rfl z_su rfl q_full z_fp z_ss rfl ?_)); clear z_g; refine d_wit ?_; intro z_g; (first | refine d_skip rfl z_g z_fp ?_ | (refine d_o [(78, _)] rfl z_g rfl z_su rfl q_move z_fp z_ss rfl ?_)); clear z_g; refine d_wit ?_; intro z_g; (first | refine d_skip rfl z_g z_fp ?_ | (refine d_o [(0, _)] rfl z_g rfl z_su rfl q_move z_fp z_ss rfl ?_)); clear z_g; refine d_wit ?_; intro z_g; (first | refine d_skip rfl z_g z_fp ?_ | (refine d_o [(6, _)] rfl z_g rfl z_su rfl q_move z_fp z_ss rfl ?_)); clear z_g; refine d_wit ?_; intro z_g; (first | refine d_skip rfl z_g z_fp ?_ | (refine d_o [(80, _), (81, _)] rfl z_g rfl z_su rfl q_full z_fp z_ss rfl ?_)); clear z_g; refine d_wit ?_; intro z_g; (first | refine d_skip rfl z_g z_fp ?_ | (refine d_o [(82, _)] rfl z_g rfl z_su rfl q_fieldAddr z_fp z_ss rfl ?_)); clear z_g; refine d_wit ?_; intro z_g; (first | refine d_skip rfl z_g z_fp ?_ | (refine d_o [(83, _)] rfl z_g rfl z_su rfl q_load z_fp z_ss rfl ?_)); clear z_g; refine d_wit ?_; intro z_g; (first | refine d_skip rfl z_g z_fp ?_ | (refine d_o [(5, _)] rfl z_g rfl z_su rfl q_fieldAddr z_fp z_ss rfl ?_)); clear z_g; refine d_wit ?_; intro z_g; (first | refine d_skip rfl z_g z_fp ?_ | (refine d_o [(85, _)] rfl z_g rfl z_su rfl q_load z_fp z_ss rfl ?_)); clear z_g; refine d_wit ?_; intro z_g; (first | refine d_skip rfl z_g z_fp ?_ | (refine d_o [(84, _), (86, _)] rfl z_g rfl z_su rfl q_full z_fp z_ss rfl ?_)); clear z_g; refine d_wit ?_; intro z_g; (first | refine d_skip rfl z_g z_fp ?_ | (refine d_o [(79, _), (87, _)] rfl z_g rfl z_su rfl q_move z_fp z_ss rfl ?_)); clear z_g; refine d_o [(72, _), (88, _)] rfl rfl rfl z_su rfl q_move z_fp z_ss rfl ?_; exact d_end z_mt z_sn)) z_su ?_; clear z_ex)
              ((repeat refine WpM.seq ?_); refine WpM.condF (by (simp (maxSteps := 2000000) (disch := omega) [go_sem, -List.map_map, e1, e2, e3])) ?_)
              refine WpM.skip ?_
              ((repeat refine WpM.seq ?_); have z_ex := (And.intro @wrap_id True.intro); refine WpM.regPE [] [(0, _), (1, _), (5, _), (6, _)] (by (refine s_o [(6, _)] rfl rfl rfl z_su rfl q_move z_fp z_ss ?_; refine s_o [(62, _)] rfl rfl rfl z_su rfl q_full z_fp z_ss ?_; refine s_o [(63, _)] rfl rfl rfl z_su rfl q_move z_fp z_ss ?_; exact wpS_nil ⟨rfl, rfl⟩)) z_su ?_; clear z_ex)
              refine round_end (x' := k + 1) (St.Le.refl _) (frLe_frOf (by (simp (maxSteps := 2000000) (disch := omega) [go_sem, -List.map_map, wrap_id]))) ⟨by omega, next (by simp [busyB, e2, e3]), rfl, _, ?_, rfl⟩ (by omega)
              show nt < nx3 + _; omega
        · ((repeat refine WpM.seq ?_); have z_ex := (And.intro @hgo (And.intro @hkl (And.intro @encTxn.eq_1 (And.intro @e1 True.intro)))); refine WpM.drwPE [] [(0, _), (1, _), (5, _), (6, _), (89, _)] mixed (by kernel_rfl) (by kernel_rfl) [] (by kernel_rfl) (by (refine d_o [(0, _)] rfl rfl rfl z_su rfl q_move z_fp z_ss rfl ?_; refine d_o [(6, _)] rfl rfl rfl z_su rfl q_move z_fp z_ss rfl ?_; refine d_o [(64, _), (65, _)] rfl rfl rfl z_su rfl q_full z_fp z_ss rfl ?_; refine d_o [(66, _)] rfl rfl rfl z_su rfl q_fieldAddr z_fp z_ss rfl ?_; refine d_o [(67, _)] rfl rfl rfl z_su rfl q_load z_fp z_ss rfl ?_; refine d_o [(5, _)] rfl rfl rfl z_su rfl q_fieldAddr z_fp z_ss rfl ?_; refine d_o [(69, _)] rfl rfl rfl z_su rfl q_load z_fp z_ss rfl ?_; refine d_o [(68, _), (70, _)] rfl rfl rfl z_su rfl q_full z_fp z_ss rfl ?_; refine d_o [(71, _)] rfl rfl rfl z_su rfl q_move z_fp z_ss rfl ?_; refine d_wit ?_; intro z_g; (first | refine d_skip rfl z_g z_fp ?_ | (refine d_o [(0, _)] rfl z_g rfl z_su rfl q_move z_fp z_ss rfl ?_)); clear z_g; refine d_wit ?_; intro z_g; (first | refine d_skip rfl z_g z_fp ?_ | (refine d_o [(6, _)] rfl z_g rfl z_su rfl q_move z_fp z_ss rfl ?_)); clear z_g; refine d_wit ?_; intro z_g; (first | refine d_skip rfl z_g z_fp ?_ | (refine d_o [(73, _), (74, _)] rfl z_g rfl z_su rfl q_full z_fp z_ss rfl ?_)); clear z_g; refine d_wit ?_; intro z_g; (first | refine d_skip rfl z_g z_fp ?_ | (refine d_o [(75, _)] rfl z_g rfl z_su rfl q_fieldAddr z_fp z_ss rfl ?_)); clear z_g; refine d_wit ?_; intro z_g; (first | refine d_skip rfl z_g z_fp ?_ | (refine d_o [(76, _)] rfl z_g rfl z_su rfl q_load z_fp z_ss rfl ?_)); clear z_g; refine d_wit ?_; intro z_g; (first | refine d_skip rfl z_g z_fp ?_ | (refine d_o [(77, _)] rfl z_g rfl z_su rfl q_full z_fp z_ss rfl ?_)); clear z_g; refine d_wit ?_; intro z_g; (first | refine d_skip rfl z_g z_fp ?_ | (refine d_o [(78, _)] rfl z_g rfl z_su rfl q_move z_fp z_ss rfl ?_)); clear z_g; refine d_wit ?_; intro z_g; (first | refine d_skip rfl z_g z_fp ?_ | (refine d_o [(0, _)] rfl z_g rfl z_su rfl q_move z_fp z_ss rfl ?_)); clear z_g; refine d_wit ?_; intro z_g; (first | refine d_skip rfl z_g z_fp ?_ | (refine d_o [(6, _)] rfl z_g rfl z_su rfl q_move z_fp z_ss rfl ?_)); clear z_g; refine d_wit ?_; intro z_g; (first | refine d_skip rfl z_g z_fp ?_ | (refine d_o [(80, _), (81, _)] rfl z_g rfl z_su rfl q_full z_fp z_ss rfl ?_)); clear z_g; refine d_wit ?_; intro z_g; (first | refine d_skip rfl z_g z_fp ?_ | (refine d_o [(82, _)] rfl z_g rfl z_su rfl q_fieldAddr z_fp z_ss rfl ?_)); clear z_g; refine d_wit ?_; intro z_g; (first | refine d_skip rfl z_g z_fp ?_ | (refine d_o [(83, _)] rfl z_g rfl z_su rfl q_load z_fp z_ss rfl ?_)); clear z_g; refine d_wit ?_; intro z_g; (first | refine d_skip rfl z_g z_fp ?_ | (refine d_o [(5, _)] rfl z_g rfl z_su rfl q_fieldAddr z_fp z_ss rfl ?_)); clear z_g; refine d_wit ?_; intro z_g; (first | refine d_skip rfl z_g z_fp ?_ | (refine d_o [(85, _)] rfl z_g rfl z_su rfl q_load z_fp z_ss rfl ?_)); clear z_g; refine d_wit ?_; intro z_g; (first | refine d_skip rfl z_g z_fp ?_ | (refine d_o [(84, _), (86, _)] rfl z_g rfl z_su rfl q_full z_fp z_ss rfl ?_)); clear z_g; refine d_wit ?_; intro z_g; (first | refine d_skip rfl z_g z_fp ?_ | (refine d_o [(79, _), (87, _)] rfl z_g rfl z_su rfl q_move z_fp z_ss rfl ?_)); clear z_g; refine d_o [(72, _), (88, _)] rfl rfl rfl z_su rfl q_move z_fp z_ss rfl ?_; exact d_end z_mt z_sn)) z_su ?_; clear z_ex)
          ((repeat refine WpM.seq ?_); refine WpM.condF (by (simp (maxSteps := 2000000) (disch := omega) [go_sem, -List.map_map, e1])) ?_)
          refine WpM.skip ?_
          ((repeat refine WpM.seq ?_); have z_ex := (And.intro @wrap_id True.intro); refine WpM.regPE [] [(0, _), (1, _), (5, _), (6, _)] (by (refine s_o [(6, _)] rfl rfl rfl z_su rfl q_move z_fp z_ss ?_; refine s_o [(62, _)] rfl rfl rfl z_su rfl q_full z_fp z_ss ?_; refine s_o [(63, _)] rfl rfl rfl z_su rfl q_move z_fp z_ss ?_; exact wpS_nil ⟨rfl, rfl⟩)) z_su ?_; clear z_ex)
          refine round_end (x' := k + 1) (St.Le.refl _) (frLe_frOf (by (simp (maxSteps := 2000000) (disch := omega) [go_sem, -List.map_map, wrap_id]))) ⟨by omega, next (by simp [busyB, e1]), rfl, _, ?_, rfl⟩ (by omega)
          show nt < nx3 + _; omega
      · ((repeat refine WpM.seq ?_); refine WpM.condF (by (simp (maxSteps := 2000000) (disch := omega) [go_sem, -List.map_map, hlt])) ?_)
        (refine WpM.exit ?_; (repeat (with_reducible (first | refine thenM_exit ?_ | refine blockM_eq ?_ | refine blockM_ne (by decide) ?_))))
        obtain rfl : k = i := by omega
        have hany : (l.take k).any (busyB t) = false := by
          rw [List.any_eq_false]
          intro o ho
          obtain ⟨q, hq, rfl⟩ := List.mem_take_iff_getElem.1 ho
          simp [hall q (by omega) (by omega)]
        rw [hany]
        ((repeat refine WpM.seq ?_); have z_ex := True.intro; refine WpM.regPE [] [(4, _)] (by (refine s_o [] rfl rfl rfl z_su rfl q_move z_fp z_ss ?_; exact wpS_nil ⟨rfl, rfl⟩)) z_su ?_; clear z_ex)
        refine WpM.ret ?_
        exact ⟨.inr rfl, Upd.done ⟨_, (by (simp (maxSteps := 2000000) (disch := omega) [go_sem, -List.map_map, resV, resVs, resV1])), rfl, fun m k _ hk => by have := hH _ _ hk; (simp (maxSteps := 2000000) (disch := omega) [go_sem, -List.map_map, hk])⟩⟩
end Go.Proofs.Ytjjmedgibcffhaa
/- When a history is sound: the pure model; names. -/
namespace Go.Proofs.Ytjjmedgibcffhaa
open Go.RowKit M
set_option linter.unusedSimpArgs false
set_option linter.unusedVariables false
def nameB (l : List ByteArray) (i : Nat) : Bool := decide (1 ≤ (l.getD i ByteArray.empty).size) && decide ((l.getD i ByteArray.empty).size ≤ 32) && (findN (l.take i) (l.getD i ByteArray.empty)).isNone
def namesB (l : List ByteArray) : Bool := (List.range l.length).all (nameB l) && decide (l.length ≤ 32)
def enters (b : Bk) : List CallD → Int → Option Bk
  | [], _ => some b
  | c :: r, who => match enterB b c who with
    | .ok b' => enters b' r who
    | .error _ => none
noncomputable def stepT (h : HistD) (i : Nat) (b : Bk) : Option Bk := match h.txns[i]? with
  | none => none
  | some t => if evOkB h.keys t && placedB (h.txns.take i) t then enters b (evOf h.keys t).calls i else none
noncomputable def checkSt (h : HistD) : Nat → Option Bk
  | 0 => some .empty
  | i + 1 => (checkSt h i).bind (stepT h i)
noncomputable def checkB (h : HistD) : Bool := namesB h.keys && decide (h.txns.length ≤ 32) && (checkSt h h.txns.length).isSome
theorem names_bad {l : List ByteArray} {i : Nat} (h : i < l.length) (hb : nameB l i = false) : namesB l = false := by
  rw [namesB, Bool.and_eq_false_iff]
  left
  rw [List.all_eq_false]
  exact ⟨i, by simpa using h, by simp [hb]⟩
theorem names_good {l : List ByteArray} (h : ∀ i, i < l.length → nameB l i = true) : namesB l = decide (l.length ≤ 32) := by
  rw [namesB, List.all_eq_true.2 (fun i hi => h i (by simpa using hi)), Bool.true_and]
theorem nameB_get {l : List ByteArray} {i : Nat} (h : i < l.length) : nameB l i = (decide (1 ≤ l[i].size) && decide (l[i].size ≤ 32) && (findN (l.take i) l[i]).isNone) := by
  unfold nameB
  have : l.getD i ByteArray.empty = l[i] := by simp [h]
  rw [this]
theorem findI_none {l : List ByteArray} {s : ByteArray} : (findN l s).isNone = decide (findI l s < 0) := by
  unfold findI
  cases findN l s with
  | none => rfl
  | some j =>
    have : ¬ ((j : Int) < 0) := by omega
    simp [this]
theorem checkSt_bad {h : HistD} {i : Nat} (hb : checkSt h i = none) : ∀ {m : Nat}, i ≤ m → checkSt h m = none := by
  intro m hm
  induction m with
  | zero => obtain rfl : i = 0 := by omega
            exact hb
  | succ m ih =>
    rcases Nat.lt_or_ge m i with h1 | h1
    · obtain rfl : i = m + 1 := by omega
      exact hb
    · rw [checkSt, ih h1]; rfl
theorem checkB_bad {h : HistD} {i : Nat} {b : Bk} (hi : i < h.txns.length) (hst : checkSt h i = some b) (hs : stepT h i b = none) : checkB h = false := by
  have : checkSt h (i + 1) = none := by rw [checkSt, hst]; exact hs
  rw [checkB, checkSt_bad this hi]
  simp
theorem stepT_get {h : HistD} {i : Nat} {b : Bk} (hi : i < h.txns.length) : stepT h i b = if evOkB h.keys h.txns[i] && placedB (h.txns.take i) h.txns[i] then enters b (evOf h.keys h.txns[i]).calls i else none := by
  unfold stepT
  rw [List.getElem?_eq_getElem hi]
theorem enters_wf : ∀ (cs : List CallD) {b b' : Bk} {n : Nat} {who : Int}, b.Wf n → enters b cs who = some b' → b'.Wf (n + cs.length)
  | [], b, b', n, who, hw, h => by
    simp only [enters, Option.some.injEq] at h
    subst h
    exact hw
  | c :: r, b, b', n, who, hw, h => by
    simp only [enters] at h
    cases he : enterB b c who with
    | error e => rw [he] at h; cases h
    | ok b1 =>
      rw [he] at h
      have := enters_wf r (enterB_wf hw he) h
      rw [List.length_cons, show n + (r.length + 1) = n + 1 + r.length by omega]
      exact this
theorem enters_take : ∀ (cs : List CallD) (b : Bk) (who : Int) (k : Nat) (h : k < cs.length) (b1 : Bk), enters b (cs.take k) who = some b1 → enters b (cs.take (k + 1)) who = match enterB b1 cs[k] who with | .ok b2 => some b2 | .error _ => none
  | c :: r, b, who, 0, _, b1, h1 => by
    simp only [List.take_zero, enters, Option.some.injEq] at h1
    subst h1
    simp only [List.take_succ_cons, List.take_zero, enters, List.getElem_cons_zero]
  | c :: r, b, who, k + 1, h, b1, h1 => by
    simp only [List.take_succ_cons, enters, List.getElem_cons_succ] at h1 ⊢
    cases he : enterB b c who with
    | error e => rw [he] at h1; cases h1
    | ok b' =>
      rw [he] at h1
      exact enters_take r b' who k (by simpa using h) b1 h1
theorem enters_stop : ∀ (cs : List CallD) (b : Bk) (who : Int) (k : Nat), enters b (cs.take k) who = none → enters b cs who = none
  | [], b, who, k, h => by simpa using h
  | c :: r, b, who, 0, h => by simp [enters] at h
  | c :: r, b, who, k + 1, h => by
    simp only [List.take_succ_cons, enters] at h ⊢
    cases he : enterB b c who with
    | error e => rfl
    | ok b' =>
      rw [he] at h
      exact enters_stop r b' who k h
theorem eventOk_spec {e : EventD} (h : eventOk e = true) : 0 ≤ e.kind ∧ e.kind ≤ 3 ∧ e.calls.length ≤ 16 ∧ ∀ c ∈ e.calls, callOk c e.kind = true := by
  unfold eventOk at h
  simp only [Bool.and_eq_true, decide_eq_true_eq, List.all_eq_true] at h
  exact ⟨h.1.1.1, h.1.1.2, h.1.2, h.2⟩
theorem callOk_kind {c : CallD} {ev : Int} (h : callOk c ev = true) : 1 ≤ c.kind ∧ c.kind ≤ 8 := by
  unfold callOk at h
  by_cases h1 : c.kind < 1
  · rw [if_pos h1] at h; cases h
  · rw [if_neg h1] at h
    by_cases h2 : 8 < c.kind
    · rw [if_pos h2] at h; cases h
    · omega
theorem evOkB_long {keys : List ByteArray} {t : TxnD} (h : 16 < t.ops.length) : evOkB keys t = false := by
  rw [evOkB, Bool.and_eq_false_iff]
  by_cases ha : t.ops.all (okKey keys.length) = true
  · right
    cases he : eventOk (evOf keys t) with
    | false => rfl
    | true =>
      have h1 := (eventOk_spec he).2.2.1
      have h2 := (takeWhile_good (okKey keys.length) t.ops (fun i hi => List.all_eq_true.1 ha _ (List.getElem_mem _))).1
      simp only [evOf, h2, List.length_map] at h1
      omega
  · left
    simpa using ha
theorem evOkB_key {keys : List ByteArray} {t : TxnD} {k : Nat} (h : k < t.ops.length) (hb : okKey keys.length t.ops[k] = false) : evOkB keys t = false := by
  rw [evOkB, Bool.and_eq_false_iff]
  left
  rw [List.all_eq_false]
  exact ⟨t.ops[k], List.getElem_mem _, by simp [hb]⟩
theorem checkSt_wf {h : HistD} : ∀ {i : Nat} {b : Bk}, checkSt h i = some b → b.Wf (16 * i)
  | 0, b, hs => by
    simp only [checkSt, Option.some.injEq] at hs
    subst hs
    exact Bk.Wf.empty
  | i + 1, b, hs => by
    rw [checkSt] at hs
    cases hc : checkSt h i with
    | none => rw [hc] at hs; cases hs
    | some b0 =>
      rw [hc] at hs
      have hs : stepT h i b0 = some b := hs
      have hw := checkSt_wf hc
      unfold stepT at hs
      split at hs
      · cases hs
      · rename_i t ht
        split at hs
        · rename_i hcond
          simp only [Bool.and_eq_true] at hcond
          have hev : eventOk (evOf h.keys t) = true := by have := hcond.1; rw [evOkB, Bool.and_eq_true] at this; exact this.2
          have hl := (eventOk_spec hev).2.2.1
          have := enters_wf _ hw hs
          obtain ⟨a1, a2, a3, a4, a5, a6⟩ := this
          exact ⟨a1, a2, a3, a4, fun k => Nat.le_trans (a5 k) (by omega), a6⟩
        · cases hs
set_option maxHeartbeats 8000000 in
theorem names55 (l : List ByteArray) (hl : l.length ≤ 140737488351232) : PureC Try.prog 55 [.d (strs l)] (.d (.bool (namesB l))) := by
  refine PureC.of (n := 38) Try.func55 rfl rfl (by simp) (by simp only [argL, Nat.reduceAdd] <;> rfl) rfl ?_
  intro n0 H hH
  ((repeat refine WpM.seq ?_); have z_ex := True.intro; refine WpM.regPE [] [(0, _)] (by (refine s_o [] rfl rfl rfl z_su rfl q_move z_fp z_ss ?_; exact wpS_nil ⟨rfl, rfl⟩)) z_su ?_; clear z_ex)
  ((repeat refine WpM.seq ?_); have z_ex := True.intro; refine WpM.regPE [] [(0, _), (3, _)] (by (refine s_o [] rfl rfl rfl z_su rfl q_move z_fp z_ss ?_; exact wpS_nil ⟨rfl, rfl⟩)) z_su ?_; clear z_ex)
  ((repeat refine WpM.seq ?_); refine WpM.block ?_)
  refine WpM.loop (fun (j : Nat) fr S => j ≤ l.length ∧ (∀ i, i < j → nameB l i = true) ∧ fr = frOf [(0, .d (strs l)), (3, .d (.int .i64 j))] ∧ ∃ nx, S = ⟨nx, [], H⟩) (fun j => l.length - j) 0 (St.Le.refl _) (frLe_frOf (by (simp (maxSteps := 2000000) (disch := omega) [go_sem, -List.map_map]))) ⟨by omega, by simp, rfl, _, rfl⟩ ?_
  rintro j fr S' ⟨hj, hall, rfl, nx, rfl⟩
  ((repeat refine WpM.seq ?_); have z_ex := (And.intro @strs.eq_1 True.intro); refine WpM.regPE [] [(0, _), (3, _), (7, _)] (by (refine s_o [(3, _)] rfl rfl rfl z_su rfl q_move z_fp z_ss ?_; refine s_o [(0, _)] rfl rfl rfl z_su rfl q_move z_fp z_ss ?_; refine s_o [(5, _)] rfl rfl rfl z_su rfl q_full z_fp z_ss ?_; refine s_o [(4, _), (6, _)] rfl rfl rfl z_su rfl q_full z_fp z_ss ?_; exact wpS_nil ⟨rfl, rfl⟩)) z_su ?_; clear z_ex)
  by_cases hlt : j < l.length
  · ((repeat refine WpM.seq ?_); refine WpM.condT (by (simp (maxSteps := 2000000) (disch := omega) [go_sem, -List.map_map, hlt])) ?_)
    refine WpM.skip ?_
    ((repeat refine WpM.seq ?_); refine WpM.block ?_)
    have hnb := nameB_get hlt
    obtain ⟨s, hs⟩ : ∃ s, s = l[j] := ⟨_, rfl⟩
    have hget : (l.map D.str)[j]? = some (.str s) := by simp [hlt, hs]
    rw [← hs, findI_none] at hnb
    have hfind := find51 (l.take j) s (by simp; omega)
    obtain ⟨fi, hfi⟩ : ∃ fi, fi = findI (l.take j) s := ⟨_, rfl⟩
    have hst : strs (l.take j) = .sl ((l.map D.str).take j) := by rw [strs, List.map_take]
    rw [hst] at hfind
    rw [← hfi] at hfind hnb
    by_cases h1 : s.size < 1
    · have hr : namesB l = false := names_bad hlt (by rw [hnb]; simp; omega)
      rw [hr]
      have h1' : s.size = 0 := by omega
      ((repeat refine WpM.seq ?_); have z_ex := (And.intro @strs.eq_1 (And.intro @hget (And.intro @hlt (And.intro @h1' (And.intro @hj True.intro))))); refine WpM.drwPE [] [(0, _), (3, _), (34, _)] mixed (by kernel_rfl) (by kernel_rfl) [] (by kernel_rfl) (by (refine d_o [(0, _)] rfl rfl rfl z_su rfl q_move z_fp z_ss rfl ?_; refine d_o [(3, _)] rfl rfl rfl z_su rfl q_move z_fp z_ss rfl ?_; refine d_o [(10, _), (11, _)] rfl rfl rfl z_su rfl q_full z_fp z_ss rfl ?_; refine d_o [(12, _)] rfl rfl rfl z_su rfl q_load z_fp z_ss rfl ?_; refine d_o [(13, _)] rfl rfl rfl z_su rfl q_full z_fp z_ss rfl ?_; refine d_o [(14, _)] rfl rfl rfl z_su rfl q_full z_fp z_ss rfl ?_; refine d_o [(15, _)] rfl rfl rfl z_su rfl q_move z_fp z_ss rfl ?_; refine d_wit ?_; intro z_g; (first | refine d_skip rfl z_g z_fp ?_ | (refine d_o [(0, _)] rfl z_g rfl z_su rfl q_move z_fp z_ss rfl ?_)); clear z_g; refine d_wit ?_; intro z_g; (first | refine d_skip rfl z_g z_fp ?_ | (refine d_o [(3, _)] rfl z_g rfl z_su rfl q_move z_fp z_ss rfl ?_)); clear z_g; refine d_wit ?_; intro z_g; (first | refine d_skip rfl z_g z_fp ?_ | (refine d_o [(17, _), (18, _)] rfl z_g rfl z_su rfl q_full z_fp z_ss rfl ?_)); clear z_g; refine d_wit ?_; intro z_g; (first | refine d_skip rfl z_g z_fp ?_ | (refine d_o [(19, _)] rfl z_g rfl z_su rfl q_load z_fp z_ss rfl ?_)); clear z_g; refine d_wit ?_; intro z_g; (first | refine d_skip rfl z_g z_fp ?_ | (refine d_o [(20, _)] rfl z_g rfl z_su rfl q_full z_fp z_ss rfl ?_)); clear z_g; refine d_wit ?_; intro z_g; (first | refine d_skip rfl z_g z_fp ?_ | (refine d_o [(21, _)] rfl z_g rfl z_su rfl q_full z_fp z_ss rfl ?_)); clear z_g; refine d_o [(16, _), (22, _)] rfl rfl rfl z_su rfl q_move z_fp z_ss rfl ?_; refine d_o [(23, _)] rfl rfl rfl z_su rfl q_move z_fp z_ss rfl ?_; refine d_wit ?_; intro z_g; (first | refine d_skip rfl z_g z_fp ?_ | (refine d_o [(0, _)] rfl z_g rfl z_su rfl q_move z_fp z_ss rfl ?_)); clear z_g; refine d_wit ?_; intro z_g; (first | refine d_skip rfl z_g z_fp ?_ | (refine d_o [(3, _)] rfl z_g rfl z_su rfl q_move z_fp z_ss rfl ?_)); clear z_g; refine d_wit ?_; intro z_g; (first | refine d_skip rfl z_g z_fp ?_ | (refine d_o [(25, _), (26, _)] rfl z_g rfl z_su rfl q_full z_fp z_ss rfl ?_)); clear z_g; refine d_wit ?_; intro z_g; (first | refine d_skip rfl z_g z_fp ?_ | (refine d_o [(0, _)] rfl z_g rfl z_su rfl q_move z_fp z_ss rfl ?_)); clear z_g; refine d_wit ?_; intro z_g; (first | refine d_skip rfl z_g z_fp ?_ | (refine d_o [(3, _)] rfl z_g rfl z_su rfl q_move z_fp z_ss rfl ?_)); clear z_g; refine d_wit ?_; intro z_g; (first | refine d_skip rfl z_g z_fp ?_ | (refine d_o [(28, _), (29, _)] rfl z_g rfl z_su rfl q_full z_fp z_ss rfl ?_)); clear z_g; refine d_wit ?_; intro z_g; (first | refine d_skip rfl z_g z_fp ?_ | (refine d_o [(30, _)] rfl z_g rfl z_su rfl q_load z_fp z_ss rfl ?_)); clear z_g; refine d_wit ?_; intro z_g; (first | refine d_skip rfl z_g z_fp ?_ | (refine d_pure (callOf_eq rfl rfl rfl (mlk_tmp z_lk (mlk_tmp z_lk mlk_nil))) (hfind) rfl z_g z_ip rfl z_fp ?_)); clear z_g; refine d_wit ?_; intro z_g; (first | refine d_skip rfl z_g z_fp ?_ | (refine d_o [(32, _)] rfl z_g rfl z_su rfl q_full z_fp z_ss rfl ?_)); clear z_g; refine d_o [(24, _), (33, _)] rfl rfl rfl z_su rfl q_move z_fp z_ss rfl ?_; exact d_end z_mt z_sn)) z_su ?_; clear z_ex)
      ((repeat refine WpM.seq ?_); refine WpM.condT (by (simp (maxSteps := 2000000) (disch := omega) [go_sem, -List.map_map, h1'])) ?_)
      ((repeat refine WpM.seq ?_); have z_ex := True.intro; refine WpM.regPE [] [(2, _)] (by (refine s_o [] rfl rfl rfl z_su rfl q_move z_fp z_ss ?_; exact wpS_nil ⟨rfl, rfl⟩)) z_su ?_; clear z_ex)
      (refine WpM.ret ?_; refine ⟨.inr rfl, Upd.done ?_⟩; (simp (maxSteps := 2000000) (disch := omega) [go_sem, -List.map_map, resV, resVs, resV1,]))
    · have h1' : ¬ s.size = 0 := by omega
      have h1'' : ¬ ((s.size : Int) < 1) := by omega
      by_cases h2 : 32 < s.size
      · have hr : namesB l = false := names_bad hlt (by rw [hnb]; simp; omega)
        rw [hr]
        have h2' : (32 : Int) < s.size := by omega
        ((repeat refine WpM.seq ?_); have z_ex := (And.intro @strs.eq_1 (And.intro @hget (And.intro @hlt (And.intro @h1' (And.intro @h1'' (And.intro @h2 (And.intro @h2' (And.intro @hj True.intro)))))))); refine WpM.drwPE [] [(0, _), (3, _), (34, _)] mixed (by kernel_rfl) (by kernel_rfl) [] (by kernel_rfl) (by (refine d_o [(0, _)] rfl rfl rfl z_su rfl q_move z_fp z_ss rfl ?_; refine d_o [(3, _)] rfl rfl rfl z_su rfl q_move z_fp z_ss rfl ?_; refine d_o [(10, _), (11, _)] rfl rfl rfl z_su rfl q_full z_fp z_ss rfl ?_; refine d_o [(12, _)] rfl rfl rfl z_su rfl q_load z_fp z_ss rfl ?_; refine d_o [(13, _)] rfl rfl rfl z_su rfl q_full z_fp z_ss rfl ?_; refine d_o [(14, _)] rfl rfl rfl z_su rfl q_full z_fp z_ss rfl ?_; refine d_o [(15, _)] rfl rfl rfl z_su rfl q_move z_fp z_ss rfl ?_; refine d_wit ?_; intro z_g; (first | refine d_skip rfl z_g z_fp ?_ | (refine d_o [(0, _)] rfl z_g rfl z_su rfl q_move z_fp z_ss rfl ?_)); clear z_g; refine d_wit ?_; intro z_g; (first | refine d_skip rfl z_g z_fp ?_ | (refine d_o [(3, _)] rfl z_g rfl z_su rfl q_move z_fp z_ss rfl ?_)); clear z_g; refine d_wit ?_; intro z_g; (first | refine d_skip rfl z_g z_fp ?_ | (refine d_o [(17, _), (18, _)] rfl z_g rfl z_su rfl q_full z_fp z_ss rfl ?_)); clear z_g; refine d_wit ?_; intro z_g; (first | refine d_skip rfl z_g z_fp ?_ | (refine d_o [(19, _)] rfl z_g rfl z_su rfl q_load z_fp z_ss rfl ?_)); clear z_g; refine d_wit ?_; intro z_g; (first | refine d_skip rfl z_g z_fp ?_ | (refine d_o [(20, _)] rfl z_g rfl z_su rfl q_full z_fp z_ss rfl ?_)); clear z_g; refine d_wit ?_; intro z_g; (first | refine d_skip rfl z_g z_fp ?_ | (refine d_o [(21, _)] rfl z_g rfl z_su rfl q_full z_fp z_ss rfl ?_)); clear z_g; refine d_o [(16, _), (22, _)] rfl rfl rfl z_su rfl q_move z_fp z_ss rfl ?_; refine d_o [(23, _)] rfl rfl rfl z_su rfl q_move z_fp z_ss rfl ?_; refine d_wit ?_; intro z_g; (first | refine d_skip rfl z_g z_fp ?_ | (refine d_o [(0, _)] rfl z_g rfl z_su rfl q_move z_fp z_ss rfl ?_)); clear z_g; refine d_wit ?_; intro z_g; (first | refine d_skip rfl z_g z_fp ?_ | (refine d_o [(3, _)] rfl z_g rfl z_su rfl q_move z_fp z_ss rfl ?_)); clear z_g; refine d_wit ?_; intro z_g; (first | refine d_skip rfl z_g z_fp ?_ | (refine d_o [(25, _), (26, _)] rfl z_g rfl z_su rfl q_full z_fp z_ss rfl ?_)); clear z_g; refine d_wit ?_; intro z_g; (first | refine d_skip rfl z_g z_fp ?_ | (refine d_o [(0, _)] rfl z_g rfl z_su rfl q_move z_fp z_ss rfl ?_)); clear z_g; refine d_wit ?_; intro z_g; (first | refine d_skip rfl z_g z_fp ?_ | (refine d_o [(3, _)] rfl z_g rfl z_su rfl q_move z_fp z_ss rfl ?_)); clear z_g; refine d_wit ?_; intro z_g; (first | refine d_skip rfl z_g z_fp ?_ | (refine d_o [(28, _), (29, _)] rfl z_g rfl z_su rfl q_full z_fp z_ss rfl ?_)); clear z_g; refine d_wit ?_; intro z_g; (first | refine d_skip rfl z_g z_fp ?_ | (refine d_o [(30, _)] rfl z_g rfl z_su rfl q_load z_fp z_ss rfl ?_)); clear z_g; refine d_wit ?_; intro z_g; (first | refine d_skip rfl z_g z_fp ?_ | (refine d_pure (callOf_eq rfl rfl rfl (mlk_tmp z_lk (mlk_tmp z_lk mlk_nil))) (hfind) rfl z_g z_ip rfl z_fp ?_)); clear z_g; refine d_wit ?_; intro z_g; (first | refine d_skip rfl z_g z_fp ?_ | (refine d_o [(32, _)] rfl z_g rfl z_su rfl q_full z_fp z_ss rfl ?_)); clear z_g; refine d_o [(24, _), (33, _)] rfl rfl rfl z_su rfl q_move z_fp z_ss rfl ?_; exact d_end z_mt z_sn)) z_su ?_; clear z_ex)
        ((repeat refine WpM.seq ?_); refine WpM.condT (by (simp (maxSteps := 2000000) (disch := omega) [go_sem, -List.map_map, h1', h1'', h2, h2'])) ?_)
        ((repeat refine WpM.seq ?_); have z_ex := True.intro; refine WpM.regPE [] [(2, _)] (by (refine s_o [] rfl rfl rfl z_su rfl q_move z_fp z_ss ?_; exact wpS_nil ⟨rfl, rfl⟩)) z_su ?_; clear z_ex)
        (refine WpM.ret ?_; refine ⟨.inr rfl, Upd.done ?_⟩; (simp (maxSteps := 2000000) (disch := omega) [go_sem, -List.map_map, resV, resVs, resV1,]))
      · have h2' : ¬ (32 : Int) < s.size := by omega
        have h2'' : s.size ≤ 32 := by omega
        by_cases h3 : 0 ≤ fi
        · have hr : namesB l = false := names_bad hlt (by rw [hnb]; simp; omega)
          rw [hr]
          ((repeat refine WpM.seq ?_); have z_ex := (And.intro @strs.eq_1 (And.intro @hget (And.intro @hlt (And.intro @h1' (And.intro @h1'' (And.intro @h2' (And.intro @h2'' (And.intro @h3 (And.intro @hj True.intro))))))))); refine WpM.drwPE [] [(0, _), (3, _), (34, _)] mixed (by kernel_rfl) (by kernel_rfl) [] (by kernel_rfl) (by (refine d_o [(0, _)] rfl rfl rfl z_su rfl q_move z_fp z_ss rfl ?_; refine d_o [(3, _)] rfl rfl rfl z_su rfl q_move z_fp z_ss rfl ?_; refine d_o [(10, _), (11, _)] rfl rfl rfl z_su rfl q_full z_fp z_ss rfl ?_; refine d_o [(12, _)] rfl rfl rfl z_su rfl q_load z_fp z_ss rfl ?_; refine d_o [(13, _)] rfl rfl rfl z_su rfl q_full z_fp z_ss rfl ?_; refine d_o [(14, _)] rfl rfl rfl z_su rfl q_full z_fp z_ss rfl ?_; refine d_o [(15, _)] rfl rfl rfl z_su rfl q_move z_fp z_ss rfl ?_; refine d_wit ?_; intro z_g; (first | refine d_skip rfl z_g z_fp ?_ | (refine d_o [(0, _)] rfl z_g rfl z_su rfl q_move z_fp z_ss rfl ?_)); clear z_g; refine d_wit ?_; intro z_g; (first | refine d_skip rfl z_g z_fp ?_ | (refine d_o [(3, _)] rfl z_g rfl z_su rfl q_move z_fp z_ss rfl ?_)); clear z_g; refine d_wit ?_; intro z_g; (first | refine d_skip rfl z_g z_fp ?_ | (refine d_o [(17, _), (18, _)] rfl z_g rfl z_su rfl q_full z_fp z_ss rfl ?_)); clear z_g; refine d_wit ?_; intro z_g; (first | refine d_skip rfl z_g z_fp ?_ | (refine d_o [(19, _)] rfl z_g rfl z_su rfl q_load z_fp z_ss rfl ?_)); clear z_g; refine d_wit ?_; intro z_g; (first | refine d_skip rfl z_g z_fp ?_ | (refine d_o [(20, _)] rfl z_g rfl z_su rfl q_full z_fp z_ss rfl ?_)); clear z_g; refine d_wit ?_; intro z_g; (first | refine d_skip rfl z_g z_fp ?_ | (refine d_o [(21, _)] rfl z_g rfl z_su rfl q_full z_fp z_ss rfl ?_)); clear z_g; refine d_o [(16, _), (22, _)] rfl rfl rfl z_su rfl q_move z_fp z_ss rfl ?_; refine d_o [(23, _)] rfl rfl rfl z_su rfl q_move z_fp z_ss rfl ?_; refine d_wit ?_; intro z_g; (first | refine d_skip rfl z_g z_fp ?_ | (refine d_o [(0, _)] rfl z_g rfl z_su rfl q_move z_fp z_ss rfl ?_)); clear z_g; refine d_wit ?_; intro z_g; (first | refine d_skip rfl z_g z_fp ?_ | (refine d_o [(3, _)] rfl z_g rfl z_su rfl q_move z_fp z_ss rfl ?_)); clear z_g; refine d_wit ?_; intro z_g; (first | refine d_skip rfl z_g z_fp ?_ | (refine d_o [(25, _), (26, _)] rfl z_g rfl z_su rfl q_full z_fp z_ss rfl ?_)); clear z_g; refine d_wit ?_; intro z_g; (first | refine d_skip rfl z_g z_fp ?_ | (refine d_o [(0, _)] rfl z_g rfl z_su rfl q_move z_fp z_ss rfl ?_)); clear z_g; refine d_wit ?_; intro z_g; (first | refine d_skip rfl z_g z_fp ?_ | (refine d_o [(3, _)] rfl z_g rfl z_su rfl q_move z_fp z_ss rfl ?_)); clear z_g; refine d_wit ?_; intro z_g; (first | refine d_skip rfl z_g z_fp ?_ | (refine d_o [(28, _), (29, _)] rfl z_g rfl z_su rfl q_full z_fp z_ss rfl ?_)); clear z_g; refine d_wit ?_; intro z_g; (first | refine d_skip rfl z_g z_fp ?_ | (refine d_o [(30, _)] rfl z_g rfl z_su rfl q_load z_fp z_ss rfl ?_)); clear z_g; refine d_wit ?_; intro z_g; (first | refine d_skip rfl z_g z_fp ?_ | (refine d_pure (callOf_eq rfl rfl rfl (mlk_tmp z_lk (mlk_tmp z_lk mlk_nil))) (hfind) rfl z_g z_ip rfl z_fp ?_)); clear z_g; refine d_wit ?_; intro z_g; (first | refine d_skip rfl z_g z_fp ?_ | (refine d_o [(32, _)] rfl z_g rfl z_su rfl q_full z_fp z_ss rfl ?_)); clear z_g; refine d_o [(24, _), (33, _)] rfl rfl rfl z_su rfl q_move z_fp z_ss rfl ?_; exact d_end z_mt z_sn)) z_su ?_; clear z_ex)
          ((repeat refine WpM.seq ?_); refine WpM.condT (by (simp (maxSteps := 2000000) (disch := omega) [go_sem, -List.map_map, h3])) ?_)
          ((repeat refine WpM.seq ?_); have z_ex := True.intro; refine WpM.regPE [] [(2, _)] (by (refine s_o [] rfl rfl rfl z_su rfl q_move z_fp z_ss ?_; exact wpS_nil ⟨rfl, rfl⟩)) z_su ?_; clear z_ex)
          (refine WpM.ret ?_; refine ⟨.inr rfl, Upd.done ?_⟩; (simp (maxSteps := 2000000) (disch := omega) [go_sem, -List.map_map, resV, resVs, resV1,]))
        · have h3' : fi < 0 := by omega
          ((repeat refine WpM.seq ?_); have z_ex := (And.intro @strs.eq_1 (And.intro @hget (And.intro @hlt (And.intro @h1' (And.intro @h1'' (And.intro @h2' (And.intro @h2'' (And.intro @h3' (And.intro @hj True.intro))))))))); refine WpM.drwPE [] [(0, _), (3, _), (34, _)] mixed (by kernel_rfl) (by kernel_rfl) [] (by kernel_rfl) (by (refine d_o [(0, _)] rfl rfl rfl z_su rfl q_move z_fp z_ss rfl ?_; refine d_o [(3, _)] rfl rfl rfl z_su rfl q_move z_fp z_ss rfl ?_; refine d_o [(10, _), (11, _)] rfl rfl rfl z_su rfl q_full z_fp z_ss rfl ?_; refine d_o [(12, _)] rfl rfl rfl z_su rfl q_load z_fp z_ss rfl ?_; refine d_o [(13, _)] rfl rfl rfl z_su rfl q_full z_fp z_ss rfl ?_; refine d_o [(14, _)] rfl rfl rfl z_su rfl q_full z_fp z_ss rfl ?_; refine d_o [(15, _)] rfl rfl rfl z_su rfl q_move z_fp z_ss rfl ?_; refine d_wit ?_; intro z_g; (first | refine d_skip rfl z_g z_fp ?_ | (refine d_o [(0, _)] rfl z_g rfl z_su rfl q_move z_fp z_ss rfl ?_)); clear z_g; refine d_wit ?_; intro z_g; (first | refine d_skip rfl z_g z_fp ?_ | (refine d_o [(3, _)] rfl z_g rfl z_su rfl q_move z_fp z_ss rfl ?_)); clear z_g; refine d_wit ?_; intro z_g; (first | refine d_skip rfl z_g z_fp ?_ | (refine d_o [(17, _), (18, _)] rfl z_g rfl z_su rfl q_full z_fp z_ss rfl ?_)); clear z_g; refine d_wit ?_; intro z_g; (first | refine d_skip rfl z_g z_fp ?_ | (refine d_o [(19, _)] rfl z_g rfl z_su rfl q_load z_fp z_ss rfl ?_)); clear z_g; refine d_wit ?_; intro z_g; (first | refine d_skip rfl z_g z_fp ?_ | (refine d_o [(20, _)] rfl z_g rfl z_su rfl q_full z_fp z_ss rfl ?_)); clear z_g; refine d_wit ?_; intro z_g; (first | refine d_skip rfl z_g z_fp ?_ | (refine d_o [(21, _)] rfl z_g rfl z_su rfl q_full z_fp z_ss rfl ?_)); clear z_g; refine d_o [(16, _), (22, _)] rfl rfl rfl z_su rfl q_move z_fp z_ss rfl ?_; refine d_o [(23, _)] rfl rfl rfl z_su rfl q_move z_fp z_ss rfl ?_; refine d_wit ?_; intro z_g; (first | refine d_skip rfl z_g z_fp ?_ | (refine d_o [(0, _)] rfl z_g rfl z_su rfl q_move z_fp z_ss rfl ?_)); clear z_g; refine d_wit ?_; intro z_g; (first | refine d_skip rfl z_g z_fp ?_ | (refine d_o [(3, _)] rfl z_g rfl z_su rfl q_move z_fp z_ss rfl ?_)); clear z_g; refine d_wit ?_; intro z_g; (first | refine d_skip rfl z_g z_fp ?_ | (refine d_o [(25, _), (26, _)] rfl z_g rfl z_su rfl q_full z_fp z_ss rfl ?_)); clear z_g; refine d_wit ?_; intro z_g; (first | refine d_skip rfl z_g z_fp ?_ | (refine d_o [(0, _)] rfl z_g rfl z_su rfl q_move z_fp z_ss rfl ?_)); clear z_g; refine d_wit ?_; intro z_g; (first | refine d_skip rfl z_g z_fp ?_ | (refine d_o [(3, _)] rfl z_g rfl z_su rfl q_move z_fp z_ss rfl ?_)); clear z_g; refine d_wit ?_; intro z_g; (first | refine d_skip rfl z_g z_fp ?_ | (refine d_o [(28, _), (29, _)] rfl z_g rfl z_su rfl q_full z_fp z_ss rfl ?_)); clear z_g; refine d_wit ?_; intro z_g; (first | refine d_skip rfl z_g z_fp ?_ | (refine d_o [(30, _)] rfl z_g rfl z_su rfl q_load z_fp z_ss rfl ?_)); clear z_g; refine d_wit ?_; intro z_g; (first | refine d_skip rfl z_g z_fp ?_ | (refine d_pure (callOf_eq rfl rfl rfl (mlk_tmp z_lk (mlk_tmp z_lk mlk_nil))) (hfind) rfl z_g z_ip rfl z_fp ?_)); clear z_g; refine d_wit ?_; intro z_g; (first | refine d_skip rfl z_g z_fp ?_ | (refine d_o [(32, _)] rfl z_g rfl z_su rfl q_full z_fp z_ss rfl ?_)); clear z_g; refine d_o [(24, _), (33, _)] rfl rfl rfl z_su rfl q_move z_fp z_ss rfl ?_; exact d_end z_mt z_sn)) z_su ?_; clear z_ex)
          ((repeat refine WpM.seq ?_); refine WpM.condF (by (simp (maxSteps := 2000000) (disch := omega) [go_sem, -List.map_map, h3'])) ?_)
          refine WpM.skip ?_
          ((repeat refine WpM.seq ?_); have z_ex := (And.intro @wrap_id True.intro); refine WpM.regPE [] [(0, _), (3, _)] (by (refine s_o [(3, _)] rfl rfl rfl z_su rfl q_move z_fp z_ss ?_; refine s_o [(8, _)] rfl rfl rfl z_su rfl q_full z_fp z_ss ?_; refine s_o [(9, _)] rfl rfl rfl z_su rfl q_move z_fp z_ss ?_; exact wpS_nil ⟨rfl, rfl⟩)) z_su ?_; clear z_ex)
          have hall' : ∀ i, i < j + 1 → nameB l i = true := fun i hi => by
            rcases Nat.lt_or_ge i j with h' | h'
            · exact hall i h'
            · obtain rfl : i = j := by omega
              rw [hnb]; simp [h3']; omega
          exact round_end (x' := j + 1) (St.Le.refl _) (frLe_frOf (by (simp (maxSteps := 2000000) (disch := omega) [go_sem, -List.map_map, wrap_id]))) ⟨by omega, hall', rfl, _, rfl⟩ (by omega)
  · ((repeat refine WpM.seq ?_); refine WpM.condF (by (simp (maxSteps := 2000000) (disch := omega) [go_sem, -List.map_map, hlt])) ?_)
    (refine WpM.exit ?_; (repeat (with_reducible (first | refine thenM_exit ?_ | refine blockM_eq ?_ | refine blockM_ne (by decide) ?_))))
    obtain rfl : j = l.length := by omega
    rw [names_good hall]
    ((repeat refine WpM.seq ?_); have z_ex := (And.intro @strs.eq_1 True.intro); refine WpM.regPE [] [(2, _)] (by (refine s_o [(0, _)] rfl rfl rfl z_su rfl q_move z_fp z_ss ?_; refine s_o [(35, _)] rfl rfl rfl z_su rfl q_full z_fp z_ss ?_; refine s_o [(36, _)] rfl rfl rfl z_su rfl q_full z_fp z_ss ?_; refine s_o [(37, _)] rfl rfl rfl z_su rfl q_move z_fp z_ss ?_; exact wpS_nil ⟨rfl, rfl⟩)) z_su ?_; clear z_ex)
    by_cases h32 : l.length ≤ 32
    · (refine WpM.ret ?_; refine ⟨.inr rfl, Upd.done ?_⟩; (simp (maxSteps := 2000000) (disch := omega) [go_sem, -List.map_map, resV, resVs, resV1, h32]))
      omega
    · have : 32 < l.length := by omega
      (refine WpM.ret ?_; refine ⟨.inr rfl, Upd.done ?_⟩; (simp (maxSteps := 2000000) (disch := omega) [go_sem, -List.map_map, resV, resVs, resV1, h32]))
      omega
end Go.Proofs.Ytjjmedgibcffhaa
/- How a history is built: the pure model. -/
namespace Go.Proofs.Ytjjmedgibcffhaa
open Go.RowKit M
set_option linter.unusedSimpArgs false
set_option linter.unusedVariables false
def entersE (b : Bk) : List CallD → Int → Except Int Bk
  | [], _ => .ok b
  | c :: r, who => match enterB b c who with
    | .ok b' => entersE b' r who
    | .error e => .error e
def opOf (b : Bk) (c : CallD) : OpD := ⟨c.kind, (((findN b.keys c.key).getD 0 : Nat) : Int), c.arg, c.got, c.vals⟩
def callsFor (l : List EventD) (p : PairD) : List CallD := if p.status = 1 then (ev l p.to_.toNat).calls else (ev l p.from_).calls
def txnOf (l : List EventD) (p : PairD) (b : Bk) : TxnD := ⟨(ev l p.from_).proc, p.status, p.from_, p.to_, (callsFor l p).map (opOf b)⟩
def buildStep (l : List EventD) (i : Nat) (p : PairD) (b : Bk) (ts : List TxnD) : Except (Int × Int) (Bk × List TxnD) :=
  if i = 32 then .error (2, p.from_) else match entersE b (ev l p.from_).calls p.from_ with
    | .error e => .error (e, p.from_)
    | .ok b' => .ok (b', ts ++ [txnOf l p b'])
def buildSt (l : List EventD) (ps : List PairD) : Nat → Except (Int × Int) (Bk × List TxnD)
  | 0 => .ok (.empty, [])
  | i + 1 => match buildSt l ps i with
    | .error e => .error e
    | .ok (b, ts) => match ps[i]? with
      | none => .ok (b, ts)
      | some p => buildStep l i p b ts
noncomputable def buildF (l : List EventD) : HistD × Int × Int := match pairsF l with
  | .error e => (⟨[], []⟩, e)
  | .ok ps => match buildSt l ps ps.length with
    | .error e => (⟨[], []⟩, e)
    | .ok (b, ts) => (⟨b.keys, ts⟩, 0, 0)
theorem buildSt_succ {l : List EventD} {ps : List PairD} {i : Nat} {b : Bk} {ts : List TxnD} (h : buildSt l ps i = .ok (b, ts)) (hi : i < ps.length) : buildSt l ps (i + 1) = buildStep l i ps[i] b ts := by
  simp only [buildSt, h, List.getElem?_eq_getElem hi]
theorem buildSt_bad {l : List EventD} {ps : List PairD} {i : Nat} {e : Int × Int} (h : buildSt l ps i = .error e) : ∀ {m : Nat}, i ≤ m → buildSt l ps m = .error e := by
  intro m hm
  induction m with
  | zero => obtain rfl : i = 0 := by omega
            exact h
  | succ m ih =>
    rcases Nat.lt_or_ge m i with h1 | h1
    · obtain rfl : i = m + 1 := by omega
      exact h
    · rw [buildSt, ih h1]
theorem buildF_bad {l : List EventD} {ps : List PairD} {i : Nat} {b : Bk} {ts : List TxnD} {e : Int × Int} (hp : pairsF l = .ok ps) (hi : i < ps.length) (h : buildSt l ps i = .ok (b, ts)) (hs : buildStep l i ps[i] b ts = .error e) : buildF l = (⟨[], []⟩, e) := by
  have h1 : buildSt l ps (i + 1) = .error e := by rw [buildSt_succ h hi]; exact hs
  rw [buildF, hp]
  simp only
  rw [buildSt_bad h1 hi]
theorem buildF_ok {l : List EventD} {ps : List PairD} {b : Bk} {ts : List TxnD} (hp : pairsF l = .ok ps) (h : buildSt l ps ps.length = .ok (b, ts)) : buildF l = (⟨b.keys, ts⟩, 0, 0) := by
  rw [buildF, hp]
  simp only
  rw [h]
theorem entersE_take : ∀ (cs : List CallD) (b : Bk) (who : Int) (k : Nat) (h : k < cs.length) (b1 : Bk), entersE b (cs.take k) who = .ok b1 → entersE b (cs.take (k + 1)) who = enterB b1 cs[k] who
  | c :: r, b, who, 0, _, b1, h1 => by
    simp only [List.take_zero, entersE, Except.ok.injEq] at h1
    subst h1
    simp only [List.take_succ_cons, List.take_zero, entersE, List.getElem_cons_zero]
    cases enterB b c who <;> rfl
  | c :: r, b, who, k + 1, h, b1, h1 => by
    simp only [List.take_succ_cons, entersE, List.getElem_cons_succ] at h1 ⊢
    cases he : enterB b c who with
    | error e => rw [he] at h1; cases h1
    | ok b' =>
      rw [he] at h1
      exact entersE_take r b' who k (by simpa using h) b1 h1
theorem entersE_stop : ∀ (cs : List CallD) (b : Bk) (who : Int) (k : Nat) (e : Int), entersE b (cs.take k) who = .error e → entersE b cs who = .error e
  | [], b, who, k, e, h => by simpa using h
  | c :: r, b, who, 0, e, h => by simp [entersE] at h
  | c :: r, b, who, k + 1, e, h => by
    simp only [List.take_succ_cons, entersE] at h ⊢
    cases he : enterB b c who with
    | error e' => rw [he] at h; exact h
    | ok b' =>
      rw [he] at h
      exact entersE_stop r b' who k e h
theorem entersE_wf : ∀ (cs : List CallD) {b b' : Bk} {n : Nat} {who : Int}, b.Wf n → entersE b cs who = .ok b' → b'.Wf (n + cs.length)
  | [], b, b', n, who, hw, h => by
    simp only [entersE, Except.ok.injEq] at h
    subst h
    exact hw
  | c :: r, b, b', n, who, hw, h => by
    simp only [entersE] at h
    cases he : enterB b c who with
    | error e => rw [he] at h; cases h
    | ok b1 =>
      rw [he] at h
      have := entersE_wf r (enterB_wf hw he) h
      rw [List.length_cons, show n + (r.length + 1) = n + 1 + r.length by omega]
      exact this
/-- Keys stay where they are. -/
def KeysLe (b b' : Bk) : Prop := ∀ s k, findN b.keys s = some k → findN b'.keys s = some k
theorem KeysLe.refl (b : Bk) : KeysLe b b := fun _ _ h => h
theorem KeysLe.trans {a b c : Bk} (h : KeysLe a b) (k : KeysLe b c) : KeysLe a c := fun s i hs => k s i (h s i hs)
theorem enterB_keys {b b' : Bk} {n : Nat} {c : CallD} {who : Int} (hw : b.Wf n) (h : enterB b c who = .ok b') : KeysLe b b' ∧ ∃ k, findN b'.keys c.key = some k := by
  unfold enterB at h
  cases ha : addB b c with
  | none => rw [ha] at h; cases h
  | some p =>
    obtain ⟨b1, k⟩ := p
    rw [ha] at h
    obtain ⟨hw1, hf1⟩ := addB_wf hw ha
    obtain ⟨_, hk⟩ := putB_wf hw1 h
    refine ⟨fun s i hs => ?_, k, by rw [hk]; exact hf1⟩
    rw [hk]
    unfold addB at ha
    split at ha
    · injection ha with ha
      injection ha with ha1 _
      subst ha1
      exact hs
    · rename_i hn
      split at ha
      · cases ha
      · injection ha with ha
        injection ha with ha1 _
        subst ha1
        simp only [Bk.push, findN_push hn]
        split
        · rename_i e
          subst e
          rw [hn] at hs
          cases hs
        · exact hs
theorem entersE_keys : ∀ (cs : List CallD) {b b' : Bk} {n : Nat} {who : Int}, b.Wf n → entersE b cs who = .ok b' → KeysLe b b' ∧ ∀ c ∈ cs, ∃ k, findN b'.keys c.key = some k
  | [], b, b', n, who, hw, h => by
    simp only [entersE, Except.ok.injEq] at h
    subst h
    exact ⟨KeysLe.refl _, by simp⟩
  | c :: r, b, b', n, who, hw, h => by
    simp only [entersE] at h
    cases he : enterB b c who with
    | error e => rw [he] at h; cases h
    | ok b1 =>
      rw [he] at h
      obtain ⟨h1, k, h2⟩ := enterB_keys hw he
      obtain ⟨h3, h4⟩ := entersE_keys r (enterB_wf hw he) h
      refine ⟨h1.trans h3, fun c' hc => ?_⟩
      rcases List.mem_cons.1 hc with rfl | hc
      · exact ⟨k, h3 _ _ h2⟩
      · exact h4 c' hc
theorem listOk_ev {l : List EventD} (h : listOk l = true) {i : Nat} (hi : i < l.length) : eventOk (ev l i) = true := by
  unfold listOk at h
  simp only [Bool.and_eq_true, List.all_eq_true] at h
  rw [ev_eq hi]
  exact h.2 _ (List.getElem_mem _)
theorem match_keys {a b : EventD} (h : matchB a b = true) : ∀ c ∈ b.calls, ∃ c' ∈ a.calls, c'.key = c.key := by
  unfold matchB callsEq at h
  simp only [Bool.and_eq_true, decide_eq_true_eq, List.all_eq_true] at h
  intro c hc
  obtain ⟨i, hi, rfl⟩ := List.getElem_of_mem hc
  have hl := h.2.1
  have hia : i < a.calls.length := by omega
  refine ⟨a.calls[i], List.getElem_mem _, ?_⟩
  have := h.2.2 (a.calls[i], b.calls[i]) (by
    rw [List.mem_iff_getElem]
    exact ⟨i, by simp; omega, by simp⟩)
  simp only [callEq, Bool.and_eq_true, decide_eq_true_eq] at this
  exact M.toList_inj this.1.2
/-- What is known of each pair while a history is built. -/
structure PairOk (l : List EventD) (p : PairD) : Prop where
  frm : p.from_ < l.length
  fok : eventOk (ev l p.from_) = true
  to_ : p.status = 1 → ∃ t : Nat, p.to_ = t ∧ t < l.length ∧ eventOk (ev l t) = true ∧ matchB (ev l p.from_) (ev l t) = true
theorem pair_ok {l : List EventD} {ps : List PairD} (hp : pairsF l = .ok ps) {i : Nat} (hi : i < ps.length) : PairOk l ps[i] := by
  obtain ⟨op, hF⟩ := pairsF_finv hp
  obtain ⟨hok, _⟩ := pairsF_ok hp
  refine ⟨(hF.frm i hi).1, listOk_ev hok (hF.frm i hi).1, fun hs => ?_⟩
  rcases hF.to_ i hi with ⟨_, h3⟩ | ⟨t, h1, h2, h3, h4, h5, h6, h7⟩
  · omega
  · exact ⟨t, h1, h3, listOk_ev hok h3, h7⟩
theorem PairOk.keys {l : List EventD} {p : PairD} (h : PairOk l p) {b b' : Bk} {n : Nat} {who : Int} (hw : b.Wf n) (he : entersE b (ev l p.from_).calls who = .ok b') : ∀ c ∈ callsFor l p, ∃ k, findN b'.keys c.key = some k := by
  have hk := (entersE_keys _ hw he).2
  intro c hc
  unfold callsFor at hc
  split at hc
  · rename_i hs
    obtain ⟨t, h1, h2, h3, h4⟩ := h.to_ hs
    rw [h1] at hc
    obtain ⟨c', hc', e⟩ := match_keys h4 c (by simpa using hc)
    rw [← e]
    exact hk c' hc'
  · exact hk c hc
theorem PairOk.calls16 {l : List EventD} {p : PairD} (h : PairOk l p) : (callsFor l p).length ≤ 16 := by
  unfold callsFor
  split
  · rename_i hs
    obtain ⟨t, h1, h2, h3, h4⟩ := h.to_ hs
    rw [h1]
    exact (eventOk_spec h3).2.2.1
  · exact (eventOk_spec h.fok).2.2.1
theorem PairOk.callOk {l : List EventD} {p : PairD} (h : PairOk l p) : ∀ c ∈ callsFor l p, ∃ ev, callOk c ev = true := by
  intro c hc
  unfold callsFor at hc
  split at hc
  · rename_i hs
    obtain ⟨t, h1, h2, h3, h4⟩ := h.to_ hs
    rw [h1] at hc
    exact ⟨_, (eventOk_spec h3).2.2.2 c (by simpa using hc)⟩
  · exact ⟨_, (eventOk_spec h.fok).2.2.2 c hc⟩
theorem buildSt_wf {l : List EventD} {ps : List PairD} (hp : pairsF l = .ok ps) : ∀ {i : Nat} {b : Bk} {ts : List TxnD}, i ≤ ps.length → buildSt l ps i = .ok (b, ts) → b.Wf (16 * i) ∧ ts.length = i ∧ i ≤ 32
  | 0, b, ts, _, h => by
    simp only [buildSt, Except.ok.injEq, Prod.mk.injEq] at h
    obtain ⟨rfl, rfl⟩ := h
    exact ⟨Bk.Wf.empty, rfl, by omega⟩
  | i + 1, b, ts, hi, h => by
    cases h0 : buildSt l ps i with
    | error e => rw [buildSt, h0] at h; cases h
    | ok s =>
      obtain ⟨b0, ts0⟩ := s
      obtain ⟨hw, hl, h32⟩ := buildSt_wf hp (by omega) h0
      rw [buildSt_succ h0 (by omega)] at h
      have hpo := pair_ok hp (i := i) (by omega)
      unfold buildStep at h
      split at h
      · cases h
      · rename_i hne
        cases he : entersE b0 (ev l ps[i].from_).calls ps[i].from_ with
        | error e => rw [he] at h; cases h
        | ok b1 =>
          rw [he] at h
          simp only [Except.ok.injEq, Prod.mk.injEq] at h
          obtain ⟨rfl, rfl⟩ := h
          have h16 := (eventOk_spec hpo.fok).2.2.1
          obtain ⟨a1, a2, a3, a4, a5, a6⟩ := entersE_wf _ hw he
          exact ⟨⟨a1, a2, a3, a4, fun k => Nat.le_trans (a5 k) (by omega), a6⟩, by simp [hl], by omega⟩
end Go.Proofs.Ytjjmedgibcffhaa
