/- slices.Clone. -/
import Derived.Test.YtafeehlpmdligaaRMd
import Derived.Test.YtafeehlpmdligaaROp
import Derived.Test.YtafeehlpmdligaaRXa
import Derived.Test.YtafeehlpmdligaaRVd
namespace Go.Proofs.Ytafeehlpmdligaa
open Go.RowKit M
set_option linter.unusedSimpArgs false
set_option linter.unusedVariables false
theorem clone50 (c : List Int) (hlen : c.length ≤ 1000000000) : PureC Try.prog 50 [.d (ints c)] (.d (ints c)) := by
  refine PureC.of (n := 8) Try.func50 rfl rfl (by simp) (by simp only [argL, Nat.reduceAdd] <;> rfl) rfl ?_
  intro n0 H hH
  cases c with
  | nil =>
    ((repeat refine WpM.seq ?_); have z_ex := True.intro; refine WpM.regPE [] [(0, _)] (by (refine s_o [] rfl rfl rfl z_su rfl q_move z_fp z_ss ?_; exact wpS_nil ⟨rfl, rfl⟩)) z_su ?_; clear z_ex)
    ((repeat refine WpM.seq ?_); have z_ex := True.intro; refine WpM.regP [] ?_; intro K hK; refine s_o [(0, _)] rfl rfl rfl z_su rfl q_move z_fp z_ss ?_; refine wpS_cmp rfl rfl rfl rfl z_lk un35 ?_; intro z_b; refine s_put z_fp ?_; refine s_endE [(0, _), (4, _)] hK z_su ?_; clear hK K; clear z_ex)
    cases z_b with
    | true =>
      ((repeat refine WpM.seq ?_); refine WpM.condT (by (simp (maxSteps := 2000000) (disch := omega) [go_sem, -List.map_map])) ?_)
      ((repeat refine WpM.seq ?_); have z_ex := True.intro; refine WpM.regPE [] [(2, _)] (by (refine s_o [] rfl rfl rfl z_su rfl q_move z_fp z_ss ?_; exact wpS_nil ⟨rfl, rfl⟩)) z_su ?_; clear z_ex)
      refine WpM.ret ?_
      refine ⟨.inr rfl, Upd.pureNil 2 (.inl (by (simp (maxSteps := 2000000) (disch := omega) [go_sem, -List.map_map]))) (Upd.done ?_)⟩
      (simp (maxSteps := 2000000) (disch := omega) [go_sem, -List.map_map, resV, resVs, resV1, ints, fset])
    | false =>
      ((repeat refine WpM.seq ?_); refine WpM.condF (by (simp (maxSteps := 2000000) (disch := omega) [go_sem, -List.map_map])) ?_)
      refine WpM.skip ?_
      ((repeat refine WpM.seq ?_); have z_ex := (And.intro @ints.eq_1 True.intro); refine WpM.regPE [7] [(2, _)] (by (refine s_o [] rfl rfl rfl z_su rfl q_full z_fp z_ss ?_; refine s_o [(0, _)] rfl rfl rfl z_su rfl q_move z_fp z_ss ?_; refine s_o [(5, _), (6, _)] rfl rfl rfl z_su rfl q_full z_fp z_ss ?_; refine s_o [(7, _)] rfl rfl rfl z_su rfl q_move z_fp z_ss ?_; exact wpS_nil ⟨rfl, rfl⟩)) z_su ?_; clear z_ex)
      (refine WpM.ret ?_; refine ⟨.inr rfl, Upd.done ?_⟩; (simp (maxSteps := 2000000) (disch := omega) [go_sem, -List.map_map, resV, resVs, resV1, ints]))
  | cons a r =>
    ((repeat refine WpM.seq ?_); have z_ex := True.intro; refine WpM.regPE [] [(0, _)] (by (refine s_o [] rfl rfl rfl z_su rfl q_move z_fp z_ss ?_; exact wpS_nil ⟨rfl, rfl⟩)) z_su ?_; clear z_ex)
    ((repeat refine WpM.seq ?_); have z_ex := (And.intro @ints.eq_1 True.intro); refine WpM.regPE [] [(0, _), (4, _)] (by (refine s_o [(0, _)] rfl rfl rfl z_su rfl q_move z_fp z_ss ?_; refine s_o [(3, _)] rfl rfl rfl z_su rfl q_full z_fp z_ss ?_; exact wpS_nil ⟨rfl, rfl⟩)) z_su ?_; clear z_ex)
    ((repeat refine WpM.seq ?_); refine WpM.condF (by (simp (maxSteps := 2000000) (disch := omega) [go_sem, -List.map_map])) ?_)
    refine WpM.skip ?_
    simp only [List.length_cons] at hlen
    ((repeat refine WpM.seq ?_); have z_ex := (And.intro @ints.eq_1 True.intro); refine WpM.regPE [7] [(2, _)] (by (refine s_o [] rfl rfl rfl z_su rfl q_full z_fp z_ss ?_; refine s_o [(0, _)] rfl rfl rfl z_su rfl q_move z_fp z_ss ?_; refine s_o [(5, _), (6, _)] rfl rfl rfl z_su rfl q_full z_fp z_ss ?_; refine s_o [(7, _)] rfl rfl rfl z_su rfl q_move z_fp z_ss ?_; exact wpS_nil ⟨rfl, rfl⟩)) z_su ?_; clear z_ex)
    (refine WpM.ret ?_; refine ⟨.inr rfl, Upd.done ?_⟩; (simp (maxSteps := 2000000) (disch := omega) [go_sem, -List.map_map, resV, resVs, resV1, ints]))
theorem clone51 (c : List (List Int)) (hlen : c.length ≤ 1000000000) : PureC Try.prog 51 [.d (cls c)] (.d (cls c)) := by
  refine PureC.of (n := 8) Try.func51 rfl rfl (by simp) (by simp only [argL, Nat.reduceAdd] <;> rfl) rfl ?_
  intro n0 H hH
  cases c with
  | nil =>
    ((repeat refine WpM.seq ?_); have z_ex := True.intro; refine WpM.regPE [] [(0, _)] (by (refine s_o [] rfl rfl rfl z_su rfl q_move z_fp z_ss ?_; exact wpS_nil ⟨rfl, rfl⟩)) z_su ?_; clear z_ex)
    ((repeat refine WpM.seq ?_); have z_ex := True.intro; refine WpM.regP [] ?_; intro K hK; refine s_o [(0, _)] rfl rfl rfl z_su rfl q_move z_fp z_ss ?_; refine wpS_cmp rfl rfl rfl rfl z_lk un22 ?_; intro z_b; refine s_put z_fp ?_; refine s_endE [(0, _), (4, _)] hK z_su ?_; clear hK K; clear z_ex)
    cases z_b with
    | true =>
      ((repeat refine WpM.seq ?_); refine WpM.condT (by (simp (maxSteps := 2000000) (disch := omega) [go_sem, -List.map_map])) ?_)
      ((repeat refine WpM.seq ?_); have z_ex := True.intro; refine WpM.regPE [] [(2, _)] (by (refine s_o [] rfl rfl rfl z_su rfl q_move z_fp z_ss ?_; exact wpS_nil ⟨rfl, rfl⟩)) z_su ?_; clear z_ex)
      refine WpM.ret ?_
      refine ⟨.inr rfl, Upd.pureNil 2 (.inl (by (simp (maxSteps := 2000000) (disch := omega) [go_sem, -List.map_map]))) (Upd.done ?_)⟩
      (simp (maxSteps := 2000000) (disch := omega) [go_sem, -List.map_map, resV, resVs, resV1, cls, fset])
    | false =>
      ((repeat refine WpM.seq ?_); refine WpM.condF (by (simp (maxSteps := 2000000) (disch := omega) [go_sem, -List.map_map])) ?_)
      refine WpM.skip ?_
      ((repeat refine WpM.seq ?_); have z_ex := (And.intro @cls.eq_1 True.intro); refine WpM.regPE [7] [(2, _)] (by (refine s_o [] rfl rfl rfl z_su rfl q_full z_fp z_ss ?_; refine s_o [(0, _)] rfl rfl rfl z_su rfl q_move z_fp z_ss ?_; refine s_o [(5, _), (6, _)] rfl rfl rfl z_su rfl q_full z_fp z_ss ?_; refine s_o [(7, _)] rfl rfl rfl z_su rfl q_move z_fp z_ss ?_; exact wpS_nil ⟨rfl, rfl⟩)) z_su ?_; clear z_ex)
      (refine WpM.ret ?_; refine ⟨.inr rfl, Upd.done ?_⟩; (simp (maxSteps := 2000000) (disch := omega) [go_sem, -List.map_map, resV, resVs, resV1, cls]))
  | cons a r =>
    ((repeat refine WpM.seq ?_); have z_ex := True.intro; refine WpM.regPE [] [(0, _)] (by (refine s_o [] rfl rfl rfl z_su rfl q_move z_fp z_ss ?_; exact wpS_nil ⟨rfl, rfl⟩)) z_su ?_; clear z_ex)
    ((repeat refine WpM.seq ?_); have z_ex := (And.intro @cls.eq_1 True.intro); refine WpM.regPE [] [(0, _), (4, _)] (by (refine s_o [(0, _)] rfl rfl rfl z_su rfl q_move z_fp z_ss ?_; refine s_o [(3, _)] rfl rfl rfl z_su rfl q_full z_fp z_ss ?_; exact wpS_nil ⟨rfl, rfl⟩)) z_su ?_; clear z_ex)
    ((repeat refine WpM.seq ?_); refine WpM.condF (by (simp (maxSteps := 2000000) (disch := omega) [go_sem, -List.map_map])) ?_)
    refine WpM.skip ?_
    simp only [List.length_cons] at hlen
    ((repeat refine WpM.seq ?_); have z_ex := (And.intro @cls.eq_1 (And.intro @ints.eq_1 True.intro)); refine WpM.regPE [7] [(2, _)] (by (refine s_o [] rfl rfl rfl z_su rfl q_full z_fp z_ss ?_; refine s_o [(0, _)] rfl rfl rfl z_su rfl q_move z_fp z_ss ?_; refine s_o [(5, _), (6, _)] rfl rfl rfl z_su rfl q_full z_fp z_ss ?_; refine s_o [(7, _)] rfl rfl rfl z_su rfl q_move z_fp z_ss ?_; exact wpS_nil ⟨rfl, rfl⟩)) z_su ?_; clear z_ex)
    (refine WpM.ret ?_; refine ⟨.inr rfl, Upd.done ?_⟩; (simp (maxSteps := 2000000) (disch := omega) [go_sem, -List.map_map, resV, resVs, resV1, cls, ints]))
end Go.Proofs.Ytafeehlpmdligaa
/- slices.Clone of a clause as a new row; a copy of clauses. -/
namespace Go.Proofs.Ytafeehlpmdligaa
open Go.RowKit M
set_option linter.unusedSimpArgs false
set_option linter.unusedVariables false
theorem clone50o (c : List Int) (hlen : c.length ≤ 1000000000) (S : St) : CallM Try.prog 50 [.d (ints c)] S fun r S' => ∃ nm, S.next ≤ nm ∧ r = .ms nm 1 0 c.length ∧ S'.get nm = some (.row 1 (c.map lit)) ∧ ∀ m k, S.get m = some k → S'.get m = some k := by
  refine CallM.start (n := 8) Try.func50 rfl rfl (by simp) (by simp only [argL, Nat.reduceAdd] <;> rfl) ?_
  intro hH
  obtain ⟨H, hHe⟩ : ∃ H, H = S.get := ⟨_, rfl⟩
  obtain ⟨n0, hne⟩ : ∃ n0, n0 = S.next := ⟨_, rfl⟩
  rw [← hHe, ← hne] at hH ⊢
  cases c with
  | nil =>
    ((repeat refine WpM.seq ?_); have z_ex := True.intro; refine WpM.regPE [] [(0, _)] (by (refine s_o [] rfl rfl rfl z_su rfl q_move z_fp z_ss ?_; exact wpS_nil ⟨rfl, rfl⟩)) z_su ?_; clear z_ex)
    ((repeat refine WpM.seq ?_); have z_ex := True.intro; refine WpM.regP [] ?_; intro K hK; refine s_o [(0, _)] rfl rfl rfl z_su rfl q_move z_fp z_ss ?_; refine wpS_cmp rfl rfl rfl rfl z_lk un35 ?_; intro z_b; refine s_put z_fp ?_; refine s_endE [(0, _), (4, _)] hK z_su ?_; clear hK K; clear z_ex)
    cases z_b with
    | true =>
      ((repeat refine WpM.seq ?_); refine WpM.condT (by (simp (maxSteps := 2000000) (disch := omega) [go_sem, -List.map_map])) ?_)
      ((repeat refine WpM.seq ?_); have z_ex := True.intro; refine WpM.regPE [] [(2, _)] (by (refine s_o [] rfl rfl rfl z_su rfl q_move z_fp z_ss ?_; exact wpS_nil ⟨rfl, rfl⟩)) z_su ?_; clear z_ex)
      refine WpM.ret ?_
      refine ⟨.inr rfl, Upd.ghost 2 1 (.inl (by (simp (maxSteps := 2000000) (disch := omega) [go_sem, -List.map_map]))) (Upd.done ⟨.ms (n0 + 4) 1 0 0, (by (simp (maxSteps := 2000000) (disch := omega) [go_sem, -List.map_map, resV, resVs, resV1, fset])), n0 + 4, by omega, rfl, (by (simp (maxSteps := 2000000) (disch := omega) [go_sem, -List.map_map])), fun m k hk => ?_⟩)⟩
      have := hH _ _ hk
      (simp (maxSteps := 2000000) (disch := omega) [go_sem, -List.map_map, hk])
    | false =>
      ((repeat refine WpM.seq ?_); refine WpM.condF (by (simp (maxSteps := 2000000) (disch := omega) [go_sem, -List.map_map])) ?_)
      refine WpM.skip ?_
      ((repeat refine WpM.seq ?_); have z_ex := (And.intro @ints.eq_1 True.intro); refine WpM.regPE [] [(2, _)] (by (refine s_o [] rfl rfl rfl z_su rfl q_full z_fp z_ss ?_; refine s_o [(0, _)] rfl rfl rfl z_su rfl q_move z_fp z_ss ?_; refine s_o [(5, _), (6, _)] rfl rfl rfl z_su rfl q_full z_fp z_ss ?_; refine s_o [(7, _)] rfl rfl rfl z_su rfl q_move z_fp z_ss ?_; exact wpS_nil ⟨rfl, rfl⟩)) z_su ?_; clear z_ex)
      refine WpM.ret ?_
      refine ⟨.inr rfl, Upd.done ⟨.ms (n0 + 5) 1 0 0, (by (simp (maxSteps := 2000000) (disch := omega) [go_sem, -List.map_map, resV, resVs, resV1])), n0 + 5, by omega, rfl, (by (simp (maxSteps := 2000000) (disch := omega) [go_sem, -List.map_map])), fun m k hk => ?_⟩⟩
      have := hH _ _ hk
      (simp (maxSteps := 2000000) (disch := omega) [go_sem, -List.map_map, hk])
  | cons a r =>
    ((repeat refine WpM.seq ?_); have z_ex := True.intro; refine WpM.regPE [] [(0, _)] (by (refine s_o [] rfl rfl rfl z_su rfl q_move z_fp z_ss ?_; exact wpS_nil ⟨rfl, rfl⟩)) z_su ?_; clear z_ex)
    ((repeat refine WpM.seq ?_); have z_ex := (And.intro @ints.eq_1 True.intro); refine WpM.regPE [] [(0, _), (4, _)] (by (refine s_o [(0, _)] rfl rfl rfl z_su rfl q_move z_fp z_ss ?_; refine s_o [(3, _)] rfl rfl rfl z_su rfl q_full z_fp z_ss ?_; exact wpS_nil ⟨rfl, rfl⟩)) z_su ?_; clear z_ex)
    ((repeat refine WpM.seq ?_); refine WpM.condF (by (simp (maxSteps := 2000000) (disch := omega) [go_sem, -List.map_map])) ?_)
    refine WpM.skip ?_
    simp only [List.length_cons] at hlen
    ((repeat refine WpM.seq ?_); have z_ex := (And.intro @ints.eq_1 True.intro); refine WpM.regPE [] [(2, _)] (by (refine s_o [] rfl rfl rfl z_su rfl q_full z_fp z_ss ?_; refine s_o [(0, _)] rfl rfl rfl z_su rfl q_move z_fp z_ss ?_; refine s_o [(5, _), (6, _)] rfl rfl rfl z_su rfl q_full z_fp z_ss ?_; refine s_o [(7, _)] rfl rfl rfl z_su rfl q_move z_fp z_ss ?_; exact wpS_nil ⟨rfl, rfl⟩)) z_su ?_; clear z_ex)
    refine WpM.ret ?_
    refine ⟨.inr rfl, Upd.done ⟨.ms (n0 + 5) 1 0 (r.length + 1), (by (simp (maxSteps := 2000000) (disch := omega) [go_sem, -List.map_map, resV, resVs, resV1])), n0 + 5, by omega, rfl, (by (simp (maxSteps := 2000000) (disch := omega) [go_sem, -List.map_map, lit]); rw [List.map_map]; rfl), fun m k hk => ?_⟩⟩
    have := hH _ _ hk
    (simp (maxSteps := 2000000) (disch := omega) [go_sem, -List.map_map, hk])
set_option maxHeartbeats 8000000 in
theorem copied57 (np : Nat) (pf : List (List Int)) (S : St) (hrow : S.get np = some (.row 1 (pf.map fun c => .d (ints c)))) (hl : pf.length ≤ 1000000) (hc : ∀ c ∈ pf, c.length ≤ 1000000) :
    PureS Try.prog 57 [.ms np 1 0 pf.length] (.d (cls pf)) S := by
  refine PureS.of (n := 19) Try.func57 rfl rfl (by simp) (by simp only [argL, Nat.reduceAdd] <;> rfl) rfl ?_
  intro n0 H hH0 hH
  rw [hH0] at hrow
  have g1 := hH _ _ hrow
  ((repeat refine WpM.seq ?_); have z_ex := True.intro; refine WpM.regPE [] [(0, _)] (by (refine s_o [] rfl rfl rfl z_su rfl q_move z_fp z_ss ?_; exact wpS_nil ⟨rfl, rfl⟩)) z_su ?_; clear z_ex)
  ((repeat refine WpM.seq ?_); have z_ex := True.intro; refine WpM.regPE [] [(0, _), (3, _)] (by (refine s_o [] rfl rfl rfl z_su rfl q_move z_fp z_ss ?_; exact wpS_nil ⟨rfl, rfl⟩)) z_su ?_; clear z_ex)
  ((repeat refine WpM.seq ?_); have z_ex := True.intro; refine WpM.regPE [] [(3, _), (6, _), (7, _), (8, _)] (by (refine s_o [(0, _)] rfl rfl rfl z_su rfl q_move z_fp z_ss ?_; refine s_o [(6, _)] rfl rfl rfl z_su rfl q_full z_fp z_ss ?_; refine s_o [] rfl rfl rfl z_su rfl q_move z_fp z_ss ?_; exact wpS_nil ⟨rfl, rfl⟩)) z_su ?_; clear z_ex)
  refine Upd.wp (Upd.ghost 3 1 (.inl (by (simp (maxSteps := 2000000) (disch := omega) [go_sem, -List.map_map]))) (Upd.done ?_))
  ((repeat refine WpM.seq ?_); refine WpM.block ?_)
  refine WpM.loop (fun (j : Nat) fr S => j ≤ pf.length ∧ (∃ nn nr, n0 < nr ∧ nr < nn ∧ S = ⟨nn, [(nr, some (.row 1 ((pf.take j).map fun c => .d (ints c))))], H⟩ ∧ fr = frOf [(3, .ms nr 1 0 j), (6, .ms np 1 0 pf.length), (7, .d (.int .i64 pf.length)), (8, .d (.int .i64 j))])) (fun j => pf.length - j) 0 (St.Le.refl _) (frLe_frOf (by (simp (maxSteps := 2000000) (disch := omega) [go_sem, -List.map_map, fset]))) ⟨by omega, n0 + 6, n0 + 5, by omega, by omega, rfl, rfl⟩ ?_
  rintro j fr S' ⟨hj, nn, nr, hnr, hnn, rfl, rfl⟩
  ((repeat refine WpM.seq ?_); have z_ex := True.intro; refine WpM.regPE [] [(3, _), (6, _), (7, _), (8, _), (9, _)] (by (refine s_o [(7, _), (8, _)] rfl rfl rfl z_su rfl q_full z_fp z_ss ?_; exact wpS_nil ⟨rfl, rfl⟩)) z_su ?_; clear z_ex)
  by_cases hjt : j < pf.length
  · ((repeat refine WpM.seq ?_); refine WpM.condT (by (simp (maxSteps := 2000000) (disch := omega) [go_sem, -List.map_map, hjt])) ?_)
    refine WpM.skip ?_
    ((repeat refine WpM.seq ?_); refine WpM.block ?_)
    obtain ⟨c, hce⟩ : ∃ c, c = pf[j] := ⟨_, rfl⟩
    have hcl := hc c (hce ▸ List.getElem_mem _)
    have hget : (pf.map fun c => V.d (ints c))[j]? = some (.d (ints c)) := by simp [hjt, hce]
    have h50 := clone50 c (by omega)
    have hne : nr ≠ np := by omega
    have hlen : (pf.take j).length = j := by rw [List.length_take]; omega
    have htk : ((pf.take j).map fun c => V.d (ints c)).take j = (pf.take j).map fun c => V.d (ints c) := List.take_of_length_le (by simp; omega)
    ((repeat refine WpM.seq ?_); have z_ex := (And.intro @hrow (And.intro @hget (And.intro @hjt True.intro))); refine WpM.regPE [] [(3, _), (5, _), (6, _), (7, _), (8, _)] (by (refine s_o [(6, _), (8, _)] rfl rfl rfl z_su rfl q_full z_fp z_ss ?_; refine s_o [(10, _)] rfl rfl rfl z_su rfl q_load z_fp z_ss ?_; refine s_o [(11, _)] rfl rfl rfl z_su rfl q_move z_fp z_ss ?_; exact wpS_nil ⟨rfl, rfl⟩)) z_su ?_; clear z_ex)
    ((repeat refine WpM.seq ?_); have z_ex := (And.intro @hlen (And.intro @htk (And.intro @ints.eq_1 True.intro))); refine WpM.regPE [] [(3, _), (6, _), (7, _), (8, _)] (by (refine s_o [(3, _)] rfl rfl rfl z_su rfl q_move z_fp z_ss ?_; refine s_o [(5, _)] rfl rfl rfl z_su rfl q_move z_fp z_ss ?_; refine s_pure (callOf_eq rfl rfl rfl (mlk_tmp z_lk mlk_nil)) (h50) rfl rfl z_ip z_fp ?_; refine s_o [(14, _)] rfl rfl rfl z_su rfl q_full z_fp z_ss ?_; refine s_o [(12, _), (15, _)] rfl rfl rfl z_su rfl q_full z_fp z_ss ?_; refine s_o [(16, _)] rfl rfl rfl z_su rfl q_move z_fp z_ss ?_; exact wpS_nil ⟨rfl, rfl⟩)) z_su ?_; clear z_ex)
    have hrw : (List.take j (List.take j (List.map (fun c => V.d (D.sl (List.map (D.int IntKind.i64) c))) pf)) ++ [V.d (D.sl (List.map (D.int IntKind.i64) c))]) = (pf.take (j + 1)).map fun c => V.d (ints c) := by
      rw [List.take_succ_eq_append_getElem hjt, ← hce, List.map_append, List.take_take, Nat.min_self, ← List.map_take]
      rfl
    rw [hrw]
    refine blockM_norm ?_
    ((repeat refine WpM.seq ?_); have z_ex := (And.intro @wrap_id True.intro); refine WpM.regPE [] [(3, _), (6, _), (7, _), (8, _)] (by (refine s_o [(8, _)] rfl rfl rfl z_su rfl q_full z_fp z_ss ?_; refine s_o [(17, _)] rfl rfl rfl z_su rfl q_move z_fp z_ss ?_; exact wpS_nil ⟨rfl, rfl⟩)) z_su ?_; clear z_ex)
    exact round_end (x' := j + 1) (le_cut (n0 := n0) (l' := [(nn + 7, some (.row 1 ((pf.take (j + 1)).map fun c => V.d (ints c))))]) hH (by (simp (maxSteps := 2000000) (disch := omega) [go_sem, -List.map_map]); omega) (Nat.le_refl _) (by (simp (maxSteps := 2000000) (disch := omega) [go_sem, -List.map_map]))) (Sub.le z_su) ⟨by omega, _, nn + 7, by omega, by omega, rfl, rfl⟩ (by omega)
  · ((repeat refine WpM.seq ?_); refine WpM.condF (by (simp (maxSteps := 2000000) (disch := omega) [go_sem, -List.map_map, hjt])) ?_)
    (refine WpM.exit ?_; (repeat (with_reducible (first | refine thenM_exit ?_ | refine blockM_eq ?_ | refine blockM_ne (by decide) ?_))))
    obtain rfl : j = pf.length := by omega
    ((repeat refine WpM.seq ?_); have z_ex := True.intro; refine WpM.regPE [] [(2, _)] (by (refine s_o [(3, _)] rfl rfl rfl z_su rfl q_move z_fp z_ss ?_; refine s_o [(18, _)] rfl rfl rfl z_su rfl q_move z_fp z_ss ?_; exact wpS_nil ⟨rfl, rfl⟩)) z_su ?_; clear z_ex)
    refine WpM.ret ?_
    rw [List.take_length]
    refine ⟨.inr rfl, Upd.freeze 2 (nm := nr) (sz := 1) (o := 0) (m := pf.length) (xs := pf.map fun c => V.d (ints c)) (pf.map ints) (by (simp (maxSteps := 2000000) (disch := omega) [go_sem, -List.map_map])) (by (simp (maxSteps := 2000000) (disch := omega) [go_sem, -List.map_map])) (by rw [List.drop_zero, List.take_of_length_le (by simp), List.map_map]; rfl) (by simp) (Upd.done ?_)⟩
    (simp (maxSteps := 2000000) (disch := omega) [go_sem, -List.map_map, resV, resVs, resV1, cls, fset])
    omega
end Go.Proofs.Ytafeehlpmdligaa
/- A copy of clauses, all rows one's own. -/
namespace Go.Proofs.Ytafeehlpmdligaa
open Go.RowKit M
set_option linter.unusedSimpArgs false
set_option linter.unusedVariables false
attribute [go_sem] okV_ms okV_agg
def rowsV (ns : List Nat) (cs : List (List Int)) : List V := List.zipWith (fun nm c => V.ms nm 1 0 c.length) ns cs
structure OwnR (lo : Nat) (G : Nat → Option Blk) (ns : List Nat) (cs : List (List Int)) : Prop where
  nd : ns.Nodup
  len : ns.length = cs.length
  low : ∀ nm ∈ ns, lo ≤ nm
  row : ∀ (i nm : Nat) (c : List Int), ns[i]? = some nm → cs[i]? = some c → G nm = some (.row 1 (c.map lit))
theorem OwnR.zero {lo : Nat} {G : Nat → Option Blk} : OwnR lo G [] [] := ⟨List.nodup_nil, rfl, by simp, by simp⟩
theorem OwnR.is {lo : Nat} {G : Nat → Option Blk} {ns : List Nat} {cs : List (List Int)} (h : OwnR lo G ns cs) {nm : Nat} (hn : nm ∈ ns) : ∃ k, G nm = some k := by
  obtain ⟨i, hi, rfl⟩ := List.getElem_of_mem hn
  exact ⟨_, h.row i _ (cs[i]'(by rw [← h.len]; exact hi)) (by simp) (by simp)⟩
theorem OwnR.old {lo : Nat} {G G' : Nat → Option Blk} {ns : List Nat} {cs : List (List Int)} (h : OwnR lo G ns cs) (hk : ∀ m k, m ∈ ns → G m = some k → G' m = some k) : OwnR lo G' ns cs :=
  ⟨h.nd, h.len, h.low, fun i nm c h1 h2 => hk _ _ (List.mem_of_getElem? h1) (h.row i nm c h1 h2)⟩
theorem OwnR.push {lo : Nat} {G G' : Nat → Option Blk} {ns : List Nat} {cs : List (List Int)} (h : OwnR lo G ns cs) {nm : Nat} {c : List Int} (hn : nm ∉ ns) (hl : lo ≤ nm) (hr : G' nm = some (.row 1 (c.map lit))) (hk : ∀ m k, m ∈ ns → G m = some k → G' m = some k) : OwnR lo G' (ns ++ [nm]) (cs ++ [c]) := by
  refine ⟨?_, by simp [h.len], ?_, ?_⟩
  · rw [List.nodup_append]
    exact ⟨h.nd, by simp, fun a ha b hb => by rw [List.mem_singleton] at hb; subst hb; exact fun e => hn (e ▸ ha)⟩
  · intro m hm
    rcases List.mem_append.1 hm with hm | hm
    · exact h.low m hm
    · rw [List.mem_singleton] at hm; subst hm; exact hl
  · intro i m d h1 h2
    rw [List.getElem?_append] at h1 h2
    rw [← h.len] at h2
    split at h1
    · rename_i hi
      rw [if_pos hi] at h2
      exact hk _ _ (List.mem_of_getElem? h1) (h.row i m d h1 h2)
    · rename_i hi
      rw [if_neg hi] at h2
      have e1 := List.mem_of_getElem? h1
      have e2 := List.mem_of_getElem? h2
      rw [List.mem_singleton] at e1 e2
      subst e1 e2
      exact hr
theorem rowsV_len {ns : List Nat} {cs : List (List Int)} (h : ns.length = cs.length) : (rowsV ns cs).length = cs.length := by
  unfold rowsV
  rw [List.length_zipWith]; omega
theorem rowsV_push {ns : List Nat} {cs : List (List Int)} (h : ns.length = cs.length) (nm : Nat) (c : List Int) : rowsV (ns ++ [nm]) (cs ++ [c]) = rowsV ns cs ++ [V.ms nm 1 0 c.length] := by
  unfold rowsV
  rw [List.zipWith_append h]; rfl
theorem CallM.lt {P : Program} {f : FuncId} {args : List V} {S : St} {R : V → St → Prop} (h : CallM P f args S R) : CallM P f args S fun r S' => R r S' ∧ ∀ m k, S'.get m = some k → m < S'.next := fun g w vals h1 h2 h3 h4 =>
  (h g w vals h1 h2 h3 h4).mono fun e w' ⟨r, v, S', g', e1, e2, e3, e4, e5, e6⟩ => ⟨r, v, S', g', e1, e2, e3, e4, e5, e6, fun m k hk => e4 m (e3.ok m k hk).1⟩
set_option maxHeartbeats 8000000 in
theorem copied57o (np : Nat) (pf : List (List Int)) (S : St) (hrow : S.get np = some (.row 1 (pf.map fun c => .d (ints c)))) (hl : pf.length ≤ 1000000) (hc : ∀ c ∈ pf, c.length ≤ 1000000) :
    CallM Try.prog 57 [.ms np 1 0 pf.length] S fun r S' => ∃ no ns, r = .ms no 1 0 pf.length ∧ S'.get no = some (.row 1 (rowsV ns pf)) ∧ OwnR S.next S'.get ns pf ∧ S.next ≤ no ∧ no ∉ ns ∧ ∀ m k, S.get m = some k → S'.get m = some k := by
  refine CallM.start (n := 19) Try.func57 rfl rfl (by simp) (by simp only [argL, Nat.reduceAdd] <;> rfl) ?_
  intro hH
  obtain ⟨H, hHe⟩ : ∃ H, H = S.get := ⟨_, rfl⟩
  obtain ⟨n0, hne⟩ : ∃ n0, n0 = S.next := ⟨_, rfl⟩
  rw [← hHe, ← hne] at hH ⊢
  rw [← hHe] at hrow
  have g1 := hH _ _ hrow
  ((repeat refine WpM.seq ?_); have z_ex := True.intro; refine WpM.regPE [] [(0, _)] (by (refine s_o [] rfl rfl rfl z_su rfl q_move z_fp z_ss ?_; exact wpS_nil ⟨rfl, rfl⟩)) z_su ?_; clear z_ex)
  ((repeat refine WpM.seq ?_); have z_ex := True.intro; refine WpM.regPE [] [(0, _), (3, _)] (by (refine s_o [] rfl rfl rfl z_su rfl q_move z_fp z_ss ?_; exact wpS_nil ⟨rfl, rfl⟩)) z_su ?_; clear z_ex)
  ((repeat refine WpM.seq ?_); have z_ex := True.intro; refine WpM.regPE [] [(3, _), (6, _), (7, _), (8, _)] (by (refine s_o [(0, _)] rfl rfl rfl z_su rfl q_move z_fp z_ss ?_; refine s_o [(6, _)] rfl rfl rfl z_su rfl q_full z_fp z_ss ?_; refine s_o [] rfl rfl rfl z_su rfl q_move z_fp z_ss ?_; exact wpS_nil ⟨rfl, rfl⟩)) z_su ?_; clear z_ex)
  refine Upd.wp (Upd.ghost 3 1 (.inl (by (simp (maxSteps := 2000000) (disch := omega) [go_sem, -List.map_map]))) (Upd.done ?_))
  refine WpM.norm ?_
  intro nn G hnn hG hk
  have hnn : nn = n0 + 6 := hnn
  have f0 : G (n0 + 5) = some (.row 1 []) := by rw [hG]; (simp (maxSteps := 2000000) (disch := omega) [go_sem, -List.map_map])
  have fH : ∀ m k, H m = some k → G m = some k := fun m k hm => by
    have := hH _ _ hm
    rw [hG]; (simp (maxSteps := 2000000) (disch := omega) [go_sem, -List.map_map, hm])
  clear hG
  ((repeat refine WpM.seq ?_); refine WpM.block ?_)
  refine WpM.loop (fun (j : Nat) fr S => j ≤ pf.length ∧ (∃ nn G nr ns, S = ⟨nn, [], G⟩ ∧ (∀ m k, H m = some k → G m = some k) ∧ n0 ≤ nr ∧ G nr = some (.row 1 (rowsV ns (pf.take j))) ∧ OwnR n0 G ns (pf.take j) ∧ nr ∉ ns ∧ fr = frOf [(3, .ms nr 1 0 j), (6, .ms np 1 0 pf.length), (7, .d (.int .i64 pf.length)), (8, .d (.int .i64 j))])) (fun j => pf.length - j) 0 (St.Le.refl _) (frLe_frOf (by (simp (maxSteps := 2000000) (disch := omega) [go_sem, -List.map_map, fset]))) ⟨by omega, nn, G, n0 + 5, [], rfl, fH, by omega, f0, OwnR.zero, by simp, rfl⟩ ?_
  clear f0 fH hk hnn
  rintro j fr S' ⟨hj, nn, G, nr, ns, rfl, fH, hnr, fr0, fO, hni, rfl⟩
  refine WpM.known fun hk => ?_
  have hk : ∀ m k, G m = some k → m < nn := hk
  ((repeat refine WpM.seq ?_); have z_ex := True.intro; refine WpM.regPE [] [(3, _), (6, _), (7, _), (8, _), (9, _)] (by (refine s_o [(7, _), (8, _)] rfl rfl rfl z_su rfl q_full z_fp z_ss ?_; exact wpS_nil ⟨rfl, rfl⟩)) z_su ?_; clear z_ex)
  by_cases hjt : j < pf.length
  · ((repeat refine WpM.seq ?_); refine WpM.condT (by (simp (maxSteps := 2000000) (disch := omega) [go_sem, -List.map_map, hjt])) ?_)
    refine WpM.skip ?_
    ((repeat refine WpM.seq ?_); refine WpM.block ?_)
    obtain ⟨c, hce⟩ : ∃ c, c = pf[j] := ⟨_, rfl⟩
    have hcl := hc c (hce ▸ List.getElem_mem _)
    have hget : (pf.map fun c => V.d (ints c))[j]? = some (.d (ints c)) := by simp [hjt, hce]
    have hrG := fH _ _ hrow
    have htl : (pf.take j).length = j := by simp; omega
    have hrl : (rowsV ns (pf.take j)).length = j := by rw [rowsV_len fO.len, htl]
    have htk : (rowsV ns (pf.take j)).take j = rowsV ns (pf.take j) := List.take_of_length_le (by omega)
    ((repeat refine WpM.seq ?_); have z_ex := (And.intro @hrG (And.intro @hget (And.intro @hjt True.intro))); refine WpM.regPE [] [(3, _), (5, _), (6, _), (7, _), (8, _)] (by (refine s_o [(6, _), (8, _)] rfl rfl rfl z_su rfl q_full z_fp z_ss ?_; refine s_o [(10, _)] rfl rfl rfl z_su rfl q_load z_fp z_ss ?_; refine s_o [(11, _)] rfl rfl rfl z_su rfl q_move z_fp z_ss ?_; exact wpS_nil ⟨rfl, rfl⟩)) z_su ?_; clear z_ex)
    ((repeat refine WpM.seq ?_); have z_ex := (And.intro @hrl (And.intro @htk True.intro)); refine WpM.regP [] ?_; intro K hK; refine s_o [(3, _)] rfl rfl rfl z_su rfl q_move z_fp z_ss ?_; refine s_o [(5, _)] rfl rfl rfl z_su rfl q_move z_fp z_ss ?_; refine s_call (callOf_eq rfl rfl rfl (mlk_tmp z_lk mlk_nil)) (CallM.lt (clone50o c (by omega) _)) rfl rfl z_ip ?_; rintro _ z_S ⟨⟨nm, hge, rfl, hnm, hold⟩, hlt⟩; obtain ⟨zn, zl, zH⟩ := z_S; have z_ex := And.intro (show lget zl zH nr = _ from hold _ _ fr0) z_ex; refine s_put z_fp ?_; refine s_o [(14, _)] rfl rfl rfl z_su rfl q_full z_fp z_ss ?_; refine s_o [(12, _), (15, _)] rfl rfl rfl z_su rfl q_full z_fp z_ss ?_; refine s_o [(16, _)] rfl rfl rfl z_su rfl q_move z_fp z_ss ?_; refine s_endE [(3, _), (6, _), (7, _), (8, _)] hK z_su ?_; clear hK K; clear z_ex)
    have hold : ∀ m k, G m = some k → lget zl zH m = some k := hold
    have hnm : lget zl zH nm = some (.row 1 (c.map lit)) := hnm
    have hlt : ∀ m k, lget zl zH m = some k → m < zn := hlt
    have hge : nn ≤ nm := Nat.le_trans (Nat.le_add_right _ _) hge
    have hnmz := hlt _ _ hnm
    have hnrn := hk _ _ fr0
    refine blockM_norm ?_
    refine WpM.norm ?_
    intro N G4 hN hG4 hk4
    have e1 : G4 (zn + 1) = some (.row 1 (rowsV ns (pf.take j) ++ [V.ms nm 1 0 c.length])) := by rw [hG4]; (simp (maxSteps := 2000000) (disch := omega) [go_sem, -List.map_map])
    have e2 : ∀ m k, m ≠ nr → lget zl zH m = some k → G4 m = some k := fun m k hm hk => by
      have h1 := hlt m k hk
      have h2 : m ≠ zn + 1 := by omega
      rw [hG4]; (simp (maxSteps := 2000000) (disch := omega) [go_sem, -List.map_map, hm, h2, hk])
    clear hG4
    have hnmr : nm ≠ nr := by omega
    have hns : ∀ m ∈ ns, m < nn := fun m hm => by
      obtain ⟨k, hk'⟩ := fO.is hm
      exact hk m k hk'
    ((repeat refine WpM.seq ?_); have z_ex := (And.intro @wrap_id True.intro); refine WpM.regPE [] [(3, _), (6, _), (7, _), (8, _)] (by (refine s_o [(8, _)] rfl rfl rfl z_su rfl q_full z_fp z_ss ?_; refine s_o [(17, _)] rfl rfl rfl z_su rfl q_move z_fp z_ss ?_; exact wpS_nil ⟨rfl, rfl⟩)) z_su ?_; clear z_ex)
    have ht1 : pf.take (j + 1) = pf.take j ++ [c] := by rw [hce]; exact List.take_succ_eq_append_getElem hjt
    refine round_end (x' := j + 1) (St.Le.norm _) (Sub.le z_su) ⟨by omega, _, G4, zn + 1, ns ++ [nm], rfl, fun m k hm => e2 m k ?_ (hold m k (fH m k hm)), by omega, ?_, ?_, ?_, rfl⟩ (by omega)
    · have := hH m k hm
      omega
    · rw [ht1, rowsV_push fO.len]
      exact e1
    · rw [ht1]
      exact fO.push (fun hm => by have := hns nm hm; omega) (by omega) (e2 nm _ hnmr hnm) fun m k hm hk' => e2 m k (fun e => hni (e ▸ hm)) (hold m k hk')
    · rw [List.mem_append, List.mem_singleton]
      rintro (hm | hm)
      · have := hns _ hm; omega
      · omega
  · ((repeat refine WpM.seq ?_); refine WpM.condF (by (simp (maxSteps := 2000000) (disch := omega) [go_sem, -List.map_map, hjt])) ?_)
    (refine WpM.exit ?_; (repeat (with_reducible (first | refine thenM_exit ?_ | refine blockM_eq ?_ | refine blockM_ne (by decide) ?_))))
    obtain rfl : j = pf.length := by omega
    rw [List.take_length] at fr0 fO
    ((repeat refine WpM.seq ?_); have z_ex := True.intro; refine WpM.regPE [] [(2, _)] (by (refine s_o [(3, _)] rfl rfl rfl z_su rfl q_move z_fp z_ss ?_; refine s_o [(18, _)] rfl rfl rfl z_su rfl q_move z_fp z_ss ?_; exact wpS_nil ⟨rfl, rfl⟩)) z_su ?_; clear z_ex)
    refine WpM.ret ?_
    exact ⟨.inr rfl, Upd.done ⟨.ms nr 1 0 pf.length, (by (simp (maxSteps := 2000000) (disch := omega) [go_sem, -List.map_map, resV, resVs, resV1])), nr, ns, rfl, fr0, fO, hnr, hni, fH⟩⟩
end Go.Proofs.Ytafeehlpmdligaa
