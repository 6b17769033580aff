/- assizelaw16.alive. -/
import Derived.Test.YtafeehlpmdligaaOp
import Derived.Test.YtafeehlpmdligaaCheck19
namespace Go.Proofs.Ytafeehlpmdligaa
open Go.RowKit M
set_option linter.unusedSimpArgs false
set_option linter.unusedVariables false
def aliveF : List (List Int) := [[1, 2], [1, -2], [-1, 2], [-1, -2]]
def one (x : Int) : Int → Bool := fun l => l == x
theorem one_sub {T : Int → Bool} {x : Int} (h : T x = true) : SubS (one x) T := fun l hl => by
  have : l = x := by simpa [one] using hl
  rw [this]; exact h
theorem alive_1 : followsB aliveF [1] = true := by
  refine followsB_true.2 ?_
  rintro ⟨T, hT⟩
  have h1 := hT.has (-1) (by decide)
  have h2 := hT.unit (one_sub h1) (c := [1, 2]) (by decide) (by decide) (u := 2) (by decide) (by decide)
  have h3 := hT.unit (one_sub h1) (c := [1, -2]) (by decide) (by decide) (u := -2) (by decide) (by decide)
  have := hT.apart _ h2
  rw [h3] at this; cases this
theorem alive_2 : followsB (aliveF ++ [[1]]) [] = true := by
  refine followsB_true.2 ?_
  rintro ⟨T, hT⟩
  have h1 := hT.unit (K := fun _ => false) (fun _ h => by cases h) (c := [1]) (by decide) (by decide) (u := 1) (by decide) (by decide)
  have h2 := hT.unit (one_sub h1) (c := [-1, 2]) (by decide) (by decide) (u := 2) (by decide) (by decide)
  have h3 := hT.unit (one_sub h1) (c := [-1, -2]) (by decide) (by decide) (u := -2) (by decide) (by decide)
  have := hT.apart _ h2
  rw [h3] at this; cases this
theorem alive_3 : followsB aliveF [] = false := by
  refine followsB_false.2 ⟨fun _ => false, Closed.mk (fun l h => by cases h) (fun l h => by cases h) (fun c hc => .inl ?_)⟩
  revert c
  decide
theorem alive_a : proofB 2 aliveF [[1], []] = true := by
  have h : soundP 2 aliveF [[1], []] = 0 := by decide
  unfold proofB
  refine decide_eq_true ⟨h, ?_, rfl⟩
  unfold firstN
  rw [if_pos h]
  simp [firstGo, alive_1, alive_2]
theorem alive_b : proofB 2 aliveF [[]] = false := by
  have h : soundP 2 aliveF [[]] = 0 := by decide
  unfold proofB
  refine decide_eq_false fun hc => ?_
  have := hc.2.1
  unfold firstN at this
  rw [if_pos h] at this
  simp [firstGo, alive_3] at this
set_option maxHeartbeats 8000000 in
theorem alive14 : PureC Try.prog 14 [] (.d (.bool true)) := by
  refine PureC.of (n := 40) Try.func14 rfl rfl (by simp) (by simp only [argL, Nat.reduceAdd] <;> rfl) rfl ?_
  intro n0 H hH
  have hb : ∀ c ∈ aliveF, c.length ≤ 140737488351232 := by decide
  have c1 := check18 2 aliveF [[1], []] (by decide) hb (by decide) (by decide)
  have c2 := check18 2 aliveF [[]] (by decide) hb (by decide) (by decide)
  rw [alive_a, show soundP 2 aliveF [[1], []] = 0 by decide] at c1
  rw [alive_b, show soundP 2 aliveF [[]] = 0 by decide] at c2
  ((repeat refine WpM.seq ?_); have z_ex := True.intro; refine WpM.regPE [] [] (by (refine s_o [] rfl rfl rfl z_su rfl q_move z_fp z_ss ?_; exact wpS_nil ⟨rfl, rfl⟩)) z_su ?_; clear z_ex)
  ((repeat refine WpM.seq ?_); have z_ex := True.intro; refine WpM.regPE [] [(1, _)] (by (refine s_o [] rfl rfl rfl z_su rfl q_full z_fp z_ss ?_; refine s_o [] rfl rfl rfl z_su rfl q_full z_fp z_ss ?_; refine s_o [] rfl rfl rfl z_su rfl q_full z_fp z_ss ?_; refine s_o [] rfl rfl rfl z_su rfl q_full z_fp z_ss ?_; refine s_o [(6, _), (7, _), (8, _), (9, _)] rfl rfl rfl z_su rfl q_full z_fp z_ss ?_; refine s_o [(10, _)] rfl rfl rfl z_su rfl q_build z_fp z_ss ?_; refine s_o [] rfl rfl rfl z_su rfl q_alloc z_fp z_ss ?_; refine s_o [(1, _), (11, _)] rfl rfl rfl z_su rfl q_store z_fp z_ss ?_; exact wpS_nil ⟨rfl, rfl⟩)) z_su ?_; clear z_ex)
  ((repeat refine WpM.seq ?_); have z_ex := (And.intro @cnf.eq_1 True.intro); refine WpM.regPE [15] [(1, _), (2, _), (3, _)] (by (refine s_o [(1, _)] rfl rfl rfl z_su rfl q_load z_fp z_ss ?_; refine s_o [] rfl rfl rfl z_su rfl q_full z_fp z_ss ?_; refine s_o [] rfl rfl rfl z_su rfl q_full z_fp z_ss ?_; refine s_o [(14, _), (15, _)] rfl rfl rfl z_su rfl q_full z_fp z_ss ?_; refine s_pure (callOf_eq rfl rfl rfl (mlk_tmp z_lk (mlk_tmp z_lk mlk_nil))) (c1) rfl rfl z_ip z_fp ?_; refine s_o [(17, _)] rfl rfl rfl z_su rfl q_move z_fp z_ss ?_; refine s_o [(12, _)] rfl rfl rfl z_su rfl q_extract z_fp z_ss ?_; refine s_o [(12, _)] rfl rfl rfl z_su rfl q_extract z_fp z_ss ?_; refine s_o [(18, _)] rfl rfl rfl z_su rfl q_move z_fp z_ss ?_; refine s_o [(19, _)] rfl rfl rfl z_su rfl q_move z_fp z_ss ?_; exact wpS_nil ⟨rfl, rfl⟩)) z_su ?_; clear z_ex)
  ((repeat refine WpM.seq ?_); have z_ex := (And.intro @cnf.eq_1 True.intro); refine WpM.regPE [22] [(2, _), (3, _), (4, _), (5, _)] (by (refine s_o [(1, _)] rfl rfl rfl z_su rfl q_load z_fp z_ss ?_; refine s_o [] rfl rfl rfl z_su rfl q_full z_fp z_ss ?_; refine s_o [(22, _)] rfl rfl rfl z_su rfl q_full z_fp z_ss ?_; refine s_pure (callOf_eq rfl rfl rfl (mlk_tmp z_lk (mlk_tmp z_lk mlk_nil))) (c2) rfl rfl z_ip z_fp ?_; refine s_o [(24, _)] rfl rfl rfl z_su rfl q_move z_fp z_ss ?_; refine s_o [(20, _)] rfl rfl rfl z_su rfl q_extract z_fp z_ss ?_; refine s_o [(20, _)] rfl rfl rfl z_su rfl q_extract z_fp z_ss ?_; refine s_o [(25, _)] rfl rfl rfl z_su rfl q_move z_fp z_ss ?_; refine s_o [(26, _)] rfl rfl rfl z_su rfl q_move z_fp z_ss ?_; exact wpS_nil ⟨rfl, rfl⟩)) z_su ?_; clear z_ex)
  ((repeat refine WpM.seq ?_); have z_ex := True.intro; refine WpM.regPE [] [(0, _)] (by (refine s_o [(2, _)] rfl rfl rfl z_su rfl q_move z_fp z_ss ?_; refine s_o [(27, _)] rfl rfl rfl z_su rfl q_move z_fp z_ss ?_; (first | (refine s_wT ?_ ?_; focus (refine guardM_at rfl rfl z_lk ?_; (simp (disch := omega) [go_sem, -List.map_map, z_ex]); done)) | (refine s_wF ?_ ?_; focus (refine guardM_at rfl rfl z_lk ?_; (simp (disch := omega) [go_sem, -List.map_map, z_ex]); done))); intro z_g; (first | refine s_skip rfl z_g z_fp ?_ | (refine s_o [(3, _)] rfl z_g rfl z_su rfl q_move z_fp z_ss ?_)); clear z_g; (first | (refine s_wT ?_ ?_; focus (refine guardM_at rfl rfl z_lk ?_; (simp (disch := omega) [go_sem, -List.map_map, z_ex]); done)) | (refine s_wF ?_ ?_; focus (refine guardM_at rfl rfl z_lk ?_; (simp (disch := omega) [go_sem, -List.map_map, z_ex]); done))); intro z_g; (first | refine s_skip rfl z_g z_fp ?_ | (refine s_o [(29, _)] rfl z_g rfl z_su rfl q_full z_fp z_ss ?_)); clear z_g; refine s_o [(28, _), (30, _)] rfl rfl rfl z_su rfl q_move z_fp z_ss ?_; refine s_o [(31, _)] rfl rfl rfl z_su rfl q_move z_fp z_ss ?_; (first | (refine s_wT ?_ ?_; focus (refine guardM_at rfl rfl z_lk ?_; (simp (disch := omega) [go_sem, -List.map_map, z_ex]); done)) | (refine s_wF ?_ ?_; focus (refine guardM_at rfl rfl z_lk ?_; (simp (disch := omega) [go_sem, -List.map_map, z_ex]); done))); intro z_g; (first | refine s_skip rfl z_g z_fp ?_ | (refine s_o [(4, _)] rfl z_g rfl z_su rfl q_move z_fp z_ss ?_)); clear z_g; (first | (refine s_wT ?_ ?_; focus (refine guardM_at rfl rfl z_lk ?_; (simp (disch := omega) [go_sem, -List.map_map, z_ex]); done)) | (refine s_wF ?_ ?_; focus (refine guardM_at rfl rfl z_lk ?_; (simp (disch := omega) [go_sem, -List.map_map, z_ex]); done))); intro z_g; (first | refine s_skip rfl z_g z_fp ?_ | (refine s_o [(33, _)] rfl z_g rfl z_su rfl q_unOp z_fp z_ss ?_)); clear z_g; refine s_o [(32, _), (34, _)] rfl rfl rfl z_su rfl q_move z_fp z_ss ?_; refine s_o [(35, _)] rfl rfl rfl z_su rfl q_move z_fp z_ss ?_; (first | (refine s_wT ?_ ?_; focus (refine guardM_at rfl rfl z_lk ?_; (simp (disch := omega) [go_sem, -List.map_map, z_ex]); done)) | (refine s_wF ?_ ?_; focus (refine guardM_at rfl rfl z_lk ?_; (simp (disch := omega) [go_sem, -List.map_map, z_ex]); done))); intro z_g; (first | refine s_skip rfl z_g z_fp ?_ | (refine s_o [(5, _)] rfl z_g rfl z_su rfl q_move z_fp z_ss ?_)); clear z_g; (first | (refine s_wT ?_ ?_; focus (refine guardM_at rfl rfl z_lk ?_; (simp (disch := omega) [go_sem, -List.map_map, z_ex]); done)) | (refine s_wF ?_ ?_; focus (refine guardM_at rfl rfl z_lk ?_; (simp (disch := omega) [go_sem, -List.map_map, z_ex]); done))); intro z_g; (first | refine s_skip rfl z_g z_fp ?_ | (refine s_o [(37, _)] rfl z_g rfl z_su rfl q_full z_fp z_ss ?_)); clear z_g; refine s_o [(36, _), (38, _)] rfl rfl rfl z_su rfl q_move z_fp z_ss ?_; refine s_o [(39, _)] rfl rfl rfl z_su rfl q_move z_fp z_ss ?_; exact wpS_nil ⟨rfl, rfl⟩)) z_su ?_; clear z_ex)
  (refine WpM.ret ?_; refine ⟨.inr rfl, Upd.done ?_⟩; (simp (maxSteps := 2000000) (disch := omega) [go_sem, -List.map_map, resV, resVs, resV1,]))
end Go.Proofs.Ytafeehlpmdligaa
