/- assizelaw16.ProofMore, walked. -/
import Derived.Test.YtafeehlpmdligaaOp
import Derived.Test.YtafeehlpmdligaaLaw3
import Derived.Test.YtafeehlpmdligaaMore
namespace Go.Proofs.Ytafeehlpmdligaa
open Go.RowKit M
set_option linter.unusedSimpArgs false
set_option linter.unusedVariables false
set_option maxHeartbeats 8000000 in
theorem law6 (n : Int) (cs xs : List (List Int)) (l : List Int) (hcl : cs.length ≤ 1048576) (hcs : ∀ c ∈ cs, c.length ≤ 1048576) (hxl : xs.length ≤ 1048576) (hxs : ∀ c ∈ xs, c.length ≤ 1048576) (hll : l.length ≤ 1048576) :
    PureC Try.prog 6 [.d (cnf n cs), .d (cls xs), .d (ints l)] (.d (.bool true)) := by
  intro S
  refine CallM.pure' rfl (CallM.start (n := 82) Try.func6 rfl rfl (by simp) (by simp only [argL, Nat.reduceAdd] <;> rfl) ?_)
  intro hH
  obtain ⟨H, hHe⟩ : ∃ H, H = S.get := ⟨_, rfl⟩
  obtain ⟨n0, hne⟩ : ∃ n0, n0 = S.next := ⟨_, rfl⟩
  rw [← hHe, ← hne] at hH ⊢
  have hcl' : cs.length ≤ 140737488351232 := by omega
  have hcs' : ∀ c ∈ cs, c.length ≤ 140737488351232 := fun c hc => by have := hcs c hc; omega
  have hxl' : xs.length ≤ 140737488351232 := by omega
  have hxs' : ∀ c ∈ xs, c.length ≤ 140737488351232 := fun c hc => by have := hxs c hc; omega
  have keep0 : ∀ nx, ∀ m k, H m = some k → St.get ⟨nx, [(n0, some (.box [.d (.int .i64 n), .d (cls cs)]))], H⟩ m = some k := by
    intro nx m k hm
    have := hH _ _ hm
    (simp (maxSteps := 2000000) (disch := omega) [go_sem, -List.map_map, hm])
  ((repeat refine WpM.seq ?_); have z_ex := (And.intro @cnf.eq_1 True.intro); refine WpM.regPE [] [(1, _), (2, _), (3, _)] (by (refine s_o [(0, _)] rfl rfl rfl z_su rfl q_box z_fp z_ss ?_; refine s_o [] rfl rfl rfl z_su rfl q_move z_fp z_ss ?_; exact wpS_nil ⟨rfl, rfl⟩)) z_su ?_; clear z_ex)
  ((repeat refine WpM.seq ?_); have z_ex := True.intro; refine WpM.regPE [] [(1, _), (2, _), (3, _), (15, _)] (by (refine s_pure (callOf_eq rfl rfl rfl mlk_nil) (alive14) rfl rfl z_ip z_fp ?_; refine s_o [(14, _)] rfl rfl rfl z_su rfl q_unOp z_fp z_ss ?_; exact wpS_nil ⟨rfl, rfl⟩)) z_su ?_; clear z_ex)
  ((repeat refine WpM.seq ?_); refine WpM.condF (by (simp (maxSteps := 2000000) (disch := omega) [go_sem, -List.map_map])) ?_)
  refine WpM.skip ?_
  have hL := light15 n cs xs hcl hcs hxl hxs
  cases hl : lightP n cs xs with
  | false =>
    rw [hl] at hL
    ((repeat refine WpM.seq ?_); have z_ex := (And.intro @cnf.eq_1 True.intro); refine WpM.regPE [] [(1, _), (2, _), (3, _), (19, _)] (by (refine s_o [(3, _)] rfl rfl rfl z_su rfl q_load z_fp z_ss ?_; refine s_o [(1, _)] rfl rfl rfl z_su rfl q_move z_fp z_ss ?_; refine s_pure (callOf_eq rfl rfl rfl (mlk_tmp z_lk (mlk_tmp z_lk mlk_nil))) (hL) rfl rfl z_ip z_fp ?_; refine s_o [(18, _)] rfl rfl rfl z_su rfl q_unOp z_fp z_ss ?_; exact wpS_nil ⟨rfl, rfl⟩)) z_su ?_; clear z_ex)
    ((repeat refine WpM.seq ?_); refine WpM.condT (by (simp (maxSteps := 2000000) (disch := omega) [go_sem, -List.map_map])) ?_)
    ((repeat refine WpM.seq ?_); have z_ex := True.intro; refine WpM.regPE [] [(6, _)] (by (refine s_o [] rfl rfl rfl z_su rfl q_move z_fp z_ss ?_; exact wpS_nil ⟨rfl, rfl⟩)) z_su ?_; clear z_ex)
    refine WpM.ret ?_
    exact ⟨.inr rfl, Upd.done ⟨.d (.bool true), (by (simp (maxSteps := 2000000) (disch := omega) [go_sem, -List.map_map, resV, resVs, resV1])), rfl, fun m k hm hk => keep0 _ m k hk⟩⟩
  | true =>
    rw [hl] at hL
    have hm := light_ok hl
    have hcc := mem_le (cs := cs) (b := 20000) (by omega)
    have c1 := check18 n cs xs hcl' hcs' hxl' hxs'
    have c2 := trim25 n cs xs hcl' hcs' hxl' hxs'
    have c4 := copy16 n cs hcl hcs
    have c5 := check18 n (l :: cs) xs (by simp only [List.length_cons]; omega) (fun c hc => by rcases List.mem_cons.1 hc with rfl | hc; omega; exact hcs' c hc) hxl' hxs'
    have hbs : proofB n cs xs = true → soundP n cs xs = 0 := fun h => (proofB_iff.1 h).1
    ((repeat refine WpM.seq ?_); have z_ex := (And.intro @cnf.eq_1 True.intro); refine WpM.regPE [] [(1, _), (2, _), (3, _), (19, _)] (by (refine s_o [(3, _)] rfl rfl rfl z_su rfl q_load z_fp z_ss ?_; refine s_o [(1, _)] rfl rfl rfl z_su rfl q_move z_fp z_ss ?_; refine s_pure (callOf_eq rfl rfl rfl (mlk_tmp z_lk (mlk_tmp z_lk mlk_nil))) (hL) rfl rfl z_ip z_fp ?_; refine s_o [(18, _)] rfl rfl rfl z_su rfl q_unOp z_fp z_ss ?_; exact wpS_nil ⟨rfl, rfl⟩)) z_su ?_; clear z_ex)
    ((repeat refine WpM.seq ?_); refine WpM.condF (by (simp (maxSteps := 2000000) (disch := omega) [go_sem, -List.map_map])) ?_)
    refine WpM.skip ?_
    cases hb : proofB n cs xs with
    | false =>
      rw [hb] at c1
      generalize soundP n cs xs = e at c1
      ((repeat refine WpM.seq ?_); have z_ex := (And.intro @cnf.eq_1 True.intro); refine WpM.regPE [] [(1, _), (2, _), (3, _), (7, _), (8, _)] (by (refine s_o [(3, _)] rfl rfl rfl z_su rfl q_load z_fp z_ss ?_; refine s_o [(1, _)] rfl rfl rfl z_su rfl q_move z_fp z_ss ?_; refine s_pure (callOf_eq rfl rfl rfl (mlk_tmp z_lk (mlk_tmp z_lk mlk_nil))) (c1) rfl rfl z_ip z_fp ?_; refine s_o [(23, _)] rfl rfl rfl z_su rfl q_move z_fp z_ss ?_; refine s_o [(20, _)] rfl rfl rfl z_su rfl q_extract z_fp z_ss ?_; refine s_o [(20, _)] rfl rfl rfl z_su rfl q_extract z_fp z_ss ?_; refine s_o [(24, _)] rfl rfl rfl z_su rfl q_move z_fp z_ss ?_; refine s_o [(25, _)] rfl rfl rfl z_su rfl q_move z_fp z_ss ?_; exact wpS_nil ⟨rfl, rfl⟩)) z_su ?_; clear z_ex)
      by_cases h0 : e = 0
      · subst h0
        ((repeat refine WpM.seq ?_); have z_ex := True.intro; refine WpM.regPE [] [(1, _), (2, _), (3, _), (31, _)] (by (refine s_o [(8, _)] rfl rfl rfl z_su rfl q_move z_fp z_ss ?_; refine s_o [(26, _)] rfl rfl rfl z_su rfl q_full z_fp z_ss ?_; refine s_o [(27, _)] rfl rfl rfl z_su rfl q_move z_fp z_ss ?_; (first | (refine s_wT ?_ ?_; focus (refine guardM_at rfl rfl z_lk ?_; (simp (disch := omega) [go_sem, -List.map_map, z_ex]); done)) | (refine s_wF ?_ ?_; focus (refine guardM_at rfl rfl z_lk ?_; (simp (disch := omega) [go_sem, -List.map_map, z_ex]); done))); intro z_g; (first | refine s_skip rfl z_g z_fp ?_ | (refine s_o [(7, _)] rfl z_g rfl z_su rfl q_move z_fp z_ss ?_)); clear z_g; (first | (refine s_wT ?_ ?_; focus (refine guardM_at rfl rfl z_lk ?_; (simp (disch := omega) [go_sem, -List.map_map, z_ex]); done)) | (refine s_wF ?_ ?_; focus (refine guardM_at rfl rfl z_lk ?_; (simp (disch := omega) [go_sem, -List.map_map, z_ex]); done))); intro z_g; (first | refine s_skip rfl z_g z_fp ?_ | (refine s_o [(29, _)] rfl z_g rfl z_su rfl q_unOp z_fp z_ss ?_)); clear z_g; refine s_o [(28, _), (30, _)] rfl rfl rfl z_su rfl q_move z_fp z_ss ?_; exact wpS_nil ⟨rfl, rfl⟩)) z_su ?_; clear z_ex)
        ((repeat refine WpM.seq ?_); refine WpM.condT (by (simp (maxSteps := 2000000) (disch := omega) [go_sem, -List.map_map])) ?_)
        ((repeat refine WpM.seq ?_); have z_ex := True.intro; refine WpM.regPE [] [(6, _)] (by (refine s_o [] rfl rfl rfl z_su rfl q_move z_fp z_ss ?_; exact wpS_nil ⟨rfl, rfl⟩)) z_su ?_; clear z_ex)
        refine WpM.ret ?_
        exact ⟨.inr rfl, Upd.done ⟨.d (.bool true), (by (simp (maxSteps := 2000000) (disch := omega) [go_sem, -List.map_map, resV, resVs, resV1])), rfl, fun m k hm hk => keep0 _ m k hk⟩⟩
      · ((repeat refine WpM.seq ?_); have z_ex := (And.intro @h0 True.intro); refine WpM.regPE [] [(1, _), (2, _), (3, _), (31, _)] (by (refine s_o [(8, _)] rfl rfl rfl z_su rfl q_move z_fp z_ss ?_; refine s_o [(26, _)] rfl rfl rfl z_su rfl q_full z_fp z_ss ?_; refine s_o [(27, _)] rfl rfl rfl z_su rfl q_move z_fp z_ss ?_; (first | (refine s_wT ?_ ?_; focus (refine guardM_at rfl rfl z_lk ?_; (simp (disch := omega) [go_sem, -List.map_map, z_ex]); done)) | (refine s_wF ?_ ?_; focus (refine guardM_at rfl rfl z_lk ?_; (simp (disch := omega) [go_sem, -List.map_map, z_ex]); done))); intro z_g; (first | refine s_skip rfl z_g z_fp ?_ | (refine s_o [(7, _)] rfl z_g rfl z_su rfl q_move z_fp z_ss ?_)); clear z_g; (first | (refine s_wT ?_ ?_; focus (refine guardM_at rfl rfl z_lk ?_; (simp (disch := omega) [go_sem, -List.map_map, z_ex]); done)) | (refine s_wF ?_ ?_; focus (refine guardM_at rfl rfl z_lk ?_; (simp (disch := omega) [go_sem, -List.map_map, z_ex]); done))); intro z_g; (first | refine s_skip rfl z_g z_fp ?_ | (refine s_o [(29, _)] rfl z_g rfl z_su rfl q_unOp z_fp z_ss ?_)); clear z_g; refine s_o [(28, _), (30, _)] rfl rfl rfl z_su rfl q_move z_fp z_ss ?_; exact wpS_nil ⟨rfl, rfl⟩)) z_su ?_; clear z_ex)
        ((repeat refine WpM.seq ?_); refine WpM.condT (by (simp (maxSteps := 2000000) (disch := omega) [go_sem, -List.map_map, h0])) ?_)
        ((repeat refine WpM.seq ?_); have z_ex := True.intro; refine WpM.regPE [] [(6, _)] (by (refine s_o [] rfl rfl rfl z_su rfl q_move z_fp z_ss ?_; exact wpS_nil ⟨rfl, rfl⟩)) z_su ?_; clear z_ex)
        refine WpM.ret ?_
        exact ⟨.inr rfl, Upd.done ⟨.d (.bool true), (by (simp (maxSteps := 2000000) (disch := omega) [go_sem, -List.map_map, resV, resVs, resV1])), rfl, fun m k hm hk => keep0 _ m k hk⟩⟩
    | true =>
      have hs0 := hbs hb
      obtain ⟨t1, t2, t3⟩ := proofB_trim hb
      have ht : trimF n cs xs = trimL xs := by unfold trimF; rw [if_pos hs0]
      have htm : ∀ c ∈ trimL xs, c.length ≤ 140737488351232 := fun c hc => by
        obtain ⟨k, _, he⟩ := trimL_take xs
        rw [he] at hc
        exact hxs' c (List.mem_of_mem_take hc)
      have c3 := check18 n cs (trimL xs) hcl' hcs' (by omega) htm
      rw [hb, hs0] at c1
      rw [ht, hs0] at c2
      rw [t1, t2] at c3
      have hmo : soundP n (l :: cs) xs = 0 → proofB n (l :: cs) xs = true := proofB_more hb
      generalize proofB n (l :: cs) xs = b2 at c5 hmo
      generalize soundP n (l :: cs) xs = e2 at c5 hmo
      have t4 : ¬ ((xs.length : Int) < (trimL xs).length) := by omega
      ((repeat refine WpM.seq ?_); have z_ex := (And.intro @cnf.eq_1 True.intro); refine WpM.regPE [] [(1, _), (2, _), (3, _), (7, _), (8, _)] (by (refine s_o [(3, _)] rfl rfl rfl z_su rfl q_load z_fp z_ss ?_; refine s_o [(1, _)] rfl rfl rfl z_su rfl q_move z_fp z_ss ?_; refine s_pure (callOf_eq rfl rfl rfl (mlk_tmp z_lk (mlk_tmp z_lk mlk_nil))) (c1) rfl rfl z_ip z_fp ?_; refine s_o [(23, _)] rfl rfl rfl z_su rfl q_move z_fp z_ss ?_; refine s_o [(20, _)] rfl rfl rfl z_su rfl q_extract z_fp z_ss ?_; refine s_o [(20, _)] rfl rfl rfl z_su rfl q_extract z_fp z_ss ?_; refine s_o [(24, _)] rfl rfl rfl z_su rfl q_move z_fp z_ss ?_; refine s_o [(25, _)] rfl rfl rfl z_su rfl q_move z_fp z_ss ?_; exact wpS_nil ⟨rfl, rfl⟩)) z_su ?_; clear z_ex)
      ((repeat refine WpM.seq ?_); have z_ex := True.intro; refine WpM.regPE [] [(1, _), (2, _), (3, _), (31, _)] (by (refine s_o [(8, _)] rfl rfl rfl z_su rfl q_move z_fp z_ss ?_; refine s_o [(26, _)] rfl rfl rfl z_su rfl q_full z_fp z_ss ?_; refine s_o [(27, _)] rfl rfl rfl z_su rfl q_move z_fp z_ss ?_; (first | (refine s_wT ?_ ?_; focus (refine guardM_at rfl rfl z_lk ?_; (simp (disch := omega) [go_sem, -List.map_map, z_ex]); done)) | (refine s_wF ?_ ?_; focus (refine guardM_at rfl rfl z_lk ?_; (simp (disch := omega) [go_sem, -List.map_map, z_ex]); done))); intro z_g; (first | refine s_skip rfl z_g z_fp ?_ | (refine s_o [(7, _)] rfl z_g rfl z_su rfl q_move z_fp z_ss ?_)); clear z_g; (first | (refine s_wT ?_ ?_; focus (refine guardM_at rfl rfl z_lk ?_; (simp (disch := omega) [go_sem, -List.map_map, z_ex]); done)) | (refine s_wF ?_ ?_; focus (refine guardM_at rfl rfl z_lk ?_; (simp (disch := omega) [go_sem, -List.map_map, z_ex]); done))); intro z_g; (first | refine s_skip rfl z_g z_fp ?_ | (refine s_o [(29, _)] rfl z_g rfl z_su rfl q_unOp z_fp z_ss ?_)); clear z_g; refine s_o [(28, _), (30, _)] rfl rfl rfl z_su rfl q_move z_fp z_ss ?_; exact wpS_nil ⟨rfl, rfl⟩)) z_su ?_; clear z_ex)
      ((repeat refine WpM.seq ?_); refine WpM.condF (by (simp (maxSteps := 2000000) (disch := omega) [go_sem, -List.map_map])) ?_)
      refine WpM.skip ?_
      ((repeat refine WpM.seq ?_); have z_ex := (And.intro @cnf.eq_1 True.intro); refine WpM.regPE [] [(1, _), (2, _), (3, _), (9, _), (10, _)] (by (refine s_o [(3, _)] rfl rfl rfl z_su rfl q_load z_fp z_ss ?_; refine s_o [(1, _)] rfl rfl rfl z_su rfl q_move z_fp z_ss ?_; refine s_pure (callOf_eq rfl rfl rfl (mlk_tmp z_lk (mlk_tmp z_lk mlk_nil))) (c2) rfl rfl z_ip z_fp ?_; refine s_o [(35, _)] rfl rfl rfl z_su rfl q_move z_fp z_ss ?_; refine s_o [(32, _)] rfl rfl rfl z_su rfl q_extract z_fp z_ss ?_; refine s_o [(32, _)] rfl rfl rfl z_su rfl q_extract z_fp z_ss ?_; refine s_o [(36, _)] rfl rfl rfl z_su rfl q_move z_fp z_ss ?_; refine s_o [(37, _)] rfl rfl rfl z_su rfl q_move z_fp z_ss ?_; exact wpS_nil ⟨rfl, rfl⟩)) z_su ?_; clear z_ex)
      ((repeat refine WpM.seq ?_); have z_ex := (And.intro @cnf.eq_1 True.intro); refine WpM.regPE [] [(1, _), (2, _), (3, _), (9, _), (10, _), (11, _), (12, _)] (by (refine s_o [(3, _)] rfl rfl rfl z_su rfl q_load z_fp z_ss ?_; refine s_o [(9, _)] rfl rfl rfl z_su rfl q_move z_fp z_ss ?_; refine s_pure (callOf_eq rfl rfl rfl (mlk_tmp z_lk (mlk_tmp z_lk mlk_nil))) (c3) rfl rfl z_ip z_fp ?_; refine s_o [(41, _)] rfl rfl rfl z_su rfl q_move z_fp z_ss ?_; refine s_o [(38, _)] rfl rfl rfl z_su rfl q_extract z_fp z_ss ?_; refine s_o [(38, _)] rfl rfl rfl z_su rfl q_extract z_fp z_ss ?_; refine s_o [(42, _)] rfl rfl rfl z_su rfl q_move z_fp z_ss ?_; refine s_o [(43, _)] rfl rfl rfl z_su rfl q_move z_fp z_ss ?_; exact wpS_nil ⟨rfl, rfl⟩)) z_su ?_; clear z_ex)
      ((repeat refine WpM.seq ?_); have z_ex := (And.intro @cls.eq_1 (And.intro @t4 True.intro)); refine WpM.regPE [] [(1, _), (2, _), (3, _), (60, _)] (by (refine s_o [(10, _)] rfl rfl rfl z_su rfl q_move z_fp z_ss ?_; refine s_o [(44, _)] rfl rfl rfl z_su rfl q_full z_fp z_ss ?_; refine s_o [(45, _)] rfl rfl rfl z_su rfl q_move z_fp z_ss ?_; (first | (refine s_wT ?_ ?_; focus (refine guardM_at rfl rfl z_lk ?_; (simp (disch := omega) [go_sem, -List.map_map, z_ex]); done)) | (refine s_wF ?_ ?_; focus (refine guardM_at rfl rfl z_lk ?_; (simp (disch := omega) [go_sem, -List.map_map, z_ex]); done))); intro z_g; (first | refine s_skip rfl z_g z_fp ?_ | (refine s_o [(12, _)] rfl z_g rfl z_su rfl q_move z_fp z_ss ?_)); clear z_g; (first | (refine s_wT ?_ ?_; focus (refine guardM_at rfl rfl z_lk ?_; (simp (disch := omega) [go_sem, -List.map_map, z_ex]); done)) | (refine s_wF ?_ ?_; focus (refine guardM_at rfl rfl z_lk ?_; (simp (disch := omega) [go_sem, -List.map_map, z_ex]); done))); intro z_g; (first | refine s_skip rfl z_g z_fp ?_ | (refine s_o [(47, _)] rfl z_g rfl z_su rfl q_full z_fp z_ss ?_)); clear z_g; refine s_o [(46, _), (48, _)] rfl rfl rfl z_su rfl q_move z_fp z_ss ?_; refine s_o [(49, _)] rfl rfl rfl z_su rfl q_move z_fp z_ss ?_; (first | (refine s_wT ?_ ?_; focus (refine guardM_at rfl rfl z_lk ?_; (simp (disch := omega) [go_sem, -List.map_map, z_ex]); done)) | (refine s_wF ?_ ?_; focus (refine guardM_at rfl rfl z_lk ?_; (simp (disch := omega) [go_sem, -List.map_map, z_ex]); done))); intro z_g; (first | refine s_skip rfl z_g z_fp ?_ | (refine s_o [(11, _)] rfl z_g rfl z_su rfl q_move z_fp z_ss ?_)); clear z_g; (first | (refine s_wT ?_ ?_; focus (refine guardM_at rfl rfl z_lk ?_; (simp (disch := omega) [go_sem, -List.map_map, z_ex]); done)) | (refine s_wF ?_ ?_; focus (refine guardM_at rfl rfl z_lk ?_; (simp (disch := omega) [go_sem, -List.map_map, z_ex]); done))); intro z_g; (first | refine s_skip rfl z_g z_fp ?_ | (refine s_o [(51, _)] rfl z_g rfl z_su rfl q_unOp z_fp z_ss ?_)); clear z_g; refine s_o [(50, _), (52, _)] rfl rfl rfl z_su rfl q_move z_fp z_ss ?_; refine s_o [(53, _)] rfl rfl rfl z_su rfl q_move z_fp z_ss ?_; (first | (refine s_wT ?_ ?_; focus (refine guardM_at rfl rfl z_lk ?_; (simp (disch := omega) [go_sem, -List.map_map, z_ex]); done)) | (refine s_wF ?_ ?_; focus (refine guardM_at rfl rfl z_lk ?_; (simp (disch := omega) [go_sem, -List.map_map, z_ex]); done))); intro z_g; (first | refine s_skip rfl z_g z_fp ?_ | (refine s_o [(9, _)] rfl z_g rfl z_su rfl q_move z_fp z_ss ?_)); clear z_g; (first | (refine s_wT ?_ ?_; focus (refine guardM_at rfl rfl z_lk ?_; (simp (disch := omega) [go_sem, -List.map_map, z_ex]); done)) | (refine s_wF ?_ ?_; focus (refine guardM_at rfl rfl z_lk ?_; (simp (disch := omega) [go_sem, -List.map_map, z_ex]); done))); intro z_g; (first | refine s_skip rfl z_g z_fp ?_ | (refine s_o [(55, _)] rfl z_g rfl z_su rfl q_full z_fp z_ss ?_)); clear z_g; (first | (refine s_wT ?_ ?_; focus (refine guardM_at rfl rfl z_lk ?_; (simp (disch := omega) [go_sem, -List.map_map, z_ex]); done)) | (refine s_wF ?_ ?_; focus (refine guardM_at rfl rfl z_lk ?_; (simp (disch := omega) [go_sem, -List.map_map, z_ex]); done))); intro z_g; (first | refine s_skip rfl z_g z_fp ?_ | (refine s_o [(1, _)] rfl z_g rfl z_su rfl q_move z_fp z_ss ?_)); clear z_g; (first | (refine s_wT ?_ ?_; focus (refine guardM_at rfl rfl z_lk ?_; (simp (disch := omega) [go_sem, -List.map_map, z_ex]); done)) | (refine s_wF ?_ ?_; focus (refine guardM_at rfl rfl z_lk ?_; (simp (disch := omega) [go_sem, -List.map_map, z_ex]); done))); intro z_g; (first | refine s_skip rfl z_g z_fp ?_ | (refine s_o [(57, _)] rfl z_g rfl z_su rfl q_full z_fp z_ss ?_)); clear z_g; (first | (refine s_wT ?_ ?_; focus (refine guardM_at rfl rfl z_lk ?_; (simp (disch := omega) [go_sem, -List.map_map, z_ex]); done)) | (refine s_wF ?_ ?_; focus (refine guardM_at rfl rfl z_lk ?_; (simp (disch := omega) [go_sem, -List.map_map, z_ex]); done))); intro z_g; (first | refine s_skip rfl z_g z_fp ?_ | (refine s_o [(56, _), (58, _)] rfl z_g rfl z_su rfl q_full z_fp z_ss ?_)); clear z_g; refine s_o [(54, _), (59, _)] rfl rfl rfl z_su rfl q_move z_fp z_ss ?_; exact wpS_nil ⟨rfl, rfl⟩)) z_su ?_; clear z_ex)
      ((repeat refine WpM.seq ?_); refine WpM.condF (by (simp (maxSteps := 2000000) (disch := omega) [go_sem, -List.map_map, t4])) ?_)
      refine WpM.skip ?_
      ((repeat refine WpM.seq ?_); have z_ex := (And.intro @cnf.eq_1 True.intro); refine WpM.regPE [] [(1, _), (2, _), (13, _)] (by (refine s_o [(3, _)] rfl rfl rfl z_su rfl q_load z_fp z_ss ?_; refine s_pure (callOf_eq rfl rfl rfl (mlk_tmp z_lk mlk_nil)) (c4) rfl rfl z_ip z_fp ?_; refine s_o [] rfl rfl rfl z_su rfl q_alloc z_fp z_ss ?_; refine s_o [(13, _), (62, _)] rfl rfl rfl z_su rfl q_store z_fp z_ss ?_; exact wpS_nil ⟨rfl, rfl⟩)) z_su ?_; clear z_ex)
      ((repeat refine WpM.seq ?_); have z_ex := (And.intro @ints.eq_1 (And.intro @cls.eq_1 (And.intro @hcl True.intro))); refine WpM.drwPE [65, 66] [(1, _), (13, _)] mixed (by kernel_rfl) (by kernel_rfl) [(0, 5), (2, 5), (3, 5)] (by kernel_rfl) (by (refine d_o [] rfl rfl rfl z_su rfl q_full z_fp z_ss rfl ?_; refine d_o [(2, _)] rfl rfl rfl z_su rfl q_move z_fp z_ss rfl ?_; refine d_o [(63, _), (64, _)] rfl rfl rfl z_su rfl q_full z_fp z_ss rfl ?_; refine d_o [(65, _)] rfl rfl rfl z_su rfl q_full z_fp z_ss rfl ?_; refine d_o [(13, _)] rfl rfl rfl z_su rfl q_fieldAddr z_fp z_ss rfl ?_; refine d_o [(67, _)] rfl rfl rfl z_su rfl q_load z_fp z_ss rfl ?_; refine d_o [(66, _), (68, _)] rfl rfl rfl z_su rfl q_full z_fp z_ss rfl ?_; refine d_o [(13, _)] rfl rfl rfl z_su rfl q_fieldAddr z_fp z_ss rfl ?_; refine d_o [(69, _), (70, _)] rfl rfl rfl z_su rfl q_store z_fp z_ss rfl ?_; exact d_end z_mt z_sn)) z_su ?_; clear z_ex)
      have hfz : (((V.d (ints l) :: (cs.map ints).map V.d).drop 0).take (1 + cs.length)) = ((l :: cs).map ints).map V.d := by
        rw [List.drop_zero, List.take_of_length_le (by simp; omega)]
        rfl
      refine Upd.wp (Upd.freezeIn (n0 + 51) 1 (nm := n0 + 59) (sz := 1) (o := 0) (m := 1 + cs.length) (cs := [.d (.int .i64 n), .ms (n0 + 59) 1 0 (1 + cs.length)]) (xs := V.d (ints l) :: (cs.map ints).map V.d) ((l :: cs).map ints) (by (simp (maxSteps := 2000000) (disch := omega) [go_sem, -List.map_map])) rfl (by (simp (maxSteps := 2000000) (disch := omega) [go_sem, -List.map_map, ints])) hfz (by simp; omega) (Upd.done ?_))
      refine WpM.norm ?_
      intro nx1 G1 hnx1 hG1 hk1
      have q2 : G1 (n0 + 51) = some (.box [.d (.int .i64 n), .d (cls (l :: cs))]) := by rw [hG1]; (simp (maxSteps := 2000000) (disch := omega) [go_sem, -List.map_map, List.set, cls])
      have kp1 : ∀ m k, H m = some k → G1 m = some k := by
        intro m k hk
        have h8 := hH _ _ hk
        rw [hG1]
        (simp (maxSteps := 2000000) (disch := omega) [go_sem, -List.map_map, hk])
      clear hG1 hnx1 hk1
      have fin : ∀ nx (q : Bool), q = true → (Exit.ret = Exit.normal ∨ Exit.ret = Exit.ret) ∧ Upd 82 (frOf [(6, .d (.bool q))]) ⟨nx, [], G1⟩ fun fr S' => ∃ r, resV Try.prog fr S' Try.f6.results.toList = some r ∧ r = .d (.bool true) ∧ ∀ m k, m < n0 → H m = some k → S'.get m = some k := by
        rintro nx q rfl
        exact ⟨.inr rfl, Upd.done ⟨.d (.bool true), (by (simp (maxSteps := 2000000) (disch := omega) [go_sem, -List.map_map, resV, resVs, resV1])), rfl, fun m k _ hk => kp1 m k hk⟩⟩
      ((repeat refine WpM.seq ?_); have z_ex := (And.intro @q2 (And.intro @cnf.eq_1 True.intro)); refine WpM.regPE [] [(11, _), (12, _)] (by (refine s_o [(13, _)] rfl rfl rfl z_su rfl q_load z_fp z_ss ?_; refine s_o [(1, _)] rfl rfl rfl z_su rfl q_move z_fp z_ss ?_; refine s_pure (callOf_eq rfl rfl rfl (mlk_tmp z_lk (mlk_tmp z_lk mlk_nil))) (c5) rfl rfl z_ip z_fp ?_; refine s_o [(74, _)] rfl rfl rfl z_su rfl q_move z_fp z_ss ?_; refine s_o [(71, _)] rfl rfl rfl z_su rfl q_extract z_fp z_ss ?_; refine s_o [(71, _)] rfl rfl rfl z_su rfl q_extract z_fp z_ss ?_; refine s_o [(75, _)] rfl rfl rfl z_su rfl q_move z_fp z_ss ?_; refine s_o [(76, _)] rfl rfl rfl z_su rfl q_move z_fp z_ss ?_; exact wpS_nil ⟨rfl, rfl⟩)) z_su ?_; clear z_ex)
      by_cases h0 : e2 = 0
      · subst h0
        obtain rfl := hmo rfl
        ((repeat refine WpM.seq ?_); have z_ex := True.intro; refine WpM.regPE [] [(6, _)] (by (refine s_o [(12, _)] rfl rfl rfl z_su rfl q_move z_fp z_ss ?_; refine s_o [(77, _)] rfl rfl rfl z_su rfl q_full z_fp z_ss ?_; refine s_o [(78, _)] rfl rfl rfl z_su rfl q_move z_fp z_ss ?_; (first | (refine s_wT ?_ ?_; focus (refine guardM_at rfl rfl z_lk ?_; (simp (disch := omega) [go_sem, -List.map_map, z_ex]); done)) | (refine s_wF ?_ ?_; focus (refine guardM_at rfl rfl z_lk ?_; (simp (disch := omega) [go_sem, -List.map_map, z_ex]); done))); intro z_g; (first | refine s_skip rfl z_g z_fp ?_ | (refine s_o [(11, _)] rfl z_g rfl z_su rfl q_move z_fp z_ss ?_)); clear z_g; refine s_o [(79, _), (80, _)] rfl rfl rfl z_su rfl q_move z_fp z_ss ?_; refine s_o [(81, _)] rfl rfl rfl z_su rfl q_move z_fp z_ss ?_; exact wpS_nil ⟨rfl, rfl⟩)) z_su ?_; clear z_ex)
        refine WpM.ret ?_
        exact fin _ _ rfl
      · ((repeat refine WpM.seq ?_); have z_ex := (And.intro @h0 True.intro); refine WpM.regPE [] [(6, _)] (by (refine s_o [(12, _)] rfl rfl rfl z_su rfl q_move z_fp z_ss ?_; refine s_o [(77, _)] rfl rfl rfl z_su rfl q_full z_fp z_ss ?_; refine s_o [(78, _)] rfl rfl rfl z_su rfl q_move z_fp z_ss ?_; (first | (refine s_wT ?_ ?_; focus (refine guardM_at rfl rfl z_lk ?_; (simp (disch := omega) [go_sem, -List.map_map, z_ex]); done)) | (refine s_wF ?_ ?_; focus (refine guardM_at rfl rfl z_lk ?_; (simp (disch := omega) [go_sem, -List.map_map, z_ex]); done))); intro z_g; (first | refine s_skip rfl z_g z_fp ?_ | (refine s_o [(11, _)] rfl z_g rfl z_su rfl q_move z_fp z_ss ?_)); clear z_g; refine s_o [(79, _), (80, _)] rfl rfl rfl z_su rfl q_move z_fp z_ss ?_; refine s_o [(81, _)] rfl rfl rfl z_su rfl q_move z_fp z_ss ?_; exact wpS_nil ⟨rfl, rfl⟩)) z_su ?_; clear z_ex)
        refine WpM.ret ?_
        exact fin _ _ (by simp [h0])
theorem proofMore_law (n : Int) (cs : List (List Int)) (_ : IntOk .i64 n) (hcl : cs.length ≤ 1048576) (hcs : ∀ c ∈ cs, c.length ≤ 1048576) (_ : ∀ c ∈ cs, ∀ l ∈ c, IntOk .i64 l) (xs : List (List Int)) (hxl : xs.length ≤ 1048576) (hxs : ∀ c ∈ xs, c.length ≤ 1048576) (_ : ∀ c ∈ xs, ∀ l ∈ c, IntOk .i64 l) (l : List Int) (hl : l.length ≤ 1048576) (_ : ∀ x ∈ l, IntOk .i64 x) :
    PureC Try.prog 6 [.d (cnf n cs), .d (cls xs), .d (ints l)] (.d (.bool true)) := law6 n cs xs l hcl hcs hxl hxs hl
end Go.Proofs.Ytafeehlpmdligaa
