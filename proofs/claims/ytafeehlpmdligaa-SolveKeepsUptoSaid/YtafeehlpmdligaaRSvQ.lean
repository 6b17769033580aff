/- solve.Run, every input. -/
import Derived.Test.YtafeehlpmdligaaROp
import Derived.Test.YtafeehlpmdligaaRSvP
namespace Go.Proofs.Ytafeehlpmdligaa
open Go.RowKit M
set_option linter.unusedSimpArgs false
set_option linter.unusedVariables false
def zeroA : AnsD := ⟨0, [], [], 0⟩
noncomputable def runF (n : Int) (cs : List (List Int)) (b : Int) : AnsD × Int := if checkF n cs ≠ 0 then (zeroA, checkF n cs) else if b < 0 ∨ 20000 < b then (zeroA, 1) else (searchF n.toNat cs b.toNat, 0)
theorem check_ok {n : Int} {cs : List (List Int)} (h : checkF n cs = 0) : 0 ≤ n ∧ n ≤ 4096 ∧ cs.length ≤ 131072 ∧ ∀ c ∈ cs, c.length ≤ 128 := by
  unfold checkF at h
  split at h
  · cases h
  · split at h
    · rename_i h1 h2
      refine ⟨by omega, by omega, by omega, fun c hc => ?_⟩
      have h3 := List.all_eq_true.1 h2 c hc
      unfold clauseOk at h3
      rw [Bool.and_eq_true] at h3
      exact of_decide_eq_true h3.1
    · cases h
set_option maxHeartbeats 8000000 in
theorem run31f (n : Int) (cs : List (List Int)) (b : Int) (hn : -9223372036854775808 ≤ n ∧ n ≤ 9223372036854775807) (hb : -9223372036854775808 ≤ b ∧ b ≤ 9223372036854775807) (hlen : cs.length ≤ 1000000000) (hmass : mass cs ≤ 10000000) (hcs : ∀ c ∈ cs, c.length ≤ 1000000) :
    PureC Try.prog 31 [.d (cnf n cs), .d (.int .i64 b)] (.tup [.d (encAns (runF n cs b).1), .d (.int .i64 (runF n cs b).2)]) := by
  intro S
  by_cases hchk : checkF n cs = 0
  · obtain ⟨c1, c2, c3, c4⟩ := check_ok hchk
    by_cases hbb : b < 0 ∨ 20000 < b
    · have hr : runF n cs b = (zeroA, 1) := by unfold runF; rw [if_neg (by simp [hchk]), if_pos hbb]
      rw [hr]
      refine CallM.pure' (by rfl) (CallM.start (n := 98) Try.func31 rfl rfl (by simp) (by simp only [argL, Nat.reduceAdd] <;> rfl) ?_)
      intro hH
      obtain ⟨H, hHe⟩ : ∃ H, H = S.get := ⟨_, rfl⟩
      obtain ⟨n0, hne⟩ : ∃ n0, n0 = S.next := ⟨_, rfl⟩
      rw [← hHe, ← hne] at hH ⊢
      have h32 := check32 n cs (by omega) (fun c hc => by have := hcs c hc; omega)
      rw [hchk] at h32
      ((repeat refine WpM.seq ?_); have z_ex := (And.intro @cnf.eq_1 True.intro); refine WpM.regPE [] [(1, _), (2, _), (4, _)] (by (refine s_o [(0, _)] rfl rfl rfl z_su rfl q_box z_fp z_ss ?_; refine s_o [] rfl rfl rfl z_su rfl q_alloc z_fp z_ss ?_; refine s_o [] rfl rfl rfl z_su rfl q_move z_fp z_ss ?_; exact wpS_nil ⟨rfl, rfl⟩)) z_su ?_; clear z_ex)
      ((repeat refine WpM.seq ?_); have z_ex := (And.intro @cnf.eq_1 True.intro); refine WpM.regPE [] [(1, _), (2, _), (4, _), (6, _)] (by (refine s_o [(2, _)] rfl rfl rfl z_su rfl q_load z_fp z_ss ?_; refine s_pure (callOf_eq rfl rfl rfl (mlk_tmp z_lk mlk_nil)) (h32) rfl rfl z_ip z_fp ?_; refine s_o [(14, _)] rfl rfl rfl z_su rfl q_move z_fp z_ss ?_; exact wpS_nil ⟨rfl, rfl⟩)) z_su ?_; clear z_ex)
      ((repeat refine WpM.seq ?_); have z_ex := True.intro; refine WpM.regPE [] [(1, _), (2, _), (4, _), (6, _), (16, _)] (by (refine s_o [(6, _)] rfl rfl rfl z_su rfl q_move z_fp z_ss ?_; refine s_o [(15, _)] rfl rfl rfl z_su rfl q_full z_fp z_ss ?_; exact wpS_nil ⟨rfl, rfl⟩)) z_su ?_; clear z_ex)
      ((repeat refine WpM.seq ?_); refine WpM.condF (by (simp (maxSteps := 2000000) (disch := omega) [go_sem, -List.map_map])) ?_)
      refine WpM.skip ?_
      by_cases hb0 : b < 0
      · ((repeat refine WpM.seq ?_); have z_ex := (And.intro @hb0 True.intro); refine WpM.regPE [] [(1, _), (2, _), (4, _), (24, _)] (by (refine s_o [(1, _)] rfl rfl rfl z_su rfl q_move z_fp z_ss ?_; refine s_o [(19, _)] rfl rfl rfl z_su rfl q_full z_fp z_ss ?_; refine s_o [(20, _)] rfl rfl rfl z_su rfl q_move z_fp z_ss ?_; refine s_wit ?_; intro z_g; (first | refine s_skip rfl z_g z_fp ?_ | (refine s_o [(1, _)] rfl z_g rfl z_su rfl q_move z_fp z_ss ?_)); clear z_g; refine s_wit ?_; intro z_g; (first | refine s_skip rfl z_g z_fp ?_ | (refine s_o [(22, _)] rfl z_g rfl z_su rfl q_full z_fp z_ss ?_)); clear z_g; refine s_o [(21, _), (23, _)] rfl rfl rfl z_su rfl q_move z_fp z_ss ?_; exact wpS_nil ⟨rfl, rfl⟩)) z_su ?_; clear z_ex)
        ((repeat refine WpM.seq ?_); refine WpM.condT (by (simp (maxSteps := 2000000) (disch := omega) [go_sem, -List.map_map])) ?_)
        ((repeat refine WpM.seq ?_); have z_ex := True.intro; refine WpM.regPE [] [(4, _), (5, _)] (by (refine s_o [] rfl rfl rfl z_su rfl q_build z_fp z_ss ?_; refine s_o [(4, _), (25, _)] rfl rfl rfl z_su rfl q_store z_fp z_ss ?_; refine s_o [] rfl rfl rfl z_su rfl q_move z_fp z_ss ?_; exact wpS_nil ⟨rfl, rfl⟩)) z_su ?_; clear z_ex)
        refine WpM.ret ?_
        refine ⟨.inr rfl, Upd.nilIn (n0 + 1) 1 (cs := [.d (.int .i64 0), .nil, .nil, .d (.int .i64 0)]) (by (simp (maxSteps := 2000000) (disch := omega) [go_sem, -List.map_map])) (.inl rfl) (Upd.nilIn (n0 + 1) 2 (cs := [.d (.int .i64 0), .d (.sl []), .nil, .d (.int .i64 0)]) (by (simp (maxSteps := 2000000) (disch := omega) [go_sem, -List.map_map])) (.inl rfl) (Upd.done ⟨_, (by (simp (maxSteps := 2000000) (disch := omega) [go_sem, -List.map_map, resV, resVs, resV1, encAns, zeroA, bools, cls])), rfl, fun m k hm hk => ?_⟩))⟩
        have := hH _ _ hk
        (simp (maxSteps := 2000000) (disch := omega) [go_sem, -List.map_map, hk])
      · have hb2 : (20000 : Int) < b := by omega
        ((repeat refine WpM.seq ?_); have z_ex := (And.intro @hb0 (And.intro @hb2 True.intro)); refine WpM.regPE [] [(1, _), (2, _), (4, _), (24, _)] (by (refine s_o [(1, _)] rfl rfl rfl z_su rfl q_move z_fp z_ss ?_; refine s_o [(19, _)] rfl rfl rfl z_su rfl q_full z_fp z_ss ?_; refine s_o [(20, _)] rfl rfl rfl z_su rfl q_move z_fp z_ss ?_; refine s_wit ?_; intro z_g; (first | refine s_skip rfl z_g z_fp ?_ | (refine s_o [(1, _)] rfl z_g rfl z_su rfl q_move z_fp z_ss ?_)); clear z_g; refine s_wit ?_; intro z_g; (first | refine s_skip rfl z_g z_fp ?_ | (refine s_o [(22, _)] rfl z_g rfl z_su rfl q_full z_fp z_ss ?_)); clear z_g; refine s_o [(21, _), (23, _)] rfl rfl rfl z_su rfl q_move z_fp z_ss ?_; exact wpS_nil ⟨rfl, rfl⟩)) z_su ?_; clear z_ex)
        ((repeat refine WpM.seq ?_); refine WpM.condT (by (simp (maxSteps := 2000000) (disch := omega) [go_sem, -List.map_map])) ?_)
        ((repeat refine WpM.seq ?_); have z_ex := True.intro; refine WpM.regPE [] [(4, _), (5, _)] (by (refine s_o [] rfl rfl rfl z_su rfl q_build z_fp z_ss ?_; refine s_o [(4, _), (25, _)] rfl rfl rfl z_su rfl q_store z_fp z_ss ?_; refine s_o [] rfl rfl rfl z_su rfl q_move z_fp z_ss ?_; exact wpS_nil ⟨rfl, rfl⟩)) z_su ?_; clear z_ex)
        refine WpM.ret ?_
        refine ⟨.inr rfl, Upd.nilIn (n0 + 1) 1 (cs := [.d (.int .i64 0), .nil, .nil, .d (.int .i64 0)]) (by (simp (maxSteps := 2000000) (disch := omega) [go_sem, -List.map_map])) (.inl rfl) (Upd.nilIn (n0 + 1) 2 (cs := [.d (.int .i64 0), .d (.sl []), .nil, .d (.int .i64 0)]) (by (simp (maxSteps := 2000000) (disch := omega) [go_sem, -List.map_map])) (.inl rfl) (Upd.done ⟨_, (by (simp (maxSteps := 2000000) (disch := omega) [go_sem, -List.map_map, resV, resVs, resV1, encAns, zeroA, bools, cls])), rfl, fun m k hm hk => ?_⟩))⟩
        have := hH _ _ hk
        (simp (maxSteps := 2000000) (disch := omega) [go_sem, -List.map_map, hk])
    · have hr : runF n cs b = (searchF n.toNat cs b.toNat, 0) := by unfold runF; rw [if_neg (by simp [hchk]), if_neg hbb]
      rw [hr]
      obtain ⟨n', rfl⟩ : ∃ n' : Nat, n = n' := ⟨n.toNat, by omega⟩
      obtain ⟨b', rfl⟩ : ∃ b' : Nat, b = b' := ⟨b.toNat, by omega⟩
      exact run31 n' cs b' hchk (by omega) (by omega) hmass c3 c4 S
  · have hr : runF n cs b = (zeroA, checkF n cs) := by unfold runF; rw [if_pos hchk]
    rw [hr]
    refine CallM.pure' (by rfl) (CallM.start (n := 98) Try.func31 rfl rfl (by simp) (by simp only [argL, Nat.reduceAdd] <;> rfl) ?_)
    intro hH
    obtain ⟨H, hHe⟩ : ∃ H, H = S.get := ⟨_, rfl⟩
    obtain ⟨n0, hne⟩ : ∃ n0, n0 = S.next := ⟨_, rfl⟩
    rw [← hHe, ← hne] at hH ⊢
    have h32 := check32 n cs (by omega) (fun c hc => by have := hcs c hc; omega)
    obtain ⟨e, he⟩ : ∃ e, e = checkF n cs := ⟨_, rfl⟩
    rw [← he] at h32 hchk ⊢
    ((repeat refine WpM.seq ?_); have z_ex := (And.intro @cnf.eq_1 True.intro); refine WpM.regPE [] [(1, _), (2, _), (4, _)] (by (refine s_o [(0, _)] rfl rfl rfl z_su rfl q_box z_fp z_ss ?_; refine s_o [] rfl rfl rfl z_su rfl q_alloc z_fp z_ss ?_; refine s_o [] rfl rfl rfl z_su rfl q_move z_fp z_ss ?_; exact wpS_nil ⟨rfl, rfl⟩)) z_su ?_; clear z_ex)
    ((repeat refine WpM.seq ?_); have z_ex := (And.intro @cnf.eq_1 True.intro); refine WpM.regPE [] [(1, _), (2, _), (4, _), (6, _)] (by (refine s_o [(2, _)] rfl rfl rfl z_su rfl q_load z_fp z_ss ?_; refine s_pure (callOf_eq rfl rfl rfl (mlk_tmp z_lk mlk_nil)) (h32) rfl rfl z_ip z_fp ?_; refine s_o [(14, _)] rfl rfl rfl z_su rfl q_move z_fp z_ss ?_; exact wpS_nil ⟨rfl, rfl⟩)) z_su ?_; clear z_ex)
    ((repeat refine WpM.seq ?_); have z_ex := (And.intro @hchk True.intro); refine WpM.regPE [] [(1, _), (2, _), (4, _), (6, _), (16, _)] (by (refine s_o [(6, _)] rfl rfl rfl z_su rfl q_move z_fp z_ss ?_; refine s_o [(15, _)] rfl rfl rfl z_su rfl q_full z_fp z_ss ?_; exact wpS_nil ⟨rfl, rfl⟩)) z_su ?_; clear z_ex)
    ((repeat refine WpM.seq ?_); refine WpM.condT (by (simp (maxSteps := 2000000) (disch := omega) [go_sem, -List.map_map])) ?_)
    ((repeat refine WpM.seq ?_); have z_ex := True.intro; refine WpM.regPE [] [(4, _), (5, _)] (by (refine s_o [] rfl rfl rfl z_su rfl q_build z_fp z_ss ?_; refine s_o [(6, _)] rfl rfl rfl z_su rfl q_move z_fp z_ss ?_; refine s_o [(4, _), (17, _)] rfl rfl rfl z_su rfl q_store z_fp z_ss ?_; refine s_o [(18, _)] rfl rfl rfl z_su rfl q_move z_fp z_ss ?_; exact wpS_nil ⟨rfl, rfl⟩)) z_su ?_; clear z_ex)
    refine WpM.ret ?_
    refine ⟨.inr rfl, Upd.nilIn (n0 + 1) 1 (cs := [.d (.int .i64 0), .nil, .nil, .d (.int .i64 0)]) (by (simp (maxSteps := 2000000) (disch := omega) [go_sem, -List.map_map])) (.inl rfl) (Upd.nilIn (n0 + 1) 2 (cs := [.d (.int .i64 0), .d (.sl []), .nil, .d (.int .i64 0)]) (by (simp (maxSteps := 2000000) (disch := omega) [go_sem, -List.map_map])) (.inl rfl) (Upd.done ⟨_, (by (simp (maxSteps := 2000000) (disch := omega) [go_sem, -List.map_map, resV, resVs, resV1, encAns, zeroA, bools, cls])), rfl, fun m k hm hk => ?_⟩))⟩
    have := hH _ _ hk
    (simp (maxSteps := 2000000) (disch := omega) [go_sem, -List.map_map, hk])
end Go.Proofs.Ytafeehlpmdligaa
