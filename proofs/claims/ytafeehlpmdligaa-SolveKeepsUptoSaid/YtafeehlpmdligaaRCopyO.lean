/- Copy with a row of its own. -/
import Derived.Test.YtafeehlpmdligaaROp
import Derived.Test.YtafeehlpmdligaaRSame22
namespace Go.Proofs.Ytafeehlpmdligaa
open Go.RowKit M
set_option linter.unusedSimpArgs false
set_option linter.unusedVariables false
set_option maxHeartbeats 8000000 in
theorem copy17f (a : List (List Int)) (ha : a.length ≤ 1048576) (hb : ∀ c ∈ a, c.length ≤ 1048576) (H0 : Nat → Option Blk) : FreshOn Try.prog 17 [.d (cls a)] 1 (a.map ints) [] H0 := by
  intro S0 _
  refine CallM.start (n := 21) Try.func17 rfl rfl (by simp) (by simp only [argL, Nat.reduceAdd] <;> rfl) ?_
  intro hH
  obtain ⟨H, hHe⟩ : ∃ H, H = S0.get := ⟨_, rfl⟩
  obtain ⟨n0, hne⟩ : ∃ n0, n0 = S0.next := ⟨_, rfl⟩
  rw [← hHe, ← hne] at hH ⊢
  ((repeat refine WpM.seq ?_); have z_ex := True.intro; refine WpM.regPE [] [(0, _)] (by (refine s_o [] rfl rfl rfl z_su rfl q_move z_fp z_ss ?_; exact wpS_nil ⟨rfl, rfl⟩)) z_su ?_; clear z_ex)
  ((repeat refine WpM.seq ?_); have z_ex := True.intro; refine WpM.regPE [] [(0, _), (3, _)] (by (refine s_o [] rfl rfl rfl z_su rfl q_move z_fp z_ss ?_; exact wpS_nil ⟨rfl, rfl⟩)) z_su ?_; clear z_ex)
  ((repeat refine WpM.seq ?_); have z_ex := True.intro; refine WpM.regPE [] [(0, _), (3, _), (4, _)] (by (refine s_o [] rfl rfl rfl z_su rfl q_move z_fp z_ss ?_; exact wpS_nil ⟨rfl, rfl⟩)) z_su ?_; clear z_ex)
  ((repeat refine WpM.seq ?_); refine WpM.block ?_)
  refine Upd.wp (Upd.ghost 3 1 (.inl (by (simp (maxSteps := 2000000) (disch := omega) [go_sem, -List.map_map]))) (Upd.done ?_))
  refine WpM.loop (fun (j : Nat) fr S => j ≤ a.length ∧ ∃ nx nm xs, n0 ≤ nm ∧ nm < nx ∧ xs = (a.take j).map (fun c => .d (ints c)) ∧ fr = frOf [(0, .d (cls a)), (3, .ms nm 1 0 xs.length), (4, .d (.int .i64 j))] ∧ S = ⟨nx, [(nm, some (.row 1 xs))], H⟩) (fun j => a.length - j) 0 (St.Le.refl _) (frLe_frOf (by (simp (maxSteps := 2000000) (disch := omega) [go_sem, -List.map_map, cls]))) ⟨by omega, _, n0 + 3, [], by omega, ?_, rfl, rfl, rfl⟩ ?_
  · (simp (maxSteps := 2000000) (disch := omega) [go_sem, -List.map_map])
  rintro j fr S ⟨hj, nx, nm, xs, h1, h2, hxs, rfl, rfl⟩
  have hxl : xs.length = j := by rw [hxs]; simp; omega
  ((repeat refine WpM.seq ?_); have z_ex := (And.intro @cls.eq_1 True.intro); refine WpM.regPE [] [(0, _), (3, _), (4, _), (8, _)] (by (refine s_o [(4, _)] rfl rfl rfl z_su rfl q_move z_fp z_ss ?_; refine s_o [(0, _)] rfl rfl rfl z_su rfl q_move z_fp z_ss ?_; refine s_o [(6, _)] rfl rfl rfl z_su rfl q_full z_fp z_ss ?_; refine s_o [(5, _), (7, _)] rfl rfl rfl z_su rfl q_full z_fp z_ss ?_; exact wpS_nil ⟨rfl, rfl⟩)) z_su ?_; clear z_ex)
  by_cases hlt : j < a.length
  · ((repeat refine WpM.seq ?_); refine WpM.condT (by (simp (maxSteps := 2000000) (disch := omega) [go_sem, -List.map_map, hlt])) ?_)
    refine WpM.skip ?_
    ((repeat refine WpM.seq ?_); refine WpM.block ?_)
    have hc := hb a[j] (List.getElem_mem _)
    ((repeat refine WpM.seq ?_); have z_ex := (And.intro @cls.eq_1 (And.intro @hlt (And.intro @ints.eq_1 True.intro))); refine WpM.regPE [17] [(0, _), (3, _), (4, _)] (by (refine s_o [(3, _)] rfl rfl rfl z_su rfl q_move z_fp z_ss ?_; refine s_o [] rfl rfl rfl z_su rfl q_full z_fp z_ss ?_; refine s_o [(0, _)] rfl rfl rfl z_su rfl q_move z_fp z_ss ?_; refine s_o [(4, _)] rfl rfl rfl z_su rfl q_move z_fp z_ss ?_; refine s_o [(13, _), (14, _)] rfl rfl rfl z_su rfl q_full z_fp z_ss ?_; refine s_o [(15, _)] rfl rfl rfl z_su rfl q_load z_fp z_ss ?_; refine s_o [(12, _), (16, _)] rfl rfl rfl z_su rfl q_full z_fp z_ss ?_; refine s_o [(17, _)] rfl rfl rfl z_su rfl q_full z_fp z_ss ?_; refine s_o [(11, _), (18, _)] rfl rfl rfl z_su rfl q_full z_fp z_ss ?_; refine s_o [(19, _)] rfl rfl rfl z_su rfl q_move z_fp z_ss ?_; exact wpS_nil ⟨rfl, rfl⟩)) z_su ?_; clear z_ex)
    ((repeat refine WpM.seq ?_); have z_ex := (And.intro @wrap_id True.intro); refine WpM.regPE [] [(0, _), (3, _), (4, _)] (by (refine s_o [(4, _)] rfl rfl rfl z_su rfl q_move z_fp z_ss ?_; refine s_o [(9, _)] rfl rfl rfl z_su rfl q_full z_fp z_ss ?_; refine s_o [(10, _)] rfl rfl rfl z_su rfl q_move z_fp z_ss ?_; exact wpS_nil ⟨rfl, rfl⟩)) z_su ?_; clear z_ex)
    have hxs' : xs ++ [V.d (ints a[j])] = (a.take (j + 1)).map (fun c => .d (ints c)) := by rw [hxs, List.take_succ_eq_append_getElem hlt, List.map_append]; rfl
    exact round_end (x' := j + 1) (le_cut (l' := [(nx + 12, some (.row 1 (xs ++ [V.d (ints a[j])])))]) hH (by (simp (maxSteps := 2000000) (disch := omega) [go_sem, -List.map_map]); omega) (Nat.le_refl _) (by (simp (maxSteps := 2000000) (disch := omega) [go_sem, -List.map_map, ints]))) (frLe_frOf (by (simp (maxSteps := 2000000) (disch := omega) [go_sem, -List.map_map, wrap_id]))) ⟨by omega, nx + 17, nx + 12, _, by omega, by omega, hxs', rfl, by (simp (maxSteps := 2000000) (disch := omega) [go_sem, -List.map_map])⟩ (by omega)
  · ((repeat refine WpM.seq ?_); refine WpM.condF (by (simp (maxSteps := 2000000) (disch := omega) [go_sem, -List.map_map, hlt])) ?_)
    (refine WpM.exit ?_; (repeat (with_reducible (first | refine thenM_exit ?_ | refine blockM_eq ?_ | refine blockM_ne (by decide) ?_))))
    obtain rfl : j = a.length := by omega
    rw [List.take_length] at hxs
    ((repeat refine WpM.seq ?_); have z_ex := True.intro; refine WpM.regPE [] [(2, _)] (by (refine s_o [(3, _)] rfl rfl rfl z_su rfl q_move z_fp z_ss ?_; refine s_o [(20, _)] rfl rfl rfl z_su rfl q_move z_fp z_ss ?_; exact wpS_nil ⟨rfl, rfl⟩)) z_su ?_; clear z_ex)
    refine WpM.ret ?_
    refine ⟨.inr rfl, Upd.done ⟨.ms nm 1 0 (a.map ints).length, (by (simp (maxSteps := 2000000) (disch := omega) [go_sem, -List.map_map, resV, resVs, resV1, hxl])), nm, h1, rfl, ?_, fun m k hm hk => ?_⟩⟩
    · have he : (a.map ints).map V.d = xs := by rw [hxs, List.map_map]; rfl
      rw [he]
      (simp (maxSteps := 2000000) (disch := omega) [go_sem, -List.map_map])
    · have hmn : m ≠ nm := by omega
      (simp (maxSteps := 2000000) (disch := omega) [go_sem, -List.map_map, hmn, hk])
set_option maxHeartbeats 8000000 in
theorem copy16o (n : Int) (cs : List (List Int)) (ha : cs.length ≤ 1048576) (hb : ∀ c ∈ cs, c.length ≤ 1048576) (S0 : St) : CallM Try.prog 16 [.d (cnf n cs)] S0 fun r S' => ∃ nm, S0.next ≤ nm ∧ r = .agg [.d (.int .i64 n), .ms nm 1 0 cs.length] ∧ S'.get nm = some (.row 1 (cs.map fun c => .d (ints c))) ∧ (∀ m k, S0.get m = some k → S'.get m = some k) ∧ ∀ m k, S'.get m = some k → m < S'.next := by
  refine CallM.start (n := 9) Try.func16 rfl rfl (by simp) (by simp only [argL, Nat.reduceAdd] <;> rfl) ?_
  intro hH
  obtain ⟨H, hHe⟩ : ∃ H, H = S0.get := ⟨_, rfl⟩
  obtain ⟨n0, hne⟩ : ∃ n0, n0 = S0.next := ⟨_, rfl⟩
  rw [← hHe, ← hne] at hH ⊢
  ((repeat refine WpM.seq ?_); have z_ex := (And.intro @cnf.eq_1 True.intro); refine WpM.regPE [] [(1, _), (2, _)] (by (refine s_o [(0, _)] rfl rfl rfl z_su rfl q_box z_fp z_ss ?_; refine s_o [] rfl rfl rfl z_su rfl q_alloc z_fp z_ss ?_; exact wpS_nil ⟨rfl, rfl⟩)) z_su ?_; clear z_ex)
  ((repeat refine WpM.seq ?_); have z_ex := (And.intro @cnf.eq_1 (And.intro @cls.eq_1 True.intro)); refine WpM.drwPE [] [(2, _)] mixed (by kernel_rfl) (by kernel_rfl) [(1, 4)] (by kernel_rfl) (by (refine d_o [(1, _)] rfl rfl rfl z_su rfl q_fieldAddr z_fp z_ss rfl ?_; refine d_o [(3, _)] rfl rfl rfl z_su rfl q_load z_fp z_ss rfl ?_; refine d_o [(1, _)] rfl rfl rfl z_su rfl q_fieldAddr z_fp z_ss rfl ?_; refine d_o [(5, _)] rfl rfl rfl z_su rfl q_load z_fp z_ss rfl ?_; refine wpD_fresh rfl rfl (callOf_eq rfl rfl rfl (mlk_tmp z_lk mlk_nil)) z_ip (copy17f cs ha hb _) z_fp rfl ?_; refine d_o [(4, _), (7, _)] rfl rfl rfl z_su rfl q_build z_fp z_ss rfl ?_; refine d_o [(2, _), (8, _)] rfl rfl rfl z_su rfl q_store z_fp z_ss rfl ?_; exact d_end z_mt z_sn)) z_su ?_; clear z_ex)
  refine WpM.ret ?_
  refine ⟨.inr rfl, Upd.done ⟨.agg [.d (.int .i64 n), .ms (n0 + 6) 1 0 cs.length], (by (simp (maxSteps := 2000000) (disch := omega) [go_sem, -List.map_map, resV, resVs, resV1])), n0 + 6, by omega, rfl, ?_, fun m k hk => ?_, fun m k hk => ?_⟩⟩
  · have he : (cs.map ints).map V.d = cs.map fun c => .d (ints c) := by rw [List.map_map]; rfl
    rw [← he]
    (simp (maxSteps := 2000000) (disch := omega) [go_sem, -List.map_map])
  · have := hH _ _ hk
    (simp (maxSteps := 2000000) (disch := omega) [go_sem, -List.map_map, hk])
  · show m < n0 + 9
    by_cases h1 : m < n0 + 9
    · exact h1
    · have e0 : H m = none := by
        cases e : H m with
        | none => rfl
        | some k => have := hH _ _ e; omega
      rw [show St.get ⟨n0 + 9, [(n0, some (.box [.d (.int .i64 n), .d (cls cs)])), (n0 + 1, some (.box [.d (.int .i64 n), .ms (n0 + 6) 1 0 (cs.map ints).length])), (n0 + 6, some (.row 1 ((cs.map ints).map V.d)))], H⟩ m = none by (simp (maxSteps := 2000000) (disch := omega) [go_sem, -List.map_map, e0])] at hk
      cases hk
end Go.Proofs.Ytafeehlpmdligaa
