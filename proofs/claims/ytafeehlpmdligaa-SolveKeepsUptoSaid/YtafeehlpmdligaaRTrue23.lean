/- assizeref15.Holds, cnf.True. -/
import Derived.Test.YtafeehlpmdligaaROp
import Derived.Test.YtafeehlpmdligaaRModel
namespace Go.Proofs.Ytafeehlpmdligaa
open Go.RowKit M
set_option linter.unusedSimpArgs false
set_option linter.unusedVariables false
theorem holds24 (m : List Bool) (c : List Int) (hc : ∀ l ∈ c, l ≠ 0 ∧ l.natAbs < m.length) (hm : m.length ≤ 140737488351232) (hlen : c.length ≤ 140737488351232) : PureC Try.prog 24 [.d (ints c), .d (bools m)] (.d (.bool (holdsM m c))) := by
  refine PureC.of (n := 18) Try.func24 rfl rfl (by simp) (by simp only [argL, Nat.reduceAdd] <;> rfl) rfl ?_
  intro n0 H hH
  ((repeat refine WpM.seq ?_); have z_ex := True.intro; refine WpM.regPE [] [(0, _), (1, _)] (by (refine s_o [] rfl rfl rfl z_su rfl q_move z_fp z_ss ?_; exact wpS_nil ⟨rfl, rfl⟩)) z_su ?_; clear z_ex)
  ((repeat refine WpM.seq ?_); have z_ex := True.intro; refine WpM.regPE [] [(0, _), (1, _), (5, _)] (by (refine s_o [] rfl rfl rfl z_su rfl q_move z_fp z_ss ?_; exact wpS_nil ⟨rfl, rfl⟩)) z_su ?_; clear z_ex)
  ((repeat refine WpM.seq ?_); refine WpM.block ?_)
  refine WpM.loop (fun (j : Nat) fr S => j ≤ c.length ∧ holdsM m (c.drop j) = holdsM m c ∧ fr = frOf [(0, .d (ints c)), (1, .d (bools m)), (5, .d (.int .i64 j))] ∧ ∃ nx, S = ⟨nx, [], H⟩) (fun j => c.length - j) 0 (St.Le.refl _) (frLe_frOf (by (simp (maxSteps := 2000000) (disch := omega) [go_sem, -List.map_map]))) ⟨by omega, rfl, rfl, _, rfl⟩ ?_
  rintro j fr S' ⟨hj, hh, rfl, nx, rfl⟩
  ((repeat refine WpM.seq ?_); have z_ex := (And.intro @ints.eq_1 True.intro); refine WpM.regPE [] [(0, _), (1, _), (5, _), (9, _)] (by (refine s_o [(5, _)] rfl rfl rfl z_su rfl q_move z_fp z_ss ?_; refine s_o [(0, _)] rfl rfl rfl z_su rfl q_move z_fp z_ss ?_; refine s_o [(7, _)] rfl rfl rfl z_su rfl q_full z_fp z_ss ?_; refine s_o [(6, _), (8, _)] rfl rfl rfl z_su rfl q_full z_fp z_ss ?_; exact wpS_nil ⟨rfl, rfl⟩)) z_su ?_; clear z_ex)
  by_cases hlt : j < c.length
  · ((repeat refine WpM.seq ?_); refine WpM.condT (by (simp (maxSteps := 2000000) (disch := omega) [go_sem, -List.map_map, hlt])) ?_)
    refine WpM.skip ?_
    ((repeat refine WpM.seq ?_); refine WpM.block ?_)
    obtain ⟨hl0, hl1⟩ := hc c[j] (List.getElem_mem _)
    rw [List.drop_eq_getElem_cons hlt] at hh
    obtain ⟨l, hle⟩ : ∃ l, l = c[j] := ⟨_, rfl⟩
    have hget : (c.map (D.int .i64))[j]? = some (.int .i64 l) := by simp [hlt, hle]
    rw [← hle] at hl0 hl1 hh
    have hP := holds49 m l hl0 hl1 hm
    simp only [holdsM, List.any_cons] at hh
    generalize litT m l = b at hP hh
    ((repeat refine WpM.seq ?_); have z_ex := (And.intro @ints.eq_1 (And.intro @hget True.intro)); refine WpM.regPE [] [(0, _), (1, _), (5, _), (17, _)] (by (refine s_o [(1, _)] rfl rfl rfl z_su rfl q_move z_fp z_ss ?_; refine s_o [(0, _)] rfl rfl rfl z_su rfl q_move z_fp z_ss ?_; refine s_o [(5, _)] rfl rfl rfl z_su rfl q_move z_fp z_ss ?_; refine s_o [(13, _), (14, _)] rfl rfl rfl z_su rfl q_full z_fp z_ss ?_; refine s_o [(15, _)] rfl rfl rfl z_su rfl q_load z_fp z_ss ?_; refine s_pure (callOf_eq rfl rfl rfl (mlk_tmp z_lk (mlk_tmp z_lk mlk_nil))) (hP) rfl rfl z_ip z_fp ?_; exact wpS_nil ⟨rfl, rfl⟩)) z_su ?_; clear z_ex)
    cases b with
    | true =>
      ((repeat refine WpM.seq ?_); refine WpM.condT (by (simp (maxSteps := 2000000) (disch := omega) [go_sem, -List.map_map])) ?_)
      ((repeat refine WpM.seq ?_); have z_ex := True.intro; refine WpM.regPE [] [(4, _)] (by (refine s_o [] rfl rfl rfl z_su rfl q_move z_fp z_ss ?_; exact wpS_nil ⟨rfl, rfl⟩)) z_su ?_; clear z_ex)
      have hr : holdsM m c = true := by unfold holdsM; rw [← hh]; rfl
      (refine WpM.ret ?_; refine ⟨.inr rfl, Upd.done ?_⟩; (simp (maxSteps := 2000000) (disch := omega) [go_sem, -List.map_map, resV, resVs, resV1, hr]))
    | false =>
      ((repeat refine WpM.seq ?_); refine WpM.condF (by (simp (maxSteps := 2000000) (disch := omega) [go_sem, -List.map_map])) ?_)
      refine WpM.skip ?_
      ((repeat refine WpM.seq ?_); have z_ex := (And.intro @wrap_id True.intro); refine WpM.regPE [] [(0, _), (1, _), (5, _)] (by (refine s_o [(5, _)] rfl rfl rfl z_su rfl q_move z_fp z_ss ?_; refine s_o [(10, _)] rfl rfl rfl z_su rfl q_full z_fp z_ss ?_; refine s_o [(11, _)] rfl rfl rfl z_su rfl q_move z_fp z_ss ?_; exact wpS_nil ⟨rfl, rfl⟩)) z_su ?_; clear z_ex)
      exact round_end (x' := j + 1) (St.Le.refl _) (frLe_frOf (by (simp (maxSteps := 2000000) (disch := omega) [go_sem, -List.map_map, wrap_id]))) ⟨by omega, by unfold holdsM; rw [← hh]; simp, rfl, _, rfl⟩ (by omega)
  · ((repeat refine WpM.seq ?_); refine WpM.condF (by (simp (maxSteps := 2000000) (disch := omega) [go_sem, -List.map_map, hlt])) ?_)
    (refine WpM.exit ?_; (repeat (with_reducible (first | refine thenM_exit ?_ | refine blockM_eq ?_ | refine blockM_ne (by decide) ?_))))
    have : c.drop j = [] := List.drop_eq_nil_of_le (by omega)
    rw [this] at hh
    ((repeat refine WpM.seq ?_); have z_ex := True.intro; refine WpM.regPE [] [(4, _)] (by (refine s_o [] rfl rfl rfl z_su rfl q_move z_fp z_ss ?_; exact wpS_nil ⟨rfl, rfl⟩)) z_su ?_; clear z_ex)
    have hr : holdsM m c = false := by rw [← hh]; rfl
    (refine WpM.ret ?_; refine ⟨.inr rfl, Upd.done ?_⟩; (simp (maxSteps := 2000000) (disch := omega) [go_sem, -List.map_map, resV, resVs, resV1, hr]))
theorem abs48 (l : Int) (h : -1000000 ≤ l ∧ l ≤ 1000000) : PureC Try.prog 48 [.d (.int .i64 l)] (.d (.int .i64 l.natAbs)) := by
  refine PureC.of (n := 7) Try.func48 rfl rfl (by simp) (by simp only [argL, Nat.reduceAdd] <;> rfl) rfl ?_
  intro n0 H hH
  obtain ⟨h1, h2⟩ := h
  have e : (if l < -l then -l else l) = (l.natAbs : Int) := by split <;> omega
  ((repeat refine WpM.seq ?_); have z_ex := True.intro; refine WpM.regPE [] [(0, _)] (by (refine s_o [] rfl rfl rfl z_su rfl q_move z_fp z_ss ?_; exact wpS_nil ⟨rfl, rfl⟩)) z_su ?_; clear z_ex)
  ((repeat refine WpM.seq ?_); have z_ex := (And.intro @wrap_0sub (And.intro @wrap_neg (And.intro @e True.intro))); refine WpM.regPE [] [(2, _)] (by (refine s_o [(0, _)] rfl rfl rfl z_su rfl q_move z_fp z_ss ?_; refine s_o [(0, _)] rfl rfl rfl z_su rfl q_move z_fp z_ss ?_; refine s_o [(4, _)] rfl rfl rfl z_su rfl q_unOp z_fp z_ss ?_; refine s_o [(3, _), (5, _)] rfl rfl rfl z_su rfl q_full z_fp z_ss ?_; refine s_o [(6, _)] rfl rfl rfl z_su rfl q_move z_fp z_ss ?_; exact wpS_nil ⟨rfl, rfl⟩)) z_su ?_; clear z_ex)
  (refine WpM.ret ?_; refine ⟨.inr rfl, Upd.done ?_⟩; (simp (maxSteps := 2000000) (disch := omega) [go_sem, -List.map_map, resV, resVs, resV1,]))
theorem true47 (m : List Bool) (l : Int) (h0 : l ≠ 0) (hl : l.natAbs < m.length) (hm : m.length ≤ 5000) (bx : Nat) (S : St) (hS : S.get bx = some (.box [.d (bools m)])) : PureS Try.prog 47 [.d (.int .i64 l), .ptr bx 0] (.d (.bool (litT m l))) S := by
  refine PureS.of (n := 12) Try.func47 rfl rfl (by simp) (by simp only [argL, Nat.reduceAdd] <;> rfl) rfl ?_
  intro n0 H hH0 hH
  rw [hH0] at hS
  have hg := bools_get hl
  have hT : litT m l = (m.getD l.natAbs false == decide (0 < l)) := rfl
  generalize m.getD l.natAbs false = b at hg hT
  rw [hT]
  ((repeat refine WpM.seq ?_); have z_ex := True.intro; refine WpM.regPE [] [(0, _), (1, _)] (by (refine s_o [] rfl rfl rfl z_su rfl q_move z_fp z_ss ?_; exact wpS_nil ⟨rfl, rfl⟩)) z_su ?_; clear z_ex)
  ((repeat refine WpM.seq ?_); have z_ex := (And.intro @hS (And.intro @bools.eq_1 (And.intro @hg True.intro))); refine WpM.drwPE [] [(3, _)] mixed (by kernel_rfl) (by kernel_rfl) [(0, 2)] (by kernel_rfl) (by (refine d_o [(1, _)] rfl rfl rfl z_su rfl q_load z_fp z_ss rfl ?_; refine d_o [(0, _)] rfl rfl rfl z_su rfl q_move z_fp z_ss rfl ?_; refine d_pure (callOf_eq rfl rfl rfl (mlk_tmp z_lk mlk_nil)) ((abs48 l (by omega))) rfl rfl z_ip rfl z_fp ?_; refine d_o [(4, _), (6, _)] rfl rfl rfl z_su rfl q_full z_fp z_ss rfl ?_; refine d_o [(7, _)] rfl rfl rfl z_su rfl q_load z_fp z_ss rfl ?_; refine d_o [(0, _)] rfl rfl rfl z_su rfl q_move z_fp z_ss rfl ?_; refine d_o [(9, _)] rfl rfl rfl z_su rfl q_full z_fp z_ss rfl ?_; refine d_o [(8, _), (10, _)] rfl rfl rfl z_su rfl q_full z_fp z_ss rfl ?_; refine d_o [(11, _)] rfl rfl rfl z_su rfl q_move z_fp z_ss rfl ?_; exact d_end z_mt z_sn)) z_su ?_; clear z_ex)
  (refine WpM.ret ?_; refine ⟨.inr rfl, Upd.done ?_⟩; (simp (maxSteps := 2000000) (disch := omega) [go_sem, -List.map_map, resV, resVs, resV1,]))
set_option maxHeartbeats 8000000 in
theorem true23 (n : Int) (cs : List (List Int)) (m : List Bool) (hcl : cs.length ≤ 140737488351232) (hcs : ∀ c ∈ cs, c.length ≤ 140737488351232) (hm : m.length ≤ 1048576) :
    PureC Try.prog 23 [.d (cnf n cs), .d (bools m)] (.tup [.d (.bool (trueF n cs m).1), .d (.int .i64 (trueF n cs m).2)]) := by
  intro S
  refine CallM.pure' (by rfl) (CallM.start (n := 31) Try.func23 rfl rfl (by simp) (by simp only [argL, Nat.reduceAdd] <;> rfl) ?_)
  intro hH
  obtain ⟨H, hHe⟩ : ∃ H, H = S.get := ⟨_, rfl⟩
  obtain ⟨n0, hne⟩ : ∃ n0, n0 = S.next := ⟨_, rfl⟩
  rw [← hHe, ← hne] at hH ⊢
  have hC := check32 n cs hcl hcs
  unfold trueF
  obtain ⟨e, he⟩ : ∃ e, e = checkF n cs := ⟨_, rfl⟩
  rw [← he] at hC ⊢
  ((repeat refine WpM.seq ?_); have z_ex := (And.intro @cnf.eq_1 (And.intro @bools.eq_1 True.intro)); refine WpM.regPE [] [(2, _), (3, _)] (by (refine s_o [(0, _)] rfl rfl rfl z_su rfl q_box z_fp z_ss ?_; refine s_o [(1, _)] rfl rfl rfl z_su rfl q_box z_fp z_ss ?_; refine s_o [] rfl rfl rfl z_su rfl q_move z_fp z_ss ?_; refine s_o [] rfl rfl rfl z_su rfl q_move z_fp z_ss ?_; exact wpS_nil ⟨rfl, rfl⟩)) z_su ?_; clear z_ex)
  by_cases h0 : e = 0
  · subst h0
    have hz := checkF_zero he.symm
    have hsp := checkF_spec he.symm
    by_cases hln : (m.length : Int) = n + 1
    · rw [if_pos ⟨rfl, hln⟩]
      ((repeat refine WpM.seq ?_); have z_ex := (And.intro @cnf.eq_1 (And.intro @bools.eq_1 (And.intro @hln (And.intro @wrap_id True.intro)))); refine WpM.regPE [] [(2, _), (3, _), (18, _)] (by (refine s_o [(2, _)] rfl rfl rfl z_su rfl q_load z_fp z_ss ?_; refine s_pure (callOf_eq rfl rfl rfl (mlk_tmp z_lk mlk_nil)) (hC) rfl rfl z_ip z_fp ?_; refine s_o [(9, _)] rfl rfl rfl z_su rfl q_full z_fp z_ss ?_; refine s_o [(10, _)] rfl rfl rfl z_su rfl q_move z_fp z_ss ?_; refine s_wit ?_; intro z_g; (first | refine s_skip rfl z_g z_fp ?_ | (refine s_o [(3, _)] rfl z_g rfl z_su rfl q_load z_fp z_ss ?_)); clear z_g; refine s_wit ?_; intro z_g; (first | refine s_skip rfl z_g z_fp ?_ | (refine s_o [(12, _)] rfl z_g rfl z_su rfl q_full z_fp z_ss ?_)); clear z_g; refine s_wit ?_; intro z_g; (first | refine s_skip rfl z_g z_fp ?_ | (refine s_o [(2, _)] rfl z_g rfl z_su rfl q_fieldAddr z_fp z_ss ?_)); clear z_g; refine s_wit ?_; intro z_g; (first | refine s_skip rfl z_g z_fp ?_ | (refine s_o [(14, _)] rfl z_g rfl z_su rfl q_load z_fp z_ss ?_)); clear z_g; refine s_wit ?_; intro z_g; (first | refine s_skip rfl z_g z_fp ?_ | (refine s_o [(15, _)] rfl z_g rfl z_su rfl q_full z_fp z_ss ?_)); clear z_g; refine s_wit ?_; intro z_g; (first | refine s_skip rfl z_g z_fp ?_ | (refine s_o [(13, _), (16, _)] rfl z_g rfl z_su rfl q_full z_fp z_ss ?_)); clear z_g; refine s_o [(11, _), (17, _)] rfl rfl rfl z_su rfl q_move z_fp z_ss ?_; exact wpS_nil ⟨rfl, rfl⟩)) z_su ?_; clear z_ex)
      ((repeat refine WpM.seq ?_); refine WpM.condF (by (simp (maxSteps := 2000000) (disch := omega) [go_sem, -List.map_map])) ?_)
      refine WpM.skip ?_
      ((repeat refine WpM.seq ?_); have z_ex := (And.intro @cls.eq_1 True.intro); refine WpM.regPE [] [(3, _), (20, _), (21, _), (22, _)] (by (refine s_o [(2, _)] rfl rfl rfl z_su rfl q_fieldAddr z_fp z_ss ?_; refine s_o [(19, _)] rfl rfl rfl z_su rfl q_load z_fp z_ss ?_; refine s_o [(20, _)] rfl rfl rfl z_su rfl q_full z_fp z_ss ?_; refine s_o [] rfl rfl rfl z_su rfl q_move z_fp z_ss ?_; exact wpS_nil ⟨rfl, rfl⟩)) z_su ?_; clear z_ex)
      ((repeat refine WpM.seq ?_); refine WpM.block ?_)
      refine WpM.loop (fun (j : Nat) fr S => j ≤ cs.length ∧ (cs.drop j).all (holdsM m) = cs.all (holdsM m) ∧ fr = frOf [(3, .ptr (n0 + 1) 0), (20, .d (cls cs)), (21, .d (.int .i64 cs.length)), (22, .d (.int .i64 j))] ∧ ∃ nx G, S = ⟨nx, [], G⟩ ∧ (∀ m k, H m = some k → G m = some k) ∧ G (n0 + 1) = some (.box [.d (bools m)])) (fun j => cs.length - j) 0 (St.Le.norm _) (frLe_frOf (by (simp (maxSteps := 2000000) (disch := omega) [go_sem, -List.map_map, cls]))) ⟨by omega, rfl, rfl, _, _, rfl, ?_, ?_⟩ ?_
      · intro m k hk
        have := hH _ _ hk
        (simp (maxSteps := 2000000) (disch := omega) [go_sem, -List.map_map, hk])
      · (simp (maxSteps := 2000000) (disch := omega) [go_sem, -List.map_map, bools])
      rintro j fr S' ⟨hj, hh, rfl, nx, G, rfl, kp, kb⟩
      ((repeat refine WpM.seq ?_); have z_ex := True.intro; refine WpM.regPE [] [(3, _), (20, _), (21, _), (22, _), (23, _)] (by (refine s_o [(21, _), (22, _)] rfl rfl rfl z_su rfl q_full z_fp z_ss ?_; exact wpS_nil ⟨rfl, rfl⟩)) z_su ?_; clear z_ex)
      by_cases hlt : j < cs.length
      · ((repeat refine WpM.seq ?_); refine WpM.condT (by (simp (maxSteps := 2000000) (disch := omega) [go_sem, -List.map_map, hlt])) ?_)
        refine WpM.skip ?_
        ((repeat refine WpM.seq ?_); refine WpM.block ?_)
        obtain ⟨hc1, hc2⟩ := hsp.2 cs[j] (List.getElem_mem _)
        rw [List.drop_eq_getElem_cons hlt, List.all_cons] at hh
        obtain ⟨c, hce⟩ : ∃ c, c = cs[j] := ⟨_, rfl⟩
        have hget : (cs.map ints)[j]? = some (ints c) := by rw [lens cs j hlt, hce]
        rw [← hce] at hc1 hc2 hh
        ((repeat refine WpM.seq ?_); have z_ex := (And.intro @hget (And.intro @cls.eq_1 (And.intro @ints.eq_1 True.intro))); refine WpM.regPE [] [(3, _), (7, _), (20, _), (21, _), (22, _)] (by (refine s_o [(20, _), (22, _)] rfl rfl rfl z_su rfl q_full z_fp z_ss ?_; refine s_o [(24, _)] rfl rfl rfl z_su rfl q_load z_fp z_ss ?_; refine s_o [(25, _)] rfl rfl rfl z_su rfl q_move z_fp z_ss ?_; exact wpS_nil ⟨rfl, rfl⟩)) z_su ?_; clear z_ex)
        have hcf : ∀ nx, PureS Try.prog 46 [.d (ints c), .fn 47 [.ptr (n0 + 1) 0]] (.d (.bool (holdsM m c))) ⟨nx, [], G⟩ := fun nx => by
          refine containsFunc c (litT m) 47 [.ptr (n0 + 1) 0] ⟨nx, [], G⟩ (by omega) (fun x hx S'' hS'' => ?_) ip47
          have h1 := hc2 x hx
          simp only [litOk, decide_eq_true_eq] at h1
          exact true47 m x h1.1 (by omega) (by omega) (n0 + 1) S'' (hS'' _ _ kb)
        generalize holdsM m c = b at hcf hh
        ((repeat refine WpM.seq ?_); have z_ex := (And.intro @ints.eq_1 True.intro); refine WpM.regPE [] [(3, _), (20, _), (21, _), (22, _), (29, _)] (by (refine s_o [(7, _)] rfl rfl rfl z_su rfl q_move z_fp z_ss ?_; refine s_o [(3, _)] rfl rfl rfl z_su rfl q_move z_fp z_ss ?_; refine s_at (callOf_eq rfl rfl rfl (mlk_tmp z_lk (mlk_tmp z_lk mlk_nil))) (hcf _) rfl rfl z_ip z_fp ?_; refine s_o [(28, _)] rfl rfl rfl z_su rfl q_unOp z_fp z_ss ?_; exact wpS_nil ⟨rfl, rfl⟩)) z_su ?_; clear z_ex)
        cases b with
        | false =>
          ((repeat refine WpM.seq ?_); refine WpM.condT (by (simp (maxSteps := 2000000) (disch := omega) [go_sem, -List.map_map])) ?_)
          ((repeat refine WpM.seq ?_); have z_ex := True.intro; refine WpM.regPE [] [(4, _), (5, _)] (by (refine s_o [] rfl rfl rfl z_su rfl q_move z_fp z_ss ?_; refine s_o [] rfl rfl rfl z_su rfl q_move z_fp z_ss ?_; exact wpS_nil ⟨rfl, rfl⟩)) z_su ?_; clear z_ex)
          refine WpM.ret ?_
          exact ⟨.inr rfl, Upd.done ⟨.tup [.d (.bool false), .d (.int .i64 0)], (by (simp (maxSteps := 2000000) (disch := omega) [go_sem, -List.map_map, resV, resVs, resV1])), by rw [← hh]; rfl, fun m k _ hk => kp m k hk⟩⟩
        | true =>
          ((repeat refine WpM.seq ?_); refine WpM.condF (by (simp (maxSteps := 2000000) (disch := omega) [go_sem, -List.map_map])) ?_)
          refine WpM.skip ?_
          ((repeat refine WpM.seq ?_); have z_ex := (And.intro @wrap_id True.intro); refine WpM.regPE [] [(3, _), (20, _), (21, _), (22, _)] (by (refine s_o [(22, _)] rfl rfl rfl z_su rfl q_full z_fp z_ss ?_; refine s_o [(30, _)] rfl rfl rfl z_su rfl q_move z_fp z_ss ?_; exact wpS_nil ⟨rfl, rfl⟩)) z_su ?_; clear z_ex)
          exact round_end (x' := j + 1) (St.Le.refl _) (frLe_frOf (by (simp (maxSteps := 2000000) (disch := omega) [go_sem, -List.map_map, wrap_id]))) ⟨by omega, by rw [← hh]; rfl, rfl, _, _, rfl, kp, kb⟩ (by omega)
      · ((repeat refine WpM.seq ?_); refine WpM.condF (by (simp (maxSteps := 2000000) (disch := omega) [go_sem, -List.map_map, hlt])) ?_)
        (refine WpM.exit ?_; (repeat (with_reducible (first | refine thenM_exit ?_ | refine blockM_eq ?_ | refine blockM_ne (by decide) ?_))))
        have : cs.drop j = [] := List.drop_eq_nil_of_le (by omega)
        rw [this] at hh
        ((repeat refine WpM.seq ?_); have z_ex := True.intro; refine WpM.regPE [] [(4, _), (5, _)] (by (refine s_o [] rfl rfl rfl z_su rfl q_move z_fp z_ss ?_; refine s_o [] rfl rfl rfl z_su rfl q_move z_fp z_ss ?_; exact wpS_nil ⟨rfl, rfl⟩)) z_su ?_; clear z_ex)
        refine WpM.ret ?_
        exact ⟨.inr rfl, Upd.done ⟨.tup [.d (.bool true), .d (.int .i64 0)], (by (simp (maxSteps := 2000000) (disch := omega) [go_sem, -List.map_map, resV, resVs, resV1])), by rw [← hh]; rfl, fun m k _ hk => kp m k hk⟩⟩
    · rw [if_neg (fun h => hln h.2)]
      ((repeat refine WpM.seq ?_); have z_ex := (And.intro @cnf.eq_1 (And.intro @bools.eq_1 (And.intro @hln (And.intro @wrap_id True.intro)))); refine WpM.regPE [] [(2, _), (3, _), (18, _)] (by (refine s_o [(2, _)] rfl rfl rfl z_su rfl q_load z_fp z_ss ?_; refine s_pure (callOf_eq rfl rfl rfl (mlk_tmp z_lk mlk_nil)) (hC) rfl rfl z_ip z_fp ?_; refine s_o [(9, _)] rfl rfl rfl z_su rfl q_full z_fp z_ss ?_; refine s_o [(10, _)] rfl rfl rfl z_su rfl q_move z_fp z_ss ?_; refine s_wit ?_; intro z_g; (first | refine s_skip rfl z_g z_fp ?_ | (refine s_o [(3, _)] rfl z_g rfl z_su rfl q_load z_fp z_ss ?_)); clear z_g; refine s_wit ?_; intro z_g; (first | refine s_skip rfl z_g z_fp ?_ | (refine s_o [(12, _)] rfl z_g rfl z_su rfl q_full z_fp z_ss ?_)); clear z_g; refine s_wit ?_; intro z_g; (first | refine s_skip rfl z_g z_fp ?_ | (refine s_o [(2, _)] rfl z_g rfl z_su rfl q_fieldAddr z_fp z_ss ?_)); clear z_g; refine s_wit ?_; intro z_g; (first | refine s_skip rfl z_g z_fp ?_ | (refine s_o [(14, _)] rfl z_g rfl z_su rfl q_load z_fp z_ss ?_)); clear z_g; refine s_wit ?_; intro z_g; (first | refine s_skip rfl z_g z_fp ?_ | (refine s_o [(15, _)] rfl z_g rfl z_su rfl q_full z_fp z_ss ?_)); clear z_g; refine s_wit ?_; intro z_g; (first | refine s_skip rfl z_g z_fp ?_ | (refine s_o [(13, _), (16, _)] rfl z_g rfl z_su rfl q_full z_fp z_ss ?_)); clear z_g; refine s_o [(11, _), (17, _)] rfl rfl rfl z_su rfl q_move z_fp z_ss ?_; exact wpS_nil ⟨rfl, rfl⟩)) z_su ?_; clear z_ex)
      ((repeat refine WpM.seq ?_); refine WpM.condT (by (simp (maxSteps := 2000000) (disch := omega) [go_sem, -List.map_map, hln])) ?_)
      ((repeat refine WpM.seq ?_); have z_ex := True.intro; refine WpM.regPE [] [(4, _), (5, _)] (by (refine s_o [] rfl rfl rfl z_su rfl q_move z_fp z_ss ?_; refine s_o [] rfl rfl rfl z_su rfl q_move z_fp z_ss ?_; exact wpS_nil ⟨rfl, rfl⟩)) z_su ?_; clear z_ex)
      refine WpM.ret ?_
      refine ⟨.inr rfl, Upd.done ⟨.tup [.d (.bool false), .d (.int .i64 150)], (by (simp (maxSteps := 2000000) (disch := omega) [go_sem, -List.map_map, resV, resVs, resV1])), rfl, fun m k _ hk => ?_⟩⟩
      have := hH _ _ hk
      (simp (maxSteps := 2000000) (disch := omega) [go_sem, -List.map_map, hk])
  · rw [if_neg (fun h => h0 h.1)]
    ((repeat refine WpM.seq ?_); have z_ex := (And.intro @cnf.eq_1 (And.intro @bools.eq_1 (And.intro @h0 True.intro))); refine WpM.regPE [] [(2, _), (3, _), (18, _)] (by (refine s_o [(2, _)] rfl rfl rfl z_su rfl q_load z_fp z_ss ?_; refine s_pure (callOf_eq rfl rfl rfl (mlk_tmp z_lk mlk_nil)) (hC) rfl rfl z_ip z_fp ?_; refine s_o [(9, _)] rfl rfl rfl z_su rfl q_full z_fp z_ss ?_; refine s_o [(10, _)] rfl rfl rfl z_su rfl q_move z_fp z_ss ?_; refine s_wit ?_; intro z_g; (first | refine s_skip rfl z_g z_fp ?_ | (refine s_o [(3, _)] rfl z_g rfl z_su rfl q_load z_fp z_ss ?_)); clear z_g; refine s_wit ?_; intro z_g; (first | refine s_skip rfl z_g z_fp ?_ | (refine s_o [(12, _)] rfl z_g rfl z_su rfl q_full z_fp z_ss ?_)); clear z_g; refine s_wit ?_; intro z_g; (first | refine s_skip rfl z_g z_fp ?_ | (refine s_o [(2, _)] rfl z_g rfl z_su rfl q_fieldAddr z_fp z_ss ?_)); clear z_g; refine s_wit ?_; intro z_g; (first | refine s_skip rfl z_g z_fp ?_ | (refine s_o [(14, _)] rfl z_g rfl z_su rfl q_load z_fp z_ss ?_)); clear z_g; refine s_wit ?_; intro z_g; (first | refine s_skip rfl z_g z_fp ?_ | (refine s_o [(15, _)] rfl z_g rfl z_su rfl q_full z_fp z_ss ?_)); clear z_g; refine s_wit ?_; intro z_g; (first | refine s_skip rfl z_g z_fp ?_ | (refine s_o [(13, _), (16, _)] rfl z_g rfl z_su rfl q_full z_fp z_ss ?_)); clear z_g; refine s_o [(11, _), (17, _)] rfl rfl rfl z_su rfl q_move z_fp z_ss ?_; exact wpS_nil ⟨rfl, rfl⟩)) z_su ?_; clear z_ex)
    ((repeat refine WpM.seq ?_); refine WpM.condT (by (simp (maxSteps := 2000000) (disch := omega) [go_sem, -List.map_map, h0])) ?_)
    ((repeat refine WpM.seq ?_); have z_ex := True.intro; refine WpM.regPE [] [(4, _), (5, _)] (by (refine s_o [] rfl rfl rfl z_su rfl q_move z_fp z_ss ?_; refine s_o [] rfl rfl rfl z_su rfl q_move z_fp z_ss ?_; exact wpS_nil ⟨rfl, rfl⟩)) z_su ?_; clear z_ex)
    refine WpM.ret ?_
    refine ⟨.inr rfl, Upd.done ⟨.tup [.d (.bool false), .d (.int .i64 150)], (by (simp (maxSteps := 2000000) (disch := omega) [go_sem, -List.map_map, resV, resVs, resV1])), rfl, fun m k _ hk => ?_⟩⟩
    have := hH _ _ hk
    (simp (maxSteps := 2000000) (disch := omega) [go_sem, -List.map_map, hk])
end Go.Proofs.Ytafeehlpmdligaa
