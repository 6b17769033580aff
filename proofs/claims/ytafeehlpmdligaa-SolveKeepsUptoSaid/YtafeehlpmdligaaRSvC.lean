/- solve: look. -/
import Derived.Test.YtafeehlpmdligaaROp
import Derived.Test.YtafeehlpmdligaaRVa
import Derived.Test.YtafeehlpmdligaaRVd
namespace Go.Proofs.Ytafeehlpmdligaa
open Go.RowKit M
set_option linter.unusedSimpArgs false
set_option linter.unusedVariables false
theorem cl_get {cs : List (List Int)} {m : Nat} (h : m < cs.length) : (cs.map fun c => V.d (ints c))[m]? = some (.d (ints (cs.getD m []))) := by simp [h]
set_option maxHeartbeats 8000000 in
theorem look69 (H0 : Nat → Option Blk) (sp : Nat) (s : Sv) (S : St) (na nv nr nd nc nl np : Nat) (am : D → Option V) (nx : Int → Nat) (el : List V) (h : SvF H0 sp s S.get na nv nr nd nc nl np am nx el) (hw : s.Wf) (hb : s.n ≤ 4096) (m : Nat) (hm : m < s.cs.length) (hcl : (s.cs.getD m []).length ≤ 1000000000) (hml : s.cs.length ≤ 1000000000) :
    CallM Try.prog 69 [.ptr sp 0, .d (.int .i64 m)] S fun r S' => r = .d (.bool (s.look m).1) ∧ SvF H0 sp (s.look m).2 S'.get na nv nr nd nc nl np am nx el := by
  refine CallM.start (n := 45) Try.func69 rfl rfl (by simp) (by simp only [argL, Nat.reduceAdd] <;> rfl) ?_
  intro hH
  obtain ⟨H, hHe⟩ : ∃ H, H = S.get := ⟨_, rfl⟩
  obtain ⟨n0, hne⟩ : ∃ n0, n0 = S.next := ⟨_, rfl⟩
  rw [← hHe, ← hne] at hH ⊢
  rw [← hHe] at h
  have hSv := h
  obtain ⟨nt, et, hE⟩ := h
  have k1 := hE.box
  have k2 := hE.rv
  have k3 := hE.rc
  have g1 := hH _ _ k1
  have g2 := hH _ _ k2
  have g3 := hH _ _ k3
  have q3 := cl_get hm
  have h0 := hw.clause m
  have htl := hw.tr_len
  have hlook : s.look m = match scanV s.val 0 (s.cs.getD m []) with
    | none => (true, s)
    | some u => if u = 0 then (false, s) else (true, s.put u (m + 1)) := rfl
  obtain ⟨c, hc⟩ : ∃ c, c = s.cs.getD m [] := ⟨_, rfl⟩
  rw [← hc] at q3 h0 hlook hcl
  have q3u : (s.cs.map fun c => V.d (D.sl (c.map (D.int .i64))))[m]? = some (.d (.sl (c.map (D.int .i64)))) := q3
  ((repeat refine WpM.seq ?_); have z_ex := True.intro; refine WpM.regPE [] [(0, _), (1, _)] (by (refine s_o [] rfl rfl rfl z_su rfl q_move z_fp z_ss ?_; exact wpS_nil ⟨rfl, rfl⟩)) z_su ?_; clear z_ex)
  ((repeat refine WpM.seq ?_); have z_ex := True.intro; refine WpM.regPE [] [(0, _), (1, _), (5, _)] (by (refine s_o [] rfl rfl rfl z_su rfl q_move z_fp z_ss ?_; exact wpS_nil ⟨rfl, rfl⟩)) z_su ?_; clear z_ex)
  ((repeat refine WpM.seq ?_); have z_ex := (And.intro @k1 (And.intro @k3 (And.intro @svBox.eq_1 (And.intro @q3u (And.intro @hm (And.intro @ints.eq_1 True.intro)))))); refine WpM.regPE [] [(0, _), (1, _), (5, _), (14, _), (15, _), (16, _)] (by (refine s_o [(0, _)] rfl rfl rfl z_su rfl q_move z_fp z_ss ?_; refine s_o [(8, _)] rfl rfl rfl z_su rfl q_move z_fp z_ss ?_; refine s_o [(9, _)] rfl rfl rfl z_su rfl q_fieldAddr z_fp z_ss ?_; refine s_o [(10, _)] rfl rfl rfl z_su rfl q_load z_fp z_ss ?_; refine s_o [(1, _)] rfl rfl rfl z_su rfl q_move z_fp z_ss ?_; refine s_o [(11, _), (12, _)] rfl rfl rfl z_su rfl q_full z_fp z_ss ?_; refine s_o [(13, _)] rfl rfl rfl z_su rfl q_load z_fp z_ss ?_; refine s_o [(14, _)] rfl rfl rfl z_su rfl q_full z_fp z_ss ?_; refine s_o [] rfl rfl rfl z_su rfl q_move z_fp z_ss ?_; exact wpS_nil ⟨rfl, rfl⟩)) z_su ?_; clear z_ex)
  ((repeat refine WpM.seq ?_); refine WpM.block ?_)
  refine WpM.loop (fun (x : Nat × Int) fr S => x.1 ≤ c.length ∧ scanV s.val x.2 (c.drop x.1) = scanV s.val 0 c ∧ (∃ nx, n0 ≤ nx ∧ S = ⟨nx, [], H⟩) ∧ fr = frOf [(0, .ptr sp 0), (1, .d (.int .i64 m)), (5, .d (.int .i64 x.2)), (14, .d (ints c)), (15, .d (.int .i64 c.length)), (16, .d (.int .i64 x.1))]) (fun x => c.length - x.1) (0, 0) (St.Le.refl _) (Sub.le z_su) ⟨by omega, rfl, ⟨_, by omega, rfl⟩, rfl⟩ ?_
  rintro ⟨j, left⟩ fr S' ⟨hj, hsc, ⟨nx1, hnx1, rfl⟩, rfl⟩
  simp only at hj hsc
  ((repeat refine WpM.seq ?_); have z_ex := True.intro; refine WpM.regPE [] [(0, _), (1, _), (5, _), (14, _), (15, _), (16, _), (17, _)] (by (refine s_o [(15, _), (16, _)] rfl rfl rfl z_su rfl q_full z_fp z_ss ?_; exact wpS_nil ⟨rfl, rfl⟩)) z_su ?_; clear z_ex)
  by_cases hjt : j < c.length
  · ((repeat refine WpM.seq ?_); refine WpM.condT (by (simp (maxSteps := 2000000) (disch := omega) [go_sem, -List.map_map, hjt])) ?_)
    refine WpM.skip ?_
    ((repeat refine WpM.seq ?_); refine WpM.block ?_)
    obtain ⟨l, hl⟩ : ∃ l, l = c[j] := ⟨_, rfl⟩
    have hget : (c.map (D.int .i64))[j]? = some (.int .i64 l) := by simp [hjt, hl]
    have hlm : l ∈ c := hl ▸ List.getElem_mem _
    obtain ⟨l0, ln⟩ := h0 l hlm
    have hdr : c.drop j = l :: c.drop (j + 1) := by rw [List.drop_eq_getElem_cons hjt, hl]
    rw [hdr, scanV] at hsc
    have ht78 := truth78 s hw.len hw.tri l ln hb sp na nv nr nd nc nt nl np
    have htri := truV_tri hw.tri l
    obtain ⟨tv, htv⟩ : ∃ tv, tv = truV s.val l := ⟨_, rfl⟩
    rw [← htv] at ht78 htri hsc
    ((repeat refine WpM.seq ?_); have z_ex := (And.intro @hget (And.intro @ints.eq_1 (And.intro @hjt True.intro))); refine WpM.regPE [] [(0, _), (1, _), (5, _), (7, _), (14, _), (15, _), (16, _)] (by (refine s_o [(14, _), (16, _)] rfl rfl rfl z_su rfl q_full z_fp z_ss ?_; refine s_o [(18, _)] rfl rfl rfl z_su rfl q_load z_fp z_ss ?_; refine s_o [(19, _)] rfl rfl rfl z_su rfl q_move z_fp z_ss ?_; exact wpS_nil ⟨rfl, rfl⟩)) z_su ?_; clear z_ex)
    ((repeat refine WpM.seq ?_); have z_ex := True.intro; refine WpM.regPE [] [(0, _), (1, _), (5, _), (7, _), (14, _), (15, _), (16, _), (22, _)] (by (refine s_o [(0, _)] rfl rfl rfl z_su rfl q_move z_fp z_ss ?_; refine s_o [(7, _)] rfl rfl rfl z_su rfl q_move z_fp z_ss ?_; refine s_at (callOf_eq rfl rfl rfl (mlk_tmp z_lk (mlk_tmp z_lk mlk_nil))) (ht78 ⟨_, [], H⟩ k1 k2) rfl rfl z_ip z_fp ?_; exact wpS_nil ⟨rfl, rfl⟩)) z_su ?_; clear z_ex)
    ((repeat refine WpM.seq ?_); refine WpM.block ?_)
    rcases htri with rfl | rfl | rfl
    · rw [if_neg (by omega), if_pos rfl] at hsc
      ((repeat refine WpM.seq ?_); have z_ex := True.intro; refine WpM.regPE [] [(0, _), (1, _), (5, _), (7, _), (14, _), (15, _), (16, _), (22, _), (23, _)] (by (refine s_o [(22, _)] rfl rfl rfl z_su rfl q_full z_fp z_ss ?_; refine s_o [(24, _)] rfl rfl rfl z_su rfl q_move z_fp z_ss ?_; exact wpS_nil ⟨rfl, rfl⟩)) z_su ?_; clear z_ex)
      ((repeat refine WpM.seq ?_); refine WpM.condF (by (simp (maxSteps := 2000000) (disch := omega) [go_sem, -List.map_map])) ?_)
      ((repeat refine WpM.seq ?_); have z_ex := True.intro; refine WpM.regPE [] [(0, _), (1, _), (5, _), (7, _), (14, _), (15, _), (16, _), (25, _)] (by (refine s_o [(22, _)] rfl rfl rfl z_su rfl q_full z_fp z_ss ?_; refine s_o [(26, _)] rfl rfl rfl z_su rfl q_move z_fp z_ss ?_; exact wpS_nil ⟨rfl, rfl⟩)) z_su ?_; clear z_ex)
      ((repeat refine WpM.seq ?_); refine WpM.condT (by (simp (maxSteps := 2000000) (disch := omega) [go_sem, -List.map_map])) ?_)
      by_cases h2 : left ≠ 0 ∧ left ≠ l
      · rw [if_pos h2] at hsc
        rw [← hsc] at hlook
        simp only at hlook
        obtain ⟨h3, h4⟩ := h2
        ((repeat refine WpM.seq ?_); have z_ex := (And.intro @h3 (And.intro @h4 True.intro)); refine WpM.regPE [] [(0, _), (1, _), (7, _), (14, _), (15, _), (16, _), (33, _)] (by (refine s_o [(5, _)] rfl rfl rfl z_su rfl q_move z_fp z_ss ?_; refine s_o [(27, _)] rfl rfl rfl z_su rfl q_full z_fp z_ss ?_; refine s_o [(28, _)] rfl rfl rfl z_su rfl q_move z_fp z_ss ?_; refine s_wit ?_; intro z_g; (first | refine s_skip rfl z_g z_fp ?_ | (refine s_o [(5, _)] rfl z_g rfl z_su rfl q_move z_fp z_ss ?_)); clear z_g; refine s_wit ?_; intro z_g; (first | refine s_skip rfl z_g z_fp ?_ | (refine s_o [(7, _)] rfl z_g rfl z_su rfl q_move z_fp z_ss ?_)); clear z_g; refine s_wit ?_; intro z_g; (first | refine s_skip rfl z_g z_fp ?_ | (refine s_o [(30, _), (31, _)] rfl z_g rfl z_su rfl q_full z_fp z_ss ?_)); clear z_g; refine s_o [(29, _), (32, _)] rfl rfl rfl z_su rfl q_move z_fp z_ss ?_; exact wpS_nil ⟨rfl, rfl⟩)) z_su ?_; clear z_ex)
        ((repeat refine WpM.seq ?_); refine WpM.condT (by (simp (maxSteps := 2000000) (disch := omega) [go_sem, -List.map_map, h3, h4])) ?_)
        ((repeat refine WpM.seq ?_); have z_ex := True.intro; refine WpM.regPE [] [(4, _)] (by (refine s_o [] rfl rfl rfl z_su rfl q_move z_fp z_ss ?_; exact wpS_nil ⟨rfl, rfl⟩)) z_su ?_; clear z_ex)
        refine WpM.ret ?_
        exact ⟨.inr rfl, Upd.done ⟨.d (.bool true), (by (simp (maxSteps := 2000000) (disch := omega) [go_sem, -List.map_map, resV, resVs, resV1])), by rw [hlook], by rw [hlook]; exact hSv⟩⟩
      · rw [if_neg h2] at hsc
        by_cases h3 : left = 0
        · subst h3
          ((repeat refine WpM.seq ?_); have z_ex := True.intro; refine WpM.regPE [] [(0, _), (1, _), (7, _), (14, _), (15, _), (16, _), (33, _)] (by (refine s_o [(5, _)] rfl rfl rfl z_su rfl q_move z_fp z_ss ?_; refine s_o [(27, _)] rfl rfl rfl z_su rfl q_full z_fp z_ss ?_; refine s_o [(28, _)] rfl rfl rfl z_su rfl q_move z_fp z_ss ?_; refine s_wit ?_; intro z_g; (first | refine s_skip rfl z_g z_fp ?_ | (refine s_o [(5, _)] rfl z_g rfl z_su rfl q_move z_fp z_ss ?_)); clear z_g; refine s_wit ?_; intro z_g; (first | refine s_skip rfl z_g z_fp ?_ | (refine s_o [(7, _)] rfl z_g rfl z_su rfl q_move z_fp z_ss ?_)); clear z_g; refine s_wit ?_; intro z_g; (first | refine s_skip rfl z_g z_fp ?_ | (refine s_o [(30, _), (31, _)] rfl z_g rfl z_su rfl q_full z_fp z_ss ?_)); clear z_g; refine s_o [(29, _), (32, _)] rfl rfl rfl z_su rfl q_move z_fp z_ss ?_; exact wpS_nil ⟨rfl, rfl⟩)) z_su ?_; clear z_ex)
          ((repeat refine WpM.seq ?_); refine WpM.condF (by (simp (maxSteps := 2000000) (disch := omega) [go_sem, -List.map_map])) ?_)
          refine WpM.skip ?_
          ((repeat refine WpM.seq ?_); have z_ex := True.intro; refine WpM.regPE [] [(0, _), (1, _), (5, _), (14, _), (15, _), (16, _)] (by (refine s_o [(7, _)] rfl rfl rfl z_su rfl q_move z_fp z_ss ?_; refine s_o [(34, _)] rfl rfl rfl z_su rfl q_move z_fp z_ss ?_; exact wpS_nil ⟨rfl, rfl⟩)) z_su ?_; clear z_ex)
          ((repeat refine WpM.seq ?_); have z_ex := (And.intro @wrap_id True.intro); refine WpM.regPE [] [(0, _), (1, _), (5, _), (14, _), (15, _), (16, _)] (by (refine s_o [(16, _)] rfl rfl rfl z_su rfl q_full z_fp z_ss ?_; refine s_o [(35, _)] rfl rfl rfl z_su rfl q_move z_fp z_ss ?_; exact wpS_nil ⟨rfl, rfl⟩)) z_su ?_; clear z_ex)
          exact round_end (x' := (j + 1, l)) (St.Le.refl _) (Sub.le z_su) ⟨by simp only; omega, hsc, ⟨_, by omega, rfl⟩, rfl⟩ (by simp only; omega)
        · have h4 : left = l := Decidable.byContradiction fun e => h2 ⟨h3, e⟩
          subst h4
          ((repeat refine WpM.seq ?_); have z_ex := (And.intro @h3 True.intro); refine WpM.regPE [] [(0, _), (1, _), (7, _), (14, _), (15, _), (16, _), (33, _)] (by (refine s_o [(5, _)] rfl rfl rfl z_su rfl q_move z_fp z_ss ?_; refine s_o [(27, _)] rfl rfl rfl z_su rfl q_full z_fp z_ss ?_; refine s_o [(28, _)] rfl rfl rfl z_su rfl q_move z_fp z_ss ?_; refine s_wit ?_; intro z_g; (first | refine s_skip rfl z_g z_fp ?_ | (refine s_o [(5, _)] rfl z_g rfl z_su rfl q_move z_fp z_ss ?_)); clear z_g; refine s_wit ?_; intro z_g; (first | refine s_skip rfl z_g z_fp ?_ | (refine s_o [(7, _)] rfl z_g rfl z_su rfl q_move z_fp z_ss ?_)); clear z_g; refine s_wit ?_; intro z_g; (first | refine s_skip rfl z_g z_fp ?_ | (refine s_o [(30, _), (31, _)] rfl z_g rfl z_su rfl q_full z_fp z_ss ?_)); clear z_g; refine s_o [(29, _), (32, _)] rfl rfl rfl z_su rfl q_move z_fp z_ss ?_; exact wpS_nil ⟨rfl, rfl⟩)) z_su ?_; clear z_ex)
          ((repeat refine WpM.seq ?_); refine WpM.condF (by (simp (maxSteps := 2000000) (disch := omega) [go_sem, -List.map_map, h3])) ?_)
          refine WpM.skip ?_
          ((repeat refine WpM.seq ?_); have z_ex := True.intro; refine WpM.regPE [] [(0, _), (1, _), (5, _), (14, _), (15, _), (16, _)] (by (refine s_o [(7, _)] rfl rfl rfl z_su rfl q_move z_fp z_ss ?_; refine s_o [(34, _)] rfl rfl rfl z_su rfl q_move z_fp z_ss ?_; exact wpS_nil ⟨rfl, rfl⟩)) z_su ?_; clear z_ex)
          ((repeat refine WpM.seq ?_); have z_ex := (And.intro @wrap_id True.intro); refine WpM.regPE [] [(0, _), (1, _), (5, _), (14, _), (15, _), (16, _)] (by (refine s_o [(16, _)] rfl rfl rfl z_su rfl q_full z_fp z_ss ?_; refine s_o [(35, _)] rfl rfl rfl z_su rfl q_move z_fp z_ss ?_; exact wpS_nil ⟨rfl, rfl⟩)) z_su ?_; clear z_ex)
          exact round_end (x' := (j + 1, left)) (St.Le.refl _) (Sub.le z_su) ⟨by simp only; omega, hsc, ⟨_, by omega, rfl⟩, rfl⟩ (by simp only; omega)
    · rw [if_pos rfl] at hsc
      rw [← hsc] at hlook
      simp only at hlook
      ((repeat refine WpM.seq ?_); have z_ex := True.intro; refine WpM.regPE [] [(0, _), (1, _), (5, _), (7, _), (14, _), (15, _), (16, _), (22, _), (23, _)] (by (refine s_o [(22, _)] rfl rfl rfl z_su rfl q_full z_fp z_ss ?_; refine s_o [(24, _)] rfl rfl rfl z_su rfl q_move z_fp z_ss ?_; exact wpS_nil ⟨rfl, rfl⟩)) z_su ?_; clear z_ex)
      ((repeat refine WpM.seq ?_); refine WpM.condT (by (simp (maxSteps := 2000000) (disch := omega) [go_sem, -List.map_map])) ?_)
      ((repeat refine WpM.seq ?_); have z_ex := True.intro; refine WpM.regPE [] [(4, _)] (by (refine s_o [] rfl rfl rfl z_su rfl q_move z_fp z_ss ?_; exact wpS_nil ⟨rfl, rfl⟩)) z_su ?_; clear z_ex)
      refine WpM.ret ?_
      exact ⟨.inr rfl, Upd.done ⟨.d (.bool true), (by (simp (maxSteps := 2000000) (disch := omega) [go_sem, -List.map_map, resV, resVs, resV1])), by rw [hlook], by rw [hlook]; exact hSv⟩⟩
    · rw [if_neg (by omega), if_neg (by omega)] at hsc
      ((repeat refine WpM.seq ?_); have z_ex := True.intro; refine WpM.regPE [] [(0, _), (1, _), (5, _), (7, _), (14, _), (15, _), (16, _), (22, _), (23, _)] (by (refine s_o [(22, _)] rfl rfl rfl z_su rfl q_full z_fp z_ss ?_; refine s_o [(24, _)] rfl rfl rfl z_su rfl q_move z_fp z_ss ?_; exact wpS_nil ⟨rfl, rfl⟩)) z_su ?_; clear z_ex)
      ((repeat refine WpM.seq ?_); refine WpM.condF (by (simp (maxSteps := 2000000) (disch := omega) [go_sem, -List.map_map])) ?_)
      ((repeat refine WpM.seq ?_); have z_ex := True.intro; refine WpM.regPE [] [(0, _), (1, _), (5, _), (7, _), (14, _), (15, _), (16, _), (25, _)] (by (refine s_o [(22, _)] rfl rfl rfl z_su rfl q_full z_fp z_ss ?_; refine s_o [(26, _)] rfl rfl rfl z_su rfl q_move z_fp z_ss ?_; exact wpS_nil ⟨rfl, rfl⟩)) z_su ?_; clear z_ex)
      ((repeat refine WpM.seq ?_); refine WpM.condF (by (simp (maxSteps := 2000000) (disch := omega) [go_sem, -List.map_map])) ?_)
      refine WpM.skip ?_
      ((repeat refine WpM.seq ?_); have z_ex := (And.intro @wrap_id True.intro); refine WpM.regPE [] [(0, _), (1, _), (5, _), (14, _), (15, _), (16, _)] (by (refine s_o [(16, _)] rfl rfl rfl z_su rfl q_full z_fp z_ss ?_; refine s_o [(35, _)] rfl rfl rfl z_su rfl q_move z_fp z_ss ?_; exact wpS_nil ⟨rfl, rfl⟩)) z_su ?_; clear z_ex)
      exact round_end (x' := (j + 1, left)) (St.Le.refl _) (Sub.le z_su) ⟨by simp only; omega, hsc, ⟨_, by omega, rfl⟩, rfl⟩ (by simp only; omega)
  · ((repeat refine WpM.seq ?_); refine WpM.condF (by (simp (maxSteps := 2000000) (disch := omega) [go_sem, -List.map_map, hjt])) ?_)
    (refine WpM.exit ?_; (repeat (with_reducible (first | refine thenM_exit ?_ | refine blockM_eq ?_ | refine blockM_ne (by decide) ?_))))
    obtain rfl : j = c.length := by omega
    rw [List.drop_length, scanV] at hsc
    rw [← hsc] at hlook
    simp only at hlook
    by_cases hl0 : left = 0
    · rw [if_pos hl0] at hlook
      subst hl0
      ((repeat refine WpM.seq ?_); have z_ex := True.intro; refine WpM.regPE [] [(0, _), (1, _), (5, _), (37, _)] (by (refine s_o [(5, _)] rfl rfl rfl z_su rfl q_move z_fp z_ss ?_; refine s_o [(36, _)] rfl rfl rfl z_su rfl q_full z_fp z_ss ?_; exact wpS_nil ⟨rfl, rfl⟩)) z_su ?_; clear z_ex)
      ((repeat refine WpM.seq ?_); refine WpM.condF (by (simp (maxSteps := 2000000) (disch := omega) [go_sem, -List.map_map])) ?_)
      refine WpM.skip ?_
      ((repeat refine WpM.seq ?_); have z_ex := True.intro; refine WpM.regPE [] [(4, _)] (by (refine s_o [(5, _)] rfl rfl rfl z_su rfl q_move z_fp z_ss ?_; refine s_o [(43, _)] rfl rfl rfl z_su rfl q_full z_fp z_ss ?_; refine s_o [(44, _)] rfl rfl rfl z_su rfl q_move z_fp z_ss ?_; exact wpS_nil ⟨rfl, rfl⟩)) z_su ?_; clear z_ex)
      refine WpM.ret ?_
      exact ⟨.inr rfl, Upd.done ⟨.d (.bool false), (by (simp (maxSteps := 2000000) (disch := omega) [go_sem, -List.map_map, resV, resVs, resV1])), by rw [hlook], by rw [hlook]; exact hSv⟩⟩
    · rw [if_neg hl0] at hlook
      obtain ⟨_, h2, _⟩ := scanV_some (val := s.val) (c := c) (left := 0) (u := left) (fun x hx => (h0 x hx).1) hsc.symm
      have hlm : left ∈ c := by
        rcases h2 with h2 | h2
        · exact absurd h2 hl0
        · exact h2.1
      obtain ⟨_, ln⟩ := h0 left hlm
      ((repeat refine WpM.seq ?_); have z_ex := (And.intro @hl0 True.intro); refine WpM.regPE [] [(0, _), (1, _), (5, _), (37, _)] (by (refine s_o [(5, _)] rfl rfl rfl z_su rfl q_move z_fp z_ss ?_; refine s_o [(36, _)] rfl rfl rfl z_su rfl q_full z_fp z_ss ?_; exact wpS_nil ⟨rfl, rfl⟩)) z_su ?_; clear z_ex)
      ((repeat refine WpM.seq ?_); refine WpM.condT (by (simp (maxSteps := 2000000) (disch := omega) [go_sem, -List.map_map, hl0])) ?_)
      ((repeat refine WpM.seq ?_); have z_ex := (And.intro @wrap_id True.intro); refine WpM.regP [] ?_; intro K hK; refine s_o [(0, _)] rfl rfl rfl z_su rfl q_move z_fp z_ss ?_; refine s_o [(5, _)] rfl rfl rfl z_su rfl q_move z_fp z_ss ?_; refine s_o [(1, _)] rfl rfl rfl z_su rfl q_move z_fp z_ss ?_; refine s_o [(40, _)] rfl rfl rfl z_su rfl q_full z_fp z_ss ?_; refine s_call (callOf_eq rfl rfl rfl (mlk_tmp z_lk (mlk_tmp z_lk (mlk_tmp z_lk mlk_nil)))) (put74 H0 sp s ⟨_, [], H⟩ na nv nr nd nc nl np am nx el hSv hw.len left ln hb (m + 1) (by omega)) rfl rfl z_ip ?_; rintro _ z_S ⟨rfl, hS⟩; refine s_put z_fp ?_; refine s_endE [(5, _)] hK z_su ?_; clear hK K; clear z_ex)
      refine WpM.norm ?_
      intro nx2 G2 hnx2 hG2 hk2
      have hG2 : G2 = z_S.get := hG2
      have hS2 : SvF H0 sp (s.put left (m + 1)) G2 na nv nr nd nc nl np am nx el := by rw [hG2]; exact hS
      clear hG2 hk2 hnx2 hS
      ((repeat refine WpM.seq ?_); have z_ex := (And.intro @hl0 True.intro); refine WpM.regPE [] [(4, _)] (by (refine s_o [(5, _)] rfl rfl rfl z_su rfl q_move z_fp z_ss ?_; refine s_o [(43, _)] rfl rfl rfl z_su rfl q_full z_fp z_ss ?_; refine s_o [(44, _)] rfl rfl rfl z_su rfl q_move z_fp z_ss ?_; exact wpS_nil ⟨rfl, rfl⟩)) z_su ?_; clear z_ex)
      refine WpM.ret ?_
      exact ⟨.inr rfl, Upd.done ⟨.d (.bool true), (by (simp (maxSteps := 2000000) (disch := omega) [go_sem, -List.map_map, resV, resVs, resV1])), by rw [hlook], by rw [hlook]; exact hS2⟩⟩
end Go.Proofs.Ytafeehlpmdligaa
