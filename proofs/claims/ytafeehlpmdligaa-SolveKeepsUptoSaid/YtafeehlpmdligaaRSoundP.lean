/- proof.sound and assizeref16.sound. -/
import Derived.Test.YtafeehlpmdligaaROp
import Derived.Test.YtafeehlpmdligaaRCheck
namespace Go.Proofs.Ytafeehlpmdligaa
open Go.RowKit M
set_option linter.unusedSimpArgs false
set_option linter.unusedVariables false
def soundGo (n : Int) : List (List Int) → Int
  | [] => 0
  | c :: r => if 4096 < c.length then 2 else if c.all (litOk n) then soundGo n r else 150
def soundP (n : Int) (cs xs : List (List Int)) : Int := if checkF n cs = 0 then (if 20000 < xs.length then 2 else soundGo n xs) else 150
theorem checkF_or (n : Int) (cs : List (List Int)) : checkF n cs = 0 ∨ checkF n cs = 150 := by
  unfold checkF
  split
  · exact .inr rfl
  · split
    · exact .inl rfl
    · exact .inr rfl
theorem checkF_zero {n : Int} {cs : List (List Int)} (h : checkF n cs = 0) : 0 ≤ n ∧ n ≤ 4096 := by
  unfold checkF at h
  split at h
  · cases h
  · omega
theorem soundGo_drop {n : Int} {xs : List (List Int)} {j : Nat} (hj : j < xs.length) : soundGo n (xs.drop j) = if 4096 < xs[j].length then 2 else if xs[j].all (litOk n) then soundGo n (xs.drop (j + 1)) else 150 := by
  rw [List.drop_eq_getElem_cons hj, soundGo]
set_option maxHeartbeats 8000000 in
theorem sound39 (n : Int) (cs xs : List (List Int)) (hcl : cs.length ≤ 140737488351232) (hcs : ∀ c ∈ cs, c.length ≤ 140737488351232) (hxl : xs.length ≤ 140737488351232) (hxs : ∀ c ∈ xs, c.length ≤ 140737488351232) : PureC Try.prog 39 [.d (cnf n cs), .d (cls xs)] (.d (.int .i64 (soundP n cs xs))) := by
  refine PureC.of (n := 50) Try.func39 rfl rfl (by simp) (by simp only [argL, Nat.reduceAdd] <;> rfl) rfl ?_
  intro n0 H hH
  ((repeat refine WpM.seq ?_); have z_ex := (And.intro @cnf.eq_1 True.intro); refine WpM.regPE [] [(1, _), (2, _)] (by (refine s_o [(0, _)] rfl rfl rfl z_su rfl q_box z_fp z_ss ?_; refine s_o [] rfl rfl rfl z_su rfl q_move z_fp z_ss ?_; exact wpS_nil ⟨rfl, rfl⟩)) z_su ?_; clear z_ex)
  ((repeat refine WpM.seq ?_); have z_ex := (And.intro @cnf.eq_1 True.intro); refine WpM.regPE [] [(1, _), (2, _), (5, _)] (by (refine s_o [(2, _)] rfl rfl rfl z_su rfl q_load z_fp z_ss ?_; refine s_pure (callOf_eq rfl rfl rfl (mlk_tmp z_lk mlk_nil)) ((check32 n cs hcl hcs)) rfl rfl z_ip z_fp ?_; refine s_o [(11, _)] rfl rfl rfl z_su rfl q_move z_fp z_ss ?_; exact wpS_nil ⟨rfl, rfl⟩)) z_su ?_; clear z_ex)
  by_cases hc0 : checkF n cs = 0
  · obtain ⟨hn0, hn1⟩ := checkF_zero hc0
    rw [hc0]
    ((repeat refine WpM.seq ?_); have z_ex := True.intro; refine WpM.regPE [] [(1, _), (2, _), (5, _), (13, _)] (by (refine s_o [(5, _)] rfl rfl rfl z_su rfl q_move z_fp z_ss ?_; refine s_o [(12, _)] rfl rfl rfl z_su rfl q_full z_fp z_ss ?_; exact wpS_nil ⟨rfl, rfl⟩)) z_su ?_; clear z_ex)
    ((repeat refine WpM.seq ?_); refine WpM.condF (by (simp (maxSteps := 2000000) (disch := omega) [go_sem, -List.map_map])) ?_)
    refine WpM.skip ?_
    by_cases h2 : (20000 : Int) < (xs.length : Int)
    · have hr : soundP n cs xs = 2 := by simp only [soundP]; rw [if_pos hc0, if_pos (by omega)]
      ((repeat refine WpM.seq ?_); have z_ex := (And.intro @h2 (And.intro @cls.eq_1 True.intro)); refine WpM.regPE [] [(1, _), (2, _), (17, _)] (by (refine s_o [(1, _)] rfl rfl rfl z_su rfl q_move z_fp z_ss ?_; refine s_o [(15, _)] rfl rfl rfl z_su rfl q_full z_fp z_ss ?_; refine s_o [(16, _)] rfl rfl rfl z_su rfl q_full z_fp z_ss ?_; exact wpS_nil ⟨rfl, rfl⟩)) z_su ?_; clear z_ex)
      ((repeat refine WpM.seq ?_); refine WpM.condT (by (simp (maxSteps := 2000000) (disch := omega) [go_sem, -List.map_map, h2])) ?_)
      ((repeat refine WpM.seq ?_); have z_ex := True.intro; refine WpM.regPE [] [(4, _)] (by (refine s_o [] rfl rfl rfl z_su rfl q_move z_fp z_ss ?_; exact wpS_nil ⟨rfl, rfl⟩)) z_su ?_; clear z_ex)
      (refine WpM.ret ?_; refine ⟨.inr rfl, Upd.done ?_⟩; (simp (maxSteps := 2000000) (disch := omega) [go_sem, -List.map_map, resV, resVs, resV1, hr]))
    have hr : soundP n cs xs = soundGo n xs := by simp only [soundP]; rw [if_pos hc0, if_neg (by omega)]
    ((repeat refine WpM.seq ?_); have z_ex := (And.intro @h2 (And.intro @cls.eq_1 True.intro)); refine WpM.regPE [] [(1, _), (2, _), (17, _)] (by (refine s_o [(1, _)] rfl rfl rfl z_su rfl q_move z_fp z_ss ?_; refine s_o [(15, _)] rfl rfl rfl z_su rfl q_full z_fp z_ss ?_; refine s_o [(16, _)] rfl rfl rfl z_su rfl q_full z_fp z_ss ?_; exact wpS_nil ⟨rfl, rfl⟩)) z_su ?_; clear z_ex)
    ((repeat refine WpM.seq ?_); refine WpM.condF (by (simp (maxSteps := 2000000) (disch := omega) [go_sem, -List.map_map, h2])) ?_)
    refine WpM.skip ?_
    ((repeat refine WpM.seq ?_); have z_ex := (And.intro @cls.eq_1 True.intro); refine WpM.regPE [] [(2, _), (18, _), (19, _), (20, _)] (by (refine s_o [(1, _)] rfl rfl rfl z_su rfl q_move z_fp z_ss ?_; refine s_o [(18, _)] rfl rfl rfl z_su rfl q_full z_fp z_ss ?_; refine s_o [] rfl rfl rfl z_su rfl q_move z_fp z_ss ?_; exact wpS_nil ⟨rfl, rfl⟩)) z_su ?_; clear z_ex)
    ((repeat refine WpM.seq ?_); refine WpM.block ?_)
    refine WpM.loop (fun (j : Nat) fr S => j ≤ xs.length ∧ soundP n cs xs = soundGo n (xs.drop j) ∧ fr = frOf [(2, .ptr n0 0), (18, .d (cls xs)), (19, .d (.int .i64 xs.length)), (20, .d (.int .i64 j))] ∧ ∃ nx, n0 < nx ∧ S = ⟨nx, [(n0, some (.box [.d (.int .i64 n), .d (cls cs)]))], H⟩) (fun j => xs.length - j) 0 (St.Le.refl _) (frLe_frOf (by (simp (maxSteps := 2000000) (disch := omega) [go_sem, -List.map_map, cls]))) ⟨by omega, by simpa using hr, rfl, _, ?_, rfl⟩ ?_
    · omega
    rintro j fr S' ⟨hj, hgo, rfl, nx, hnx, rfl⟩
    ((repeat refine WpM.seq ?_); have z_ex := True.intro; refine WpM.regPE [] [(2, _), (18, _), (19, _), (20, _), (21, _)] (by (refine s_o [(19, _), (20, _)] rfl rfl rfl z_su rfl q_full z_fp z_ss ?_; exact wpS_nil ⟨rfl, rfl⟩)) z_su ?_; clear z_ex)
    by_cases hlt : j < xs.length
    · ((repeat refine WpM.seq ?_); refine WpM.condT (by (simp (maxSteps := 2000000) (disch := omega) [go_sem, -List.map_map, hlt])) ?_)
      refine WpM.skip ?_
      ((repeat refine WpM.seq ?_); refine WpM.block ?_)
      have hc := hxs xs[j] (List.getElem_mem _)
      rw [soundGo_drop hlt] at hgo
      obtain ⟨c, hce⟩ : ∃ c, c = xs[j] := ⟨_, rfl⟩
      have hget : (xs.map ints)[j]? = some (ints c) := by rw [lens xs j hlt, hce]
      rw [← hce] at hc hgo
      clear hce
      ((repeat refine WpM.seq ?_); have z_ex := (And.intro @hget (And.intro @cls.eq_1 True.intro)); refine WpM.regPE [] [(2, _), (7, _), (18, _), (19, _), (20, _)] (by (refine s_o [(18, _), (20, _)] rfl rfl rfl z_su rfl q_full z_fp z_ss ?_; refine s_o [(22, _)] rfl rfl rfl z_su rfl q_load z_fp z_ss ?_; refine s_o [(23, _)] rfl rfl rfl z_su rfl q_move z_fp z_ss ?_; exact wpS_nil ⟨rfl, rfl⟩)) z_su ?_; clear z_ex)
      by_cases h5 : (4096 : Int) < (c.length : Int)
      · rw [if_pos (by omega)] at hgo
        ((repeat refine WpM.seq ?_); have z_ex := (And.intro @h5 (And.intro @ints.eq_1 True.intro)); refine WpM.regPE [] [(2, _), (7, _), (18, _), (19, _), (20, _), (26, _)] (by (refine s_o [(7, _)] rfl rfl rfl z_su rfl q_move z_fp z_ss ?_; refine s_o [(24, _)] rfl rfl rfl z_su rfl q_full z_fp z_ss ?_; refine s_o [(25, _)] rfl rfl rfl z_su rfl q_full z_fp z_ss ?_; exact wpS_nil ⟨rfl, rfl⟩)) z_su ?_; clear z_ex)
        ((repeat refine WpM.seq ?_); refine WpM.condT (by (simp (maxSteps := 2000000) (disch := omega) [go_sem, -List.map_map, h5])) ?_)
        ((repeat refine WpM.seq ?_); have z_ex := True.intro; refine WpM.regPE [] [(4, _)] (by (refine s_o [] rfl rfl rfl z_su rfl q_move z_fp z_ss ?_; exact wpS_nil ⟨rfl, rfl⟩)) z_su ?_; clear z_ex)
        (refine WpM.ret ?_; refine ⟨.inr rfl, Upd.done ?_⟩; (simp (maxSteps := 2000000) (disch := omega) [go_sem, -List.map_map, resV, resVs, resV1, hgo]))
      · rw [if_neg (by omega)] at hgo
        ((repeat refine WpM.seq ?_); have z_ex := (And.intro @h5 (And.intro @ints.eq_1 True.intro)); refine WpM.regPE [] [(2, _), (7, _), (18, _), (19, _), (20, _), (26, _)] (by (refine s_o [(7, _)] rfl rfl rfl z_su rfl q_move z_fp z_ss ?_; refine s_o [(24, _)] rfl rfl rfl z_su rfl q_full z_fp z_ss ?_; refine s_o [(25, _)] rfl rfl rfl z_su rfl q_full z_fp z_ss ?_; exact wpS_nil ⟨rfl, rfl⟩)) z_su ?_; clear z_ex)
        ((repeat refine WpM.seq ?_); refine WpM.condF (by (simp (maxSteps := 2000000) (disch := omega) [go_sem, -List.map_map, h5])) ?_)
        refine WpM.skip ?_
        ((repeat refine WpM.seq ?_); have z_ex := (And.intro @ints.eq_1 True.intro); refine WpM.regPE [] [(2, _), (18, _), (19, _), (20, _), (27, _), (28, _), (29, _)] (by (refine s_o [(7, _)] rfl rfl rfl z_su rfl q_move z_fp z_ss ?_; refine s_o [(27, _)] rfl rfl rfl z_su rfl q_full z_fp z_ss ?_; refine s_o [] rfl rfl rfl z_su rfl q_move z_fp z_ss ?_; exact wpS_nil ⟨rfl, rfl⟩)) z_su ?_; clear z_ex)
        ((repeat refine WpM.seq ?_); refine WpM.block ?_)
        refine WpM.loop (fun (k : Nat) fr S => k ≤ c.length ∧ (∀ i (h : i < c.length), i < k → litOk n c[i] = true) ∧ fr = frOf [(2, .ptr n0 0), (18, .d (cls xs)), (19, .d (.int .i64 xs.length)), (20, .d (.int .i64 j)), (27, .d (ints c)), (28, .d (.int .i64 c.length)), (29, .d (.int .i64 k))] ∧ ∃ nx, n0 < nx ∧ S = ⟨nx, [(n0, some (.box [.d (.int .i64 n), .d (cls cs)]))], H⟩) (fun k => c.length - k) 0 (St.Le.refl _) (frLe_frOf (by (simp (maxSteps := 2000000) (disch := omega) [go_sem, -List.map_map, ints, cls]))) ⟨by omega, by simp, rfl, _, ?_, rfl⟩ ?_
        · omega
        rintro k fr S' ⟨hk, hall2, rfl, ny, hny, rfl⟩
        ((repeat refine WpM.seq ?_); have z_ex := True.intro; refine WpM.regPE [] [(2, _), (18, _), (19, _), (20, _), (27, _), (28, _), (29, _), (30, _)] (by (refine s_o [(28, _), (29, _)] rfl rfl rfl z_su rfl q_full z_fp z_ss ?_; exact wpS_nil ⟨rfl, rfl⟩)) z_su ?_; clear z_ex)
        by_cases hlt2 : k < c.length
        · ((repeat refine WpM.seq ?_); refine WpM.condT (by (simp (maxSteps := 2000000) (disch := omega) [go_sem, -List.map_map, hlt2])) ?_)
          refine WpM.skip ?_
          ((repeat refine WpM.seq ?_); refine WpM.block ?_)
          ((repeat refine WpM.seq ?_); have z_ex := (And.intro @hlt2 (And.intro @ints.eq_1 True.intro)); refine WpM.regPE [] [(2, _), (9, _), (18, _), (19, _), (20, _), (27, _), (28, _), (29, _)] (by (refine s_o [(27, _), (29, _)] rfl rfl rfl z_su rfl q_full z_fp z_ss ?_; refine s_o [(31, _)] rfl rfl rfl z_su rfl q_load z_fp z_ss ?_; refine s_o [(32, _)] rfl rfl rfl z_su rfl q_move z_fp z_ss ?_; exact wpS_nil ⟨rfl, rfl⟩)) z_su ?_; clear z_ex)
          obtain ⟨l, hle⟩ : ∃ l, l = c[k] := ⟨_, rfl⟩
          rw [← hle]
          cases h6 : litOk n l with
          | true =>
            obtain ⟨q1, q2, q3⟩ := of_decide_eq_true h6
            have q2' : ¬ l < -n := by omega
            have q3' : ¬ n < l := by omega
            ((repeat refine WpM.seq ?_); have z_ex := (And.intro @q1 (And.intro @q2' (And.intro @q3' (And.intro @wrap_neg True.intro)))); refine WpM.regPE [] [(2, _), (18, _), (19, _), (20, _), (27, _), (28, _), (29, _), (47, _)] (by (refine s_o [(9, _)] rfl rfl rfl z_su rfl q_move z_fp z_ss ?_; refine s_o [(33, _)] rfl rfl rfl z_su rfl q_full z_fp z_ss ?_; refine s_o [(34, _)] rfl rfl rfl z_su rfl q_move z_fp z_ss ?_; refine s_wit ?_; intro z_g; (first | refine s_skip rfl z_g z_fp ?_ | (refine s_o [(9, _)] rfl z_g rfl z_su rfl q_move z_fp z_ss ?_)); clear z_g; refine s_wit ?_; intro z_g; (first | refine s_skip rfl z_g z_fp ?_ | (refine s_o [(2, _)] rfl z_g rfl z_su rfl q_fieldAddr z_fp z_ss ?_)); clear z_g; refine s_wit ?_; intro z_g; (first | refine s_skip rfl z_g z_fp ?_ | (refine s_o [(37, _)] rfl z_g rfl z_su rfl q_load z_fp z_ss ?_)); clear z_g; refine s_wit ?_; intro z_g; (first | refine s_skip rfl z_g z_fp ?_ | (refine s_o [(36, _), (38, _)] rfl z_g rfl z_su rfl q_full z_fp z_ss ?_)); clear z_g; refine s_o [(35, _), (39, _)] rfl rfl rfl z_su rfl q_move z_fp z_ss ?_; refine s_o [(40, _)] rfl rfl rfl z_su rfl q_move z_fp z_ss ?_; refine s_wit ?_; intro z_g; (first | refine s_skip rfl z_g z_fp ?_ | (refine s_o [(9, _)] rfl z_g rfl z_su rfl q_move z_fp z_ss ?_)); clear z_g; refine s_wit ?_; intro z_g; (first | refine s_skip rfl z_g z_fp ?_ | (refine s_o [(2, _)] rfl z_g rfl z_su rfl q_fieldAddr z_fp z_ss ?_)); clear z_g; refine s_wit ?_; intro z_g; (first | refine s_skip rfl z_g z_fp ?_ | (refine s_o [(43, _)] rfl z_g rfl z_su rfl q_load z_fp z_ss ?_)); clear z_g; refine s_wit ?_; intro z_g; (first | refine s_skip rfl z_g z_fp ?_ | (refine s_o [(44, _)] rfl z_g rfl z_su rfl q_unOp z_fp z_ss ?_)); clear z_g; refine s_wit ?_; intro z_g; (first | refine s_skip rfl z_g z_fp ?_ | (refine s_o [(42, _), (45, _)] rfl z_g rfl z_su rfl q_full z_fp z_ss ?_)); clear z_g; refine s_o [(41, _), (46, _)] rfl rfl rfl z_su rfl q_move z_fp z_ss ?_; exact wpS_nil ⟨rfl, rfl⟩)) z_su ?_; clear z_ex)
            ((repeat refine WpM.seq ?_); refine WpM.condF (by (simp (maxSteps := 2000000) (disch := omega) [go_sem, -List.map_map])) ?_)
            refine WpM.skip ?_
            ((repeat refine WpM.seq ?_); have z_ex := (And.intro @wrap_id True.intro); refine WpM.regPE [] [(2, _), (18, _), (19, _), (20, _), (27, _), (28, _), (29, _)] (by (refine s_o [(29, _)] rfl rfl rfl z_su rfl q_full z_fp z_ss ?_; refine s_o [(48, _)] rfl rfl rfl z_su rfl q_move z_fp z_ss ?_; exact wpS_nil ⟨rfl, rfl⟩)) z_su ?_; clear z_ex)
            refine round_end (x' := k + 1) (St.Le.refl _) (frLe_frOf (by (simp (maxSteps := 2000000) (disch := omega) [go_sem, -List.map_map, wrap_id]))) ⟨by omega, upto_succ (p := litOk n) hlt2 hall2 (by rw [← hle]; exact h6), rfl, _, ?_, rfl⟩ (by omega)
            omega
          | false =>
            have hbad : soundP n cs xs = 150 := by
              rw [hgo, if_neg]
              rw [List.all_eq_true]
              intro h
              have := h c[k] (List.getElem_mem _)
              rw [← hle, h6] at this
              cases this
            have q := of_decide_eq_false h6
            by_cases q1 : l = 0
            · ((repeat refine WpM.seq ?_); have z_ex := (And.intro @q1 (And.intro @wrap_neg True.intro)); refine WpM.regPE [] [(2, _), (18, _), (19, _), (20, _), (27, _), (28, _), (29, _), (47, _)] (by (refine s_o [(9, _)] rfl rfl rfl z_su rfl q_move z_fp z_ss ?_; refine s_o [(33, _)] rfl rfl rfl z_su rfl q_full z_fp z_ss ?_; refine s_o [(34, _)] rfl rfl rfl z_su rfl q_move z_fp z_ss ?_; refine s_wit ?_; intro z_g; (first | refine s_skip rfl z_g z_fp ?_ | (refine s_o [(9, _)] rfl z_g rfl z_su rfl q_move z_fp z_ss ?_)); clear z_g; refine s_wit ?_; intro z_g; (first | refine s_skip rfl z_g z_fp ?_ | (refine s_o [(2, _)] rfl z_g rfl z_su rfl q_fieldAddr z_fp z_ss ?_)); clear z_g; refine s_wit ?_; intro z_g; (first | refine s_skip rfl z_g z_fp ?_ | (refine s_o [(37, _)] rfl z_g rfl z_su rfl q_load z_fp z_ss ?_)); clear z_g; refine s_wit ?_; intro z_g; (first | refine s_skip rfl z_g z_fp ?_ | (refine s_o [(36, _), (38, _)] rfl z_g rfl z_su rfl q_full z_fp z_ss ?_)); clear z_g; refine s_o [(35, _), (39, _)] rfl rfl rfl z_su rfl q_move z_fp z_ss ?_; refine s_o [(40, _)] rfl rfl rfl z_su rfl q_move z_fp z_ss ?_; refine s_wit ?_; intro z_g; (first | refine s_skip rfl z_g z_fp ?_ | (refine s_o [(9, _)] rfl z_g rfl z_su rfl q_move z_fp z_ss ?_)); clear z_g; refine s_wit ?_; intro z_g; (first | refine s_skip rfl z_g z_fp ?_ | (refine s_o [(2, _)] rfl z_g rfl z_su rfl q_fieldAddr z_fp z_ss ?_)); clear z_g; refine s_wit ?_; intro z_g; (first | refine s_skip rfl z_g z_fp ?_ | (refine s_o [(43, _)] rfl z_g rfl z_su rfl q_load z_fp z_ss ?_)); clear z_g; refine s_wit ?_; intro z_g; (first | refine s_skip rfl z_g z_fp ?_ | (refine s_o [(44, _)] rfl z_g rfl z_su rfl q_unOp z_fp z_ss ?_)); clear z_g; refine s_wit ?_; intro z_g; (first | refine s_skip rfl z_g z_fp ?_ | (refine s_o [(42, _), (45, _)] rfl z_g rfl z_su rfl q_full z_fp z_ss ?_)); clear z_g; refine s_o [(41, _), (46, _)] rfl rfl rfl z_su rfl q_move z_fp z_ss ?_; exact wpS_nil ⟨rfl, rfl⟩)) z_su ?_; clear z_ex)
              ((repeat refine WpM.seq ?_); refine WpM.condT (by (simp (maxSteps := 2000000) (disch := omega) [go_sem, -List.map_map])) ?_)
              ((repeat refine WpM.seq ?_); have z_ex := True.intro; refine WpM.regPE [] [(4, _)] (by (refine s_o [] rfl rfl rfl z_su rfl q_move z_fp z_ss ?_; exact wpS_nil ⟨rfl, rfl⟩)) z_su ?_; clear z_ex)
              (refine WpM.ret ?_; refine ⟨.inr rfl, Upd.done ?_⟩; (simp (maxSteps := 2000000) (disch := omega) [go_sem, -List.map_map, resV, resVs, resV1, hbad]))
            by_cases q2 : n < l
            · ((repeat refine WpM.seq ?_); have z_ex := (And.intro @q1 (And.intro @q2 (And.intro @wrap_neg True.intro))); refine WpM.regPE [] [(2, _), (18, _), (19, _), (20, _), (27, _), (28, _), (29, _), (47, _)] (by (refine s_o [(9, _)] rfl rfl rfl z_su rfl q_move z_fp z_ss ?_; refine s_o [(33, _)] rfl rfl rfl z_su rfl q_full z_fp z_ss ?_; refine s_o [(34, _)] rfl rfl rfl z_su rfl q_move z_fp z_ss ?_; refine s_wit ?_; intro z_g; (first | refine s_skip rfl z_g z_fp ?_ | (refine s_o [(9, _)] rfl z_g rfl z_su rfl q_move z_fp z_ss ?_)); clear z_g; refine s_wit ?_; intro z_g; (first | refine s_skip rfl z_g z_fp ?_ | (refine s_o [(2, _)] rfl z_g rfl z_su rfl q_fieldAddr z_fp z_ss ?_)); clear z_g; refine s_wit ?_; intro z_g; (first | refine s_skip rfl z_g z_fp ?_ | (refine s_o [(37, _)] rfl z_g rfl z_su rfl q_load z_fp z_ss ?_)); clear z_g; refine s_wit ?_; intro z_g; (first | refine s_skip rfl z_g z_fp ?_ | (refine s_o [(36, _), (38, _)] rfl z_g rfl z_su rfl q_full z_fp z_ss ?_)); clear z_g; refine s_o [(35, _), (39, _)] rfl rfl rfl z_su rfl q_move z_fp z_ss ?_; refine s_o [(40, _)] rfl rfl rfl z_su rfl q_move z_fp z_ss ?_; refine s_wit ?_; intro z_g; (first | refine s_skip rfl z_g z_fp ?_ | (refine s_o [(9, _)] rfl z_g rfl z_su rfl q_move z_fp z_ss ?_)); clear z_g; refine s_wit ?_; intro z_g; (first | refine s_skip rfl z_g z_fp ?_ | (refine s_o [(2, _)] rfl z_g rfl z_su rfl q_fieldAddr z_fp z_ss ?_)); clear z_g; refine s_wit ?_; intro z_g; (first | refine s_skip rfl z_g z_fp ?_ | (refine s_o [(43, _)] rfl z_g rfl z_su rfl q_load z_fp z_ss ?_)); clear z_g; refine s_wit ?_; intro z_g; (first | refine s_skip rfl z_g z_fp ?_ | (refine s_o [(44, _)] rfl z_g rfl z_su rfl q_unOp z_fp z_ss ?_)); clear z_g; refine s_wit ?_; intro z_g; (first | refine s_skip rfl z_g z_fp ?_ | (refine s_o [(42, _), (45, _)] rfl z_g rfl z_su rfl q_full z_fp z_ss ?_)); clear z_g; refine s_o [(41, _), (46, _)] rfl rfl rfl z_su rfl q_move z_fp z_ss ?_; exact wpS_nil ⟨rfl, rfl⟩)) z_su ?_; clear z_ex)
              ((repeat refine WpM.seq ?_); refine WpM.condT (by (simp (maxSteps := 2000000) (disch := omega) [go_sem, -List.map_map])) ?_)
              ((repeat refine WpM.seq ?_); have z_ex := True.intro; refine WpM.regPE [] [(4, _)] (by (refine s_o [] rfl rfl rfl z_su rfl q_move z_fp z_ss ?_; exact wpS_nil ⟨rfl, rfl⟩)) z_su ?_; clear z_ex)
              (refine WpM.ret ?_; refine ⟨.inr rfl, Upd.done ?_⟩; (simp (maxSteps := 2000000) (disch := omega) [go_sem, -List.map_map, resV, resVs, resV1, hbad]))
            have q3 : l < -n := by omega
            ((repeat refine WpM.seq ?_); have z_ex := (And.intro @q1 (And.intro @q2 (And.intro @q3 (And.intro @wrap_neg True.intro)))); refine WpM.regPE [] [(2, _), (18, _), (19, _), (20, _), (27, _), (28, _), (29, _), (47, _)] (by (refine s_o [(9, _)] rfl rfl rfl z_su rfl q_move z_fp z_ss ?_; refine s_o [(33, _)] rfl rfl rfl z_su rfl q_full z_fp z_ss ?_; refine s_o [(34, _)] rfl rfl rfl z_su rfl q_move z_fp z_ss ?_; refine s_wit ?_; intro z_g; (first | refine s_skip rfl z_g z_fp ?_ | (refine s_o [(9, _)] rfl z_g rfl z_su rfl q_move z_fp z_ss ?_)); clear z_g; refine s_wit ?_; intro z_g; (first | refine s_skip rfl z_g z_fp ?_ | (refine s_o [(2, _)] rfl z_g rfl z_su rfl q_fieldAddr z_fp z_ss ?_)); clear z_g; refine s_wit ?_; intro z_g; (first | refine s_skip rfl z_g z_fp ?_ | (refine s_o [(37, _)] rfl z_g rfl z_su rfl q_load z_fp z_ss ?_)); clear z_g; refine s_wit ?_; intro z_g; (first | refine s_skip rfl z_g z_fp ?_ | (refine s_o [(36, _), (38, _)] rfl z_g rfl z_su rfl q_full z_fp z_ss ?_)); clear z_g; refine s_o [(35, _), (39, _)] rfl rfl rfl z_su rfl q_move z_fp z_ss ?_; refine s_o [(40, _)] rfl rfl rfl z_su rfl q_move z_fp z_ss ?_; refine s_wit ?_; intro z_g; (first | refine s_skip rfl z_g z_fp ?_ | (refine s_o [(9, _)] rfl z_g rfl z_su rfl q_move z_fp z_ss ?_)); clear z_g; refine s_wit ?_; intro z_g; (first | refine s_skip rfl z_g z_fp ?_ | (refine s_o [(2, _)] rfl z_g rfl z_su rfl q_fieldAddr z_fp z_ss ?_)); clear z_g; refine s_wit ?_; intro z_g; (first | refine s_skip rfl z_g z_fp ?_ | (refine s_o [(43, _)] rfl z_g rfl z_su rfl q_load z_fp z_ss ?_)); clear z_g; refine s_wit ?_; intro z_g; (first | refine s_skip rfl z_g z_fp ?_ | (refine s_o [(44, _)] rfl z_g rfl z_su rfl q_unOp z_fp z_ss ?_)); clear z_g; refine s_wit ?_; intro z_g; (first | refine s_skip rfl z_g z_fp ?_ | (refine s_o [(42, _), (45, _)] rfl z_g rfl z_su rfl q_full z_fp z_ss ?_)); clear z_g; refine s_o [(41, _), (46, _)] rfl rfl rfl z_su rfl q_move z_fp z_ss ?_; exact wpS_nil ⟨rfl, rfl⟩)) z_su ?_; clear z_ex)
            ((repeat refine WpM.seq ?_); refine WpM.condT (by (simp (maxSteps := 2000000) (disch := omega) [go_sem, -List.map_map])) ?_)
            ((repeat refine WpM.seq ?_); have z_ex := True.intro; refine WpM.regPE [] [(4, _)] (by (refine s_o [] rfl rfl rfl z_su rfl q_move z_fp z_ss ?_; exact wpS_nil ⟨rfl, rfl⟩)) z_su ?_; clear z_ex)
            (refine WpM.ret ?_; refine ⟨.inr rfl, Upd.done ?_⟩; (simp (maxSteps := 2000000) (disch := omega) [go_sem, -List.map_map, resV, resVs, resV1, hbad]))
        · ((repeat refine WpM.seq ?_); refine WpM.condF (by (simp (maxSteps := 2000000) (disch := omega) [go_sem, -List.map_map, hlt2])) ?_)
          (refine WpM.exit ?_; (repeat (with_reducible (first | refine thenM_exit ?_ | refine blockM_eq ?_ | refine blockM_ne (by decide) ?_))))
          have hok : c.all (litOk n) = true := by
            rw [List.all_eq_true]
            intro x hx
            obtain ⟨i, hi, rfl⟩ := List.getElem_of_mem hx
            exact hall2 i hi (by omega)
          rw [if_pos hok] at hgo
          ((repeat refine WpM.seq ?_); have z_ex := (And.intro @wrap_id True.intro); refine WpM.regPE [] [(2, _), (18, _), (19, _), (20, _)] (by (refine s_o [(20, _)] rfl rfl rfl z_su rfl q_full z_fp z_ss ?_; refine s_o [(49, _)] rfl rfl rfl z_su rfl q_move z_fp z_ss ?_; exact wpS_nil ⟨rfl, rfl⟩)) z_su ?_; clear z_ex)
          refine round_end (x' := j + 1) (St.Le.refl _) (frLe_frOf (by (simp (maxSteps := 2000000) (disch := omega) [go_sem, -List.map_map, wrap_id]))) ⟨by omega, hgo, rfl, _, ?_, rfl⟩ (by omega)
          omega
    · ((repeat refine WpM.seq ?_); refine WpM.condF (by (simp (maxSteps := 2000000) (disch := omega) [go_sem, -List.map_map, hlt])) ?_)
      (refine WpM.exit ?_; (repeat (with_reducible (first | refine thenM_exit ?_ | refine blockM_eq ?_ | refine blockM_ne (by decide) ?_))))
      have hr2 : soundP n cs xs = 0 := by rw [hgo, List.drop_eq_nil_of_le (by omega)]; rfl
      ((repeat refine WpM.seq ?_); have z_ex := True.intro; refine WpM.regPE [] [(4, _)] (by (refine s_o [] rfl rfl rfl z_su rfl q_move z_fp z_ss ?_; exact wpS_nil ⟨rfl, rfl⟩)) z_su ?_; clear z_ex)
      (refine WpM.ret ?_; refine ⟨.inr rfl, Upd.done ?_⟩; (simp (maxSteps := 2000000) (disch := omega) [go_sem, -List.map_map, resV, resVs, resV1, hr2]))
  · have h150 : checkF n cs = 150 := (checkF_or n cs).resolve_left hc0
    have hr : soundP n cs xs = 150 := by simp only [soundP]; rw [if_neg hc0]
    rw [h150]
    ((repeat refine WpM.seq ?_); have z_ex := True.intro; refine WpM.regPE [] [(1, _), (2, _), (5, _), (13, _)] (by (refine s_o [(5, _)] rfl rfl rfl z_su rfl q_move z_fp z_ss ?_; refine s_o [(12, _)] rfl rfl rfl z_su rfl q_full z_fp z_ss ?_; exact wpS_nil ⟨rfl, rfl⟩)) z_su ?_; clear z_ex)
    ((repeat refine WpM.seq ?_); refine WpM.condT (by (simp (maxSteps := 2000000) (disch := omega) [go_sem, -List.map_map])) ?_)
    ((repeat refine WpM.seq ?_); have z_ex := True.intro; refine WpM.regPE [] [(4, _)] (by (refine s_o [(5, _)] rfl rfl rfl z_su rfl q_move z_fp z_ss ?_; refine s_o [(14, _)] rfl rfl rfl z_su rfl q_move z_fp z_ss ?_; exact wpS_nil ⟨rfl, rfl⟩)) z_su ?_; clear z_ex)
    (refine WpM.ret ?_; refine ⟨.inr rfl, Upd.done ?_⟩; (simp (maxSteps := 2000000) (disch := omega) [go_sem, -List.map_map, resV, resVs, resV1, hr]))
end Go.Proofs.Ytafeehlpmdligaa
