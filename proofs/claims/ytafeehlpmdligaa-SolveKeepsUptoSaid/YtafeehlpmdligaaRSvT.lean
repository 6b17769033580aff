/- assizelaw17.right: answers that are right are told so. -/
import Derived.Test.YtafeehlpmdligaaROp
import Derived.Test.YtafeehlpmdligaaRFirst
import Derived.Test.YtafeehlpmdligaaRSvR
import Derived.Test.YtafeehlpmdligaaRTrue23
namespace Go.Proofs.Ytafeehlpmdligaa
open Go.RowKit M
set_option linter.unusedSimpArgs false
set_option linter.unusedVariables false
theorem soundGo_zero {n : Int} : ∀ {xs : List (List Int)}, (∀ c ∈ xs, c.length ≤ 4096) → (∀ c ∈ xs, ∀ l ∈ c, litOk n l = true) → soundGo n xs = 0
  | [], _, _ => rfl
  | c :: r, h1, h2 => by
    have := h1 c (by simp)
    rw [soundGo, if_neg (by omega), if_pos (List.all_eq_true.2 (h2 c (by simp)))]
    exact soundGo_zero (fun d hd => h1 d (by simp [hd])) (fun d hd => h2 d (by simp [hd]))
theorem firstGo_ok : ∀ (xs cs : List (List Int)) (i : Nat), (∀ j (h : j < xs.length), Follows (cs ++ xs.take j) xs[j]) → firstGo cs i xs = -1
  | [], cs, i, _ => rfl
  | x :: r, cs, i, h => by
    have h0 : Follows cs x := by
      have := h 0 (by simp)
      simpa using this
    rw [firstGo, followsB_true.2 h0]
    refine firstGo_ok r (cs ++ [x]) (i + 1) fun j hj => ?_
    have := h (j + 1) (by simp only [List.length_cons]; omega)
    rw [List.append_assoc]
    simpa using this
theorem proof_right {n : Nat} {cs : List (List Int)} {b : Nat} {a : AnsD} (h : RightA n cs b a) (hc : a.code = 1) (hchk : checkF n cs = 0) (hn : n ≤ 4096) (hb : b ≤ 20000) : proofB n cs a.proof = true ∧ soundP n cs a.proof = 0 := by
  obtain ⟨_, h2, h3, h4, h5, h6⟩ := h.one hc
  have hh := h.high
  have hs : soundP n cs a.proof = 0 := by
    unfold soundP
    rw [if_pos hchk, if_neg (by omega)]
    refine soundGo_zero (fun c hc => by have := h5 c hc; omega) fun c hc l hl => ?_
    have := h4 c hc l hl
    unfold litOk
    exact decide_eq_true (by omega)
  refine ⟨?_, hs⟩
  unfold proofB firstN
  rw [if_pos hs]
  exact decide_eq_true ⟨hs, firstGo_ok _ _ _ h3, h2⟩
set_option maxHeartbeats 8000000 in
theorem right36 (n : Nat) (cs : List (List Int)) (b : Nat) (a : AnsD) (h : RightA n cs b a) (hchk : checkF n cs = 0) (hb : b ≤ 20000) :
    PureC Try.prog 36 [.d (cnf n cs), .d (.int .i64 b), .d (encAns a)] (.d (.bool true)) := by
  obtain ⟨k1, k2, k3, k4⟩ := check_ok hchk
  have hlow : ¬ a.steps < 0 := by have := h.low; omega
  have hhigh : ¬ (b : Int) < a.steps := by have := h.high; omega
  have hcl : cs.length ≤ 140737488351232 := by omega
  have hcs : ∀ c ∈ cs, c.length ≤ 140737488351232 := fun c hc => by have := k4 c hc; omega
  refine PureC.of (n := 90) Try.func36 rfl rfl (by simp) (by simp only [argL, Nat.reduceAdd] <;> rfl) rfl ?_
  intro n0 H hH
  ((repeat refine WpM.seq ?_); have z_ex := (And.intro @cnf.eq_1 (And.intro @encAns.eq_1 True.intro)); refine WpM.regPE [] [(1, _), (3, _), (5, _)] (by (refine s_o [(0, _)] rfl rfl rfl z_su rfl q_box z_fp z_ss ?_; refine s_o [(2, _)] rfl rfl rfl z_su rfl q_box z_fp z_ss ?_; refine s_o [] rfl rfl rfl z_su rfl q_move z_fp z_ss ?_; exact wpS_nil ⟨rfl, rfl⟩)) z_su ?_; clear z_ex)
  ((repeat refine WpM.seq ?_); have z_ex := (And.intro @hlow (And.intro @hhigh True.intro)); refine WpM.regPE [] [(1, _), (3, _), (5, _), (19, _)] (by (refine s_o [(5, _)] rfl rfl rfl z_su rfl q_fieldAddr z_fp z_ss ?_; refine s_o [(11, _)] rfl rfl rfl z_su rfl q_load z_fp z_ss ?_; refine s_o [(12, _)] rfl rfl rfl z_su rfl q_full z_fp z_ss ?_; refine s_o [(13, _)] rfl rfl rfl z_su rfl q_move z_fp z_ss ?_; refine s_wit ?_; intro z_g; (first | refine s_skip rfl z_g z_fp ?_ | (refine s_o [(5, _)] rfl z_g rfl z_su rfl q_fieldAddr z_fp z_ss ?_)); clear z_g; refine s_wit ?_; intro z_g; (first | refine s_skip rfl z_g z_fp ?_ | (refine s_o [(15, _)] rfl z_g rfl z_su rfl q_load z_fp z_ss ?_)); clear z_g; refine s_wit ?_; intro z_g; (first | refine s_skip rfl z_g z_fp ?_ | (refine s_o [(1, _)] rfl z_g rfl z_su rfl q_move z_fp z_ss ?_)); clear z_g; refine s_wit ?_; intro z_g; (first | refine s_skip rfl z_g z_fp ?_ | (refine s_o [(16, _), (17, _)] rfl z_g rfl z_su rfl q_full z_fp z_ss ?_)); clear z_g; refine s_o [(14, _), (18, _)] rfl rfl rfl z_su rfl q_move z_fp z_ss ?_; exact wpS_nil ⟨rfl, rfl⟩)) z_su ?_; clear z_ex)
  ((repeat refine WpM.seq ?_); refine WpM.condF (by (simp (maxSteps := 2000000) (disch := omega) [go_sem, -List.map_map])) ?_)
  refine WpM.skip ?_
  ((repeat refine WpM.seq ?_); have z_ex := True.intro; refine WpM.regPE [] [(1, _), (3, _), (5, _), (21, _)] (by (refine s_o [(5, _)] rfl rfl rfl z_su rfl q_fieldAddr z_fp z_ss ?_; refine s_o [(20, _)] rfl rfl rfl z_su rfl q_load z_fp z_ss ?_; exact wpS_nil ⟨rfl, rfl⟩)) z_su ?_; clear z_ex)
  ((repeat refine WpM.seq ?_); refine WpM.block ?_)
  rcases h.code with hc | hc | hc
  · obtain ⟨p1, p2⟩ := proof_right h hc hchk (by omega) hb
    obtain ⟨m1, m2, m3, m4, m5, m6⟩ := h.one hc
    have hh := h.high
    have c1 := check18 n cs a.proof hcl hcs (by omega) (fun c hc => by have := m5 c hc; omega)
    rw [p1, p2] at c1
    ((repeat refine WpM.seq ?_); have z_ex := (And.intro @hc True.intro); refine WpM.regPE [] [(1, _), (3, _), (5, _), (21, _), (22, _)] (by (refine s_o [(21, _)] rfl rfl rfl z_su rfl q_full z_fp z_ss ?_; refine s_o [(23, _)] rfl rfl rfl z_su rfl q_move z_fp z_ss ?_; exact wpS_nil ⟨rfl, rfl⟩)) z_su ?_; clear z_ex)
    ((repeat refine WpM.seq ?_); refine WpM.condF (by (simp (maxSteps := 2000000) (disch := omega) [go_sem, -List.map_map])) ?_)
    ((repeat refine WpM.seq ?_); have z_ex := (And.intro @hc True.intro); refine WpM.regPE [] [(1, _), (3, _), (5, _), (49, _)] (by (refine s_o [(21, _)] rfl rfl rfl z_su rfl q_full z_fp z_ss ?_; refine s_o [(50, _)] rfl rfl rfl z_su rfl q_move z_fp z_ss ?_; exact wpS_nil ⟨rfl, rfl⟩)) z_su ?_; clear z_ex)
    ((repeat refine WpM.seq ?_); refine WpM.condT (by (simp (maxSteps := 2000000) (disch := omega) [go_sem, -List.map_map])) ?_)
    ((repeat refine WpM.seq ?_); have z_ex := (And.intro @cnf.eq_1 True.intro); refine WpM.regPE [] [(5, _), (9, _), (10, _)] (by (refine s_o [(3, _)] rfl rfl rfl z_su rfl q_load z_fp z_ss ?_; refine s_o [(5, _)] rfl rfl rfl z_su rfl q_fieldAddr z_fp z_ss ?_; refine s_o [(53, _)] rfl rfl rfl z_su rfl q_load z_fp z_ss ?_; refine s_pure (callOf_eq rfl rfl rfl (mlk_tmp z_lk (mlk_tmp z_lk mlk_nil))) (c1) rfl rfl z_ip z_fp ?_; refine s_o [(55, _)] rfl rfl rfl z_su rfl q_move z_fp z_ss ?_; refine s_o [(51, _)] rfl rfl rfl z_su rfl q_extract z_fp z_ss ?_; refine s_o [(51, _)] rfl rfl rfl z_su rfl q_extract z_fp z_ss ?_; refine s_o [(56, _)] rfl rfl rfl z_su rfl q_move z_fp z_ss ?_; refine s_o [(57, _)] rfl rfl rfl z_su rfl q_move z_fp z_ss ?_; exact wpS_nil ⟨rfl, rfl⟩)) z_su ?_; clear z_ex)
    ((repeat refine WpM.seq ?_); have z_ex := (And.intro @m1 (And.intro @bools.eq_1 True.intro)); refine WpM.regPE [] [(6, _)] (by (refine s_o [(9, _)] rfl rfl rfl z_su rfl q_move z_fp z_ss ?_; refine s_o [(58, _)] rfl rfl rfl z_su rfl q_move z_fp z_ss ?_; refine s_wit ?_; intro z_g; (first | refine s_skip rfl z_g z_fp ?_ | (refine s_o [(10, _)] rfl z_g rfl z_su rfl q_move z_fp z_ss ?_)); clear z_g; refine s_wit ?_; intro z_g; (first | refine s_skip rfl z_g z_fp ?_ | (refine s_o [(60, _)] rfl z_g rfl z_su rfl q_full z_fp z_ss ?_)); clear z_g; refine s_o [(59, _), (61, _)] rfl rfl rfl z_su rfl q_move z_fp z_ss ?_; refine s_o [(62, _)] rfl rfl rfl z_su rfl q_move z_fp z_ss ?_; refine s_wit ?_; intro z_g; (first | refine s_skip rfl z_g z_fp ?_ | (refine s_o [(5, _)] rfl z_g rfl z_su rfl q_fieldAddr z_fp z_ss ?_)); clear z_g; refine s_wit ?_; intro z_g; (first | refine s_skip rfl z_g z_fp ?_ | (refine s_o [(64, _)] rfl z_g rfl z_su rfl q_load z_fp z_ss ?_)); clear z_g; refine s_wit ?_; intro z_g; (first | refine s_skip rfl z_g z_fp ?_ | (refine s_o [(65, _)] rfl z_g rfl z_su rfl q_full z_fp z_ss ?_)); clear z_g; refine s_wit ?_; intro z_g; (first | refine s_skip rfl z_g z_fp ?_ | (refine s_o [(66, _)] rfl z_g rfl z_su rfl q_full z_fp z_ss ?_)); clear z_g; refine s_o [(63, _), (67, _)] rfl rfl rfl z_su rfl q_move z_fp z_ss ?_; refine s_o [(68, _)] rfl rfl rfl z_su rfl q_move z_fp z_ss ?_; exact wpS_nil ⟨rfl, rfl⟩)) z_su ?_; clear z_ex)
    (refine WpM.ret ?_; refine ⟨.inr rfl, Upd.done ?_⟩; (simp (maxSteps := 2000000) (disch := omega) [go_sem, -List.map_map, resV, resVs, resV1,]))
  · obtain ⟨m1, m2, m3, m4⟩ := h.two hc
    have hlen : a.model.length ≤ 1048576 := by omega
    have c1 := true23 n cs a.model hcl hcs hlen
    have ht : trueF n cs a.model = (true, 0) := by
      unfold trueF
      rw [if_pos ⟨hchk, by omega⟩, m2]
    rw [ht] at c1
    have hg : (a.model.map D.bool)[0]? = some (.bool false) := by rw [bools_get (by omega), m4]
    ((repeat refine WpM.seq ?_); have z_ex := (And.intro @hc True.intro); refine WpM.regPE [] [(1, _), (3, _), (5, _), (21, _), (22, _)] (by (refine s_o [(21, _)] rfl rfl rfl z_su rfl q_full z_fp z_ss ?_; refine s_o [(23, _)] rfl rfl rfl z_su rfl q_move z_fp z_ss ?_; exact wpS_nil ⟨rfl, rfl⟩)) z_su ?_; clear z_ex)
    ((repeat refine WpM.seq ?_); refine WpM.condT (by (simp (maxSteps := 2000000) (disch := omega) [go_sem, -List.map_map])) ?_)
    ((repeat refine WpM.seq ?_); have z_ex := (And.intro @cnf.eq_1 True.intro); refine WpM.regPE [] [(5, _), (7, _), (8, _)] (by (refine s_o [(3, _)] rfl rfl rfl z_su rfl q_load z_fp z_ss ?_; refine s_o [(5, _)] rfl rfl rfl z_su rfl q_fieldAddr z_fp z_ss ?_; refine s_o [(26, _)] rfl rfl rfl z_su rfl q_load z_fp z_ss ?_; refine s_pure (callOf_eq rfl rfl rfl (mlk_tmp z_lk (mlk_tmp z_lk mlk_nil))) (c1) rfl rfl z_ip z_fp ?_; refine s_o [(28, _)] rfl rfl rfl z_su rfl q_move z_fp z_ss ?_; refine s_o [(24, _)] rfl rfl rfl z_su rfl q_extract z_fp z_ss ?_; refine s_o [(24, _)] rfl rfl rfl z_su rfl q_extract z_fp z_ss ?_; refine s_o [(29, _)] rfl rfl rfl z_su rfl q_move z_fp z_ss ?_; refine s_o [(30, _)] rfl rfl rfl z_su rfl q_move z_fp z_ss ?_; exact wpS_nil ⟨rfl, rfl⟩)) z_su ?_; clear z_ex)
    ((repeat refine WpM.seq ?_); have z_ex := (And.intro @m1 (And.intro @bools.eq_1 (And.intro @hg (And.intro @cls.eq_1 True.intro)))); refine WpM.regPE [] [(6, _)] (by (refine s_o [(7, _)] rfl rfl rfl z_su rfl q_move z_fp z_ss ?_; refine s_o [(31, _)] rfl rfl rfl z_su rfl q_move z_fp z_ss ?_; refine s_wit ?_; intro z_g; (first | refine s_skip rfl z_g z_fp ?_ | (refine s_o [(8, _)] rfl z_g rfl z_su rfl q_move z_fp z_ss ?_)); clear z_g; refine s_wit ?_; intro z_g; (first | refine s_skip rfl z_g z_fp ?_ | (refine s_o [(33, _)] rfl z_g rfl z_su rfl q_full z_fp z_ss ?_)); clear z_g; refine s_o [(32, _), (34, _)] rfl rfl rfl z_su rfl q_move z_fp z_ss ?_; refine s_o [(35, _)] rfl rfl rfl z_su rfl q_move z_fp z_ss ?_; refine s_wit ?_; intro z_g; (first | refine s_skip rfl z_g z_fp ?_ | (refine s_o [(5, _)] rfl z_g rfl z_su rfl q_fieldAddr z_fp z_ss ?_)); clear z_g; refine s_wit ?_; intro z_g; (first | refine s_skip rfl z_g z_fp ?_ | (refine s_o [(37, _)] rfl z_g rfl z_su rfl q_load z_fp z_ss ?_)); clear z_g; refine s_wit ?_; intro z_g; (first | refine s_skip rfl z_g z_fp ?_ | (refine s_o [(38, _)] rfl z_g rfl z_su rfl q_full z_fp z_ss ?_)); clear z_g; refine s_wit ?_; intro z_g; (first | refine s_skip rfl z_g z_fp ?_ | (refine s_o [(39, _)] rfl z_g rfl z_su rfl q_load z_fp z_ss ?_)); clear z_g; refine s_wit ?_; intro z_g; (first | refine s_skip rfl z_g z_fp ?_ | (refine s_o [(40, _)] rfl z_g rfl z_su rfl q_unOp z_fp z_ss ?_)); clear z_g; refine s_o [(36, _), (41, _)] rfl rfl rfl z_su rfl q_move z_fp z_ss ?_; refine s_o [(42, _)] rfl rfl rfl z_su rfl q_move z_fp z_ss ?_; refine s_wit ?_; intro z_g; (first | refine s_skip rfl z_g z_fp ?_ | (refine s_o [(5, _)] rfl z_g rfl z_su rfl q_fieldAddr z_fp z_ss ?_)); clear z_g; refine s_wit ?_; intro z_g; (first | refine s_skip rfl z_g z_fp ?_ | (refine s_o [(44, _)] rfl z_g rfl z_su rfl q_load z_fp z_ss ?_)); clear z_g; refine s_wit ?_; intro z_g; (first | refine s_skip rfl z_g z_fp ?_ | (refine s_o [(45, _)] rfl z_g rfl z_su rfl q_full z_fp z_ss ?_)); clear z_g; refine s_wit ?_; intro z_g; (first | refine s_skip rfl z_g z_fp ?_ | (refine s_o [(46, _)] rfl z_g rfl z_su rfl q_full z_fp z_ss ?_)); clear z_g; refine s_o [(43, _), (47, _)] rfl rfl rfl z_su rfl q_move z_fp z_ss ?_; refine s_o [(48, _)] rfl rfl rfl z_su rfl q_move z_fp z_ss ?_; exact wpS_nil ⟨rfl, rfl⟩)) z_su ?_; clear z_ex)
    (refine WpM.ret ?_; refine ⟨.inr rfl, Upd.done ?_⟩; (simp (maxSteps := 2000000) (disch := omega) [go_sem, -List.map_map, resV, resVs, resV1,]))
  · obtain ⟨m1, m2, m3⟩ := h.three hc
    ((repeat refine WpM.seq ?_); have z_ex := (And.intro @hc True.intro); refine WpM.regPE [] [(1, _), (3, _), (5, _), (21, _), (22, _)] (by (refine s_o [(21, _)] rfl rfl rfl z_su rfl q_full z_fp z_ss ?_; refine s_o [(23, _)] rfl rfl rfl z_su rfl q_move z_fp z_ss ?_; exact wpS_nil ⟨rfl, rfl⟩)) z_su ?_; clear z_ex)
    ((repeat refine WpM.seq ?_); refine WpM.condF (by (simp (maxSteps := 2000000) (disch := omega) [go_sem, -List.map_map])) ?_)
    ((repeat refine WpM.seq ?_); have z_ex := (And.intro @hc True.intro); refine WpM.regPE [] [(1, _), (3, _), (5, _), (49, _)] (by (refine s_o [(21, _)] rfl rfl rfl z_su rfl q_full z_fp z_ss ?_; refine s_o [(50, _)] rfl rfl rfl z_su rfl q_move z_fp z_ss ?_; exact wpS_nil ⟨rfl, rfl⟩)) z_su ?_; clear z_ex)
    ((repeat refine WpM.seq ?_); refine WpM.condF (by (simp (maxSteps := 2000000) (disch := omega) [go_sem, -List.map_map])) ?_)
    refine WpM.skip ?_
    refine blockM_norm ?_
    ((repeat refine WpM.seq ?_); have z_ex := (And.intro @hc (And.intro @m1 (And.intro @m2 (And.intro @m3 (And.intro @bools.eq_1 (And.intro @cls.eq_1 True.intro)))))); refine WpM.regPE [] [(6, _)] (by (refine s_o [(5, _)] rfl rfl rfl z_su rfl q_fieldAddr z_fp z_ss ?_; refine s_o [(69, _)] rfl rfl rfl z_su rfl q_load z_fp z_ss ?_; refine s_o [(70, _)] rfl rfl rfl z_su rfl q_full z_fp z_ss ?_; refine s_o [(71, _)] rfl rfl rfl z_su rfl q_move z_fp z_ss ?_; refine s_wit ?_; intro z_g; (first | refine s_skip rfl z_g z_fp ?_ | (refine s_o [(5, _)] rfl z_g rfl z_su rfl q_fieldAddr z_fp z_ss ?_)); clear z_g; refine s_wit ?_; intro z_g; (first | refine s_skip rfl z_g z_fp ?_ | (refine s_o [(73, _)] rfl z_g rfl z_su rfl q_load z_fp z_ss ?_)); clear z_g; refine s_wit ?_; intro z_g; (first | refine s_skip rfl z_g z_fp ?_ | (refine s_o [(1, _)] rfl z_g rfl z_su rfl q_move z_fp z_ss ?_)); clear z_g; refine s_wit ?_; intro z_g; (first | refine s_skip rfl z_g z_fp ?_ | (refine s_o [(74, _), (75, _)] rfl z_g rfl z_su rfl q_full z_fp z_ss ?_)); clear z_g; refine s_o [(72, _), (76, _)] rfl rfl rfl z_su rfl q_move z_fp z_ss ?_; refine s_o [(77, _)] rfl rfl rfl z_su rfl q_move z_fp z_ss ?_; refine s_wit ?_; intro z_g; (first | refine s_skip rfl z_g z_fp ?_ | (refine s_o [(5, _)] rfl z_g rfl z_su rfl q_fieldAddr z_fp z_ss ?_)); clear z_g; refine s_wit ?_; intro z_g; (first | refine s_skip rfl z_g z_fp ?_ | (refine s_o [(79, _)] rfl z_g rfl z_su rfl q_load z_fp z_ss ?_)); clear z_g; refine s_wit ?_; intro z_g; (first | refine s_skip rfl z_g z_fp ?_ | (refine s_o [(80, _)] rfl z_g rfl z_su rfl q_full z_fp z_ss ?_)); clear z_g; refine s_wit ?_; intro z_g; (first | refine s_skip rfl z_g z_fp ?_ | (refine s_o [(81, _)] rfl z_g rfl z_su rfl q_full z_fp z_ss ?_)); clear z_g; refine s_o [(78, _), (82, _)] rfl rfl rfl z_su rfl q_move z_fp z_ss ?_; refine s_o [(83, _)] rfl rfl rfl z_su rfl q_move z_fp z_ss ?_; refine s_wit ?_; intro z_g; (first | refine s_skip rfl z_g z_fp ?_ | (refine s_o [(5, _)] rfl z_g rfl z_su rfl q_fieldAddr z_fp z_ss ?_)); clear z_g; refine s_wit ?_; intro z_g; (first | refine s_skip rfl z_g z_fp ?_ | (refine s_o [(85, _)] rfl z_g rfl z_su rfl q_load z_fp z_ss ?_)); clear z_g; refine s_wit ?_; intro z_g; (first | refine s_skip rfl z_g z_fp ?_ | (refine s_o [(86, _)] rfl z_g rfl z_su rfl q_full z_fp z_ss ?_)); clear z_g; refine s_wit ?_; intro z_g; (first | refine s_skip rfl z_g z_fp ?_ | (refine s_o [(87, _)] rfl z_g rfl z_su rfl q_full z_fp z_ss ?_)); clear z_g; refine s_o [(84, _), (88, _)] rfl rfl rfl z_su rfl q_move z_fp z_ss ?_; refine s_o [(89, _)] rfl rfl rfl z_su rfl q_move z_fp z_ss ?_; exact wpS_nil ⟨rfl, rfl⟩)) z_su ?_; clear z_ex)
    (refine WpM.ret ?_; refine ⟨.inr rfl, Upd.done ?_⟩; (simp (maxSteps := 2000000) (disch := omega) [go_sem, -List.map_map, resV, resVs, resV1,]))
end Go.Proofs.Ytafeehlpmdligaa
