/- assizeref15.Spread: what follows, by sweeps. -/
import Derived.Test.YtafeehlpmdligaaOp
import Derived.Test.YtafeehlpmdligaaOnly
import Derived.Test.YtafeehlpmdligaaM17
namespace Go.Proofs.Ytafeehlpmdligaa
open Go.RowKit M
set_option linter.unusedSimpArgs false
set_option linter.unusedVariables false
/-- Is there a closed set? -/
noncomputable def closedB (cs : List (List Int)) (g : List Int) : Bool := @decide (∃ T, Closed cs g T) (Classical.propDecidable _)
theorem closedB_true {cs : List (List Int)} {g : List Int} : closedB cs g = true ↔ ∃ T, Closed cs g T := by
  unfold closedB
  exact @decide_eq_true_iff _ (Classical.propDecidable _)
theorem closedB_false {cs : List (List Int)} {g : List Int} : closedB cs g = false ↔ ¬ ∃ T, Closed cs g T := by
  unfold closedB
  rw [@decide_eq_false_iff_not _ (Classical.propDecidable _)]
theorem follows_closed (cs : List (List Int)) (c : List Int) : followsB cs c = !closedB cs (c.map (- ·)) := by
  cases h : closedB cs (c.map (- ·)) with
  | true => exact followsB_false.2 (closedB_true.1 h)
  | false => exact followsB_true.2 (closedB_false.1 h)
theorem marks_none (n : Nat) : marks n (fun _ => false) = List.replicate (n + 1) (V.d (.int .i64 0)) := by
  refine List.ext_getElem? fun i => ?_
  by_cases hi : i ≤ n
  · rw [marks_at _ hi, List.getElem?_replicate, if_pos (by omega)]
    simp [side]
  · rw [List.getElem?_eq_none (by rw [marks_len]; omega), List.getElem?_eq_none (by simp; omega)]
theorem setP_mem {K : Int → Bool} {l : Int} (h : K l = true) : setP K l = K := by
  funext x
  by_cases hx : x = l
  · subst hx; simp [setP, h]
  · simp [setP, hx]
theorem Kn.put {cs : List (List Int)} {g : List Int} {K : Int → Bool} {P q : List Int} (h : Kn cs g K P q) {l : Int} (hl0 : l ≠ 0) (hl : -4096 ≤ l ∧ l ≤ 4096) (hT : ∀ T, Closed cs g T → T l = true) (hk : K (-l) = false) :
    ∃ q', Kn cs g (setP K l) P q' ∧ SubS K (setP K l) ∧ setP K l l = true ∧ q.length ≤ q'.length ∧ (K l = false → q.length < q'.length) := by
  have := h.take hl0 hl hT
  unfold takeStep at this
  simp only [hk, Bool.false_eq_true, if_false] at this
  cases h2 : K l with
  | true =>
    simp only [h2, if_true] at this
    rw [setP_mem h2]
    exact ⟨q, this.1, this.2.1, h2, Nat.le_refl _, by simp⟩
  | false =>
    simp only [h2, Bool.false_eq_true, if_false] at this
    exact ⟨_, this.1, this.2.1, this.2.2, by simp, by simp⟩
/-- What Spread answers. -/
def SpreadR (b : Bool) (S : St) (r : V) (S' : St) : Prop := (∃ v, (v = .nil ∨ ∃ x, v = .d x) ∧ r = .tup [v, .d (.bool b)]) ∧ ∀ m k, S.get m = some k → S'.get m = some k
set_option maxHeartbeats 8000000 in
theorem spread67 (n : Nat) (a b : List (List Int)) (g : List Int) (S : St) (hn : n ≤ 4096) (ha : ∀ c ∈ a ++ b, c.length ≤ 1000000000 ∧ ∀ l ∈ c, l ≠ 0 ∧ -(n : Int) ≤ l ∧ l ≤ n) (hal : (a ++ b).length ≤ 1000000000) (hg : ∀ l ∈ g, l ≠ 0 ∧ -(n : Int) ≤ l ∧ l ≤ n) (hgl : g.length ≤ 1000000000) :
    CallM Try.prog 67 [.d (.int .i64 n), .d (cls a), .d (cls b), .d (ints g)] S fun r S' => SpreadR (closedB (a ++ b) g) S r S' := by
  refine CallM.start (n := 103) Try.func67 rfl rfl (by simp) (by simp only [argL, Nat.reduceAdd] <;> rfl) ?_
  intro hH
  unfold SpreadR
  obtain ⟨H, hHe⟩ : ∃ H, H = S.get := ⟨_, rfl⟩
  obtain ⟨n0, hne⟩ : ∃ n0, n0 = S.next := ⟨_, rfl⟩
  rw [← hHe, ← hne] at hH ⊢
  ((repeat refine WpM.seq ?_); have z_ex := True.intro; refine WpM.regPE [] [(0, _), (1, _), (2, _), (3, _)] (by (refine s_o [] rfl rfl rfl z_su rfl q_move z_fp z_ss ?_; refine s_o [] rfl rfl rfl z_su rfl q_move z_fp z_ss ?_; exact wpS_nil ⟨rfl, rfl⟩)) z_su ?_; clear z_ex)
  ((repeat refine WpM.seq ?_); have z_ex := (And.intro @wrap_id (And.intro @wrap_p1 True.intro)); refine WpM.regPE [] [(0, _), (1, _), (2, _), (3, _), (10, _)] (by (refine s_o [(0, _)] rfl rfl rfl z_su rfl q_move z_fp z_ss ?_; refine s_o [(19, _)] rfl rfl rfl z_su rfl q_full z_fp z_ss ?_; refine s_o [(20, _)] rfl rfl rfl z_su rfl q_full z_fp z_ss ?_; refine s_o [(21, _)] rfl rfl rfl z_su rfl q_move z_fp z_ss ?_; exact wpS_nil ⟨rfl, rfl⟩)) z_su ?_; clear z_ex)
  ((repeat refine WpM.seq ?_); have z_ex := True.intro; refine WpM.regPE [] [(0, _), (1, _), (2, _), (3, _), (10, _), (11, _)] (by (refine s_o [] rfl rfl rfl z_su rfl q_move z_fp z_ss ?_; exact wpS_nil ⟨rfl, rfl⟩)) z_su ?_; clear z_ex)
  ((repeat refine WpM.seq ?_); refine WpM.block ?_)
  refine WpM.norm ?_
  intro nx0 G0 hnx0 hG0 hk0
  have nm0 : G0 (n0 + 4) = some (.row 1 (marks n fun _ => false)) := by rw [hG0, marks_none]; (simp (maxSteps := 2000000) (disch := omega) [go_sem, -List.map_map])
  have kp0 : ∀ m k, H m = some k → G0 m = some k := by
    intro m k hm
    have := hH _ _ hm
    rw [hG0]
    (simp (maxSteps := 2000000) (disch := omega) [go_sem, -List.map_map, hm])
  clear hG0 hnx0 hk0
  refine WpM.loop (fun (j : Nat) fr S => j ≤ g.length ∧ ∃ K q nx G, S = ⟨nx, [], G⟩ ∧ (∀ m k, H m = some k → G m = some k) ∧ G (n0 + 4) = some (.row 1 (marks n K)) ∧ Kn (a ++ b) g K [] q ∧ (∀ x ∈ g.take j, K x = true) ∧
      fr = frOf [(0, .d (.int .i64 n)), (1, .d (cls a)), (2, .d (cls b)), (3, .d (ints g)), (10, .ms (n0 + 4) 1 0 (n + 1)), (11, .d (.int .i64 j))]) (fun j => g.length - j) 0 (St.Le.refl _) (frLe_frOf (by (simp (maxSteps := 2000000) (disch := omega) [go_sem, -List.map_map]))) ⟨by omega, _, [], _, _, rfl, kp0, nm0, Kn.start _ _, by simp, rfl⟩ ?_
  clear nm0 kp0
  rintro j fr S' ⟨hj, K, q, nx, G, rfl, kp, nmk, hK, hdone, rfl⟩
  ((repeat refine WpM.seq ?_); have z_ex := (And.intro @ints.eq_1 True.intro); refine WpM.regPE [] [(0, _), (1, _), (2, _), (3, _), (10, _), (11, _), (25, _)] (by (refine s_o [(11, _)] rfl rfl rfl z_su rfl q_move z_fp z_ss ?_; refine s_o [(3, _)] rfl rfl rfl z_su rfl q_move z_fp z_ss ?_; refine s_o [(23, _)] rfl rfl rfl z_su rfl q_full z_fp z_ss ?_; refine s_o [(22, _), (24, _)] rfl rfl rfl z_su rfl q_full z_fp z_ss ?_; exact wpS_nil ⟨rfl, rfl⟩)) z_su ?_; clear z_ex)
  by_cases hlt : j < g.length
  · ((repeat refine WpM.seq ?_); refine WpM.condT (by (simp (maxSteps := 2000000) (disch := omega) [go_sem, -List.map_map, hlt])) ?_)
    refine WpM.skip ?_
    ((repeat refine WpM.seq ?_); refine WpM.block ?_)
    have hgm : g[j] ∈ g := List.getElem_mem _
    obtain ⟨hl0, hl1, hl2⟩ := hg g[j] hgm
    have htk : g.take (j + 1) = g.take j ++ [g[j]] := List.take_succ_eq_append_getElem hlt
    obtain ⟨l, hle⟩ : ∃ l, l = g[j] := ⟨_, rfl⟩
    have hget : (g.map (D.int .i64))[j]? = some (.int .i64 l) := by simp [hlt, hle]
    rw [← hle] at hl0 hl1 hl2 htk hgm
    have hT := hK.take hl0 ⟨by omega, by omega⟩ (fun T hT => hT.has _ hgm)
    have hC := fun nx => put76 n K l hn hl0 ⟨hl1, hl2⟩ (hK.apart l) (n0 + 4) ⟨nx, [], G⟩ nmk
    cases hkl : K (-l) with
    | true =>
      simp only [hkl, Bool.not_true, if_true, takeStep] at hC hT
      have hcl : closedB (a ++ b) g = false := closedB_false.2 hT
      ((repeat refine WpM.seq ?_); have z_ex := (And.intro @hget (And.intro @ints.eq_1 True.intro)); refine WpM.regP [] ?_; intro K hK; refine s_o [(10, _)] rfl rfl rfl z_su rfl q_move z_fp z_ss ?_; refine s_o [(3, _)] rfl rfl rfl z_su rfl q_move z_fp z_ss ?_; refine s_o [(11, _)] rfl rfl rfl z_su rfl q_move z_fp z_ss ?_; refine s_o [(29, _), (30, _)] rfl rfl rfl z_su rfl q_full z_fp z_ss ?_; refine s_o [(31, _)] rfl rfl rfl z_su rfl q_load z_fp z_ss ?_; refine s_call (callOf_eq rfl rfl rfl (mlk_tmp z_lk (mlk_tmp z_lk mlk_nil))) (hC _) rfl rfl z_ip ?_; rintro _ _ ⟨rfl, _, kp', _⟩; refine s_put z_fp ?_; refine s_o [(33, _)] rfl rfl rfl z_su rfl q_unOp z_fp z_ss ?_; refine s_endE [(0, _), (1, _), (2, _), (3, _), (10, _), (11, _), (34, _)] hK z_su ?_; clear hK K; clear z_ex)
      ((repeat refine WpM.seq ?_); refine WpM.condT (by (simp (maxSteps := 2000000) (disch := omega) [go_sem, -List.map_map])) ?_)
      ((repeat refine WpM.seq ?_); have z_ex := True.intro; refine WpM.regPE [] [(8, _), (9, _)] (by (refine s_o [] rfl rfl rfl z_su rfl q_move z_fp z_ss ?_; refine s_o [] rfl rfl rfl z_su rfl q_move z_fp z_ss ?_; exact wpS_nil ⟨rfl, rfl⟩)) z_su ?_; clear z_ex)
      refine WpM.ret ?_
      exact ⟨.inr rfl, Upd.done ⟨.tup [.nil, .d (.bool false)], (by (simp (maxSteps := 2000000) (disch := omega) [go_sem, -List.map_map, resV, resVs, resV1])), ⟨.nil, .inl rfl, by rw [hcl]⟩, fun m k hm => kp' m k (by rintro rfl; have := hH _ _ hm; omega) (kp m k hm)⟩⟩
    | false =>
      simp only [hkl, Bool.not_false, Bool.false_eq_true, if_false] at hC
      obtain ⟨q', hK', hsub, hin, _⟩ := hK.put hl0 ⟨by omega, by omega⟩ (fun T hT => hT.has _ hgm) hkl
      ((repeat refine WpM.seq ?_); have z_ex := (And.intro @hget (And.intro @ints.eq_1 True.intro)); refine WpM.regP [] ?_; intro K hK; refine s_o [(10, _)] rfl rfl rfl z_su rfl q_move z_fp z_ss ?_; refine s_o [(3, _)] rfl rfl rfl z_su rfl q_move z_fp z_ss ?_; refine s_o [(11, _)] rfl rfl rfl z_su rfl q_move z_fp z_ss ?_; refine s_o [(29, _), (30, _)] rfl rfl rfl z_su rfl q_full z_fp z_ss ?_; refine s_o [(31, _)] rfl rfl rfl z_su rfl q_load z_fp z_ss ?_; refine s_call (callOf_eq rfl rfl rfl (mlk_tmp z_lk (mlk_tmp z_lk mlk_nil))) (hC _) rfl rfl z_ip ?_; rintro _ _ ⟨rfl, _, kp', nm'⟩; refine s_put z_fp ?_; refine s_o [(33, _)] rfl rfl rfl z_su rfl q_unOp z_fp z_ss ?_; refine s_endE [(0, _), (1, _), (2, _), (3, _), (10, _), (11, _), (34, _)] hK z_su ?_; clear hK K; clear z_ex)
      ((repeat refine WpM.seq ?_); refine WpM.condF (by (simp (maxSteps := 2000000) (disch := omega) [go_sem, -List.map_map])) ?_)
      refine WpM.skip ?_
      refine WpM.norm ?_
      intro nx1 G1 hnx1 hG1 hk1
      have nm1 : G1 (n0 + 4) = some (.row 1 (marks n (setP K l))) := by rw [hG1]; exact nm'
      have kp1 : ∀ m k, H m = some k → G1 m = some k := fun m k hm => by rw [hG1]; exact kp' m k (by rintro rfl; have := hH _ _ hm; omega) (kp m k hm)
      clear hG1 hnx1 hk1 kp' nm'
      ((repeat refine WpM.seq ?_); have z_ex := (And.intro @wrap_id True.intro); refine WpM.regPE [] [(0, _), (1, _), (2, _), (3, _), (10, _), (11, _)] (by (refine s_o [(11, _)] rfl rfl rfl z_su rfl q_move z_fp z_ss ?_; refine s_o [(26, _)] rfl rfl rfl z_su rfl q_full z_fp z_ss ?_; refine s_o [(27, _)] rfl rfl rfl z_su rfl q_move z_fp z_ss ?_; exact wpS_nil ⟨rfl, rfl⟩)) z_su ?_; clear z_ex)
      refine round_end (x' := j + 1) (St.Le.refl _) (frLe_frOf (by (simp (maxSteps := 2000000) (disch := omega) [go_sem, -List.map_map, wrap_id]))) ⟨by omega, _, q', _, _, rfl, kp1, nm1, hK', ?_, rfl⟩ (by omega)
      intro x hx
      rw [htk, List.mem_append, List.mem_singleton] at hx
      rcases hx with hx | rfl
      · exact hsub _ (hdone x hx)
      · exact hin
  · ((repeat refine WpM.seq ?_); refine WpM.condF (by (simp (maxSteps := 2000000) (disch := omega) [go_sem, -List.map_map, hlt])) ?_)
    (refine WpM.exit ?_; (repeat (with_reducible (first | refine thenM_exit ?_ | refine blockM_eq ?_ | refine blockM_ne (by decide) ?_))))
    obtain rfl : j = g.length := by omega
    rw [List.take_length] at hdone
    ((repeat refine WpM.seq ?_); have z_ex := True.intro; refine WpM.regPE [] [(0, _), (1, _), (2, _), (10, _), (12, _)] (by (refine s_o [] rfl rfl rfl z_su rfl q_move z_fp z_ss ?_; exact wpS_nil ⟨rfl, rfl⟩)) z_su ?_; clear z_ex)
    ((repeat refine WpM.seq ?_); refine WpM.block ?_)
    refine WpM.loop (fun (x : Bool × List Int) fr S => ∃ K nx G, S = ⟨nx, [], G⟩ ∧ (∀ m k, H m = some k → G m = some k) ∧ G (n0 + 4) = some (.row 1 (marks n K)) ∧ Kn (a ++ b) g K [] x.2 ∧ (∀ x ∈ g, K x = true) ∧ (x.1 = false → ∀ c ∈ a ++ b, Looked K K c) ∧
        fr = frOf [(0, .d (.int .i64 n)), (1, .d (cls a)), (2, .d (cls b)), (10, .ms (n0 + 4) 1 0 (n + 1)), (12, .d (.bool x.1))]) (fun x => 2 * (9000 - x.2.length) + x.1.toNat) (true, q) (St.Le.refl _) (frLe_frOf (by (simp (maxSteps := 2000000) (disch := omega) [go_sem, -List.map_map]))) ⟨K, _, _, rfl, kp, nmk, hK, hdone, by simp, rfl⟩ ?_
    clear kp nmk hK hdone hlt hj
    clear K q nx G
    rintro ⟨t, q⟩ fr S' ⟨K, nx, G, rfl, kp, nmk, hK, hdone, hall, rfl⟩
    simp only at hK hall
    ((repeat refine WpM.seq ?_); have z_ex := True.intro; refine WpM.regPE [] [(0, _), (1, _), (2, _), (10, _), (35, _)] (by (refine s_o [(12, _)] rfl rfl rfl z_su rfl q_move z_fp z_ss ?_; exact wpS_nil ⟨rfl, rfl⟩)) z_su ?_; clear z_ex)
    cases t with
    | false =>
      ((repeat refine WpM.seq ?_); refine WpM.condF (by (simp (maxSteps := 2000000) (disch := omega) [go_sem, -List.map_map])) ?_)
      (refine WpM.exit ?_; (repeat (with_reducible (first | refine thenM_exit ?_ | refine blockM_eq ?_ | refine blockM_ne (by decide) ?_))))
      have hall := hall rfl
      have hcl : closedB (a ++ b) g = true := closedB_true.2 ⟨K, hK.apart, hdone, fun c hc => hall c hc⟩
      rw [hcl]
      clear hall hdone hcl
      ((repeat refine WpM.seq ?_); have z_ex := True.intro; refine WpM.regPE [] [(0, _), (10, _), (17, _)] (by (refine s_o [] rfl rfl rfl z_su rfl q_move z_fp z_ss ?_; exact wpS_nil ⟨rfl, rfl⟩)) z_su ?_; clear z_ex)
      refine WpM.known fun hGk => ?_
      have hnm4 := hGk _ _ nmk
      simp only at hnm4
      refine Upd.wp (Upd.ghost 17 1 (.inl (by (simp (maxSteps := 2000000) (disch := omega) [go_sem, -List.map_map]))) (Upd.done ?_))
      refine WpM.norm ?_
      intro nx1 G1 hnx1 hG1 hk1
      have nm1 : G1 (n0 + 4) = some (.row 1 (marks n K)) := by rw [hG1]; (simp (maxSteps := 2000000) (disch := omega) [go_sem, -List.map_map, nmk])
      have no1 : G1 (nx + 2) = some (.row 1 []) := by rw [hG1]; (simp (maxSteps := 2000000) (disch := omega) [go_sem, -List.map_map])
      have kp1 : ∀ m k, H m = some k → G1 m = some k := by
        intro m k hm
        have := hH _ _ hm
        have h9 := kp _ _ hm
        rw [hG1]
        (simp (maxSteps := 2000000) (disch := omega) [go_sem, -List.map_map, h9])
      clear hG1 hnx1 hk1 hGk nmk kp
      refine WpM.less (St.Le.refl _) (frLe_frOf (l := [(0, .d (.int .i64 n)), (10, .ms (n0 + 4) 1 0 (n + 1)), (17, .ms (nx + 2) 1 0 0)]) (by (simp (maxSteps := 2000000) (disch := omega) [go_sem, -List.map_map, fset]))) ?_
      ((repeat refine WpM.seq ?_); have z_ex := True.intro; refine WpM.regPE [] [(0, _), (10, _), (17, _), (18, _)] (by (refine s_o [] rfl rfl rfl z_su rfl q_move z_fp z_ss ?_; exact wpS_nil ⟨rfl, rfl⟩)) z_su ?_; clear z_ex)
      ((repeat refine WpM.seq ?_); refine WpM.block ?_)
      refine WpM.loop (fun (j : Nat) fr S => j ≤ n ∧ ∃ ds nmo nx G, S = ⟨nx, [], G⟩ ∧ (∀ m k, H m = some k → G m = some k) ∧ G (n0 + 4) = some (.row 1 (marks n K)) ∧ n0 ≤ nmo ∧ nmo ≠ n0 + 4 ∧ G nmo = some (.row 1 (ds.map lit)) ∧ ds.length ≤ j ∧
          fr = frOf [(0, .d (.int .i64 n)), (10, .ms (n0 + 4) 1 0 (n + 1)), (17, .ms nmo 1 0 ds.length), (18, .d (.int .i64 ((j : Int) + 1)))]) (fun j => n - j) 0 (St.Le.refl _) (frLe_frOf (by (simp (maxSteps := 2000000) (disch := omega) [go_sem, -List.map_map]))) ⟨by omega, [], nx + 2, _, _, rfl, kp1, nm1, by omega, by omega, no1, Nat.le_refl _, rfl⟩ ?_
      clear kp1 nm1 no1 hnm4
      rintro j fr S' ⟨hj, ds, nmo, nx, G, rfl, kp, nmk, hno, hne4, nok, hdl, rfl⟩
      refine WpM.known fun hGk => ?_
      have hnm4 := hGk _ _ nmk
      have hnmo := hGk _ _ nok
      simp only at hnm4 hnmo
      ((repeat refine WpM.seq ?_); have z_ex := True.intro; refine WpM.regPE [] [(0, _), (10, _), (17, _), (18, _), (85, _)] (by (refine s_o [(18, _)] rfl rfl rfl z_su rfl q_move z_fp z_ss ?_; refine s_o [(0, _)] rfl rfl rfl z_su rfl q_move z_fp z_ss ?_; refine s_o [(83, _), (84, _)] rfl rfl rfl z_su rfl q_full z_fp z_ss ?_; exact wpS_nil ⟨rfl, rfl⟩)) z_su ?_; clear z_ex)
      by_cases hlt : j < n
      · have hlt' : (j : Int) + 1 ≤ n := by omega
        ((repeat refine WpM.seq ?_); refine WpM.condT (by (simp (maxSteps := 2000000) (disch := omega) [go_sem, -List.map_map, hlt'])) ?_)
        refine WpM.skip ?_
        ((repeat refine WpM.seq ?_); refine WpM.block ?_)
        have hget : (marks n K)[j + 1]? = some (.d (.int .i64 (side K (j + 1)))) := marks_at K (by omega)
        have htn : ((j : Int) + 1).toNat = j + 1 := by omega
        ((repeat refine WpM.seq ?_); have z_ex := (And.intro @nmk (And.intro @hget (And.intro @htn True.intro))); refine WpM.regPE [] [(0, _), (10, _), (17, _), (18, _), (92, _)] (by (refine s_o [(10, _)] rfl rfl rfl z_su rfl q_move z_fp z_ss ?_; refine s_o [(18, _)] rfl rfl rfl z_su rfl q_move z_fp z_ss ?_; refine s_o [(88, _), (89, _)] rfl rfl rfl z_su rfl q_full z_fp z_ss ?_; refine s_o [(90, _)] rfl rfl rfl z_su rfl q_load z_fp z_ss ?_; refine s_o [(91, _)] rfl rfl rfl z_su rfl q_full z_fp z_ss ?_; exact wpS_nil ⟨rfl, rfl⟩)) z_su ?_; clear z_ex)
        by_cases hs : side K (j + 1) = 0
        · ((repeat refine WpM.seq ?_); refine WpM.condF (by (simp (maxSteps := 2000000) (disch := omega) [go_sem, -List.map_map, hs])) ?_)
          refine WpM.skip ?_
          ((repeat refine WpM.seq ?_); have z_ex := (And.intro @wrap_id True.intro); refine WpM.regPE [] [(0, _), (10, _), (17, _), (18, _)] (by (refine s_o [(18, _)] rfl rfl rfl z_su rfl q_move z_fp z_ss ?_; refine s_o [(86, _)] rfl rfl rfl z_su rfl q_full z_fp z_ss ?_; refine s_o [(87, _)] rfl rfl rfl z_su rfl q_move z_fp z_ss ?_; exact wpS_nil ⟨rfl, rfl⟩)) z_su ?_; clear z_ex)
          exact round_end (x' := j + 1) (St.Le.refl _) (frLe_frOf (by (simp (maxSteps := 2000000) (disch := omega) [go_sem, -List.map_map, wrap_id]))) ⟨by omega, ds, nmo, _, _, rfl, kp, nmk, hno, hne4, nok, by omega, rfl⟩ (by omega)
        · have htk : (ds.map lit).take ds.length = ds.map lit := List.take_of_length_le (by simp)
          ((repeat refine WpM.seq ?_); refine WpM.condT (by (simp (maxSteps := 2000000) (disch := omega) [go_sem, -List.map_map, hs])) ?_)
          ((repeat refine WpM.seq ?_); have z_ex := (And.intro @nmk (And.intro @nok (And.intro @hget (And.intro @htn (And.intro @htk True.intro))))); refine WpM.regPE [] [(0, _), (10, _), (17, _), (18, _)] (by (refine s_o [(17, _)] rfl rfl rfl z_su rfl q_move z_fp z_ss ?_; refine s_o [(18, _)] rfl rfl rfl z_su rfl q_move z_fp z_ss ?_; refine s_o [(10, _)] rfl rfl rfl z_su rfl q_move z_fp z_ss ?_; refine s_o [(18, _)] rfl rfl rfl z_su rfl q_move z_fp z_ss ?_; refine s_o [(95, _), (96, _)] rfl rfl rfl z_su rfl q_full z_fp z_ss ?_; refine s_o [(97, _)] rfl rfl rfl z_su rfl q_load z_fp z_ss ?_; refine s_o [(94, _), (98, _)] rfl rfl rfl z_su rfl q_full z_fp z_ss ?_; refine s_o [(99, _)] rfl rfl rfl z_su rfl q_full z_fp z_ss ?_; refine s_o [(93, _), (100, _)] rfl rfl rfl z_su rfl q_full z_fp z_ss ?_; refine s_o [(101, _)] rfl rfl rfl z_su rfl q_move z_fp z_ss ?_; exact wpS_nil ⟨rfl, rfl⟩)) z_su ?_; clear z_ex)
          refine WpM.norm ?_
          intro nx1 G1 hnx1 hG1 hk1
          have nm1 : G1 (n0 + 4) = some (.row 1 (marks n K)) := by rw [hG1]; (simp (maxSteps := 2000000) (disch := omega) [go_sem, -List.map_map, nmk, hne4, Ne.symm hne4])
          have no1 : G1 (nx + 16) = some (.row 1 ((ds ++ [IntKind.i64.wrap (((j : Int) + 1) * side K (j + 1))]).map lit)) := by rw [hG1, List.map_append, ← htk]; (simp (maxSteps := 2000000) (disch := omega) [go_sem, -List.map_map, lit])
          have kp1 : ∀ m k, H m = some k → G1 m = some k := by
            intro m k hm
            have h8 := hH _ _ hm
            have h9 := kp _ _ hm
            rw [hG1]
            (simp (maxSteps := 2000000) (disch := omega) [go_sem, -List.map_map, h9])
          clear hG1 hnx1 hk1
          ((repeat refine WpM.seq ?_); have z_ex := (And.intro @wrap_id True.intro); refine WpM.regPE [] [(0, _), (10, _), (17, _), (18, _)] (by (refine s_o [(18, _)] rfl rfl rfl z_su rfl q_move z_fp z_ss ?_; refine s_o [(86, _)] rfl rfl rfl z_su rfl q_full z_fp z_ss ?_; refine s_o [(87, _)] rfl rfl rfl z_su rfl q_move z_fp z_ss ?_; exact wpS_nil ⟨rfl, rfl⟩)) z_su ?_; clear z_ex)
          exact round_end (x' := j + 1) (St.Le.refl _) (frLe_frOf (by (simp (maxSteps := 2000000) (disch := omega) [go_sem, -List.map_map, wrap_id]))) ⟨by omega, _, nx + 16, _, _, rfl, kp1, nm1, by omega, by omega, no1, by simp; omega, rfl⟩ (by omega)
      · have hlt' : ¬ ((j : Int) + 1 ≤ n) := by omega
        ((repeat refine WpM.seq ?_); refine WpM.condF (by (simp (maxSteps := 2000000) (disch := omega) [go_sem, -List.map_map, hlt'])) ?_)
        (refine WpM.exit ?_; (repeat (with_reducible (first | refine thenM_exit ?_ | refine blockM_eq ?_ | refine blockM_ne (by decide) ?_))))
        ((repeat refine WpM.seq ?_); have z_ex := True.intro; refine WpM.regPE [] [(8, _), (9, _)] (by (refine s_o [(17, _)] rfl rfl rfl z_su rfl q_move z_fp z_ss ?_; refine s_o [(102, _)] rfl rfl rfl z_su rfl q_move z_fp z_ss ?_; refine s_o [] rfl rfl rfl z_su rfl q_move z_fp z_ss ?_; exact wpS_nil ⟨rfl, rfl⟩)) z_su ?_; clear z_ex)
        refine WpM.ret ?_
        refine ⟨.inr rfl, Upd.freeze 8 (nm := nmo) (sz := 1) (o := 0) (m := ds.length) (xs := ds.map lit) (ds.map (D.int .i64)) (by (simp (maxSteps := 2000000) (disch := omega) [go_sem, -List.map_map])) (by (simp (maxSteps := 2000000) (disch := omega) [go_sem, -List.map_map, nok])) (by rw [List.drop_zero, List.take_of_length_le (by simp), List.map_map]; rfl) (by simp) (Upd.done ⟨.tup [.d (.sl (ds.map (D.int .i64))), .d (.bool true)], (by (simp (maxSteps := 2000000) (disch := omega) [go_sem, -List.map_map, resV, resVs, resV1])), ⟨_, .inr ⟨_, rfl⟩, rfl⟩, fun m k hm => ?_⟩)⟩
        have hmn := hH _ _ hm
        have h9 := kp _ _ hm
        (simp (maxSteps := 2000000) (disch := omega) [go_sem, -List.map_map, h9])
    | true =>
      ((repeat refine WpM.seq ?_); refine WpM.condT (by (simp (maxSteps := 2000000) (disch := omega) [go_sem, -List.map_map])) ?_)
      refine WpM.skip ?_
      ((repeat refine WpM.seq ?_); refine WpM.block ?_)
      ((repeat refine WpM.seq ?_); have z_ex := True.intro; refine WpM.regPE [] [(0, _), (1, _), (2, _), (10, _), (12, _)] (by (refine s_o [] rfl rfl rfl z_su rfl q_move z_fp z_ss ?_; exact wpS_nil ⟨rfl, rfl⟩)) z_su ?_; clear z_ex)
      ((repeat refine WpM.seq ?_); have z_ex := True.intro; refine WpM.regPE [] [(0, _), (1, _), (2, _), (10, _), (12, _), (13, _)] (by (refine s_o [] rfl rfl rfl z_su rfl q_move z_fp z_ss ?_; exact wpS_nil ⟨rfl, rfl⟩)) z_su ?_; clear z_ex)
      ((repeat refine WpM.seq ?_); refine WpM.block ?_)
      refine WpM.loop (fun (i : Nat) fr S => i ≤ (a ++ b).length ∧ ∃ t q' K nx G, S = ⟨nx, [], G⟩ ∧ (∀ m k, H m = some k → G m = some k) ∧ G (n0 + 4) = some (.row 1 (marks n K)) ∧ Kn (a ++ b) g K [] q' ∧ (∀ x ∈ g, K x = true) ∧ (t = false → ∀ c ∈ (a ++ b).take i, Looked K K c) ∧ q.length ≤ q'.length ∧ (t = true → q.length < q'.length) ∧
          fr = frOf [(0, .d (.int .i64 n)), (1, .d (cls a)), (2, .d (cls b)), (10, .ms (n0 + 4) 1 0 (n + 1)), (12, .d (.bool t)), (13, .d (.int .i64 i))]) (fun i => (a ++ b).length - i) 0 (St.Le.refl _) (frLe_frOf (by (simp (maxSteps := 2000000) (disch := omega) [go_sem, -List.map_map]))) ⟨by omega, false, q, K, _, _, rfl, kp, nmk, hK, hdone, by simp, Nat.le_refl _, by simp, rfl⟩ ?_
      clear kp nmk hdone hall
      have hqr := hK.len
      clear hK
      clear K nx G
      rintro i fr S' ⟨hi, t, q', K, nx, G, rfl, kp, nmk, hK, hdone, hall, hq1, hq2, rfl⟩
      have hq' := hK.len
      simp only [List.length_nil, Nat.zero_add] at hqr hq'
      have hab : (a ++ b).length = a.length + b.length := List.length_append
      ((repeat refine WpM.seq ?_); have z_ex := (And.intro @cls.eq_1 (And.intro @wrap_id True.intro)); refine WpM.regPE [] [(0, _), (1, _), (2, _), (10, _), (12, _), (13, _), (42, _)] (by (refine s_o [(13, _)] rfl rfl rfl z_su rfl q_move z_fp z_ss ?_; refine s_o [(1, _)] rfl rfl rfl z_su rfl q_move z_fp z_ss ?_; refine s_o [(37, _)] rfl rfl rfl z_su rfl q_full z_fp z_ss ?_; refine s_o [(2, _)] rfl rfl rfl z_su rfl q_move z_fp z_ss ?_; refine s_o [(39, _)] rfl rfl rfl z_su rfl q_full z_fp z_ss ?_; refine s_o [(38, _), (40, _)] rfl rfl rfl z_su rfl q_full z_fp z_ss ?_; refine s_o [(36, _), (41, _)] rfl rfl rfl z_su rfl q_full z_fp z_ss ?_; exact wpS_nil ⟨rfl, rfl⟩)) z_su ?_; clear z_ex)
      by_cases hlt : i < (a ++ b).length
      · have hlt' : (i : Int) < a.length + b.length := by omega
        ((repeat refine WpM.seq ?_); refine WpM.condT (by (simp (maxSteps := 2000000) (disch := omega) [go_sem, -List.map_map, hlt'])) ?_)
        refine WpM.skip ?_
        ((repeat refine WpM.seq ?_); refine WpM.block ?_)
        have hcm : (a ++ b)[i] ∈ a ++ b := List.getElem_mem _
        have htk : (a ++ b).take (i + 1) = (a ++ b).take i ++ [(a ++ b)[i]] := List.take_succ_eq_append_getElem hlt
        have hga : (a ++ b)[i]? = some (a ++ b)[i] := by simp
        obtain ⟨c, hce⟩ : ∃ c, c = (a ++ b)[i] := ⟨_, rfl⟩
        rw [← hce] at hcm htk hga
        clear hce
        obtain ⟨hcl, hcn⟩ := ha c hcm
        have hcn' : ∀ l ∈ c, l ≠ 0 ∧ -4096 ≤ l ∧ l ≤ 4096 := fun l hl => by have := hcn l hl; omega
        have hc0 : ∀ l ∈ c, l ≠ 0 := fun l hl => (hcn l hl).1
        ((repeat refine WpM.seq ?_); have z_ex := True.intro; refine WpM.regPE [] [(0, _), (1, _), (2, _), (10, _), (12, _), (13, _)] (by (refine s_o [] rfl rfl rfl z_su rfl q_move z_fp z_ss ?_; exact wpS_nil ⟨rfl, rfl⟩)) z_su ?_; clear z_ex)
        ((repeat refine WpM.seq ?_); have z_ex := (And.intro @cls.eq_1 True.intro); refine WpM.regPE [] [(0, _), (1, _), (2, _), (10, _), (12, _), (13, _), (48, _)] (by (refine s_o [(13, _)] rfl rfl rfl z_su rfl q_move z_fp z_ss ?_; refine s_o [(1, _)] rfl rfl rfl z_su rfl q_move z_fp z_ss ?_; refine s_o [(46, _)] rfl rfl rfl z_su rfl q_full z_fp z_ss ?_; refine s_o [(45, _), (47, _)] rfl rfl rfl z_su rfl q_full z_fp z_ss ?_; exact wpS_nil ⟨rfl, rfl⟩)) z_su ?_; clear z_ex)
        refine WpM.meet (frOf [(0, .d (.int .i64 n)), (1, .d (cls a)), (2, .d (cls b)), (10, .ms (n0 + 4) 1 0 (n + 1)), (12, .d (.bool t)), (13, .d (.int .i64 i)), (14, .d (ints c))]) ⟨nx + 30, [], G⟩ ?_ ?_
        · by_cases hia : i < a.length
          · have hget : (a.map ints)[i]? = some (ints c) := by
              rw [List.getElem?_append_left hia] at hga
              rw [List.getElem?_map, hga]; rfl
            ((repeat refine WpM.seq ?_); refine WpM.condT (by (simp (maxSteps := 2000000) (disch := omega) [go_sem, -List.map_map, hia])) ?_)
            ((repeat refine WpM.seq ?_); have z_ex := (And.intro @cls.eq_1 (And.intro @hget (And.intro @ints.eq_1 True.intro))); refine WpM.regPE [] [(0, _), (1, _), (2, _), (10, _), (12, _), (13, _), (14, _)] (by (refine s_o [(1, _)] rfl rfl rfl z_su rfl q_move z_fp z_ss ?_; refine s_o [(13, _)] rfl rfl rfl z_su rfl q_move z_fp z_ss ?_; refine s_o [(49, _), (50, _)] rfl rfl rfl z_su rfl q_full z_fp z_ss ?_; refine s_o [(51, _)] rfl rfl rfl z_su rfl q_load z_fp z_ss ?_; refine s_o [(52, _)] rfl rfl rfl z_su rfl q_move z_fp z_ss ?_; exact wpS_nil ⟨rfl, rfl⟩)) z_su ?_; clear z_ex)
            exact ⟨rfl, frLe_frOf (by (simp (maxSteps := 2000000) (disch := omega) [go_sem, -List.map_map, ints])), by show _ ≤ nx + 30; simp, fun m k h => h⟩
          · have hget : (b.map ints)[i - a.length]? = some (ints c) := by
              rw [List.getElem?_append_right (by omega)] at hga
              rw [List.getElem?_map, hga]; rfl
            have hcast : ((i : Int) - (a.length : Int)) = ((i - a.length : Nat) : Int) := by omega
            ((repeat refine WpM.seq ?_); refine WpM.condF (by (simp (maxSteps := 2000000) (disch := omega) [go_sem, -List.map_map, hia])) ?_)
            ((repeat refine WpM.seq ?_); have z_ex := (And.intro @cls.eq_1 (And.intro @hcast (And.intro @hget (And.intro @wrap_id (And.intro @ints.eq_1 True.intro))))); refine WpM.regPE [] [(0, _), (1, _), (2, _), (10, _), (12, _), (13, _), (14, _)] (by (refine s_o [(2, _)] rfl rfl rfl z_su rfl q_move z_fp z_ss ?_; refine s_o [(13, _)] rfl rfl rfl z_su rfl q_move z_fp z_ss ?_; refine s_o [(1, _)] rfl rfl rfl z_su rfl q_move z_fp z_ss ?_; refine s_o [(55, _)] rfl rfl rfl z_su rfl q_full z_fp z_ss ?_; refine s_o [(54, _), (56, _)] rfl rfl rfl z_su rfl q_full z_fp z_ss ?_; refine s_o [(53, _), (57, _)] rfl rfl rfl z_su rfl q_full z_fp z_ss ?_; refine s_o [(58, _)] rfl rfl rfl z_su rfl q_load z_fp z_ss ?_; refine s_o [(59, _)] rfl rfl rfl z_su rfl q_move z_fp z_ss ?_; exact wpS_nil ⟨rfl, rfl⟩)) z_su ?_; clear z_ex)
            exact ⟨rfl, frLe_frOf (by (simp (maxSteps := 2000000) (disch := omega) [go_sem, -List.map_map, ints])), by show _ ≤ nx + 30; simp, fun m k h => h⟩
        intro fr' S' hf hS
        refine WpM.less hS hf ?_
        clear hf hS fr' S' hga hab hlt'
        have hO := fun nx => only77 n K c hn hcn hcl hK.apart (n0 + 4) ⟨nx, [], G⟩ nmk
        cases hs : scan K 0 c with
        | none =>
          rw [hs] at hO
          simp only [onlyV] at hO
          ((repeat refine WpM.seq ?_); have z_ex := True.intro; refine WpM.regPE [] [(0, _), (1, _), (2, _), (10, _), (12, _), (13, _), (15, _), (16, _)] (by (refine s_o [(14, _)] rfl rfl rfl z_su rfl q_move z_fp z_ss ?_; refine s_o [(10, _)] rfl rfl rfl z_su rfl q_move z_fp z_ss ?_; refine s_at (callOf_eq rfl rfl rfl (mlk_tmp z_lk (mlk_tmp z_lk mlk_nil))) (hO _) rfl rfl z_ip z_fp ?_; refine s_o [(63, _)] rfl rfl rfl z_su rfl q_move z_fp z_ss ?_; refine s_o [(60, _)] rfl rfl rfl z_su rfl q_extract z_fp z_ss ?_; refine s_o [(60, _)] rfl rfl rfl z_su rfl q_extract z_fp z_ss ?_; refine s_o [(64, _)] rfl rfl rfl z_su rfl q_move z_fp z_ss ?_; refine s_o [(65, _)] rfl rfl rfl z_su rfl q_move z_fp z_ss ?_; exact wpS_nil ⟨rfl, rfl⟩)) z_su ?_; clear z_ex)
          ((repeat refine WpM.seq ?_); have z_ex := True.intro; refine WpM.regPE [] [(0, _), (1, _), (2, _), (10, _), (12, _), (13, _), (15, _), (16, _), (67, _)] (by (refine s_o [(16, _)] rfl rfl rfl z_su rfl q_move z_fp z_ss ?_; refine s_o [(66, _)] rfl rfl rfl z_su rfl q_full z_fp z_ss ?_; exact wpS_nil ⟨rfl, rfl⟩)) z_su ?_; clear z_ex)
          ((repeat refine WpM.seq ?_); refine WpM.condF (by (simp (maxSteps := 2000000) (disch := omega) [go_sem, -List.map_map])) ?_)
          refine WpM.skip ?_
          ((repeat refine WpM.seq ?_); have z_ex := True.intro; refine WpM.regPE [] [(0, _), (1, _), (2, _), (10, _), (12, _), (13, _), (15, _), (79, _)] (by (refine s_o [(16, _)] rfl rfl rfl z_su rfl q_move z_fp z_ss ?_; refine s_o [(68, _)] rfl rfl rfl z_su rfl q_full z_fp z_ss ?_; refine s_o [(69, _)] rfl rfl rfl z_su rfl q_move z_fp z_ss ?_; (first | (refine s_wT ?_ ?_; focus (refine guardM_at rfl rfl z_lk ?_; (simp (disch := omega) [go_sem, -List.map_map, z_ex]); done)) | (refine s_wF ?_ ?_; focus (refine guardM_at rfl rfl z_lk ?_; (simp (disch := omega) [go_sem, -List.map_map, z_ex]); done))); intro z_g; (first | refine s_skip rfl z_g z_fp ?_ | (refine s_o [(10, _)] rfl z_g rfl z_su rfl q_move z_fp z_ss ?_)); clear z_g; (first | (refine s_wT ?_ ?_; focus (refine guardM_at rfl rfl z_lk ?_; (simp (disch := omega) [go_sem, -List.map_map, z_ex]); done)) | (refine s_wF ?_ ?_; focus (refine guardM_at rfl rfl z_lk ?_; (simp (disch := omega) [go_sem, -List.map_map, z_ex]); done))); intro z_g; (first | refine s_skip rfl z_g z_fp ?_ | (refine s_o [(15, _)] rfl z_g rfl z_su rfl q_move z_fp z_ss ?_)); clear z_g; (first | (refine s_wT ?_ ?_; focus (refine guardM_at rfl rfl z_lk ?_; (simp (disch := omega) [go_sem, -List.map_map, z_ex]); done)) | (refine s_wF ?_ ?_; focus (refine guardM_at rfl rfl z_lk ?_; (simp (disch := omega) [go_sem, -List.map_map, z_ex]); done))); intro z_g; (first | refine s_skip rfl z_g z_fp ?_ | (refine s_o [(15, _)] rfl z_g rfl z_su rfl q_move z_fp z_ss ?_)); clear z_g; (first | (refine s_wT ?_ ?_; focus (refine guardM_at rfl rfl z_lk ?_; (simp (disch := omega) [go_sem, -List.map_map, z_ex]); done)) | (refine s_wF ?_ ?_; focus (refine guardM_at rfl rfl z_lk ?_; (simp (disch := omega) [go_sem, -List.map_map, z_ex]); done))); intro z_g; (first | refine s_skip rfl z_g z_fp ?_ | (refine s_o [(73, _)] rfl z_g rfl z_su rfl q_unOp z_fp z_ss ?_)); clear z_g; (first | (refine s_wT ?_ ?_; focus (refine guardM_at rfl rfl z_lk ?_; (simp (disch := omega) [go_sem, -List.map_map, z_ex]); done)) | (refine s_wF ?_ ?_; focus (refine guardM_at rfl rfl z_lk ?_; (simp (disch := omega) [go_sem, -List.map_map, z_ex]); done))); intro z_g; (first | refine s_skip rfl z_g z_fp ?_ | (refine s_o [(72, _), (74, _)] rfl z_g rfl z_su rfl q_full z_fp z_ss ?_)); clear z_g; (first | (refine s_wT ?_ ?_; focus (refine guardM_at rfl rfl z_lk ?_; (simp (disch := omega) [go_sem, -List.map_map, z_ex]); done)) | (refine s_wF ?_ ?_; focus (refine guardM_at rfl rfl z_lk ?_; (simp (disch := omega) [go_sem, -List.map_map, z_ex]); done))); intro z_g; (first | refine s_skip rfl z_g z_fp ?_ | (refine s_o [(71, _), (75, _)] rfl z_g rfl z_su rfl q_full z_fp z_ss ?_)); clear z_g; (first | (refine s_wT ?_ ?_; focus (refine guardM_at rfl rfl z_lk ?_; (simp (disch := omega) [go_sem, -List.map_map, z_ex]); done)) | (refine s_wF ?_ ?_; focus (refine guardM_at rfl rfl z_lk ?_; (simp (disch := omega) [go_sem, -List.map_map, z_ex]); done))); intro z_g; (first | refine s_skip rfl z_g z_fp ?_ | (refine s_o [(76, _)] rfl z_g rfl z_su rfl q_load z_fp z_ss ?_)); clear z_g; (first | (refine s_wT ?_ ?_; focus (refine guardM_at rfl rfl z_lk ?_; (simp (disch := omega) [go_sem, -List.map_map, z_ex]); done)) | (refine s_wF ?_ ?_; focus (refine guardM_at rfl rfl z_lk ?_; (simp (disch := omega) [go_sem, -List.map_map, z_ex]); done))); intro z_g; (first | refine s_skip rfl z_g z_fp ?_ | (refine s_o [(77, _)] rfl z_g rfl z_su rfl q_full z_fp z_ss ?_)); clear z_g; refine s_o [(70, _), (78, _)] rfl rfl rfl z_su rfl q_move z_fp z_ss ?_; exact wpS_nil ⟨rfl, rfl⟩)) z_su ?_; clear z_ex)
          ((repeat refine WpM.seq ?_); refine WpM.condF (by (simp (maxSteps := 2000000) (disch := omega) [go_sem, -List.map_map])) ?_)
          refine WpM.skip ?_
          ((repeat refine WpM.seq ?_); have z_ex := (And.intro @wrap_id True.intro); refine WpM.regPE [] [(0, _), (1, _), (2, _), (10, _), (12, _), (13, _)] (by (refine s_o [(13, _)] rfl rfl rfl z_su rfl q_move z_fp z_ss ?_; refine s_o [(43, _)] rfl rfl rfl z_su rfl q_full z_fp z_ss ?_; refine s_o [(44, _)] rfl rfl rfl z_su rfl q_move z_fp z_ss ?_; exact wpS_nil ⟨rfl, rfl⟩)) z_su ?_; clear z_ex)
          refine round_end (x' := i + 1) (St.Le.refl _) (frLe_frOf (by (simp (maxSteps := 2000000) (disch := omega) [go_sem, -List.map_map, wrap_id]))) ⟨by omega, t, q', K, _, _, rfl, kp, nmk, hK, hdone, ?_, hq1, hq2, rfl⟩ (by omega)
          intro ht d hd
          rw [htk, List.mem_append, List.mem_singleton] at hd
          rcases hd with hd | rfl
          · exact hall ht d hd
          · exact .inl hs
        | some u =>
          rw [hs] at hO
          by_cases hu : u = 0
          · subst hu
            simp only [onlyV, if_true] at hO
            have hcl : closedB (a ++ b) g = false := closedB_false.2 (by
              rintro ⟨T, hT⟩
              exact hT.notNone (hK.sub T hT) hcm hc0 hs)
            ((repeat refine WpM.seq ?_); have z_ex := True.intro; refine WpM.regPE [] [(0, _), (1, _), (2, _), (10, _), (12, _), (13, _), (15, _), (16, _)] (by (refine s_o [(14, _)] rfl rfl rfl z_su rfl q_move z_fp z_ss ?_; refine s_o [(10, _)] rfl rfl rfl z_su rfl q_move z_fp z_ss ?_; refine s_at (callOf_eq rfl rfl rfl (mlk_tmp z_lk (mlk_tmp z_lk mlk_nil))) (hO _) rfl rfl z_ip z_fp ?_; refine s_o [(63, _)] rfl rfl rfl z_su rfl q_move z_fp z_ss ?_; refine s_o [(60, _)] rfl rfl rfl z_su rfl q_extract z_fp z_ss ?_; refine s_o [(60, _)] rfl rfl rfl z_su rfl q_extract z_fp z_ss ?_; refine s_o [(64, _)] rfl rfl rfl z_su rfl q_move z_fp z_ss ?_; refine s_o [(65, _)] rfl rfl rfl z_su rfl q_move z_fp z_ss ?_; exact wpS_nil ⟨rfl, rfl⟩)) z_su ?_; clear z_ex)
            ((repeat refine WpM.seq ?_); have z_ex := True.intro; refine WpM.regPE [] [(0, _), (1, _), (2, _), (10, _), (12, _), (13, _), (15, _), (16, _), (67, _)] (by (refine s_o [(16, _)] rfl rfl rfl z_su rfl q_move z_fp z_ss ?_; refine s_o [(66, _)] rfl rfl rfl z_su rfl q_full z_fp z_ss ?_; exact wpS_nil ⟨rfl, rfl⟩)) z_su ?_; clear z_ex)
            ((repeat refine WpM.seq ?_); refine WpM.condT (by (simp (maxSteps := 2000000) (disch := omega) [go_sem, -List.map_map])) ?_)
            ((repeat refine WpM.seq ?_); have z_ex := True.intro; refine WpM.regPE [] [(8, _), (9, _)] (by (refine s_o [] rfl rfl rfl z_su rfl q_move z_fp z_ss ?_; refine s_o [] rfl rfl rfl z_su rfl q_move z_fp z_ss ?_; exact wpS_nil ⟨rfl, rfl⟩)) z_su ?_; clear z_ex)
            refine WpM.ret ?_
            exact ⟨.inr rfl, Upd.done ⟨.tup [.nil, .d (.bool false)], (by (simp (maxSteps := 2000000) (disch := omega) [go_sem, -List.map_map, resV, resVs, resV1])), ⟨.nil, .inl rfl, by rw [hcl]⟩, fun m k hm => kp m k hm⟩⟩
          · simp only [onlyV, if_neg hu] at hO
            obtain ⟨hum, huk, _⟩ := (scan_some K u hu c hc0).1 hs
            obtain ⟨_, hu1, hu2⟩ := hcn u hum
            obtain ⟨v, hv, huv⟩ := abs_cases hu
            have hvn : v ≤ n := by omega
            have hget := marks_at K hvn
            have hmx : (if u < -u then -u else u) = (v : Int) := by
              rcases huv with rfl | rfl
              · rw [if_neg (by omega)]
              · rw [if_pos (by omega), Int.neg_neg]
            ((repeat refine WpM.seq ?_); have z_ex := True.intro; refine WpM.regPE [] [(0, _), (1, _), (2, _), (10, _), (12, _), (13, _), (15, _), (16, _)] (by (refine s_o [(14, _)] rfl rfl rfl z_su rfl q_move z_fp z_ss ?_; refine s_o [(10, _)] rfl rfl rfl z_su rfl q_move z_fp z_ss ?_; refine s_at (callOf_eq rfl rfl rfl (mlk_tmp z_lk (mlk_tmp z_lk mlk_nil))) (hO _) rfl rfl z_ip z_fp ?_; refine s_o [(63, _)] rfl rfl rfl z_su rfl q_move z_fp z_ss ?_; refine s_o [(60, _)] rfl rfl rfl z_su rfl q_extract z_fp z_ss ?_; refine s_o [(60, _)] rfl rfl rfl z_su rfl q_extract z_fp z_ss ?_; refine s_o [(64, _)] rfl rfl rfl z_su rfl q_move z_fp z_ss ?_; refine s_o [(65, _)] rfl rfl rfl z_su rfl q_move z_fp z_ss ?_; exact wpS_nil ⟨rfl, rfl⟩)) z_su ?_; clear z_ex)
            ((repeat refine WpM.seq ?_); have z_ex := True.intro; refine WpM.regPE [] [(0, _), (1, _), (2, _), (10, _), (12, _), (13, _), (15, _), (16, _), (67, _)] (by (refine s_o [(16, _)] rfl rfl rfl z_su rfl q_move z_fp z_ss ?_; refine s_o [(66, _)] rfl rfl rfl z_su rfl q_full z_fp z_ss ?_; exact wpS_nil ⟨rfl, rfl⟩)) z_su ?_; clear z_ex)
            ((repeat refine WpM.seq ?_); refine WpM.condF (by (simp (maxSteps := 2000000) (disch := omega) [go_sem, -List.map_map])) ?_)
            refine WpM.skip ?_
            cases hku : K u with
            | true =>
              have hsd : ¬ side K v = 0 := by
                rcases huv with rfl | rfl
                · rw [side_pos hku]; simp
                · rw [side_neg hku hK.apart]; simp
              ((repeat refine WpM.seq ?_); have z_ex := (And.intro @wrap_0sub (And.intro @wrap_neg (And.intro @hmx (And.intro @nmk (And.intro @hget (And.intro @hsd True.intro)))))); refine WpM.regPE [] [(0, _), (1, _), (2, _), (10, _), (12, _), (13, _), (15, _), (79, _)] (by (refine s_o [(16, _)] rfl rfl rfl z_su rfl q_move z_fp z_ss ?_; refine s_o [(68, _)] rfl rfl rfl z_su rfl q_full z_fp z_ss ?_; refine s_o [(69, _)] rfl rfl rfl z_su rfl q_move z_fp z_ss ?_; (first | (refine s_wT ?_ ?_; focus (refine guardM_at rfl rfl z_lk ?_; (simp (disch := omega) [go_sem, -List.map_map, z_ex]); done)) | (refine s_wF ?_ ?_; focus (refine guardM_at rfl rfl z_lk ?_; (simp (disch := omega) [go_sem, -List.map_map, z_ex]); done))); intro z_g; (first | refine s_skip rfl z_g z_fp ?_ | (refine s_o [(10, _)] rfl z_g rfl z_su rfl q_move z_fp z_ss ?_)); clear z_g; (first | (refine s_wT ?_ ?_; focus (refine guardM_at rfl rfl z_lk ?_; (simp (disch := omega) [go_sem, -List.map_map, z_ex]); done)) | (refine s_wF ?_ ?_; focus (refine guardM_at rfl rfl z_lk ?_; (simp (disch := omega) [go_sem, -List.map_map, z_ex]); done))); intro z_g; (first | refine s_skip rfl z_g z_fp ?_ | (refine s_o [(15, _)] rfl z_g rfl z_su rfl q_move z_fp z_ss ?_)); clear z_g; (first | (refine s_wT ?_ ?_; focus (refine guardM_at rfl rfl z_lk ?_; (simp (disch := omega) [go_sem, -List.map_map, z_ex]); done)) | (refine s_wF ?_ ?_; focus (refine guardM_at rfl rfl z_lk ?_; (simp (disch := omega) [go_sem, -List.map_map, z_ex]); done))); intro z_g; (first | refine s_skip rfl z_g z_fp ?_ | (refine s_o [(15, _)] rfl z_g rfl z_su rfl q_move z_fp z_ss ?_)); clear z_g; (first | (refine s_wT ?_ ?_; focus (refine guardM_at rfl rfl z_lk ?_; (simp (disch := omega) [go_sem, -List.map_map, z_ex]); done)) | (refine s_wF ?_ ?_; focus (refine guardM_at rfl rfl z_lk ?_; (simp (disch := omega) [go_sem, -List.map_map, z_ex]); done))); intro z_g; (first | refine s_skip rfl z_g z_fp ?_ | (refine s_o [(73, _)] rfl z_g rfl z_su rfl q_unOp z_fp z_ss ?_)); clear z_g; (first | (refine s_wT ?_ ?_; focus (refine guardM_at rfl rfl z_lk ?_; (simp (disch := omega) [go_sem, -List.map_map, z_ex]); done)) | (refine s_wF ?_ ?_; focus (refine guardM_at rfl rfl z_lk ?_; (simp (disch := omega) [go_sem, -List.map_map, z_ex]); done))); intro z_g; (first | refine s_skip rfl z_g z_fp ?_ | (refine s_o [(72, _), (74, _)] rfl z_g rfl z_su rfl q_full z_fp z_ss ?_)); clear z_g; (first | (refine s_wT ?_ ?_; focus (refine guardM_at rfl rfl z_lk ?_; (simp (disch := omega) [go_sem, -List.map_map, z_ex]); done)) | (refine s_wF ?_ ?_; focus (refine guardM_at rfl rfl z_lk ?_; (simp (disch := omega) [go_sem, -List.map_map, z_ex]); done))); intro z_g; (first | refine s_skip rfl z_g z_fp ?_ | (refine s_o [(71, _), (75, _)] rfl z_g rfl z_su rfl q_full z_fp z_ss ?_)); clear z_g; (first | (refine s_wT ?_ ?_; focus (refine guardM_at rfl rfl z_lk ?_; (simp (disch := omega) [go_sem, -List.map_map, z_ex]); done)) | (refine s_wF ?_ ?_; focus (refine guardM_at rfl rfl z_lk ?_; (simp (disch := omega) [go_sem, -List.map_map, z_ex]); done))); intro z_g; (first | refine s_skip rfl z_g z_fp ?_ | (refine s_o [(76, _)] rfl z_g rfl z_su rfl q_load z_fp z_ss ?_)); clear z_g; (first | (refine s_wT ?_ ?_; focus (refine guardM_at rfl rfl z_lk ?_; (simp (disch := omega) [go_sem, -List.map_map, z_ex]); done)) | (refine s_wF ?_ ?_; focus (refine guardM_at rfl rfl z_lk ?_; (simp (disch := omega) [go_sem, -List.map_map, z_ex]); done))); intro z_g; (first | refine s_skip rfl z_g z_fp ?_ | (refine s_o [(77, _)] rfl z_g rfl z_su rfl q_full z_fp z_ss ?_)); clear z_g; refine s_o [(70, _), (78, _)] rfl rfl rfl z_su rfl q_move z_fp z_ss ?_; exact wpS_nil ⟨rfl, rfl⟩)) z_su ?_; clear z_ex)
              ((repeat refine WpM.seq ?_); refine WpM.condF (by (simp (maxSteps := 2000000) (disch := omega) [go_sem, -List.map_map, hsd])) ?_)
              refine WpM.skip ?_
              ((repeat refine WpM.seq ?_); have z_ex := (And.intro @wrap_id True.intro); refine WpM.regPE [] [(0, _), (1, _), (2, _), (10, _), (12, _), (13, _)] (by (refine s_o [(13, _)] rfl rfl rfl z_su rfl q_move z_fp z_ss ?_; refine s_o [(43, _)] rfl rfl rfl z_su rfl q_full z_fp z_ss ?_; refine s_o [(44, _)] rfl rfl rfl z_su rfl q_move z_fp z_ss ?_; exact wpS_nil ⟨rfl, rfl⟩)) z_su ?_; clear z_ex)
              refine round_end (x' := i + 1) (St.Le.refl _) (frLe_frOf (by (simp (maxSteps := 2000000) (disch := omega) [go_sem, -List.map_map, wrap_id]))) ⟨by omega, t, q', K, _, _, rfl, kp, nmk, hK, hdone, ?_, hq1, hq2, rfl⟩ (by omega)
              intro ht d hd
              rw [htk, List.mem_append, List.mem_singleton] at hd
              rcases hd with hd | rfl
              · exact hall ht d hd
              · exact .inr ⟨u, hu, hs, hku⟩
            | false =>
              have hsd : side K v = 0 := by
                rcases huv with rfl | rfl
                · exact side_no hku huk
                · rw [Int.neg_neg] at huk; exact side_no huk hku
              rw [hsd] at hget
              obtain ⟨q2, hK', hsub, hin, _, hq3⟩ := hK.put hu (hcn' u hum).2 (fun T hT => hT.unit (hK.sub T hT) hcm hc0 hu hs) huk
              have hq3 := hq3 hku
              have hC := fun nx => put76 n K u hn hu ⟨hu1, hu2⟩ (hK.apart u) (n0 + 4) ⟨nx, [], G⟩ nmk
              simp only [huk, Bool.not_false, Bool.false_eq_true, if_false] at hC
              ((repeat refine WpM.seq ?_); have z_ex := (And.intro @wrap_0sub (And.intro @wrap_neg (And.intro @hmx (And.intro @nmk (And.intro @hget True.intro))))); refine WpM.regPE [] [(0, _), (1, _), (2, _), (10, _), (12, _), (13, _), (15, _), (79, _)] (by (refine s_o [(16, _)] rfl rfl rfl z_su rfl q_move z_fp z_ss ?_; refine s_o [(68, _)] rfl rfl rfl z_su rfl q_full z_fp z_ss ?_; refine s_o [(69, _)] rfl rfl rfl z_su rfl q_move z_fp z_ss ?_; (first | (refine s_wT ?_ ?_; focus (refine guardM_at rfl rfl z_lk ?_; (simp (disch := omega) [go_sem, -List.map_map, z_ex]); done)) | (refine s_wF ?_ ?_; focus (refine guardM_at rfl rfl z_lk ?_; (simp (disch := omega) [go_sem, -List.map_map, z_ex]); done))); intro z_g; (first | refine s_skip rfl z_g z_fp ?_ | (refine s_o [(10, _)] rfl z_g rfl z_su rfl q_move z_fp z_ss ?_)); clear z_g; (first | (refine s_wT ?_ ?_; focus (refine guardM_at rfl rfl z_lk ?_; (simp (disch := omega) [go_sem, -List.map_map, z_ex]); done)) | (refine s_wF ?_ ?_; focus (refine guardM_at rfl rfl z_lk ?_; (simp (disch := omega) [go_sem, -List.map_map, z_ex]); done))); intro z_g; (first | refine s_skip rfl z_g z_fp ?_ | (refine s_o [(15, _)] rfl z_g rfl z_su rfl q_move z_fp z_ss ?_)); clear z_g; (first | (refine s_wT ?_ ?_; focus (refine guardM_at rfl rfl z_lk ?_; (simp (disch := omega) [go_sem, -List.map_map, z_ex]); done)) | (refine s_wF ?_ ?_; focus (refine guardM_at rfl rfl z_lk ?_; (simp (disch := omega) [go_sem, -List.map_map, z_ex]); done))); intro z_g; (first | refine s_skip rfl z_g z_fp ?_ | (refine s_o [(15, _)] rfl z_g rfl z_su rfl q_move z_fp z_ss ?_)); clear z_g; (first | (refine s_wT ?_ ?_; focus (refine guardM_at rfl rfl z_lk ?_; (simp (disch := omega) [go_sem, -List.map_map, z_ex]); done)) | (refine s_wF ?_ ?_; focus (refine guardM_at rfl rfl z_lk ?_; (simp (disch := omega) [go_sem, -List.map_map, z_ex]); done))); intro z_g; (first | refine s_skip rfl z_g z_fp ?_ | (refine s_o [(73, _)] rfl z_g rfl z_su rfl q_unOp z_fp z_ss ?_)); clear z_g; (first | (refine s_wT ?_ ?_; focus (refine guardM_at rfl rfl z_lk ?_; (simp (disch := omega) [go_sem, -List.map_map, z_ex]); done)) | (refine s_wF ?_ ?_; focus (refine guardM_at rfl rfl z_lk ?_; (simp (disch := omega) [go_sem, -List.map_map, z_ex]); done))); intro z_g; (first | refine s_skip rfl z_g z_fp ?_ | (refine s_o [(72, _), (74, _)] rfl z_g rfl z_su rfl q_full z_fp z_ss ?_)); clear z_g; (first | (refine s_wT ?_ ?_; focus (refine guardM_at rfl rfl z_lk ?_; (simp (disch := omega) [go_sem, -List.map_map, z_ex]); done)) | (refine s_wF ?_ ?_; focus (refine guardM_at rfl rfl z_lk ?_; (simp (disch := omega) [go_sem, -List.map_map, z_ex]); done))); intro z_g; (first | refine s_skip rfl z_g z_fp ?_ | (refine s_o [(71, _), (75, _)] rfl z_g rfl z_su rfl q_full z_fp z_ss ?_)); clear z_g; (first | (refine s_wT ?_ ?_; focus (refine guardM_at rfl rfl z_lk ?_; (simp (disch := omega) [go_sem, -List.map_map, z_ex]); done)) | (refine s_wF ?_ ?_; focus (refine guardM_at rfl rfl z_lk ?_; (simp (disch := omega) [go_sem, -List.map_map, z_ex]); done))); intro z_g; (first | refine s_skip rfl z_g z_fp ?_ | (refine s_o [(76, _)] rfl z_g rfl z_su rfl q_load z_fp z_ss ?_)); clear z_g; (first | (refine s_wT ?_ ?_; focus (refine guardM_at rfl rfl z_lk ?_; (simp (disch := omega) [go_sem, -List.map_map, z_ex]); done)) | (refine s_wF ?_ ?_; focus (refine guardM_at rfl rfl z_lk ?_; (simp (disch := omega) [go_sem, -List.map_map, z_ex]); done))); intro z_g; (first | refine s_skip rfl z_g z_fp ?_ | (refine s_o [(77, _)] rfl z_g rfl z_su rfl q_full z_fp z_ss ?_)); clear z_g; refine s_o [(70, _), (78, _)] rfl rfl rfl z_su rfl q_move z_fp z_ss ?_; exact wpS_nil ⟨rfl, rfl⟩)) z_su ?_; clear z_ex)
              ((repeat refine WpM.seq ?_); refine WpM.condT (by (simp (maxSteps := 2000000) (disch := omega) [go_sem, -List.map_map])) ?_)
              ((repeat refine WpM.seq ?_); have z_ex := True.intro; refine WpM.regP [] ?_; intro K hK; refine s_o [(10, _)] rfl rfl rfl z_su rfl q_move z_fp z_ss ?_; refine s_o [(15, _)] rfl rfl rfl z_su rfl q_move z_fp z_ss ?_; refine s_call (callOf_eq rfl rfl rfl (mlk_tmp z_lk (mlk_tmp z_lk mlk_nil))) (hC _) rfl rfl z_ip ?_; rintro _ _ ⟨rfl, _, kp', nm'⟩; refine s_put z_fp ?_; refine s_endE [(0, _), (1, _), (2, _), (10, _), (13, _)] hK z_su ?_; clear hK K; clear z_ex)
              refine WpM.norm ?_
              intro nx1 G1 hnx1 hG1 hk1
              have nm1 : G1 (n0 + 4) = some (.row 1 (marks n (setP K u))) := by rw [hG1]; exact nm'
              have kp1 : ∀ m k, H m = some k → G1 m = some k := fun m k hm => by rw [hG1]; exact kp' m k (by rintro rfl; have := hH _ _ hm; omega) (kp m k hm)
              clear hG1 hnx1 hk1 kp' nm'
              ((repeat refine WpM.seq ?_); have z_ex := True.intro; refine WpM.regPE [] [(0, _), (1, _), (2, _), (10, _), (12, _), (13, _)] (by (refine s_o [] rfl rfl rfl z_su rfl q_move z_fp z_ss ?_; exact wpS_nil ⟨rfl, rfl⟩)) z_su ?_; clear z_ex)
              ((repeat refine WpM.seq ?_); have z_ex := (And.intro @wrap_id True.intro); refine WpM.regPE [] [(0, _), (1, _), (2, _), (10, _), (12, _), (13, _)] (by (refine s_o [(13, _)] rfl rfl rfl z_su rfl q_move z_fp z_ss ?_; refine s_o [(43, _)] rfl rfl rfl z_su rfl q_full z_fp z_ss ?_; refine s_o [(44, _)] rfl rfl rfl z_su rfl q_move z_fp z_ss ?_; exact wpS_nil ⟨rfl, rfl⟩)) z_su ?_; clear z_ex)
              exact round_end (x' := i + 1) (St.Le.refl _) (frLe_frOf (by (simp (maxSteps := 2000000) (disch := omega) [go_sem, -List.map_map, wrap_id]))) ⟨by omega, true, q2, _, _, _, rfl, kp1, nm1, hK', fun x hx => hsub x (hdone x hx), by simp, by omega, by omega, rfl⟩ (by omega)
      · have hlt' : ¬ ((i : Int) < a.length + b.length) := by omega
        ((repeat refine WpM.seq ?_); refine WpM.condF (by (simp (maxSteps := 2000000) (disch := omega) [go_sem, -List.map_map, hlt'])) ?_)
        (refine WpM.exit ?_; (repeat (with_reducible (first | refine thenM_exit ?_ | refine blockM_eq ?_ | refine blockM_ne (by decide) ?_))))
        obtain rfl : i = (a ++ b).length := by omega
        rw [List.take_length] at hall
        refine round_end (Q := fun _ _ _ => True) (x' := (t, q')) (St.Le.refl _) (frLe_frOf (by (simp (maxSteps := 2000000) (disch := omega) [go_sem, -List.map_map]))) ⟨K, _, _, rfl, kp, nmk, hK, hdone, hall, rfl⟩ ?_
        simp only [Bool.toNat_true]
        cases t with
        | false => simp only [Bool.toNat_false]; omega
        | true => have := hq2 rfl; simp only [Bool.toNat_true]; omega
end Go.Proofs.Ytafeehlpmdligaa
