/- assizelaw16.ProofPlain, walked. -/
import Derived.Test.YtafeehlpmdligaaOp
import Derived.Test.YtafeehlpmdligaaLaw3
import Derived.Test.YtafeehlpmdligaaPlain26
namespace Go.Proofs.Ytafeehlpmdligaa
open Go.RowKit M
set_option linter.unusedSimpArgs false
set_option linter.unusedVariables false
set_option maxHeartbeats 8000000 in
theorem trim28 (n : Int) (cs xs : List (List Int)) (hcl : cs.length ≤ 140737488351232) (hcs : ∀ c ∈ cs, c.length ≤ 140737488351232) (hxl : xs.length ≤ 140737488351232) (hxs : ∀ c ∈ xs, c.length ≤ 140737488351232) :
    PureC Try.prog 28 [.d (cnf n cs), .d (cls xs)] (.tup [.d (cls (trimF n cs xs)), .d (.int .i64 (soundP n cs xs))]) := by
  intro S
  refine CallM.pure' (by rfl) (CallM.start (n := 37) Try.func28 rfl rfl (by simp) (by simp only [argL, Nat.reduceAdd] <;> rfl) ?_)
  intro hH
  obtain ⟨H, hHe⟩ : ∃ H, H = S.get := ⟨_, rfl⟩
  obtain ⟨n0, hne⟩ : ∃ n0, n0 = S.next := ⟨_, rfl⟩
  rw [← hHe, ← hne] at hH ⊢
  have hs := sound43 n cs xs hcl hcs hxl hxs
  unfold trimF
  obtain ⟨e, he⟩ : ∃ e, e = soundP n cs xs := ⟨_, rfl⟩
  rw [← he] at hs ⊢
  ((repeat refine WpM.seq ?_); have z_ex := (And.intro @cnf.eq_1 True.intro); refine WpM.regPE [] [(1, _), (2, _)] (by (refine s_o [(0, _)] rfl rfl rfl z_su rfl q_box z_fp z_ss ?_; refine s_o [] rfl rfl rfl z_su rfl q_move z_fp z_ss ?_; refine s_o [] rfl rfl rfl z_su rfl q_move z_fp z_ss ?_; exact wpS_nil ⟨rfl, rfl⟩)) z_su ?_; clear z_ex)
  ((repeat refine WpM.seq ?_); have z_ex := (And.intro @cnf.eq_1 True.intro); refine WpM.regPE [] [(1, _), (6, _)] (by (refine s_o [(2, _)] rfl rfl rfl z_su rfl q_load z_fp z_ss ?_; refine s_o [(1, _)] rfl rfl rfl z_su rfl q_move z_fp z_ss ?_; refine s_pure (callOf_eq rfl rfl rfl (mlk_tmp z_lk (mlk_tmp z_lk mlk_nil))) (hs) rfl rfl z_ip z_fp ?_; refine s_o [(11, _)] rfl rfl rfl z_su rfl q_move z_fp z_ss ?_; exact wpS_nil ⟨rfl, rfl⟩)) z_su ?_; clear z_ex)
  by_cases h0 : e = 0
  · subst h0
    have hok := sound_ok he.symm
    rw [if_pos rfl]
    ((repeat refine WpM.seq ?_); have z_ex := True.intro; refine WpM.regPE [] [(1, _), (6, _), (13, _)] (by (refine s_o [(6, _)] rfl rfl rfl z_su rfl q_move z_fp z_ss ?_; refine s_o [(12, _)] rfl rfl rfl z_su rfl q_full z_fp z_ss ?_; exact wpS_nil ⟨rfl, rfl⟩)) z_su ?_; clear z_ex)
    ((repeat refine WpM.seq ?_); refine WpM.condF (by (simp (maxSteps := 2000000) (disch := omega) [go_sem, -List.map_map])) ?_)
    refine WpM.skip ?_
    ((repeat refine WpM.seq ?_); have z_ex := True.intro; refine WpM.regPE [] [(1, _), (7, _)] (by (refine s_o [] rfl rfl rfl z_su rfl q_move z_fp z_ss ?_; exact wpS_nil ⟨rfl, rfl⟩)) z_su ?_; clear z_ex)
    refine Upd.wp (Upd.ghost 7 1 (.inl (by (simp (maxSteps := 2000000) (disch := omega) [go_sem, -List.map_map]))) (Upd.done ?_))
    refine WpM.less (St.Le.refl _) (frLe_frOf (l := [(1, .d (cls xs)), (7, .ms (n0 + 9) 1 0 0)]) (by (simp (maxSteps := 2000000) (disch := omega) [go_sem, -List.map_map, fset]))) ?_
    refine WpM.norm ?_
    intro nx0 G0 hnx0 hG0 hk0
    have q2 : G0 (n0 + 9) = some (.row 1 []) := by rw [hG0]; (simp (maxSteps := 2000000) (disch := omega) [go_sem, -List.map_map])
    have kp0 : ∀ m k, H m = some k → G0 m = some k := by
      intro m k hm
      have := hH _ _ hm
      rw [hG0]
      (simp (maxSteps := 2000000) (disch := omega) [go_sem, -List.map_map, hm])
    clear hG0 hnx0 hk0
    ((repeat refine WpM.seq ?_); have z_ex := True.intro; refine WpM.regPE [] [(1, _), (7, _), (8, _)] (by (refine s_o [] rfl rfl rfl z_su rfl q_move z_fp z_ss ?_; exact wpS_nil ⟨rfl, rfl⟩)) z_su ?_; clear z_ex)
    ((repeat refine WpM.seq ?_); refine WpM.block ?_)
    have done : ∀ (ys : List (List Int)) (nmo nx : Nat) (G : Nat → Option Blk) (t : Nat), trimL xs = ys → n0 ≤ nmo → (∀ m k, H m = some k → G m = some k) → G nmo = some (.row 1 (ys.map fun c => .d (ints c))) →
        Upd 37 (frOf [(4, .ms nmo 1 0 ys.length), (5, .d (.int .i64 0))]) ⟨nx, [], G⟩ (fun fr S' => ∃ r, resV Try.prog fr S' Try.f28.results.toList = some r ∧ r = .tup [.d (cls (trimL xs)), .d (.int .i64 0)] ∧ ∀ m k, m < n0 → H m = some k → S'.get m = some k) := by
      intro ys nmo nx G t hy hno kp nok
      rw [hy]
      refine Upd.freeze 4 (nm := nmo) (sz := 1) (o := 0) (m := ys.length) (xs := ys.map fun c => .d (ints c)) (ys.map ints) (by (simp (maxSteps := 2000000) (disch := omega) [go_sem, -List.map_map])) (by (simp (maxSteps := 2000000) (disch := omega) [go_sem, -List.map_map, nok])) (by rw [List.drop_zero, List.take_of_length_le (by simp), List.map_map]; rfl) (by simp) (Upd.done ⟨_, (by (simp (maxSteps := 2000000) (disch := omega) [go_sem, -List.map_map, resV, resVs, resV1, fset]); rfl), rfl, fun m k hm hk => ?_⟩)
      have h9 := kp _ _ hk
      (simp (maxSteps := 2000000) (disch := omega) [go_sem, -List.map_map, h9])
    refine WpM.loop (fun (j : Nat) fr S => j ≤ xs.length ∧ (∀ i (h : i < xs.length), i < j → xs[i] ≠ []) ∧ ∃ nmo nx G, S = ⟨nx, [], G⟩ ∧ (∀ m k, H m = some k → G m = some k) ∧ n0 ≤ nmo ∧ G nmo = some (.row 1 ((xs.take j).map fun c => .d (ints c))) ∧
        fr = frOf [(1, .d (cls xs)), (7, .ms nmo 1 0 j), (8, .d (.int .i64 j))]) (fun j => xs.length - j) 0 (St.Le.refl _) (frLe_frOf (by (simp (maxSteps := 2000000) (disch := omega) [go_sem, -List.map_map, cls]))) ⟨by omega, by simp, n0 + 9, _, _, rfl, kp0, by omega, q2, rfl⟩ ?_
    clear q2 kp0
    rintro j fr S' ⟨hj, hne, nmo, nx, G, rfl, kp, hno, nok, rfl⟩
    refine WpM.known fun hGk => ?_
    have hnmo := hGk _ _ nok
    simp only at hnmo
    ((repeat refine WpM.seq ?_); have z_ex := (And.intro @cls.eq_1 True.intro); refine WpM.regPE [] [(1, _), (7, _), (8, _), (18, _)] (by (refine s_o [(8, _)] rfl rfl rfl z_su rfl q_move z_fp z_ss ?_; refine s_o [(1, _)] rfl rfl rfl z_su rfl q_move z_fp z_ss ?_; refine s_o [(16, _)] rfl rfl rfl z_su rfl q_full z_fp z_ss ?_; refine s_o [(15, _), (17, _)] rfl rfl rfl z_su rfl q_full z_fp z_ss ?_; exact wpS_nil ⟨rfl, rfl⟩)) z_su ?_; clear z_ex)
    by_cases hlt : j < xs.length
    · ((repeat refine WpM.seq ?_); refine WpM.condT (by (simp (maxSteps := 2000000) (disch := omega) [go_sem, -List.map_map, hlt])) ?_)
      refine WpM.skip ?_
      ((repeat refine WpM.seq ?_); refine WpM.block ?_)
      have hxm := hok.xs xs[j] (List.getElem_mem _)
      have htk : xs.take (j + 1) = xs.take j ++ [xs[j]] := List.take_succ_eq_append_getElem hlt
      have hit := trimL_hit xs j hlt hne
      have hne2 : xs[j] ≠ [] → ∀ i (h : i < xs.length), i < j + 1 → xs[i] ≠ [] := fun hx i hi hij => by
        rcases Nat.lt_or_ge i j with h | h
        · exact hne i hi h
        · obtain rfl : i = j := by omega
          exact hx
      obtain ⟨c, hce⟩ : ∃ c, c = xs[j] := ⟨_, rfl⟩
      have hget : (xs.map ints)[j]? = some (ints c) := by rw [lens xs j hlt, hce]
      rw [← hce] at hxm htk hit hne2
      clear hce
      have hcl := hxm.1
      have hjl : ((xs.take j).map fun c => V.d (ints c)).length = j := by simp; omega
      have hxl := hok.xl
      have htk3 : ((xs.take j).map fun c => V.d (ints c)).take j = (xs.take j).map fun c => V.d (ints c) := List.take_of_length_le (by omega)
      ((repeat refine WpM.seq ?_); have z_ex := (And.intro @cls.eq_1 (And.intro @hget (And.intro @nok (And.intro @hjl (And.intro @htk3 (And.intro @ints.eq_1 True.intro)))))); refine WpM.regPE [27] [(1, _), (7, _), (8, _)] (by (refine s_o [(7, _)] rfl rfl rfl z_su rfl q_move z_fp z_ss ?_; refine s_o [] rfl rfl rfl z_su rfl q_full z_fp z_ss ?_; refine s_o [(1, _)] rfl rfl rfl z_su rfl q_move z_fp z_ss ?_; refine s_o [(8, _)] rfl rfl rfl z_su rfl q_move z_fp z_ss ?_; refine s_o [(23, _), (24, _)] rfl rfl rfl z_su rfl q_full z_fp z_ss ?_; refine s_o [(25, _)] rfl rfl rfl z_su rfl q_load z_fp z_ss ?_; refine s_o [(22, _), (26, _)] rfl rfl rfl z_su rfl q_full z_fp z_ss ?_; refine s_o [(27, _)] rfl rfl rfl z_su rfl q_full z_fp z_ss ?_; refine s_o [(21, _), (28, _)] rfl rfl rfl z_su rfl q_full z_fp z_ss ?_; refine s_o [(29, _)] rfl rfl rfl z_su rfl q_move z_fp z_ss ?_; exact wpS_nil ⟨rfl, rfl⟩)) z_su ?_; clear z_ex)
      refine WpM.norm ?_
      intro nx1 G1 hnx1 hG1 hk1
      have p3 : G1 (nx + 12) = some (.row 1 ((xs.take (j + 1)).map fun c => .d (ints c))) := by rw [hG1, htk, List.map_append, ← htk3]; (simp (maxSteps := 2000000) (disch := omega) [go_sem, -List.map_map, ints])
      have kp1 : ∀ m k, H m = some k → G1 m = some k := by
        intro m k hm
        have h8 := hH _ _ hm
        have h9 := kp _ _ hm
        rw [hG1]
        (simp (maxSteps := 2000000) (disch := omega) [go_sem, -List.map_map, h9])
      clear hG1 hnx1 hk1
      have hlj : (xs.take (j + 1)).length = j + 1 := by simp; omega
      by_cases hce : c = []
      · subst hce
        ((repeat refine WpM.seq ?_); have z_ex := (And.intro @cls.eq_1 (And.intro @hget (And.intro @ints.eq_1 True.intro))); refine WpM.regPE [] [(1, _), (7, _), (8, _), (35, _)] (by (refine s_o [(1, _)] rfl rfl rfl z_su rfl q_move z_fp z_ss ?_; refine s_o [(8, _)] rfl rfl rfl z_su rfl q_move z_fp z_ss ?_; refine s_o [(30, _), (31, _)] rfl rfl rfl z_su rfl q_full z_fp z_ss ?_; refine s_o [(32, _)] rfl rfl rfl z_su rfl q_load z_fp z_ss ?_; refine s_o [(33, _)] rfl rfl rfl z_su rfl q_full z_fp z_ss ?_; refine s_o [(34, _)] rfl rfl rfl z_su rfl q_full z_fp z_ss ?_; exact wpS_nil ⟨rfl, rfl⟩)) z_su ?_; clear z_ex)
        ((repeat refine WpM.seq ?_); refine WpM.condT (by (simp (maxSteps := 2000000) (disch := omega) [go_sem, -List.map_map])) ?_)
        (refine WpM.exit ?_; (repeat (with_reducible (first | refine thenM_exit ?_ | refine blockM_eq ?_ | refine blockM_ne (by decide) ?_))))
        ((repeat refine WpM.seq ?_); have z_ex := True.intro; refine WpM.regPE [] [(4, _), (5, _)] (by (refine s_o [(7, _)] rfl rfl rfl z_su rfl q_move z_fp z_ss ?_; refine s_o [(36, _)] rfl rfl rfl z_su rfl q_move z_fp z_ss ?_; refine s_o [] rfl rfl rfl z_su rfl q_move z_fp z_ss ?_; exact wpS_nil ⟨rfl, rfl⟩)) z_su ?_; clear z_ex)
        refine WpM.ret ?_
        have := fun nz => done (xs.take (j + 1)) (nx + 12) nz G1 0 (hit rfl) (by omega) kp1 p3
        simp only [hlj] at this
        exact ⟨.inr rfl, this _⟩
      · have hcl0 : ¬ ((c.length : Int) = 0) := by cases c with | nil => exact absurd rfl hce | cons a r => simp only [List.length_cons]; omega
        ((repeat refine WpM.seq ?_); have z_ex := (And.intro @cls.eq_1 (And.intro @hget (And.intro @ints.eq_1 (And.intro @hce True.intro)))); refine WpM.regPE [] [(1, _), (7, _), (8, _), (35, _)] (by (refine s_o [(1, _)] rfl rfl rfl z_su rfl q_move z_fp z_ss ?_; refine s_o [(8, _)] rfl rfl rfl z_su rfl q_move z_fp z_ss ?_; refine s_o [(30, _), (31, _)] rfl rfl rfl z_su rfl q_full z_fp z_ss ?_; refine s_o [(32, _)] rfl rfl rfl z_su rfl q_load z_fp z_ss ?_; refine s_o [(33, _)] rfl rfl rfl z_su rfl q_full z_fp z_ss ?_; refine s_o [(34, _)] rfl rfl rfl z_su rfl q_full z_fp z_ss ?_; exact wpS_nil ⟨rfl, rfl⟩)) z_su ?_; clear z_ex)
        ((repeat refine WpM.seq ?_); refine WpM.condF (by (simp (maxSteps := 2000000) (disch := omega) [go_sem, -List.map_map, hce])) ?_)
        refine WpM.skip ?_
        ((repeat refine WpM.seq ?_); have z_ex := (And.intro @wrap_id True.intro); refine WpM.regPE [] [(1, _), (7, _), (8, _)] (by (refine s_o [(8, _)] rfl rfl rfl z_su rfl q_move z_fp z_ss ?_; refine s_o [(19, _)] rfl rfl rfl z_su rfl q_full z_fp z_ss ?_; refine s_o [(20, _)] rfl rfl rfl z_su rfl q_move z_fp z_ss ?_; exact wpS_nil ⟨rfl, rfl⟩)) z_su ?_; clear z_ex)
        exact round_end (x' := j + 1) (St.Le.refl _) (frLe_frOf (by (simp (maxSteps := 2000000) (disch := omega) [go_sem, -List.map_map, wrap_id]))) ⟨by omega, hne2 hce, nx + 12, _, _, rfl, kp1, by omega, p3, rfl⟩ (by omega)
    · ((repeat refine WpM.seq ?_); refine WpM.condF (by (simp (maxSteps := 2000000) (disch := omega) [go_sem, -List.map_map, hlt])) ?_)
      (refine WpM.exit ?_; (repeat (with_reducible (first | refine thenM_exit ?_ | refine blockM_eq ?_ | refine blockM_ne (by decide) ?_))))
      obtain rfl : j = xs.length := by omega
      rw [List.take_length] at nok
      ((repeat refine WpM.seq ?_); have z_ex := True.intro; refine WpM.regPE [] [(4, _), (5, _)] (by (refine s_o [(7, _)] rfl rfl rfl z_su rfl q_move z_fp z_ss ?_; refine s_o [(36, _)] rfl rfl rfl z_su rfl q_move z_fp z_ss ?_; refine s_o [] rfl rfl rfl z_su rfl q_move z_fp z_ss ?_; exact wpS_nil ⟨rfl, rfl⟩)) z_su ?_; clear z_ex)
      refine WpM.ret ?_
      exact ⟨.inr rfl, done xs nmo _ G 0 (trimL_no xs fun c hc => by obtain ⟨i, hi, rfl⟩ := List.getElem_of_mem hc; exact hne i hi hi) hno kp nok⟩
  · rw [if_neg h0]
    ((repeat refine WpM.seq ?_); have z_ex := (And.intro @h0 True.intro); refine WpM.regPE [] [(1, _), (6, _), (13, _)] (by (refine s_o [(6, _)] rfl rfl rfl z_su rfl q_move z_fp z_ss ?_; refine s_o [(12, _)] rfl rfl rfl z_su rfl q_full z_fp z_ss ?_; exact wpS_nil ⟨rfl, rfl⟩)) z_su ?_; clear z_ex)
    ((repeat refine WpM.seq ?_); refine WpM.condT (by (simp (maxSteps := 2000000) (disch := omega) [go_sem, -List.map_map, h0])) ?_)
    ((repeat refine WpM.seq ?_); have z_ex := True.intro; refine WpM.regPE [] [(4, _), (5, _)] (by (refine s_o [(6, _)] rfl rfl rfl z_su rfl q_move z_fp z_ss ?_; refine s_o [] rfl rfl rfl z_su rfl q_move z_fp z_ss ?_; refine s_o [(14, _)] rfl rfl rfl z_su rfl q_move z_fp z_ss ?_; exact wpS_nil ⟨rfl, rfl⟩)) z_su ?_; clear z_ex)
    refine WpM.ret ?_
    refine ⟨.inr rfl, Upd.pureNil 4 (.inl (by (simp (maxSteps := 2000000) (disch := omega) [go_sem, -List.map_map]))) (Upd.done ⟨.tup [.d (cls []), .d (.int .i64 e)], (by (simp (maxSteps := 2000000) (disch := omega) [go_sem, -List.map_map, resV, resVs, resV1, fset, cls])), rfl, fun m k _ hk => ?_⟩)⟩
    have := hH _ _ hk
    (simp (maxSteps := 2000000) (disch := omega) [go_sem, -List.map_map, hk])
theorem trimF_mem {n : Int} {cs xs : List (List Int)} {b : Nat} (h : xs.length ≤ b ∧ ∀ c ∈ xs, c.length ≤ b) : (trimF n cs xs).length ≤ b ∧ ∀ c ∈ trimF n cs xs, c.length ≤ b := by
  have key : ∀ xs : List (List Int), (trimL xs).length ≤ xs.length ∧ ∀ c ∈ trimL xs, c ∈ xs := by
    intro xs
    induction xs with
    | nil => simp [trimL]
    | cons c r ih =>
      by_cases hc : c = []
      · simp [trimL, hc]
      · rw [trimL, if_neg hc]
        refine ⟨by simp only [List.length_cons]; omega, fun d hd => ?_⟩
        rcases List.mem_cons.1 hd with rfl | hd
        · simp
        · exact List.mem_cons_of_mem _ (ih.2 d hd)
  unfold trimF
  split
  · exact ⟨Nat.le_trans (key xs).1 h.1, fun c hc => h.2 c ((key xs).2 c hc)⟩
  · simp
set_option maxHeartbeats 8000000 in
theorem law7 (n : Int) (cs xs : List (List Int)) (c : List Int) (hcl : cs.length ≤ 1048576) (hcs : ∀ c ∈ cs, c.length ≤ 1048576) (hxl : xs.length ≤ 1048576) (hxs : ∀ c ∈ xs, c.length ≤ 1048576) (hc : c.length ≤ 1048576) :
    PureC Try.prog 7 [.d (cnf n cs), .d (cls xs), .d (ints c)] (.d (.bool true)) := by
  refine PureC.of (n := 70) Try.func7 rfl rfl (by simp) (by simp only [argL, Nat.reduceAdd] <;> rfl) rfl ?_
  intro n0 H hH
  have hcl' : cs.length ≤ 140737488351232 := by omega
  have hcs' : ∀ c ∈ cs, c.length ≤ 140737488351232 := fun c hc => by have := hcs c hc; omega
  have hxl' : xs.length ≤ 140737488351232 := by omega
  have hxs' : ∀ c ∈ xs, c.length ≤ 140737488351232 := fun c hc => by have := hxs c hc; omega
  ((repeat refine WpM.seq ?_); have z_ex := (And.intro @cnf.eq_1 True.intro); refine WpM.regPE [] [(1, _), (2, _), (3, _)] (by (refine s_o [(0, _)] rfl rfl rfl z_su rfl q_box z_fp z_ss ?_; refine s_o [] rfl rfl rfl z_su rfl q_move z_fp z_ss ?_; exact wpS_nil ⟨rfl, rfl⟩)) z_su ?_; clear z_ex)
  ((repeat refine WpM.seq ?_); have z_ex := True.intro; refine WpM.regPE [] [(1, _), (2, _), (3, _), (16, _)] (by (refine s_pure (callOf_eq rfl rfl rfl mlk_nil) (alive14) rfl rfl z_ip z_fp ?_; refine s_o [(15, _)] rfl rfl rfl z_su rfl q_unOp z_fp z_ss ?_; exact wpS_nil ⟨rfl, rfl⟩)) z_su ?_; clear z_ex)
  ((repeat refine WpM.seq ?_); refine WpM.condF (by (simp (maxSteps := 2000000) (disch := omega) [go_sem, -List.map_map])) ?_)
  refine WpM.skip ?_
  have hL := light15 n cs xs hcl hcs hxl hxs
  cases hl : lightP n cs xs with
  | false =>
    rw [hl] at hL
    ((repeat refine WpM.seq ?_); have z_ex := (And.intro @cnf.eq_1 True.intro); refine WpM.regPE [] [(1, _), (2, _), (3, _), (25, _)] (by (refine s_o [(3, _)] rfl rfl rfl z_su rfl q_load z_fp z_ss ?_; refine s_o [(1, _)] rfl rfl rfl z_su rfl q_move z_fp z_ss ?_; refine s_pure (callOf_eq rfl rfl rfl (mlk_tmp z_lk (mlk_tmp z_lk mlk_nil))) (hL) rfl rfl z_ip z_fp ?_; refine s_o [(19, _)] rfl rfl rfl z_su rfl q_unOp z_fp z_ss ?_; refine s_o [(20, _)] rfl rfl rfl z_su rfl q_move z_fp z_ss ?_; (first | (refine s_wT ?_ ?_; focus (refine guardM_at rfl rfl z_lk ?_; (simp (disch := omega) [go_sem, -List.map_map, z_ex]); done)) | (refine s_wF ?_ ?_; focus (refine guardM_at rfl rfl z_lk ?_; (simp (disch := omega) [go_sem, -List.map_map, z_ex]); done))); intro z_g; (first | refine s_skip rfl z_g z_fp ?_ | (refine s_o [(2, _)] rfl z_g rfl z_su rfl q_move z_fp z_ss ?_)); clear z_g; (first | (refine s_wT ?_ ?_; focus (refine guardM_at rfl rfl z_lk ?_; (simp (disch := omega) [go_sem, -List.map_map, z_ex]); done)) | (refine s_wF ?_ ?_; focus (refine guardM_at rfl rfl z_lk ?_; (simp (disch := omega) [go_sem, -List.map_map, z_ex]); done))); intro z_g; (first | refine s_skip rfl z_g z_fp ?_ | (refine s_o [(22, _)] rfl z_g rfl z_su rfl q_full z_fp z_ss ?_)); clear z_g; (first | (refine s_wT ?_ ?_; focus (refine guardM_at rfl rfl z_lk ?_; (simp (disch := omega) [go_sem, -List.map_map, z_ex]); done)) | (refine s_wF ?_ ?_; focus (refine guardM_at rfl rfl z_lk ?_; (simp (disch := omega) [go_sem, -List.map_map, z_ex]); done))); intro z_g; (first | refine s_skip rfl z_g z_fp ?_ | (refine s_o [(23, _)] rfl z_g rfl z_su rfl q_full z_fp z_ss ?_)); clear z_g; refine s_o [(21, _), (24, _)] rfl rfl rfl z_su rfl q_move z_fp z_ss ?_; exact wpS_nil ⟨rfl, rfl⟩)) z_su ?_; clear z_ex)
    ((repeat refine WpM.seq ?_); refine WpM.condT (by (simp (maxSteps := 2000000) (disch := omega) [go_sem, -List.map_map])) ?_)
    ((repeat refine WpM.seq ?_); have z_ex := True.intro; refine WpM.regPE [] [(6, _)] (by (refine s_o [] rfl rfl rfl z_su rfl q_move z_fp z_ss ?_; exact wpS_nil ⟨rfl, rfl⟩)) z_su ?_; clear z_ex)
    (refine WpM.ret ?_; refine ⟨.inr rfl, Upd.done ?_⟩; (simp (maxSteps := 2000000) (disch := omega) [go_sem, -List.map_map, resV, resVs, resV1,]))
  | true =>
    rw [hl] at hL
    by_cases h9 : (9000 : Int) < c.length
    · ((repeat refine WpM.seq ?_); have z_ex := (And.intro @cnf.eq_1 (And.intro @ints.eq_1 (And.intro @h9 True.intro))); refine WpM.regPE [] [(1, _), (2, _), (3, _), (25, _)] (by (refine s_o [(3, _)] rfl rfl rfl z_su rfl q_load z_fp z_ss ?_; refine s_o [(1, _)] rfl rfl rfl z_su rfl q_move z_fp z_ss ?_; refine s_pure (callOf_eq rfl rfl rfl (mlk_tmp z_lk (mlk_tmp z_lk mlk_nil))) (hL) rfl rfl z_ip z_fp ?_; refine s_o [(19, _)] rfl rfl rfl z_su rfl q_unOp z_fp z_ss ?_; refine s_o [(20, _)] rfl rfl rfl z_su rfl q_move z_fp z_ss ?_; (first | (refine s_wT ?_ ?_; focus (refine guardM_at rfl rfl z_lk ?_; (simp (disch := omega) [go_sem, -List.map_map, z_ex]); done)) | (refine s_wF ?_ ?_; focus (refine guardM_at rfl rfl z_lk ?_; (simp (disch := omega) [go_sem, -List.map_map, z_ex]); done))); intro z_g; (first | refine s_skip rfl z_g z_fp ?_ | (refine s_o [(2, _)] rfl z_g rfl z_su rfl q_move z_fp z_ss ?_)); clear z_g; (first | (refine s_wT ?_ ?_; focus (refine guardM_at rfl rfl z_lk ?_; (simp (disch := omega) [go_sem, -List.map_map, z_ex]); done)) | (refine s_wF ?_ ?_; focus (refine guardM_at rfl rfl z_lk ?_; (simp (disch := omega) [go_sem, -List.map_map, z_ex]); done))); intro z_g; (first | refine s_skip rfl z_g z_fp ?_ | (refine s_o [(22, _)] rfl z_g rfl z_su rfl q_full z_fp z_ss ?_)); clear z_g; (first | (refine s_wT ?_ ?_; focus (refine guardM_at rfl rfl z_lk ?_; (simp (disch := omega) [go_sem, -List.map_map, z_ex]); done)) | (refine s_wF ?_ ?_; focus (refine guardM_at rfl rfl z_lk ?_; (simp (disch := omega) [go_sem, -List.map_map, z_ex]); done))); intro z_g; (first | refine s_skip rfl z_g z_fp ?_ | (refine s_o [(23, _)] rfl z_g rfl z_su rfl q_full z_fp z_ss ?_)); clear z_g; refine s_o [(21, _), (24, _)] rfl rfl rfl z_su rfl q_move z_fp z_ss ?_; exact wpS_nil ⟨rfl, rfl⟩)) z_su ?_; clear z_ex)
      ((repeat refine WpM.seq ?_); refine WpM.condT (by (simp (maxSteps := 2000000) (disch := omega) [go_sem, -List.map_map, h9])) ?_)
      ((repeat refine WpM.seq ?_); have z_ex := True.intro; refine WpM.regPE [] [(6, _)] (by (refine s_o [] rfl rfl rfl z_su rfl q_move z_fp z_ss ?_; exact wpS_nil ⟨rfl, rfl⟩)) z_su ?_; clear z_ex)
      (refine WpM.ret ?_; refine ⟨.inr rfl, Upd.done ?_⟩; (simp (maxSteps := 2000000) (disch := omega) [go_sem, -List.map_map, resV, resVs, resV1,]))
    · have hm := trimF_mem (n := n) (cs := cs) (xs := xs) (b := 1048576) ⟨hxl, hxs⟩
      have c1 := plain26 n cs xs c hcl' hcs' hxl hxs hc
      have c2 := plain27 n cs xs c hcl' hcs' hxl hxs hc
      have c3 := trim25 n cs xs hcl' hcs' hxl' hxs'
      have c4 := trim28 n cs xs hcl' hcs' hxl' hxs'
      have c5 := sameLists (trimF n cs xs) (trimF n cs xs) (by omega) (fun d hd => by have := hm.2 d hd; omega)
      generalize (if soundP n cs (xs ++ [c]) = 0 then followsB (cs ++ xs) c else false) = b at c1 c2
      generalize soundP n cs (xs ++ [c]) = e at c1 c2
      generalize soundP n cs xs = e2 at c3 c4
      generalize trimF n cs xs = t at c3 c4 c5
      ((repeat refine WpM.seq ?_); have z_ex := (And.intro @cnf.eq_1 (And.intro @ints.eq_1 (And.intro @h9 True.intro))); refine WpM.regPE [] [(1, _), (2, _), (3, _), (25, _)] (by (refine s_o [(3, _)] rfl rfl rfl z_su rfl q_load z_fp z_ss ?_; refine s_o [(1, _)] rfl rfl rfl z_su rfl q_move z_fp z_ss ?_; refine s_pure (callOf_eq rfl rfl rfl (mlk_tmp z_lk (mlk_tmp z_lk mlk_nil))) (hL) rfl rfl z_ip z_fp ?_; refine s_o [(19, _)] rfl rfl rfl z_su rfl q_unOp z_fp z_ss ?_; refine s_o [(20, _)] rfl rfl rfl z_su rfl q_move z_fp z_ss ?_; (first | (refine s_wT ?_ ?_; focus (refine guardM_at rfl rfl z_lk ?_; (simp (disch := omega) [go_sem, -List.map_map, z_ex]); done)) | (refine s_wF ?_ ?_; focus (refine guardM_at rfl rfl z_lk ?_; (simp (disch := omega) [go_sem, -List.map_map, z_ex]); done))); intro z_g; (first | refine s_skip rfl z_g z_fp ?_ | (refine s_o [(2, _)] rfl z_g rfl z_su rfl q_move z_fp z_ss ?_)); clear z_g; (first | (refine s_wT ?_ ?_; focus (refine guardM_at rfl rfl z_lk ?_; (simp (disch := omega) [go_sem, -List.map_map, z_ex]); done)) | (refine s_wF ?_ ?_; focus (refine guardM_at rfl rfl z_lk ?_; (simp (disch := omega) [go_sem, -List.map_map, z_ex]); done))); intro z_g; (first | refine s_skip rfl z_g z_fp ?_ | (refine s_o [(22, _)] rfl z_g rfl z_su rfl q_full z_fp z_ss ?_)); clear z_g; (first | (refine s_wT ?_ ?_; focus (refine guardM_at rfl rfl z_lk ?_; (simp (disch := omega) [go_sem, -List.map_map, z_ex]); done)) | (refine s_wF ?_ ?_; focus (refine guardM_at rfl rfl z_lk ?_; (simp (disch := omega) [go_sem, -List.map_map, z_ex]); done))); intro z_g; (first | refine s_skip rfl z_g z_fp ?_ | (refine s_o [(23, _)] rfl z_g rfl z_su rfl q_full z_fp z_ss ?_)); clear z_g; refine s_o [(21, _), (24, _)] rfl rfl rfl z_su rfl q_move z_fp z_ss ?_; exact wpS_nil ⟨rfl, rfl⟩)) z_su ?_; clear z_ex)
      ((repeat refine WpM.seq ?_); refine WpM.condF (by (simp (maxSteps := 2000000) (disch := omega) [go_sem, -List.map_map, h9])) ?_)
      refine WpM.skip ?_
      ((repeat refine WpM.seq ?_); have z_ex := (And.intro @cnf.eq_1 True.intro); refine WpM.regPE [] [(1, _), (2, _), (3, _), (7, _), (8, _)] (by (refine s_o [(3, _)] rfl rfl rfl z_su rfl q_load z_fp z_ss ?_; refine s_o [(1, _)] rfl rfl rfl z_su rfl q_move z_fp z_ss ?_; refine s_o [(2, _)] rfl rfl rfl z_su rfl q_move z_fp z_ss ?_; refine s_pure (callOf_eq rfl rfl rfl (mlk_tmp z_lk (mlk_tmp z_lk (mlk_tmp z_lk mlk_nil)))) (c1) rfl rfl z_ip z_fp ?_; refine s_o [(30, _)] rfl rfl rfl z_su rfl q_move z_fp z_ss ?_; refine s_o [(26, _)] rfl rfl rfl z_su rfl q_extract z_fp z_ss ?_; refine s_o [(26, _)] rfl rfl rfl z_su rfl q_extract z_fp z_ss ?_; refine s_o [(31, _)] rfl rfl rfl z_su rfl q_move z_fp z_ss ?_; refine s_o [(32, _)] rfl rfl rfl z_su rfl q_move z_fp z_ss ?_; exact wpS_nil ⟨rfl, rfl⟩)) z_su ?_; clear z_ex)
      ((repeat refine WpM.seq ?_); have z_ex := (And.intro @cnf.eq_1 True.intro); refine WpM.regPE [] [(1, _), (3, _), (7, _), (8, _), (9, _), (10, _)] (by (refine s_o [(3, _)] rfl rfl rfl z_su rfl q_load z_fp z_ss ?_; refine s_o [(1, _)] rfl rfl rfl z_su rfl q_move z_fp z_ss ?_; refine s_o [(2, _)] rfl rfl rfl z_su rfl q_move z_fp z_ss ?_; refine s_pure (callOf_eq rfl rfl rfl (mlk_tmp z_lk (mlk_tmp z_lk (mlk_tmp z_lk mlk_nil)))) (c2) rfl rfl z_ip z_fp ?_; refine s_o [(37, _)] rfl rfl rfl z_su rfl q_move z_fp z_ss ?_; refine s_o [(33, _)] rfl rfl rfl z_su rfl q_extract z_fp z_ss ?_; refine s_o [(33, _)] rfl rfl rfl z_su rfl q_extract z_fp z_ss ?_; refine s_o [(38, _)] rfl rfl rfl z_su rfl q_move z_fp z_ss ?_; refine s_o [(39, _)] rfl rfl rfl z_su rfl q_move z_fp z_ss ?_; exact wpS_nil ⟨rfl, rfl⟩)) z_su ?_; clear z_ex)
      ((repeat refine WpM.seq ?_); have z_ex := (And.intro @cnf.eq_1 True.intro); refine WpM.regPE [] [(1, _), (3, _), (7, _), (8, _), (9, _), (10, _), (11, _), (12, _)] (by (refine s_o [(3, _)] rfl rfl rfl z_su rfl q_load z_fp z_ss ?_; refine s_o [(1, _)] rfl rfl rfl z_su rfl q_move z_fp z_ss ?_; refine s_pure (callOf_eq rfl rfl rfl (mlk_tmp z_lk (mlk_tmp z_lk mlk_nil))) (c3) rfl rfl z_ip z_fp ?_; refine s_o [(43, _)] rfl rfl rfl z_su rfl q_move z_fp z_ss ?_; refine s_o [(40, _)] rfl rfl rfl z_su rfl q_extract z_fp z_ss ?_; refine s_o [(40, _)] rfl rfl rfl z_su rfl q_extract z_fp z_ss ?_; refine s_o [(44, _)] rfl rfl rfl z_su rfl q_move z_fp z_ss ?_; refine s_o [(45, _)] rfl rfl rfl z_su rfl q_move z_fp z_ss ?_; exact wpS_nil ⟨rfl, rfl⟩)) z_su ?_; clear z_ex)
      ((repeat refine WpM.seq ?_); have z_ex := (And.intro @cnf.eq_1 True.intro); refine WpM.regPE [] [(7, _), (8, _), (9, _), (10, _), (11, _), (12, _), (13, _), (14, _)] (by (refine s_o [(3, _)] rfl rfl rfl z_su rfl q_load z_fp z_ss ?_; refine s_o [(1, _)] rfl rfl rfl z_su rfl q_move z_fp z_ss ?_; refine s_pure (callOf_eq rfl rfl rfl (mlk_tmp z_lk (mlk_tmp z_lk mlk_nil))) (c4) rfl rfl z_ip z_fp ?_; refine s_o [(49, _)] rfl rfl rfl z_su rfl q_move z_fp z_ss ?_; refine s_o [(46, _)] rfl rfl rfl z_su rfl q_extract z_fp z_ss ?_; refine s_o [(46, _)] rfl rfl rfl z_su rfl q_extract z_fp z_ss ?_; refine s_o [(50, _)] rfl rfl rfl z_su rfl q_move z_fp z_ss ?_; refine s_o [(51, _)] rfl rfl rfl z_su rfl q_move z_fp z_ss ?_; exact wpS_nil ⟨rfl, rfl⟩)) z_su ?_; clear z_ex)
      ((repeat refine WpM.seq ?_); have z_ex := True.intro; refine WpM.regPE [] [(6, _)] (by (refine s_o [(7, _)] rfl rfl rfl z_su rfl q_move z_fp z_ss ?_; refine s_o [(9, _)] rfl rfl rfl z_su rfl q_move z_fp z_ss ?_; refine s_o [(52, _), (53, _)] rfl rfl rfl z_su rfl q_full z_fp z_ss ?_; refine s_o [(54, _)] rfl rfl rfl z_su rfl q_move z_fp z_ss ?_; (first | (refine s_wT ?_ ?_; focus (refine guardM_at rfl rfl z_lk ?_; (simp (disch := omega) [go_sem, -List.map_map, z_ex]); done)) | (refine s_wF ?_ ?_; focus (refine guardM_at rfl rfl z_lk ?_; (simp (disch := omega) [go_sem, -List.map_map, z_ex]); done))); intro z_g; (first | refine s_skip rfl z_g z_fp ?_ | (refine s_o [(8, _)] rfl z_g rfl z_su rfl q_move z_fp z_ss ?_)); clear z_g; (first | (refine s_wT ?_ ?_; focus (refine guardM_at rfl rfl z_lk ?_; (simp (disch := omega) [go_sem, -List.map_map, z_ex]); done)) | (refine s_wF ?_ ?_; focus (refine guardM_at rfl rfl z_lk ?_; (simp (disch := omega) [go_sem, -List.map_map, z_ex]); done))); intro z_g; (first | refine s_skip rfl z_g z_fp ?_ | (refine s_o [(10, _)] rfl z_g rfl z_su rfl q_move z_fp z_ss ?_)); clear z_g; (first | (refine s_wT ?_ ?_; focus (refine guardM_at rfl rfl z_lk ?_; (simp (disch := omega) [go_sem, -List.map_map, z_ex]); done)) | (refine s_wF ?_ ?_; focus (refine guardM_at rfl rfl z_lk ?_; (simp (disch := omega) [go_sem, -List.map_map, z_ex]); done))); intro z_g; (first | refine s_skip rfl z_g z_fp ?_ | (refine s_o [(56, _), (57, _)] rfl z_g rfl z_su rfl q_full z_fp z_ss ?_)); clear z_g; refine s_o [(55, _), (58, _)] rfl rfl rfl z_su rfl q_move z_fp z_ss ?_; refine s_o [(59, _)] rfl rfl rfl z_su rfl q_move z_fp z_ss ?_; (first | (refine s_wT ?_ ?_; focus (refine guardM_at rfl rfl z_lk ?_; (simp (disch := omega) [go_sem, -List.map_map, z_ex]); done)) | (refine s_wF ?_ ?_; focus (refine guardM_at rfl rfl z_lk ?_; (simp (disch := omega) [go_sem, -List.map_map, z_ex]); done))); intro z_g; (first | refine s_skip rfl z_g z_fp ?_ | (refine s_o [(12, _)] rfl z_g rfl z_su rfl q_move z_fp z_ss ?_)); clear z_g; (first | (refine s_wT ?_ ?_; focus (refine guardM_at rfl rfl z_lk ?_; (simp (disch := omega) [go_sem, -List.map_map, z_ex]); done)) | (refine s_wF ?_ ?_; focus (refine guardM_at rfl rfl z_lk ?_; (simp (disch := omega) [go_sem, -List.map_map, z_ex]); done))); intro z_g; (first | refine s_skip rfl z_g z_fp ?_ | (refine s_o [(14, _)] rfl z_g rfl z_su rfl q_move z_fp z_ss ?_)); clear z_g; (first | (refine s_wT ?_ ?_; focus (refine guardM_at rfl rfl z_lk ?_; (simp (disch := omega) [go_sem, -List.map_map, z_ex]); done)) | (refine s_wF ?_ ?_; focus (refine guardM_at rfl rfl z_lk ?_; (simp (disch := omega) [go_sem, -List.map_map, z_ex]); done))); intro z_g; (first | refine s_skip rfl z_g z_fp ?_ | (refine s_o [(61, _), (62, _)] rfl z_g rfl z_su rfl q_full z_fp z_ss ?_)); clear z_g; refine s_o [(60, _), (63, _)] rfl rfl rfl z_su rfl q_move z_fp z_ss ?_; refine s_o [(64, _)] rfl rfl rfl z_su rfl q_move z_fp z_ss ?_; (first | (refine s_wT ?_ ?_; focus (refine guardM_at rfl rfl z_lk ?_; (simp (disch := omega) [go_sem, -List.map_map, z_ex]); done)) | (refine s_wF ?_ ?_; focus (refine guardM_at rfl rfl z_lk ?_; (simp (disch := omega) [go_sem, -List.map_map, z_ex]); done))); intro z_g; (first | refine s_skip rfl z_g z_fp ?_ | (refine s_o [(11, _)] rfl z_g rfl z_su rfl q_move z_fp z_ss ?_)); clear z_g; (first | (refine s_wT ?_ ?_; focus (refine guardM_at rfl rfl z_lk ?_; (simp (disch := omega) [go_sem, -List.map_map, z_ex]); done)) | (refine s_wF ?_ ?_; focus (refine guardM_at rfl rfl z_lk ?_; (simp (disch := omega) [go_sem, -List.map_map, z_ex]); done))); intro z_g; (first | refine s_skip rfl z_g z_fp ?_ | (refine s_o [(13, _)] rfl z_g rfl z_su rfl q_move z_fp z_ss ?_)); clear z_g; (first | (refine s_wT ?_ ?_; focus (refine guardM_at rfl rfl z_lk ?_; (simp (disch := omega) [go_sem, -List.map_map, z_ex]); done)) | (refine s_wF ?_ ?_; focus (refine guardM_at rfl rfl z_lk ?_; (simp (disch := omega) [go_sem, -List.map_map, z_ex]); done))); intro z_g; (first | refine s_skip rfl z_g z_fp ?_ | (refine s_pure (callOf_eq rfl rfl rfl (mlk_tmp z_lk (mlk_tmp z_lk mlk_nil))) (c5) rfl z_g z_ip z_fp ?_)); clear z_g; refine s_o [(65, _), (68, _)] rfl rfl rfl z_su rfl q_move z_fp z_ss ?_; refine s_o [(69, _)] rfl rfl rfl z_su rfl q_move z_fp z_ss ?_; exact wpS_nil ⟨rfl, rfl⟩)) z_su ?_; clear z_ex)
      (refine WpM.ret ?_; refine ⟨.inr rfl, Upd.done ?_⟩; (simp (maxSteps := 2000000) (disch := omega) [go_sem, -List.map_map, resV, resVs, resV1,]))
theorem proofPlain_law (n : Int) (cs : List (List Int)) (_ : IntOk .i64 n) (hcl : cs.length ≤ 1048576) (hcs : ∀ c ∈ cs, c.length ≤ 1048576) (_ : ∀ c ∈ cs, ∀ l ∈ c, IntOk .i64 l) (xs : List (List Int)) (hxl : xs.length ≤ 1048576) (hxs : ∀ c ∈ xs, c.length ≤ 1048576) (_ : ∀ c ∈ xs, ∀ l ∈ c, IntOk .i64 l) (l : List Int) (hl : l.length ≤ 1048576) (_ : ∀ x ∈ l, IntOk .i64 x) :
    PureC Try.prog 7 [.d (cnf n cs), .d (cls xs), .d (ints l)] (.d (.bool true)) := law7 n cs xs l hcl hcs hxl hxs hl
end Go.Proofs.Ytafeehlpmdligaa
