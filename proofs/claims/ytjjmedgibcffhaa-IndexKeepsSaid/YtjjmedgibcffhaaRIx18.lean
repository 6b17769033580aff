/- Final, Type and Writers, both ways. -/
import Derived.Test.YtjjmedgibcffhaaRMd
import Derived.Test.YtjjmedgibcffhaaROp2
import Derived.Test.YtjjmedgibcffhaaRIx14
import Derived.Test.YtjjmedgibcffhaaRIx13
import Derived.Test.YtjjmedgibcffhaaRIx17
namespace Go.Proofs.Ytjjmedgibcffhaa
open Go.RowKit M
set_option linter.unusedSimpArgs false
set_option linter.unusedVariables false
noncomputable def finalF (h : HistD) (t key : Int) : List Int × Bool := open Classical in if 0 ≤ t ∧ t < h.txns.length ∧ checkB h = true then
    let l := match h.txns[t.toNat]? with | some x => wroteL x.ops key | none => []
    (l, decide (0 < l.length)) else ([], false)
noncomputable def finalV (h : HistD) (t key : Int) : V := .tup [.d (ints (finalF h t key).1), .d (.bool (finalF h t key).2)]
theorem finalV_bad {h : HistD} {t key : Int} (hb : ¬ (0 ≤ t ∧ t < h.txns.length ∧ checkB h = true)) : finalV h t key = .tup [.d (.sl []), .d (.bool false)] := by
  unfold finalV finalF
  rw [if_neg hb]
  rfl
theorem finalV_good {h : HistD} {t : Nat} {key : Int} (hi : t < h.txns.length) (hc : checkB h = true) : finalV h t key = .tup [.d (.sl ((wroteL h.txns[t].ops key).map (D.int .i64))), .d (.bool (decide (0 < (wroteL h.txns[t].ops key).length)))] := by
  unfold finalV finalF
  rw [if_pos ⟨by omega, by omega, hc⟩]
  simp [hi, ints]
theorem errno_ne {b : Bool} : errnoOf b = if b then 0 else 1 := rfl
set_option maxHeartbeats 8000000 in
theorem final36 (h : HistD) (hh : HistOk h) (t key : Int) : PureC Try.prog 36 [.d (encHist h), .d (.int .i64 t), .d (.int .i64 key)] (finalV h t key) := by
  intro S
  refine CallM.pure' (by rfl) (CallM.start (n := 34) Try.func36 rfl rfl (by simp) (by simp only [argL, Nat.reduceAdd] <;> rfl) ?_)
  intro hH
  obtain ⟨H, hHe⟩ : ∃ H, H = S.get := ⟨_, rfl⟩
  obtain ⟨n0, hne⟩ : ∃ n0, n0 = S.next := ⟨_, rfl⟩
  rw [← hHe, ← hne] at hH ⊢
  have hb := hh.b
  have hck := check32 h hh
  obtain ⟨ok, hok⟩ : ∃ ok, ok = checkB h := ⟨_, rfl⟩
  rw [← hok] at hck
  ((repeat refine WpM.seq ?_); have z_ex := (And.intro @encHist.eq_1 True.intro); refine WpM.regPE [] [(1, _), (2, _), (3, _)] (by (refine s_b [(0, _)] ?_; refine s_m [] ?_; refine s_m [] ?_; exact wpS_nil ⟨rfl, rfl⟩)) z_su ?_; clear z_ex)
  by_cases h1 : t < 0
  · rw [finalV_bad (by omega)]
    ((repeat refine WpM.seq ?_); have z_ex := (And.intro @h1 True.intro); refine WpM.regPE [] [(1, _), (2, _), (3, _), (22, _)] (by (refine s_m [(1, _)] ?_; refine s_q [(9, _)] ?_; refine s_m [(10, _)] ?_; refine s_wit ?_; intro z_g; (first | refine s_skip rfl z_g z_fp ?_ | (refine s_m [(1, _)] ?_ (hg := z_g))); clear z_g; refine s_wit ?_; intro z_g; (first | refine s_skip rfl z_g z_fp ?_ | (refine s_f [(3, _)] ?_ (hg := z_g))); clear z_g; refine s_wit ?_; intro z_g; (first | refine s_skip rfl z_g z_fp ?_ | (refine s_l [(13, _)] ?_ (hg := z_g))); clear z_g; refine s_wit ?_; intro z_g; (first | refine s_skip rfl z_g z_fp ?_ | (refine s_q [(14, _)] ?_ (hg := z_g))); clear z_g; refine s_wit ?_; intro z_g; (first | refine s_skip rfl z_g z_fp ?_ | (refine s_q [(12, _), (15, _)] ?_ (hg := z_g))); clear z_g; refine s_m [(11, _), (16, _)] ?_; refine s_m [(17, _)] ?_; refine s_wit ?_; intro z_g; (first | refine s_skip rfl z_g z_fp ?_ | (refine s_l [(3, _)] ?_ (hg := z_g))); clear z_g; refine s_wit ?_; intro z_g; (first | refine s_skip rfl z_g z_fp ?_ | (refine s_pure (callOf_eq rfl rfl rfl (mlk_tmp z_lk mlk_nil)) (?missing) rfl z_g z_ip z_fp ?_)); clear z_g; refine s_wit ?_; intro z_g; (first | refine s_skip rfl z_g z_fp ?_ | (refine s_q [(20, _)] ?_ (hg := z_g))); clear z_g; refine s_m [(18, _), (21, _)] ?_; exact wpS_nil ⟨rfl, rfl⟩)) z_su ?_; clear z_ex)
    ((repeat refine WpM.seq ?_); refine WpM.condT (by (simp (maxSteps := 2000000) (disch := omega) [go_sem, -List.map_map, h1])) ?_)
    ((repeat refine WpM.seq ?_); have z_ex := True.intro; refine WpM.regPE [] [(6, _), (7, _)] (by (refine s_m [] ?_; refine s_m [] ?_; exact wpS_nil ⟨rfl, rfl⟩)) z_su ?_; clear z_ex)
    refine WpM.ret ?_
    refine ⟨.inr rfl, Upd.pureNil 6 (.inl (by (simp (maxSteps := 2000000) (disch := omega) [go_sem, -List.map_map]))) (Upd.done ⟨_, (by (simp (maxSteps := 2000000) (disch := omega) [go_sem, -List.map_map, resV, resVs, resV1, fset])), rfl, fun m k _ hk => ?_⟩)⟩
    have := hH _ _ hk
    (simp (maxSteps := 2000000) (disch := omega) [go_sem, -List.map_map, hk])
  · by_cases h2 : (h.txns.length : Int) ≤ t
    · rw [finalV_bad (by omega)]
      ((repeat refine WpM.seq ?_); have z_ex := (And.intro @h1 (And.intro @h2 True.intro)); refine WpM.regPE [] [(1, _), (2, _), (3, _), (22, _)] (by (refine s_m [(1, _)] ?_; refine s_q [(9, _)] ?_; refine s_m [(10, _)] ?_; refine s_wit ?_; intro z_g; (first | refine s_skip rfl z_g z_fp ?_ | (refine s_m [(1, _)] ?_ (hg := z_g))); clear z_g; refine s_wit ?_; intro z_g; (first | refine s_skip rfl z_g z_fp ?_ | (refine s_f [(3, _)] ?_ (hg := z_g))); clear z_g; refine s_wit ?_; intro z_g; (first | refine s_skip rfl z_g z_fp ?_ | (refine s_l [(13, _)] ?_ (hg := z_g))); clear z_g; refine s_wit ?_; intro z_g; (first | refine s_skip rfl z_g z_fp ?_ | (refine s_q [(14, _)] ?_ (hg := z_g))); clear z_g; refine s_wit ?_; intro z_g; (first | refine s_skip rfl z_g z_fp ?_ | (refine s_q [(12, _), (15, _)] ?_ (hg := z_g))); clear z_g; refine s_m [(11, _), (16, _)] ?_; refine s_m [(17, _)] ?_; refine s_wit ?_; intro z_g; (first | refine s_skip rfl z_g z_fp ?_ | (refine s_l [(3, _)] ?_ (hg := z_g))); clear z_g; refine s_wit ?_; intro z_g; (first | refine s_skip rfl z_g z_fp ?_ | (refine s_pure (callOf_eq rfl rfl rfl (mlk_tmp z_lk mlk_nil)) (?missing) rfl z_g z_ip z_fp ?_)); clear z_g; refine s_wit ?_; intro z_g; (first | refine s_skip rfl z_g z_fp ?_ | (refine s_q [(20, _)] ?_ (hg := z_g))); clear z_g; refine s_m [(18, _), (21, _)] ?_; exact wpS_nil ⟨rfl, rfl⟩)) z_su ?_; clear z_ex)
      ((repeat refine WpM.seq ?_); refine WpM.condT (by (simp (maxSteps := 2000000) (disch := omega) [go_sem, -List.map_map, h2])) ?_)
      ((repeat refine WpM.seq ?_); have z_ex := True.intro; refine WpM.regPE [] [(6, _), (7, _)] (by (refine s_m [] ?_; refine s_m [] ?_; exact wpS_nil ⟨rfl, rfl⟩)) z_su ?_; clear z_ex)
      refine WpM.ret ?_
      refine ⟨.inr rfl, Upd.pureNil 6 (.inl (by (simp (maxSteps := 2000000) (disch := omega) [go_sem, -List.map_map]))) (Upd.done ⟨_, (by (simp (maxSteps := 2000000) (disch := omega) [go_sem, -List.map_map, resV, resVs, resV1, fset])), rfl, fun m k _ hk => ?_⟩)⟩
      have := hH _ _ hk
      (simp (maxSteps := 2000000) (disch := omega) [go_sem, -List.map_map, hk])
    · cases ok with
      | false =>
        rw [finalV_bad (by rw [← hok]; simp)]
        rw [errno_f] at hck
        ((repeat refine WpM.seq ?_); have z_ex := (And.intro @h1 (And.intro @h2 True.intro)); refine WpM.regPE [] [(1, _), (2, _), (3, _), (22, _)] (by (refine s_m [(1, _)] ?_; refine s_q [(9, _)] ?_; refine s_m [(10, _)] ?_; refine s_wit ?_; intro z_g; (first | refine s_skip rfl z_g z_fp ?_ | (refine s_m [(1, _)] ?_ (hg := z_g))); clear z_g; refine s_wit ?_; intro z_g; (first | refine s_skip rfl z_g z_fp ?_ | (refine s_f [(3, _)] ?_ (hg := z_g))); clear z_g; refine s_wit ?_; intro z_g; (first | refine s_skip rfl z_g z_fp ?_ | (refine s_l [(13, _)] ?_ (hg := z_g))); clear z_g; refine s_wit ?_; intro z_g; (first | refine s_skip rfl z_g z_fp ?_ | (refine s_q [(14, _)] ?_ (hg := z_g))); clear z_g; refine s_wit ?_; intro z_g; (first | refine s_skip rfl z_g z_fp ?_ | (refine s_q [(12, _), (15, _)] ?_ (hg := z_g))); clear z_g; refine s_m [(11, _), (16, _)] ?_; refine s_m [(17, _)] ?_; refine s_wit ?_; intro z_g; (first | refine s_skip rfl z_g z_fp ?_ | (refine s_l [(3, _)] ?_ (hg := z_g))); clear z_g; refine s_wit ?_; intro z_g; (first | refine s_skip rfl z_g z_fp ?_ | (refine s_pure (callOf_eq rfl rfl rfl (mlk_tmp z_lk mlk_nil)) (hck) rfl z_g z_ip z_fp ?_)); clear z_g; refine s_wit ?_; intro z_g; (first | refine s_skip rfl z_g z_fp ?_ | (refine s_q [(20, _)] ?_ (hg := z_g))); clear z_g; refine s_m [(18, _), (21, _)] ?_; exact wpS_nil ⟨rfl, rfl⟩)) z_su ?_; clear z_ex)
        ((repeat refine WpM.seq ?_); refine WpM.condT (by (simp (maxSteps := 2000000) (disch := omega) [go_sem, -List.map_map])) ?_)
        ((repeat refine WpM.seq ?_); have z_ex := True.intro; refine WpM.regPE [] [(6, _), (7, _)] (by (refine s_m [] ?_; refine s_m [] ?_; exact wpS_nil ⟨rfl, rfl⟩)) z_su ?_; clear z_ex)
        refine WpM.ret ?_
        refine ⟨.inr rfl, Upd.pureNil 6 (.inl (by (simp (maxSteps := 2000000) (disch := omega) [go_sem, -List.map_map]))) (Upd.done ⟨_, (by (simp (maxSteps := 2000000) (disch := omega) [go_sem, -List.map_map, resV, resVs, resV1, fset])), rfl, fun m k _ hk => ?_⟩)⟩
        have := hH _ _ hk
        (simp (maxSteps := 2000000) (disch := omega) [go_sem, -List.map_map, hk])
      | true =>
        rw [errno_t] at hck
        obtain ⟨i, rfl⟩ : ∃ i : Nat, t = i := ⟨t.toNat, by omega⟩
        have hi : i < h.txns.length := by omega
        rw [finalV_good hi hok.symm]
        obtain ⟨x, hx⟩ : ∃ x, x = h.txns[i] := ⟨_, rfl⟩
        have hgx : (h.txns.map encTxn)[i]? = some (encTxn x) := by simp [hi, hx]
        have hwr := wrote58 x (hb.txns x (hx ▸ List.getElem_mem _)) key
        rw [← hx]
        obtain ⟨wl, hwl⟩ : ∃ wl, wl = wroteL x.ops key := ⟨_, rfl⟩
        rw [← hwl] at hwr ⊢
        ((repeat refine WpM.seq ?_); have z_ex := (And.intro @h1 (And.intro @h2 True.intro)); refine WpM.regPE [] [(1, _), (2, _), (3, _), (22, _)] (by (refine s_m [(1, _)] ?_; refine s_q [(9, _)] ?_; refine s_m [(10, _)] ?_; refine s_wit ?_; intro z_g; (first | refine s_skip rfl z_g z_fp ?_ | (refine s_m [(1, _)] ?_ (hg := z_g))); clear z_g; refine s_wit ?_; intro z_g; (first | refine s_skip rfl z_g z_fp ?_ | (refine s_f [(3, _)] ?_ (hg := z_g))); clear z_g; refine s_wit ?_; intro z_g; (first | refine s_skip rfl z_g z_fp ?_ | (refine s_l [(13, _)] ?_ (hg := z_g))); clear z_g; refine s_wit ?_; intro z_g; (first | refine s_skip rfl z_g z_fp ?_ | (refine s_q [(14, _)] ?_ (hg := z_g))); clear z_g; refine s_wit ?_; intro z_g; (first | refine s_skip rfl z_g z_fp ?_ | (refine s_q [(12, _), (15, _)] ?_ (hg := z_g))); clear z_g; refine s_m [(11, _), (16, _)] ?_; refine s_m [(17, _)] ?_; refine s_wit ?_; intro z_g; (first | refine s_skip rfl z_g z_fp ?_ | (refine s_l [(3, _)] ?_ (hg := z_g))); clear z_g; refine s_wit ?_; intro z_g; (first | refine s_skip rfl z_g z_fp ?_ | (refine s_pure (callOf_eq rfl rfl rfl (mlk_tmp z_lk mlk_nil)) (hck) rfl z_g z_ip z_fp ?_)); clear z_g; refine s_wit ?_; intro z_g; (first | refine s_skip rfl z_g z_fp ?_ | (refine s_q [(20, _)] ?_ (hg := z_g))); clear z_g; refine s_m [(18, _), (21, _)] ?_; exact wpS_nil ⟨rfl, rfl⟩)) z_su ?_; clear z_ex)
        ((repeat refine WpM.seq ?_); refine WpM.condF (by (simp (maxSteps := 2000000) (disch := omega) [go_sem, -List.map_map])) ?_)
        refine WpM.skip ?_
        ((repeat refine WpM.seq ?_); have z_ex := (And.intro @hgx (And.intro @hi (And.intro @encTxn.eq_1 True.intro))); refine WpM.regPE [] [(8, _)] (by (refine s_f [(3, _)] ?_; refine s_l [(23, _)] ?_; refine s_m [(1, _)] ?_; refine s_q [(24, _), (25, _)] ?_; refine s_l [(26, _)] ?_; refine s_m [(2, _)] ?_; refine s_pure (callOf_eq rfl rfl rfl (mlk_tmp z_lk (mlk_tmp z_lk mlk_nil))) (hwr) rfl rfl z_ip z_fp ?_; refine s_m [(29, _)] ?_; exact wpS_nil ⟨rfl, rfl⟩)) z_su ?_; clear z_ex)
        ((repeat refine WpM.seq ?_); have z_ex := (And.intro @ints.eq_1 True.intro); refine WpM.regPE [] [(6, _), (7, _)] (by (refine s_m [(8, _)] ?_; refine s_m [(8, _)] ?_; refine s_q [(31, _)] ?_; refine s_q [(32, _)] ?_; refine s_m [(30, _)] ?_; refine s_m [(33, _)] ?_; exact wpS_nil ⟨rfl, rfl⟩)) z_su ?_; clear z_ex)
        refine WpM.ret ?_
        exact ⟨.inr rfl, Upd.done ⟨_, (by (simp (maxSteps := 2000000) (disch := omega) [go_sem, -List.map_map, resV, resVs, resV1, ints])), rfl, fun m k _ hk => by have := hH _ _ hk; (simp (maxSteps := 2000000) (disch := omega) [go_sem, -List.map_map, hk])⟩⟩
set_option maxHeartbeats 8000000 in
theorem final37 (h : HistD) (hh : HistOk h) (t key : Int) : PureC Try.prog 37 [.d (encHist h), .d (.int .i64 t), .d (.int .i64 key)] (finalV h t key) := by
  intro S
  refine CallM.pure' (by rfl) (CallM.start (n := 31) Try.func37 rfl rfl (by simp) (by simp only [argL, Nat.reduceAdd] <;> rfl) ?_)
  intro hH
  obtain ⟨H, hHe⟩ : ∃ H, H = S.get := ⟨_, rfl⟩
  obtain ⟨n0, hne⟩ : ∃ n0, n0 = S.next := ⟨_, rfl⟩
  rw [← hHe, ← hne] at hH ⊢
  have hb := hh.b
  have hck := check33 h hh
  obtain ⟨ok, hok⟩ : ∃ ok, ok = checkB h := ⟨_, rfl⟩
  rw [← hok] at hck
  ((repeat refine WpM.seq ?_); have z_ex := (And.intro @encHist.eq_1 True.intro); refine WpM.regPE [] [(1, _), (2, _), (3, _)] (by (refine s_b [(0, _)] ?_; refine s_m [] ?_; refine s_m [] ?_; exact wpS_nil ⟨rfl, rfl⟩)) z_su ?_; clear z_ex)
  cases ok with
  | false =>
    rw [finalV_bad (by rw [← hok]; simp)]
    rw [errno_f] at hck
    ((repeat refine WpM.seq ?_); have z_ex := True.intro; refine WpM.regPE [] [(1, _), (2, _), (3, _), (22, _)] (by (refine s_l [(3, _)] ?_; refine s_pure (callOf_eq rfl rfl rfl (mlk_tmp z_lk mlk_nil)) (hck) rfl rfl z_ip z_fp ?_; refine s_q [(10, _)] ?_; refine s_m [(11, _)] ?_; refine s_wit ?_; intro z_g; (first | refine s_skip rfl z_g z_fp ?_ | (refine s_m [(1, _)] ?_ (hg := z_g))); clear z_g; refine s_wit ?_; intro z_g; (first | refine s_skip rfl z_g z_fp ?_ | (refine s_q [(13, _)] ?_ (hg := z_g))); clear z_g; refine s_m [(12, _), (14, _)] ?_; refine s_m [(15, _)] ?_; refine s_wit ?_; intro z_g; (first | refine s_skip rfl z_g z_fp ?_ | (refine s_m [(1, _)] ?_ (hg := z_g))); clear z_g; refine s_wit ?_; intro z_g; (first | refine s_skip rfl z_g z_fp ?_ | (refine s_f [(3, _)] ?_ (hg := z_g))); clear z_g; refine s_wit ?_; intro z_g; (first | refine s_skip rfl z_g z_fp ?_ | (refine s_l [(18, _)] ?_ (hg := z_g))); clear z_g; refine s_wit ?_; intro z_g; (first | refine s_skip rfl z_g z_fp ?_ | (refine s_q [(19, _)] ?_ (hg := z_g))); clear z_g; refine s_wit ?_; intro z_g; (first | refine s_skip rfl z_g z_fp ?_ | (refine s_q [(17, _), (20, _)] ?_ (hg := z_g))); clear z_g; refine s_m [(16, _), (21, _)] ?_; exact wpS_nil ⟨rfl, rfl⟩)) z_su ?_; clear z_ex)
    ((repeat refine WpM.seq ?_); refine WpM.condT (by (simp (maxSteps := 2000000) (disch := omega) [go_sem, -List.map_map])) ?_)
    ((repeat refine WpM.seq ?_); have z_ex := True.intro; refine WpM.regPE [] [(6, _), (7, _)] (by (refine s_m [] ?_; refine s_m [] ?_; exact wpS_nil ⟨rfl, rfl⟩)) z_su ?_; clear z_ex)
    refine WpM.ret ?_
    refine ⟨.inr rfl, Upd.pureNil 6 (.inl (by (simp (maxSteps := 2000000) (disch := omega) [go_sem, -List.map_map]))) (Upd.done ⟨_, (by (simp (maxSteps := 2000000) (disch := omega) [go_sem, -List.map_map, resV, resVs, resV1, fset])), rfl, fun m k _ hk => ?_⟩)⟩
    have := hH _ _ hk
    (simp (maxSteps := 2000000) (disch := omega) [go_sem, -List.map_map, hk])
  | true =>
    rw [errno_t] at hck
    by_cases h1 : t < 0
    · rw [finalV_bad (by omega)]
      ((repeat refine WpM.seq ?_); have z_ex := (And.intro @h1 True.intro); refine WpM.regPE [] [(1, _), (2, _), (3, _), (22, _)] (by (refine s_l [(3, _)] ?_; refine s_pure (callOf_eq rfl rfl rfl (mlk_tmp z_lk mlk_nil)) (hck) rfl rfl z_ip z_fp ?_; refine s_q [(10, _)] ?_; refine s_m [(11, _)] ?_; refine s_wit ?_; intro z_g; (first | refine s_skip rfl z_g z_fp ?_ | (refine s_m [(1, _)] ?_ (hg := z_g))); clear z_g; refine s_wit ?_; intro z_g; (first | refine s_skip rfl z_g z_fp ?_ | (refine s_q [(13, _)] ?_ (hg := z_g))); clear z_g; refine s_m [(12, _), (14, _)] ?_; refine s_m [(15, _)] ?_; refine s_wit ?_; intro z_g; (first | refine s_skip rfl z_g z_fp ?_ | (refine s_m [(1, _)] ?_ (hg := z_g))); clear z_g; refine s_wit ?_; intro z_g; (first | refine s_skip rfl z_g z_fp ?_ | (refine s_f [(3, _)] ?_ (hg := z_g))); clear z_g; refine s_wit ?_; intro z_g; (first | refine s_skip rfl z_g z_fp ?_ | (refine s_l [(18, _)] ?_ (hg := z_g))); clear z_g; refine s_wit ?_; intro z_g; (first | refine s_skip rfl z_g z_fp ?_ | (refine s_q [(19, _)] ?_ (hg := z_g))); clear z_g; refine s_wit ?_; intro z_g; (first | refine s_skip rfl z_g z_fp ?_ | (refine s_q [(17, _), (20, _)] ?_ (hg := z_g))); clear z_g; refine s_m [(16, _), (21, _)] ?_; exact wpS_nil ⟨rfl, rfl⟩)) z_su ?_; clear z_ex)
      ((repeat refine WpM.seq ?_); refine WpM.condT (by (simp (maxSteps := 2000000) (disch := omega) [go_sem, -List.map_map, h1])) ?_)
      ((repeat refine WpM.seq ?_); have z_ex := True.intro; refine WpM.regPE [] [(6, _), (7, _)] (by (refine s_m [] ?_; refine s_m [] ?_; exact wpS_nil ⟨rfl, rfl⟩)) z_su ?_; clear z_ex)
      refine WpM.ret ?_
      refine ⟨.inr rfl, Upd.pureNil 6 (.inl (by (simp (maxSteps := 2000000) (disch := omega) [go_sem, -List.map_map]))) (Upd.done ⟨_, (by (simp (maxSteps := 2000000) (disch := omega) [go_sem, -List.map_map, resV, resVs, resV1, fset])), rfl, fun m k _ hk => ?_⟩)⟩
      have := hH _ _ hk
      (simp (maxSteps := 2000000) (disch := omega) [go_sem, -List.map_map, hk])
    · by_cases h2 : (h.txns.length : Int) ≤ t
      · rw [finalV_bad (by omega)]
        ((repeat refine WpM.seq ?_); have z_ex := (And.intro @h1 (And.intro @h2 True.intro)); refine WpM.regPE [] [(1, _), (2, _), (3, _), (22, _)] (by (refine s_l [(3, _)] ?_; refine s_pure (callOf_eq rfl rfl rfl (mlk_tmp z_lk mlk_nil)) (hck) rfl rfl z_ip z_fp ?_; refine s_q [(10, _)] ?_; refine s_m [(11, _)] ?_; refine s_wit ?_; intro z_g; (first | refine s_skip rfl z_g z_fp ?_ | (refine s_m [(1, _)] ?_ (hg := z_g))); clear z_g; refine s_wit ?_; intro z_g; (first | refine s_skip rfl z_g z_fp ?_ | (refine s_q [(13, _)] ?_ (hg := z_g))); clear z_g; refine s_m [(12, _), (14, _)] ?_; refine s_m [(15, _)] ?_; refine s_wit ?_; intro z_g; (first | refine s_skip rfl z_g z_fp ?_ | (refine s_m [(1, _)] ?_ (hg := z_g))); clear z_g; refine s_wit ?_; intro z_g; (first | refine s_skip rfl z_g z_fp ?_ | (refine s_f [(3, _)] ?_ (hg := z_g))); clear z_g; refine s_wit ?_; intro z_g; (first | refine s_skip rfl z_g z_fp ?_ | (refine s_l [(18, _)] ?_ (hg := z_g))); clear z_g; refine s_wit ?_; intro z_g; (first | refine s_skip rfl z_g z_fp ?_ | (refine s_q [(19, _)] ?_ (hg := z_g))); clear z_g; refine s_wit ?_; intro z_g; (first | refine s_skip rfl z_g z_fp ?_ | (refine s_q [(17, _), (20, _)] ?_ (hg := z_g))); clear z_g; refine s_m [(16, _), (21, _)] ?_; exact wpS_nil ⟨rfl, rfl⟩)) z_su ?_; clear z_ex)
        ((repeat refine WpM.seq ?_); refine WpM.condT (by (simp (maxSteps := 2000000) (disch := omega) [go_sem, -List.map_map, h2])) ?_)
        ((repeat refine WpM.seq ?_); have z_ex := True.intro; refine WpM.regPE [] [(6, _), (7, _)] (by (refine s_m [] ?_; refine s_m [] ?_; exact wpS_nil ⟨rfl, rfl⟩)) z_su ?_; clear z_ex)
        refine WpM.ret ?_
        refine ⟨.inr rfl, Upd.pureNil 6 (.inl (by (simp (maxSteps := 2000000) (disch := omega) [go_sem, -List.map_map]))) (Upd.done ⟨_, (by (simp (maxSteps := 2000000) (disch := omega) [go_sem, -List.map_map, resV, resVs, resV1, fset])), rfl, fun m k _ hk => ?_⟩)⟩
        have := hH _ _ hk
        (simp (maxSteps := 2000000) (disch := omega) [go_sem, -List.map_map, hk])
      · obtain ⟨i, rfl⟩ : ∃ i : Nat, t = i := ⟨t.toNat, by omega⟩
        have hi : i < h.txns.length := by omega
        rw [finalV_good hi hok.symm]
        have hwr := wrote59 h hb i hi key
        obtain ⟨wl, hwl⟩ : ∃ wl, wl = wroteL h.txns[i].ops key := ⟨_, rfl⟩
        rw [← hwl] at hwr ⊢
        ((repeat refine WpM.seq ?_); have z_ex := (And.intro @h1 (And.intro @h2 True.intro)); refine WpM.regPE [] [(1, _), (2, _), (3, _), (22, _)] (by (refine s_l [(3, _)] ?_; refine s_pure (callOf_eq rfl rfl rfl (mlk_tmp z_lk mlk_nil)) (hck) rfl rfl z_ip z_fp ?_; refine s_q [(10, _)] ?_; refine s_m [(11, _)] ?_; refine s_wit ?_; intro z_g; (first | refine s_skip rfl z_g z_fp ?_ | (refine s_m [(1, _)] ?_ (hg := z_g))); clear z_g; refine s_wit ?_; intro z_g; (first | refine s_skip rfl z_g z_fp ?_ | (refine s_q [(13, _)] ?_ (hg := z_g))); clear z_g; refine s_m [(12, _), (14, _)] ?_; refine s_m [(15, _)] ?_; refine s_wit ?_; intro z_g; (first | refine s_skip rfl z_g z_fp ?_ | (refine s_m [(1, _)] ?_ (hg := z_g))); clear z_g; refine s_wit ?_; intro z_g; (first | refine s_skip rfl z_g z_fp ?_ | (refine s_f [(3, _)] ?_ (hg := z_g))); clear z_g; refine s_wit ?_; intro z_g; (first | refine s_skip rfl z_g z_fp ?_ | (refine s_l [(18, _)] ?_ (hg := z_g))); clear z_g; refine s_wit ?_; intro z_g; (first | refine s_skip rfl z_g z_fp ?_ | (refine s_q [(19, _)] ?_ (hg := z_g))); clear z_g; refine s_wit ?_; intro z_g; (first | refine s_skip rfl z_g z_fp ?_ | (refine s_q [(17, _), (20, _)] ?_ (hg := z_g))); clear z_g; refine s_m [(16, _), (21, _)] ?_; exact wpS_nil ⟨rfl, rfl⟩)) z_su ?_; clear z_ex)
        ((repeat refine WpM.seq ?_); refine WpM.condF (by (simp (maxSteps := 2000000) (disch := omega) [go_sem, -List.map_map, h2])) ?_)
        refine WpM.skip ?_
        ((repeat refine WpM.seq ?_); have z_ex := True.intro; refine WpM.regPE [] [(8, _)] (by (refine s_l [(3, _)] ?_; refine s_m [(1, _)] ?_; refine s_m [(2, _)] ?_; refine s_pure (callOf_eq rfl rfl rfl (mlk_tmp z_lk (mlk_tmp z_lk (mlk_tmp z_lk mlk_nil)))) (hwr) rfl rfl z_ip z_fp ?_; refine s_m [(26, _)] ?_; exact wpS_nil ⟨rfl, rfl⟩)) z_su ?_; clear z_ex)
        ((repeat refine WpM.seq ?_); have z_ex := (And.intro @ints.eq_1 True.intro); refine WpM.regPE [] [(6, _), (7, _)] (by (refine s_m [(8, _)] ?_; refine s_m [(8, _)] ?_; refine s_q [(28, _)] ?_; refine s_q [(29, _)] ?_; refine s_m [(27, _)] ?_; refine s_m [(30, _)] ?_; exact wpS_nil ⟨rfl, rfl⟩)) z_su ?_; clear z_ex)
        refine WpM.ret ?_
        exact ⟨.inr rfl, Upd.done ⟨_, (by (simp (maxSteps := 2000000) (disch := omega) [go_sem, -List.map_map, resV, resVs, resV1, ints])), rfl, fun m k _ hk => by have := hH _ _ hk; (simp (maxSteps := 2000000) (disch := omega) [go_sem, -List.map_map, hk])⟩⟩
end Go.Proofs.Ytjjmedgibcffhaa
