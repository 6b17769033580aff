/- The last part of the texts that stand behind this law. -/
import Derived.Test.YtjjmedgibcffhaaZc11
/- Type and Writers of the reference. -/
namespace Go.Proofs.Ytjjmedgibcffhaa
open Go.RowKit M
set_option linter.unusedSimpArgs false
set_option linter.unusedVariables false
set_option maxHeartbeats 8000000 in
theorem type38 (h : HistD) (hh : HistOk h) (key : Int) : PureC Try.prog 38 [.d (encHist h), .d (.int .i64 key)] (.d (.int .i64 (typeF h key))) := by
  intro S
  refine CallM.pure' (by rfl) (CallM.start (n := 51) Try.func38 rfl rfl (by simp) (by simp only [argL, Nat.reduceAdd] <;> rfl) ?_)
  intro hH
  obtain ⟨H, hHe⟩ : ∃ H, H = S.get := ⟨_, rfl⟩
  obtain ⟨n0, hne⟩ : ∃ n0, n0 = S.next := ⟨_, rfl⟩
  rw [← hHe, ← hne] at hH ⊢
  have hb := hh.b
  have hlen := hb.len
  have hck := check33 h hh
  cases hok : checkB h with
  | false =>
    rw [hok, errno_f] at hck
    have hr : typeF h key = 0 := by rw [typeF, hok]; rfl
    rw [hr]
    ((repeat refine WpM.seq ?_); have z_ex := (And.intro @encHist.eq_1 True.intro); refine WpM.regPE [] [(1, _), (2, _)] (by (refine s_o [(0, _)] rfl rfl rfl z_su rfl q_box z_fp z_ss ?_; refine s_o [] rfl rfl rfl z_su rfl q_move z_fp z_ss ?_; exact wpS_nil ⟨rfl, rfl⟩)) z_su ?_; clear z_ex)
    ((repeat refine WpM.seq ?_); have z_ex := True.intro; refine WpM.regPE [] [(1, _), (2, _), (9, _)] (by (refine s_o [(2, _)] rfl rfl rfl z_su rfl q_load z_fp z_ss ?_; refine s_pure (callOf_eq rfl rfl rfl (mlk_tmp z_lk mlk_nil)) (hck) rfl rfl z_ip z_fp ?_; refine s_o [(8, _)] rfl rfl rfl z_su rfl q_full z_fp z_ss ?_; exact wpS_nil ⟨rfl, rfl⟩)) z_su ?_; clear z_ex)
    ((repeat refine WpM.seq ?_); refine WpM.condT (by (simp (maxSteps := 2000000) (disch := omega) [go_sem, -List.map_map])) ?_)
    ((repeat refine WpM.seq ?_); have z_ex := True.intro; refine WpM.regPE [] [(4, _)] (by (refine s_o [] rfl rfl rfl z_su rfl q_move z_fp z_ss ?_; exact wpS_nil ⟨rfl, rfl⟩)) z_su ?_; clear z_ex)
    refine WpM.ret ?_
    exact ⟨.inr rfl, Upd.done ⟨_, (by (simp (maxSteps := 2000000) (disch := omega) [go_sem, -List.map_map, resV, resVs, resV1])), rfl, fun m k _ hk => by have := hH _ _ hk; (simp (maxSteps := 2000000) (disch := omega) [go_sem, -List.map_map, hk])⟩⟩
  | true =>
    rw [hok, errno_t] at hck
    ((repeat refine WpM.seq ?_); have z_ex := (And.intro @encHist.eq_1 True.intro); refine WpM.regPE [] [(1, _), (2, _)] (by (refine s_o [(0, _)] rfl rfl rfl z_su rfl q_box z_fp z_ss ?_; refine s_o [] rfl rfl rfl z_su rfl q_move z_fp z_ss ?_; exact wpS_nil ⟨rfl, rfl⟩)) z_su ?_; clear z_ex)
    ((repeat refine WpM.seq ?_); have z_ex := True.intro; refine WpM.regPE [] [(1, _), (2, _), (9, _)] (by (refine s_o [(2, _)] rfl rfl rfl z_su rfl q_load z_fp z_ss ?_; refine s_pure (callOf_eq rfl rfl rfl (mlk_tmp z_lk mlk_nil)) (hck) rfl rfl z_ip z_fp ?_; refine s_o [(8, _)] rfl rfl rfl z_su rfl q_full z_fp z_ss ?_; exact wpS_nil ⟨rfl, rfl⟩)) z_su ?_; clear z_ex)
    ((repeat refine WpM.seq ?_); refine WpM.condF (by (simp (maxSteps := 2000000) (disch := omega) [go_sem, -List.map_map])) ?_)
    refine WpM.skip ?_
    ((repeat refine WpM.seq ?_); have z_ex := True.intro; refine WpM.regPE [] [(1, _), (2, _), (5, _)] (by (refine s_o [] rfl rfl rfl z_su rfl q_move z_fp z_ss ?_; exact wpS_nil ⟨rfl, rfl⟩)) z_su ?_; clear z_ex)
    ((repeat refine WpM.seq ?_); refine WpM.block ?_)
    refine WpM.loop (fun (i : Nat) fr S => i ≤ h.txns.length ∧ (∀ (q : Nat) (hq : q < h.txns.length), q < i → ∀ o ∈ h.txns[q].ops, o.key ≠ key) ∧ (∃ nx, n0 < nx ∧ S = ⟨nx, [(n0, some (histBox h))], H⟩) ∧ fr = frOf [(1, .d (.int .i64 key)), (2, .ptr n0 0), (5, .d (.int .i64 i))]) (fun i => h.txns.length - i) 0 (le_cut (n0 := n0) (n' := n0 + 9) (l' := [(n0, some (histBox h))]) hH (by (simp (maxSteps := 2000000) (disch := omega) [go_sem, -List.map_map])) (by (simp (maxSteps := 2000000) (disch := omega) [go_sem, -List.map_map])) (by (simp (maxSteps := 2000000) (disch := omega) [go_sem, -List.map_map, histBox, strs]))) (Sub.le z_su) ⟨by omega, fun q _ hq => by omega, ⟨_, by omega, rfl⟩, rfl⟩ ?_
    rintro i fr S' ⟨hi, hn, ⟨nx, hnx, rfl⟩, rfl⟩
    ((repeat refine WpM.seq ?_); have z_ex := (And.intro @histBox.eq_1 True.intro); refine WpM.regPE [] [(1, _), (2, _), (5, _), (14, _)] (by (refine s_o [(5, _)] rfl rfl rfl z_su rfl q_move z_fp z_ss ?_; refine s_o [(2, _)] rfl rfl rfl z_su rfl q_fieldAddr z_fp z_ss ?_; refine s_o [(11, _)] rfl rfl rfl z_su rfl q_load z_fp z_ss ?_; refine s_o [(12, _)] rfl rfl rfl z_su rfl q_full z_fp z_ss ?_; refine s_o [(10, _), (13, _)] rfl rfl rfl z_su rfl q_full z_fp z_ss ?_; exact wpS_nil ⟨rfl, rfl⟩)) z_su ?_; clear z_ex)
    by_cases hit : i < h.txns.length
    · ((repeat refine WpM.seq ?_); refine WpM.condT (by (simp (maxSteps := 2000000) (disch := omega) [go_sem, -List.map_map, hit])) ?_)
      refine WpM.skip ?_
      ((repeat refine WpM.seq ?_); refine WpM.block ?_)
      obtain ⟨t, ht⟩ : ∃ t, t = h.txns[i] := ⟨_, rfl⟩
      have hget : (h.txns.map encTxn)[i]? = some (encTxn t) := by simp [hit, ht]
      have hlt := (hb.txns t (ht ▸ List.getElem_mem _)).len
      ((repeat refine WpM.seq ?_); have z_ex := True.intro; refine WpM.regPE [] [(1, _), (2, _), (5, _), (6, _)] (by (refine s_o [] rfl rfl rfl z_su rfl q_move z_fp z_ss ?_; exact wpS_nil ⟨rfl, rfl⟩)) z_su ?_; clear z_ex)
      ((repeat refine WpM.seq ?_); refine WpM.block ?_)
      refine WpM.loop (fun (k : Nat) fr S => k ≤ t.ops.length ∧ (∀ (r : Nat) (hr : r < t.ops.length), r < k → t.ops[r].key ≠ key) ∧ (∃ nx, n0 < nx ∧ S = ⟨nx, [(n0, some (histBox h))], H⟩) ∧ fr = frOf [(1, .d (.int .i64 key)), (2, .ptr n0 0), (5, .d (.int .i64 i)), (6, .d (.int .i64 k))]) (fun k => t.ops.length - k) 0 (St.Le.refl _) (Sub.le z_su) ⟨by omega, fun q _ hq => by omega, ⟨_, by omega, rfl⟩, rfl⟩ ?_
      rintro k fr S' ⟨hk, hn2, ⟨nx2, hnx2, rfl⟩, rfl⟩
      ((repeat refine WpM.seq ?_); have z_ex := (And.intro @histBox.eq_1 (And.intro @hget (And.intro @hit (And.intro @encTxn.eq_1 True.intro)))); refine WpM.regPE [] [(1, _), (2, _), (5, _), (6, _), (25, _)] (by (refine s_o [(6, _)] rfl rfl rfl z_su rfl q_move z_fp z_ss ?_; refine s_o [(2, _)] rfl rfl rfl z_su rfl q_fieldAddr z_fp z_ss ?_; refine s_o [(18, _)] rfl rfl rfl z_su rfl q_load z_fp z_ss ?_; refine s_o [(5, _)] rfl rfl rfl z_su rfl q_move z_fp z_ss ?_; refine s_o [(19, _), (20, _)] rfl rfl rfl z_su rfl q_full z_fp z_ss ?_; refine s_o [(21, _)] rfl rfl rfl z_su rfl q_fieldAddr z_fp z_ss ?_; refine s_o [(22, _)] rfl rfl rfl z_su rfl q_load z_fp z_ss ?_; refine s_o [(23, _)] rfl rfl rfl z_su rfl q_full z_fp z_ss ?_; refine s_o [(17, _), (24, _)] rfl rfl rfl z_su rfl q_full z_fp z_ss ?_; exact wpS_nil ⟨rfl, rfl⟩)) z_su ?_; clear z_ex)
      by_cases hkt : k < t.ops.length
      · ((repeat refine WpM.seq ?_); refine WpM.condT (by (simp (maxSteps := 2000000) (disch := omega) [go_sem, -List.map_map, hkt])) ?_)
        refine WpM.skip ?_
        ((repeat refine WpM.seq ?_); refine WpM.block ?_)
        obtain ⟨o, ho⟩ : ∃ o, o = t.ops[k] := ⟨_, rfl⟩
        have hgeto : (t.ops.map encOp)[k]? = some (encOp o) := by simp [hkt, ho]
        by_cases he : o.key = key
        · obtain ⟨hk1, hk8⟩ := checkB_kind hok hit (o := o) (by rw [← ht, ho]; exact List.getElem_mem _)
          have hty := of35 o.kind hk1 hk8
          have hr : typeF h key = tyOf o.kind := by
            subst ht
            rw [typeF, if_pos hok, type_hit hit hkt hn hn2 (by rw [← ho]; exact he), ho]
          rw [hr]
          ((repeat refine WpM.seq ?_); have z_ex := (And.intro @histBox.eq_1 (And.intro @hget (And.intro @hit (And.intro @hgeto (And.intro @hkt (And.intro @encTxn.eq_1 (And.intro @encOp.eq_1 (And.intro @he True.intro)))))))); refine WpM.regPE [] [(1, _), (2, _), (5, _), (6, _), (39, _)] (by (refine s_o [(2, _)] rfl rfl rfl z_su rfl q_fieldAddr z_fp z_ss ?_; refine s_o [(28, _)] rfl rfl rfl z_su rfl q_load z_fp z_ss ?_; refine s_o [(5, _)] rfl rfl rfl z_su rfl q_move z_fp z_ss ?_; refine s_o [(29, _), (30, _)] rfl rfl rfl z_su rfl q_full z_fp z_ss ?_; refine s_o [(31, _)] rfl rfl rfl z_su rfl q_fieldAddr z_fp z_ss ?_; refine s_o [(32, _)] rfl rfl rfl z_su rfl q_load z_fp z_ss ?_; refine s_o [(6, _)] rfl rfl rfl z_su rfl q_move z_fp z_ss ?_; refine s_o [(33, _), (34, _)] rfl rfl rfl z_su rfl q_full z_fp z_ss ?_; refine s_o [(35, _)] rfl rfl rfl z_su rfl q_fieldAddr z_fp z_ss ?_; refine s_o [(36, _)] rfl rfl rfl z_su rfl q_load z_fp z_ss ?_; refine s_o [(1, _)] rfl rfl rfl z_su rfl q_move z_fp z_ss ?_; refine s_o [(37, _), (38, _)] rfl rfl rfl z_su rfl q_full z_fp z_ss ?_; exact wpS_nil ⟨rfl, rfl⟩)) z_su ?_; clear z_ex)
          ((repeat refine WpM.seq ?_); refine WpM.condT (by (simp (maxSteps := 2000000) (disch := omega) [go_sem, -List.map_map, he])) ?_)
          ((repeat refine WpM.seq ?_); have z_ex := (And.intro @histBox.eq_1 (And.intro @hget (And.intro @hit (And.intro @hgeto (And.intro @hkt (And.intro @encTxn.eq_1 (And.intro @encOp.eq_1 True.intro))))))); refine WpM.regPE [] [(4, _)] (by (refine s_o [(2, _)] rfl rfl rfl z_su rfl q_fieldAddr z_fp z_ss ?_; refine s_o [(40, _)] rfl rfl rfl z_su rfl q_load z_fp z_ss ?_; refine s_o [(5, _)] rfl rfl rfl z_su rfl q_move z_fp z_ss ?_; refine s_o [(41, _), (42, _)] rfl rfl rfl z_su rfl q_full z_fp z_ss ?_; refine s_o [(43, _)] rfl rfl rfl z_su rfl q_fieldAddr z_fp z_ss ?_; refine s_o [(44, _)] rfl rfl rfl z_su rfl q_load z_fp z_ss ?_; refine s_o [(6, _)] rfl rfl rfl z_su rfl q_move z_fp z_ss ?_; refine s_o [(45, _), (46, _)] rfl rfl rfl z_su rfl q_full z_fp z_ss ?_; refine s_o [(47, _)] rfl rfl rfl z_su rfl q_fieldAddr z_fp z_ss ?_; refine s_o [(48, _)] rfl rfl rfl z_su rfl q_load z_fp z_ss ?_; refine s_pure (callOf_eq rfl rfl rfl (mlk_tmp z_lk mlk_nil)) (hty) rfl rfl z_ip z_fp ?_; refine s_o [(50, _)] rfl rfl rfl z_su rfl q_move z_fp z_ss ?_; exact wpS_nil ⟨rfl, rfl⟩)) z_su ?_; clear z_ex)
          refine WpM.ret ?_
          exact ⟨.inr rfl, Upd.done ⟨_, (by (simp (maxSteps := 2000000) (disch := omega) [go_sem, -List.map_map, resV, resVs, resV1])), rfl, fun m k _ hk => by have := hH _ _ hk; (simp (maxSteps := 2000000) (disch := omega) [go_sem, -List.map_map, hk])⟩⟩
        · ((repeat refine WpM.seq ?_); have z_ex := (And.intro @histBox.eq_1 (And.intro @hget (And.intro @hit (And.intro @hgeto (And.intro @hkt (And.intro @encTxn.eq_1 (And.intro @encOp.eq_1 (And.intro @he True.intro)))))))); refine WpM.regPE [] [(1, _), (2, _), (5, _), (6, _), (39, _)] (by (refine s_o [(2, _)] rfl rfl rfl z_su rfl q_fieldAddr z_fp z_ss ?_; refine s_o [(28, _)] rfl rfl rfl z_su rfl q_load z_fp z_ss ?_; refine s_o [(5, _)] rfl rfl rfl z_su rfl q_move z_fp z_ss ?_; refine s_o [(29, _), (30, _)] rfl rfl rfl z_su rfl q_full z_fp z_ss ?_; refine s_o [(31, _)] rfl rfl rfl z_su rfl q_fieldAddr z_fp z_ss ?_; refine s_o [(32, _)] rfl rfl rfl z_su rfl q_load z_fp z_ss ?_; refine s_o [(6, _)] rfl rfl rfl z_su rfl q_move z_fp z_ss ?_; refine s_o [(33, _), (34, _)] rfl rfl rfl z_su rfl q_full z_fp z_ss ?_; refine s_o [(35, _)] rfl rfl rfl z_su rfl q_fieldAddr z_fp z_ss ?_; refine s_o [(36, _)] rfl rfl rfl z_su rfl q_load z_fp z_ss ?_; refine s_o [(1, _)] rfl rfl rfl z_su rfl q_move z_fp z_ss ?_; refine s_o [(37, _), (38, _)] rfl rfl rfl z_su rfl q_full z_fp z_ss ?_; exact wpS_nil ⟨rfl, rfl⟩)) z_su ?_; clear z_ex)
          ((repeat refine WpM.seq ?_); refine WpM.condF (by (simp (maxSteps := 2000000) (disch := omega) [go_sem, -List.map_map, he])) ?_)
          refine WpM.skip ?_
          ((repeat refine WpM.seq ?_); have z_ex := (And.intro @wrap_id True.intro); refine WpM.regPE [] [(1, _), (2, _), (5, _), (6, _)] (by (refine s_o [(6, _)] rfl rfl rfl z_su rfl q_move z_fp z_ss ?_; refine s_o [(26, _)] rfl rfl rfl z_su rfl q_full z_fp z_ss ?_; refine s_o [(27, _)] rfl rfl rfl z_su rfl q_move z_fp z_ss ?_; exact wpS_nil ⟨rfl, rfl⟩)) z_su ?_; clear z_ex)
          have hn2' : ∀ (r : Nat) (hr : r < t.ops.length), r < k + 1 → t.ops[r].key ≠ key := fun r hr hlt => by
            rcases Nat.lt_or_ge r k with h1 | h1
            · exact hn2 r hr h1
            · obtain rfl : r = k := by omega
              rw [← ho]; exact he
          exact round_end (x' := k + 1) (St.Le.refl _) (Sub.le z_su) ⟨by omega, hn2', ⟨_, by omega, rfl⟩, rfl⟩ (by omega)
      · ((repeat refine WpM.seq ?_); refine WpM.condF (by (simp (maxSteps := 2000000) (disch := omega) [go_sem, -List.map_map, hkt])) ?_)
        (refine WpM.exit ?_; (repeat (with_reducible (first | refine thenM_exit ?_ | refine blockM_eq ?_ | refine blockM_ne (by decide) ?_))))
        have hn' : ∀ (q : Nat) (hq : q < h.txns.length), q < i + 1 → ∀ o ∈ h.txns[q].ops, o.key ≠ key := fun q hq hlt o ho => by
          rcases Nat.lt_or_ge q i with h1 | h1
          · exact hn q hq h1 o ho
          · obtain rfl : q = i := by omega
            rw [← ht] at ho
            obtain ⟨r, hr, rfl⟩ := List.getElem_of_mem ho
            exact hn2 r hr (by omega)
        ((repeat refine WpM.seq ?_); have z_ex := (And.intro @wrap_id True.intro); refine WpM.regPE [] [(1, _), (2, _), (5, _)] (by (refine s_o [(5, _)] rfl rfl rfl z_su rfl q_move z_fp z_ss ?_; refine s_o [(15, _)] rfl rfl rfl z_su rfl q_full z_fp z_ss ?_; refine s_o [(16, _)] rfl rfl rfl z_su rfl q_move z_fp z_ss ?_; exact wpS_nil ⟨rfl, rfl⟩)) z_su ?_; clear z_ex)
        exact round_end (x' := i + 1) (St.Le.refl _) (Sub.le z_su) ⟨by omega, hn', ⟨_, by omega, rfl⟩, rfl⟩ (by omega)
    · ((repeat refine WpM.seq ?_); refine WpM.condF (by (simp (maxSteps := 2000000) (disch := omega) [go_sem, -List.map_map, hit])) ?_)
      (refine WpM.exit ?_; (repeat (with_reducible (first | refine thenM_exit ?_ | refine blockM_eq ?_ | refine blockM_ne (by decide) ?_))))
      have hr : typeF h key = 0 := by rw [typeF, if_pos hok, type_miss fun q hq => hn q hq (by omega)]
      rw [hr]
      ((repeat refine WpM.seq ?_); have z_ex := True.intro; refine WpM.regPE [] [(4, _)] (by (refine s_o [] rfl rfl rfl z_su rfl q_move z_fp z_ss ?_; exact wpS_nil ⟨rfl, rfl⟩)) z_su ?_; clear z_ex)
      refine WpM.ret ?_
      exact ⟨.inr rfl, Upd.done ⟨_, (by (simp (maxSteps := 2000000) (disch := omega) [go_sem, -List.map_map, resV, resVs, resV1])), rfl, fun m k _ hk => by have := hH _ _ hk; (simp (maxSteps := 2000000) (disch := omega) [go_sem, -List.map_map, hk])⟩⟩
set_option maxHeartbeats 8000000 in
theorem writers41 (h : HistD) (hh : HistOk h) (key : Int) : PureC Try.prog 41 [.d (encHist h), .d (.int .i64 key)] (.d (ints (writersF h key))) := by
  intro S
  refine CallM.pure' (by rfl) (CallM.start (n := 37) Try.func41 rfl rfl (by simp) (by simp only [argL, Nat.reduceAdd] <;> rfl) ?_)
  intro hH
  obtain ⟨H, hHe⟩ : ∃ H, H = S.get := ⟨_, rfl⟩
  obtain ⟨n0, hne⟩ : ∃ n0, n0 = S.next := ⟨_, rfl⟩
  rw [← hHe, ← hne] at hH ⊢
  have hb := hh.b
  have hlen := hb.len
  have hck := check33 h hh
  cases hok : checkB h with
  | false =>
    rw [hok, errno_f] at hck
    have hr : writersF h key = [] := by rw [writersF, hok]; rfl
    rw [hr]
    ((repeat refine WpM.seq ?_); have z_ex := (And.intro @encHist.eq_1 True.intro); refine WpM.regPE [] [(1, _), (2, _)] (by (refine s_o [(0, _)] rfl rfl rfl z_su rfl q_box z_fp z_ss ?_; refine s_o [] rfl rfl rfl z_su rfl q_move z_fp z_ss ?_; exact wpS_nil ⟨rfl, rfl⟩)) z_su ?_; clear z_ex)
    ((repeat refine WpM.seq ?_); have z_ex := True.intro; refine WpM.regPE [] [(1, _), (2, _), (9, _)] (by (refine s_o [(2, _)] rfl rfl rfl z_su rfl q_load z_fp z_ss ?_; refine s_pure (callOf_eq rfl rfl rfl (mlk_tmp z_lk mlk_nil)) (hck) rfl rfl z_ip z_fp ?_; refine s_o [(8, _)] rfl rfl rfl z_su rfl q_full z_fp z_ss ?_; exact wpS_nil ⟨rfl, rfl⟩)) z_su ?_; clear z_ex)
    ((repeat refine WpM.seq ?_); refine WpM.condT (by (simp (maxSteps := 2000000) (disch := omega) [go_sem, -List.map_map])) ?_)
    ((repeat refine WpM.seq ?_); have z_ex := True.intro; refine WpM.regPE [] [(4, _)] (by (refine s_o [] rfl rfl rfl z_su rfl q_move z_fp z_ss ?_; exact wpS_nil ⟨rfl, rfl⟩)) z_su ?_; clear z_ex)
    refine WpM.ret ?_
    refine ⟨.inr rfl, Upd.pureNil 4 (.inl (by (simp (maxSteps := 2000000) (disch := omega) [go_sem, -List.map_map]))) (Upd.done ⟨_, (by (simp (maxSteps := 2000000) (disch := omega) [go_sem, -List.map_map, resV, resVs, resV1, fset, ints])), rfl, fun m k _ hk => ?_⟩)⟩
    have := hH _ _ hk
    (simp (maxSteps := 2000000) (disch := omega) [go_sem, -List.map_map, hk])
  | true =>
    rw [hok, errno_t] at hck
    have hr : writersF h key = writersL h key h.txns.length := by rw [writersF, if_pos hok]
    rw [hr]
    ((repeat refine WpM.seq ?_); have z_ex := (And.intro @encHist.eq_1 True.intro); refine WpM.regPE [] [(1, _), (2, _)] (by (refine s_o [(0, _)] rfl rfl rfl z_su rfl q_box z_fp z_ss ?_; refine s_o [] rfl rfl rfl z_su rfl q_move z_fp z_ss ?_; exact wpS_nil ⟨rfl, rfl⟩)) z_su ?_; clear z_ex)
    ((repeat refine WpM.seq ?_); have z_ex := True.intro; refine WpM.regPE [] [(1, _), (2, _), (9, _)] (by (refine s_o [(2, _)] rfl rfl rfl z_su rfl q_load z_fp z_ss ?_; refine s_pure (callOf_eq rfl rfl rfl (mlk_tmp z_lk mlk_nil)) (hck) rfl rfl z_ip z_fp ?_; refine s_o [(8, _)] rfl rfl rfl z_su rfl q_full z_fp z_ss ?_; exact wpS_nil ⟨rfl, rfl⟩)) z_su ?_; clear z_ex)
    ((repeat refine WpM.seq ?_); refine WpM.condF (by (simp (maxSteps := 2000000) (disch := omega) [go_sem, -List.map_map])) ?_)
    refine WpM.skip ?_
    ((repeat refine WpM.seq ?_); have z_ex := True.intro; refine WpM.regPE [] [(1, _), (2, _), (5, _)] (by (refine s_o [] rfl rfl rfl z_su rfl q_move z_fp z_ss ?_; exact wpS_nil ⟨rfl, rfl⟩)) z_su ?_; clear z_ex)
    refine Upd.wp (Upd.ghost 5 1 (.inl (by (simp (maxSteps := 2000000) (disch := omega) [go_sem, -List.map_map]))) (Upd.done ?_))
    refine WpM.less (le_cut (n0 := n0) (n' := n0 + 6) (l' := [(n0, some (histBox h)), (n0 + 5, some (.row 1 []))]) hH (by (simp (maxSteps := 2000000) (disch := omega) [go_sem, -List.map_map])) (by (simp (maxSteps := 2000000) (disch := omega) [go_sem, -List.map_map])) (by (simp (maxSteps := 2000000) (disch := omega) [go_sem, -List.map_map, histBox, strs]))) (frLe_frOf (l := [(1, .d (.int .i64 key)), (2, .ptr n0 0), (5, .ms (n0 + 5) 1 0 0)]) (by (simp (maxSteps := 2000000) (disch := omega) [go_sem, -List.map_map]))) ?_
    ((repeat refine WpM.seq ?_); have z_ex := True.intro; refine WpM.regPE [] [(1, _), (2, _), (5, _), (6, _)] (by (refine s_o [] rfl rfl rfl z_su rfl q_move z_fp z_ss ?_; exact wpS_nil ⟨rfl, rfl⟩)) z_su ?_; clear z_ex)
    ((repeat refine WpM.seq ?_); refine WpM.block ?_)
    refine WpM.loop (fun (i : Nat) fr S => i ≤ h.txns.length ∧ ∃ nx nr ys, n0 < nr ∧ nr < nx ∧ ys = intV (writersL h key i) ∧ fr = frOf [(1, .d (.int .i64 key)), (2, .ptr n0 0), (5, .ms nr 1 0 ys.length), (6, .d (.int .i64 i))] ∧ S = ⟨nx, [(n0, some (histBox h)), (nr, some (.row 1 ys))], H⟩) (fun i => h.txns.length - i) 0 (St.Le.refl _) (Sub.le z_su) ⟨by omega, _, n0 + 5, [], by omega, by show n0 + 5 < n0 + _; omega, rfl, rfl, rfl⟩ ?_
    rintro i fr S' ⟨hi, nx, nr, ys, hnr, hnx, hys, rfl, rfl⟩
    have hyl : ys.length ≤ i := by have := writersL_len h key i; rw [hys, intV, List.length_map]; exact this
    ((repeat refine WpM.seq ?_); have z_ex := (And.intro @histBox.eq_1 True.intro); refine WpM.regPE [] [(1, _), (2, _), (5, _), (6, _), (14, _)] (by (refine s_o [(6, _)] rfl rfl rfl z_su rfl q_move z_fp z_ss ?_; refine s_o [(2, _)] rfl rfl rfl z_su rfl q_fieldAddr z_fp z_ss ?_; refine s_o [(11, _)] rfl rfl rfl z_su rfl q_load z_fp z_ss ?_; refine s_o [(12, _)] rfl rfl rfl z_su rfl q_full z_fp z_ss ?_; refine s_o [(10, _), (13, _)] rfl rfl rfl z_su rfl q_full z_fp z_ss ?_; exact wpS_nil ⟨rfl, rfl⟩)) z_su ?_; clear z_ex)
    by_cases hit : i < h.txns.length
    · ((repeat refine WpM.seq ?_); refine WpM.condT (by (simp (maxSteps := 2000000) (disch := omega) [go_sem, -List.map_map, hit])) ?_)
      refine WpM.skip ?_
      ((repeat refine WpM.seq ?_); refine WpM.block ?_)
      obtain ⟨t, ht⟩ : ∃ t, t = h.txns[i] := ⟨_, rfl⟩
      have hget : (h.txns.map encTxn)[i]? = some (encTxn t) := by simp [hit, ht]
      have hwr := wrote59 h hb i hit key
      rw [← ht] at hwr
      obtain ⟨wl, hwl⟩ : ∃ wl, wl = wroteL t.ops key := ⟨_, rfl⟩
      have hwb : writesB h key i = (decide (t.status ≠ 2) && decide (0 < wl.length)) := by rw [writesB, List.getElem?_eq_getElem hit, ← ht, hwl]
      rw [← hwl] at hwr
      have hstep := writersL_step h key i
      have no : writesB h key i = false → ys = intV (writersL h key (i + 1)) := fun hp => by rw [hstep, hp, hys]; simp [intV]
      by_cases h2 : t.status = 2
      · have hp : writesB h key i = false := by rw [hwb]; simp [h2]
        ((repeat refine WpM.seq ?_); have z_ex := (And.intro @histBox.eq_1 (And.intro @hget (And.intro @hit (And.intro @encTxn.eq_1 (And.intro @h2 True.intro))))); refine WpM.regPE [] [(1, _), (2, _), (5, _), (6, _), (31, _)] (by (refine s_o [(2, _)] rfl rfl rfl z_su rfl q_fieldAddr z_fp z_ss ?_; refine s_o [(17, _)] rfl rfl rfl z_su rfl q_load z_fp z_ss ?_; refine s_o [(6, _)] rfl rfl rfl z_su rfl q_move z_fp z_ss ?_; refine s_o [(18, _), (19, _)] rfl rfl rfl z_su rfl q_full z_fp z_ss ?_; refine s_o [(20, _)] rfl rfl rfl z_su rfl q_fieldAddr z_fp z_ss ?_; refine s_o [(21, _)] rfl rfl rfl z_su rfl q_load z_fp z_ss ?_; refine s_o [(22, _)] rfl rfl rfl z_su rfl q_full z_fp z_ss ?_; refine s_o [(23, _)] rfl rfl rfl z_su rfl q_move z_fp z_ss ?_; refine s_wit ?_; intro z_g; (first | refine s_skip rfl z_g z_fp ?_ | (refine s_o [(2, _)] rfl z_g rfl z_su rfl q_load z_fp z_ss ?_)); clear z_g; refine s_wit ?_; intro z_g; (first | refine s_skip rfl z_g z_fp ?_ | (refine s_o [(6, _)] rfl z_g rfl z_su rfl q_move z_fp z_ss ?_)); clear z_g; refine s_wit ?_; intro z_g; (first | refine s_skip rfl z_g z_fp ?_ | (refine s_o [(1, _)] rfl z_g rfl z_su rfl q_move z_fp z_ss ?_)); clear z_g; refine s_wit ?_; intro z_g; (first | refine s_skip rfl z_g z_fp ?_ | (refine s_pure (callOf_eq rfl rfl rfl (mlk_tmp z_lk (mlk_tmp z_lk (mlk_tmp z_lk mlk_nil)))) (?missing) rfl z_g z_ip z_fp ?_)); clear z_g; refine s_wit ?_; intro z_g; (first | refine s_skip rfl z_g z_fp ?_ | (refine s_o [(28, _)] rfl z_g rfl z_su rfl q_full z_fp z_ss ?_)); clear z_g; refine s_wit ?_; intro z_g; (first | refine s_skip rfl z_g z_fp ?_ | (refine s_o [(29, _)] rfl z_g rfl z_su rfl q_full z_fp z_ss ?_)); clear z_g; refine s_o [(24, _), (30, _)] rfl rfl rfl z_su rfl q_move z_fp z_ss ?_; exact wpS_nil ⟨rfl, rfl⟩)) z_su ?_; clear z_ex)
        ((repeat refine WpM.seq ?_); refine WpM.condF (by (simp (maxSteps := 2000000) (disch := omega) [go_sem, -List.map_map, h2])) ?_)
        refine WpM.skip ?_
        ((repeat refine WpM.seq ?_); have z_ex := (And.intro @wrap_id True.intro); refine WpM.regPE [] [(1, _), (2, _), (5, _), (6, _)] (by (refine s_o [(6, _)] rfl rfl rfl z_su rfl q_move z_fp z_ss ?_; refine s_o [(15, _)] rfl rfl rfl z_su rfl q_full z_fp z_ss ?_; refine s_o [(16, _)] rfl rfl rfl z_su rfl q_move z_fp z_ss ?_; exact wpS_nil ⟨rfl, rfl⟩)) z_su ?_; clear z_ex)
        exact round_end (x' := i + 1) (St.Le.refl _) (Sub.le z_su) ⟨by omega, _, nr, ys, hnr, by show nr < nx + _; omega, no hp, rfl, rfl⟩ (by omega)
      · by_cases h3 : 0 < wl.length
        · have hp : writesB h key i = true := by rw [hwb]; simp [h2]; omega
          have hys' : ys ++ [V.d (.int .i64 i)] = intV (writersL h key (i + 1)) := by rw [hstep, hp, hys]; simp [intV]
          have h3' : (0 : Int) < wl.length := by omega
          have h3'' : ¬ wl = [] := by rintro rfl; simp at h3
          ((repeat refine WpM.seq ?_); have z_ex := (And.intro @histBox.eq_1 (And.intro @hget (And.intro @hit (And.intro @encTxn.eq_1 (And.intro @h2 (And.intro @ints.eq_1 (And.intro @h3 (And.intro @h3' (And.intro @h3'' True.intro))))))))); refine WpM.regPE [] [(1, _), (2, _), (5, _), (6, _), (31, _)] (by (refine s_o [(2, _)] rfl rfl rfl z_su rfl q_fieldAddr z_fp z_ss ?_; refine s_o [(17, _)] rfl rfl rfl z_su rfl q_load z_fp z_ss ?_; refine s_o [(6, _)] rfl rfl rfl z_su rfl q_move z_fp z_ss ?_; refine s_o [(18, _), (19, _)] rfl rfl rfl z_su rfl q_full z_fp z_ss ?_; refine s_o [(20, _)] rfl rfl rfl z_su rfl q_fieldAddr z_fp z_ss ?_; refine s_o [(21, _)] rfl rfl rfl z_su rfl q_load z_fp z_ss ?_; refine s_o [(22, _)] rfl rfl rfl z_su rfl q_full z_fp z_ss ?_; refine s_o [(23, _)] rfl rfl rfl z_su rfl q_move z_fp z_ss ?_; refine s_wit ?_; intro z_g; (first | refine s_skip rfl z_g z_fp ?_ | (refine s_o [(2, _)] rfl z_g rfl z_su rfl q_load z_fp z_ss ?_)); clear z_g; refine s_wit ?_; intro z_g; (first | refine s_skip rfl z_g z_fp ?_ | (refine s_o [(6, _)] rfl z_g rfl z_su rfl q_move z_fp z_ss ?_)); clear z_g; refine s_wit ?_; intro z_g; (first | refine s_skip rfl z_g z_fp ?_ | (refine s_o [(1, _)] rfl z_g rfl z_su rfl q_move z_fp z_ss ?_)); clear z_g; refine s_wit ?_; intro z_g; (first | refine s_skip rfl z_g z_fp ?_ | (refine s_pure (callOf_eq rfl rfl rfl (mlk_tmp z_lk (mlk_tmp z_lk (mlk_tmp z_lk mlk_nil)))) (hwr) rfl z_g z_ip z_fp ?_)); clear z_g; refine s_wit ?_; intro z_g; (first | refine s_skip rfl z_g z_fp ?_ | (refine s_o [(28, _)] rfl z_g rfl z_su rfl q_full z_fp z_ss ?_)); clear z_g; refine s_wit ?_; intro z_g; (first | refine s_skip rfl z_g z_fp ?_ | (refine s_o [(29, _)] rfl z_g rfl z_su rfl q_full z_fp z_ss ?_)); clear z_g; refine s_o [(24, _), (30, _)] rfl rfl rfl z_su rfl q_move z_fp z_ss ?_; exact wpS_nil ⟨rfl, rfl⟩)) z_su ?_; clear z_ex)
          ((repeat refine WpM.seq ?_); refine WpM.condT (by (simp (maxSteps := 2000000) (disch := omega) [go_sem, -List.map_map, h2, h3, h3', h3''])) ?_)
          ((repeat refine WpM.seq ?_); have z_ex := True.intro; refine WpM.regPE [] [(1, _), (2, _), (5, _), (6, _)] (by (refine s_o [(5, _)] rfl rfl rfl z_su rfl q_move z_fp z_ss ?_; refine s_o [(6, _)] rfl rfl rfl z_su rfl q_move z_fp z_ss ?_; refine s_o [(33, _)] rfl rfl rfl z_su rfl q_full z_fp z_ss ?_; refine s_o [(32, _), (34, _)] rfl rfl rfl z_su rfl q_full z_fp z_ss ?_; refine s_o [(35, _)] rfl rfl rfl z_su rfl q_move z_fp z_ss ?_; exact wpS_nil ⟨rfl, rfl⟩)) z_su ?_; clear z_ex)
          ((repeat refine WpM.seq ?_); have z_ex := (And.intro @wrap_id True.intro); refine WpM.regPE [] [(1, _), (2, _), (5, _), (6, _)] (by (refine s_o [(6, _)] rfl rfl rfl z_su rfl q_move z_fp z_ss ?_; refine s_o [(15, _)] rfl rfl rfl z_su rfl q_full z_fp z_ss ?_; refine s_o [(16, _)] rfl rfl rfl z_su rfl q_move z_fp z_ss ?_; exact wpS_nil ⟨rfl, rfl⟩)) z_su ?_; clear z_ex)
          exact round_end (x' := i + 1) (le_cut (n0 := n0) (l' := [(n0, some (histBox h)), (nx + 22, some (.row 1 (ys ++ [V.d (.int .i64 i)])))]) hH (by (simp (maxSteps := 2000000) (disch := omega) [go_sem, -List.map_map]); omega) (Nat.le_refl _) (by (simp (maxSteps := 2000000) (disch := omega) [go_sem, -List.map_map]))) (frLe_frOf (by (simp (maxSteps := 2000000) (disch := omega) [go_sem, -List.map_map, wrap_id]))) ⟨by omega, nx + 27, nx + 22, _, by omega, by omega, hys', rfl, by (simp (maxSteps := 2000000) (disch := omega) [go_sem, -List.map_map])⟩ (by omega)
        · have h3' : wl.length = 0 := by omega
          have h3'' : wl = [] := List.eq_nil_of_length_eq_zero h3'
          have hp : writesB h key i = false := by rw [hwb, h3'']; simp
          ((repeat refine WpM.seq ?_); have z_ex := (And.intro @histBox.eq_1 (And.intro @hget (And.intro @hit (And.intro @encTxn.eq_1 (And.intro @h2 (And.intro @ints.eq_1 (And.intro @h3' (And.intro @h3'' True.intro)))))))); refine WpM.regPE [] [(1, _), (2, _), (5, _), (6, _), (31, _)] (by (refine s_o [(2, _)] rfl rfl rfl z_su rfl q_fieldAddr z_fp z_ss ?_; refine s_o [(17, _)] rfl rfl rfl z_su rfl q_load z_fp z_ss ?_; refine s_o [(6, _)] rfl rfl rfl z_su rfl q_move z_fp z_ss ?_; refine s_o [(18, _), (19, _)] rfl rfl rfl z_su rfl q_full z_fp z_ss ?_; refine s_o [(20, _)] rfl rfl rfl z_su rfl q_fieldAddr z_fp z_ss ?_; refine s_o [(21, _)] rfl rfl rfl z_su rfl q_load z_fp z_ss ?_; refine s_o [(22, _)] rfl rfl rfl z_su rfl q_full z_fp z_ss ?_; refine s_o [(23, _)] rfl rfl rfl z_su rfl q_move z_fp z_ss ?_; refine s_wit ?_; intro z_g; (first | refine s_skip rfl z_g z_fp ?_ | (refine s_o [(2, _)] rfl z_g rfl z_su rfl q_load z_fp z_ss ?_)); clear z_g; refine s_wit ?_; intro z_g; (first | refine s_skip rfl z_g z_fp ?_ | (refine s_o [(6, _)] rfl z_g rfl z_su rfl q_move z_fp z_ss ?_)); clear z_g; refine s_wit ?_; intro z_g; (first | refine s_skip rfl z_g z_fp ?_ | (refine s_o [(1, _)] rfl z_g rfl z_su rfl q_move z_fp z_ss ?_)); clear z_g; refine s_wit ?_; intro z_g; (first | refine s_skip rfl z_g z_fp ?_ | (refine s_pure (callOf_eq rfl rfl rfl (mlk_tmp z_lk (mlk_tmp z_lk (mlk_tmp z_lk mlk_nil)))) (hwr) rfl z_g z_ip z_fp ?_)); clear z_g; refine s_wit ?_; intro z_g; (first | refine s_skip rfl z_g z_fp ?_ | (refine s_o [(28, _)] rfl z_g rfl z_su rfl q_full z_fp z_ss ?_)); clear z_g; refine s_wit ?_; intro z_g; (first | refine s_skip rfl z_g z_fp ?_ | (refine s_o [(29, _)] rfl z_g rfl z_su rfl q_full z_fp z_ss ?_)); clear z_g; refine s_o [(24, _), (30, _)] rfl rfl rfl z_su rfl q_move z_fp z_ss ?_; exact wpS_nil ⟨rfl, rfl⟩)) z_su ?_; clear z_ex)
          ((repeat refine WpM.seq ?_); refine WpM.condF (by (simp (maxSteps := 2000000) (disch := omega) [go_sem, -List.map_map, h2, h3', h3''])) ?_)
          refine WpM.skip ?_
          ((repeat refine WpM.seq ?_); have z_ex := (And.intro @wrap_id True.intro); refine WpM.regPE [] [(1, _), (2, _), (5, _), (6, _)] (by (refine s_o [(6, _)] rfl rfl rfl z_su rfl q_move z_fp z_ss ?_; refine s_o [(15, _)] rfl rfl rfl z_su rfl q_full z_fp z_ss ?_; refine s_o [(16, _)] rfl rfl rfl z_su rfl q_move z_fp z_ss ?_; exact wpS_nil ⟨rfl, rfl⟩)) z_su ?_; clear z_ex)
          exact round_end (x' := i + 1) (St.Le.refl _) (Sub.le z_su) ⟨by omega, _, nr, ys, hnr, by show nr < nx + _; omega, no hp, rfl, rfl⟩ (by omega)
    · ((repeat refine WpM.seq ?_); refine WpM.condF (by (simp (maxSteps := 2000000) (disch := omega) [go_sem, -List.map_map, hit])) ?_)
      (refine WpM.exit ?_; (repeat (with_reducible (first | refine thenM_exit ?_ | refine blockM_eq ?_ | refine blockM_ne (by decide) ?_))))
      obtain rfl : i = h.txns.length := by omega
      ((repeat refine WpM.seq ?_); have z_ex := True.intro; refine WpM.regPE [] [(4, _)] (by (refine s_o [(5, _)] rfl rfl rfl z_su rfl q_move z_fp z_ss ?_; refine s_o [(36, _)] rfl rfl rfl z_su rfl q_move z_fp z_ss ?_; exact wpS_nil ⟨rfl, rfl⟩)) z_su ?_; clear z_ex)
      refine WpM.ret ?_
      refine ⟨.inr rfl, Upd.freeze 4 (nm := nr) (sz := 1) (o := 0) (m := ys.length) (xs := ys) ((writersL h key h.txns.length).map (D.int .i64)) (by (simp (maxSteps := 2000000) (disch := omega) [go_sem, -List.map_map])) (by (simp (maxSteps := 2000000) (disch := omega) [go_sem, -List.map_map])) (by rw [List.drop_zero, List.take_length, hys, intV, List.map_map]; rfl) (by rw [hys, intV]; simp) (Upd.done ⟨_, (by (simp (maxSteps := 2000000) (disch := omega) [go_sem, -List.map_map, resV, resVs, resV1, fset, ints])), rfl, fun m k _ hk => ?_⟩)⟩
      have := hH _ _ hk
      (simp (maxSteps := 2000000) (disch := omega) [go_sem, -List.map_map, hk])
end Go.Proofs.Ytjjmedgibcffhaa
/- assizelaw05.IndexTells. -/
namespace Go.Proofs.Ytjjmedgibcffhaa
open Go.RowKit M
set_option linter.unusedSimpArgs false
set_option linter.unusedVariables false
theorem finalF_len {h : HistD} (hb : HistB h) (t key : Int) : (finalF h t key).1.length ≤ 140737488351232 := by
  unfold finalF
  split
  · rename_i hc
    have ht : t.toNat < h.txns.length := by omega
    simp only [List.getElem?_eq_getElem ht]
    have h1 := wroteL_len h.txns[t.toNat].ops key
    have h2 := (hb.txns h.txns[t.toNat] (List.getElem_mem _)).len
    omega
  · simp
theorem writersF_len {h : HistD} (hb : HistB h) (key : Int) : (writersF h key).length ≤ 140737488351232 := by
  unfold writersF
  split
  · have h1 := writersL_len h key h.txns.length
    have h2 := hb.len
    omega
  · simp
set_option maxHeartbeats 8000000 in
theorem law14 (h : HistD) (hh : HistOk h) (key t : Int) : PureC Try.prog 14 [.d (encHist h), .d (.int .i64 key), .d (.int .i64 t)] (.d (.bool true)) := by
  refine PureC.of (n := 53) Try.func14 rfl rfl (by simp) (by simp only [argL, Nat.reduceAdd] <;> rfl) rfl ?_
  intro n0 H hH
  have h36 := final36 h hh t key
  have h37 := final37 h hh t key
  have h34 := type34 h hh key
  have h38 := type38 h hh key
  have h40 := writers40 h hh key
  have h41 := writers41 h hh key
  have hfl := finalF_len hh.b t key
  have hwl := writersF_len hh.b key
  rw [finalV] at h36 h37
  obtain ⟨fl, hfl0⟩ : ∃ x, x = (finalF h t key).1 := ⟨_, rfl⟩
  obtain ⟨fb, hfb0⟩ : ∃ x, x = (finalF h t key).2 := ⟨_, rfl⟩
  obtain ⟨wl, hwl0⟩ : ∃ x, x = writersF h key := ⟨_, rfl⟩
  obtain ⟨ty, hty0⟩ : ∃ x, x = typeF h key := ⟨_, rfl⟩
  rw [← hfl0, ← hfb0] at h36 h37
  rw [← hwl0] at h40 h41 hwl
  rw [← hty0] at h34 h38
  rw [← hfl0] at hfl
  have h39 := sameInts39 wl wl hwl
  have h25 := sameVals25 fl fl hfl
  ((repeat refine WpM.seq ?_); have z_ex := (And.intro @encHist.eq_1 True.intro); refine WpM.regPE [] [(1, _), (2, _), (3, _)] (by (refine s_o [(0, _)] rfl rfl rfl z_su rfl q_box z_fp z_ss ?_; refine s_o [] rfl rfl rfl z_su rfl q_move z_fp z_ss ?_; exact wpS_nil ⟨rfl, rfl⟩)) z_su ?_; clear z_ex)
  ((repeat refine WpM.seq ?_); have z_ex := True.intro; refine WpM.regPE [] [(1, _), (2, _), (3, _), (12, _)] (by (refine s_pure (callOf_eq rfl rfl rfl mlk_nil) (alive27) rfl rfl z_ip z_fp ?_; refine s_o [(11, _)] rfl rfl rfl z_su rfl q_unOp z_fp z_ss ?_; exact wpS_nil ⟨rfl, rfl⟩)) z_su ?_; clear z_ex)
  ((repeat refine WpM.seq ?_); refine WpM.condF (by (simp (maxSteps := 2000000) (disch := omega) [go_sem, -List.map_map])) ?_)
  refine WpM.skip ?_
  ((repeat refine WpM.seq ?_); have z_ex := True.intro; refine WpM.regPE [] [(1, _), (2, _), (3, _), (7, _), (8, _)] (by (refine s_o [(3, _)] rfl rfl rfl z_su rfl q_load z_fp z_ss ?_; refine s_o [(2, _)] rfl rfl rfl z_su rfl q_move z_fp z_ss ?_; refine s_o [(1, _)] rfl rfl rfl z_su rfl q_move z_fp z_ss ?_; refine s_pure (callOf_eq rfl rfl rfl (mlk_tmp z_lk (mlk_tmp z_lk (mlk_tmp z_lk mlk_nil)))) (h36) rfl rfl z_ip z_fp ?_; refine s_o [(17, _)] rfl rfl rfl z_su rfl q_move z_fp z_ss ?_; refine s_o [(13, _)] rfl rfl rfl z_su rfl q_extract z_fp z_ss ?_; refine s_o [(13, _)] rfl rfl rfl z_su rfl q_extract z_fp z_ss ?_; refine s_o [(18, _)] rfl rfl rfl z_su rfl q_move z_fp z_ss ?_; refine s_o [(19, _)] rfl rfl rfl z_su rfl q_move z_fp z_ss ?_; exact wpS_nil ⟨rfl, rfl⟩)) z_su ?_; clear z_ex)
  ((repeat refine WpM.seq ?_); have z_ex := True.intro; refine WpM.regPE [] [(1, _), (3, _), (7, _), (8, _), (9, _), (10, _)] (by (refine s_o [(3, _)] rfl rfl rfl z_su rfl q_load z_fp z_ss ?_; refine s_o [(2, _)] rfl rfl rfl z_su rfl q_move z_fp z_ss ?_; refine s_o [(1, _)] rfl rfl rfl z_su rfl q_move z_fp z_ss ?_; refine s_pure (callOf_eq rfl rfl rfl (mlk_tmp z_lk (mlk_tmp z_lk (mlk_tmp z_lk mlk_nil)))) (h37) rfl rfl z_ip z_fp ?_; refine s_o [(24, _)] rfl rfl rfl z_su rfl q_move z_fp z_ss ?_; refine s_o [(20, _)] rfl rfl rfl z_su rfl q_extract z_fp z_ss ?_; refine s_o [(20, _)] rfl rfl rfl z_su rfl q_extract z_fp z_ss ?_; refine s_o [(25, _)] rfl rfl rfl z_su rfl q_move z_fp z_ss ?_; refine s_o [(26, _)] rfl rfl rfl z_su rfl q_move z_fp z_ss ?_; exact wpS_nil ⟨rfl, rfl⟩)) z_su ?_; clear z_ex)
  ((repeat refine WpM.seq ?_); have z_ex := True.intro; refine WpM.drwPE [] [(6, _)] mixed (by kernel_rfl) (by kernel_rfl) [(2, 3), (10, 11)] (by kernel_rfl) (by (refine d_o [(3, _)] rfl rfl rfl z_su rfl q_load z_fp z_ss rfl ?_; refine d_o [(1, _)] rfl rfl rfl z_su rfl q_move z_fp z_ss rfl ?_; refine d_pure (callOf_eq rfl rfl rfl (mlk_tmp z_lk (mlk_tmp z_lk mlk_nil))) (h34) rfl rfl z_ip rfl z_fp ?_; refine d_o [(3, _)] rfl rfl rfl z_su rfl q_load z_fp z_ss rfl ?_; refine d_o [(1, _)] rfl rfl rfl z_su rfl q_move z_fp z_ss rfl ?_; refine d_pure (callOf_eq rfl rfl rfl (mlk_tmp z_lk (mlk_tmp z_lk mlk_nil))) (h38) rfl rfl z_ip rfl z_fp ?_; refine d_o [(29, _), (32, _)] rfl rfl rfl z_su rfl q_full z_fp z_ss rfl ?_; refine d_o [(33, _)] rfl rfl rfl z_su rfl q_move z_fp z_ss rfl ?_; refine d_wit ?_; intro z_g; (first | refine d_skip rfl z_g z_fp ?_ | (refine d_o [(3, _)] rfl z_g rfl z_su rfl q_load z_fp z_ss rfl ?_)); clear z_g; refine d_wit ?_; intro z_g; (first | refine d_skip rfl z_g z_fp ?_ | (refine d_o [(1, _)] rfl z_g rfl z_su rfl q_move z_fp z_ss rfl ?_)); clear z_g; refine d_wit ?_; intro z_g; (first | refine d_skip rfl z_g z_fp ?_ | (refine d_pure (callOf_eq rfl rfl rfl (mlk_tmp z_lk (mlk_tmp z_lk mlk_nil))) (h40) rfl z_g z_ip rfl z_fp ?_)); clear z_g; refine d_wit ?_; intro z_g; (first | refine d_skip rfl z_g z_fp ?_ | (refine d_o [(3, _)] rfl z_g rfl z_su rfl q_load z_fp z_ss rfl ?_)); clear z_g; refine d_wit ?_; intro z_g; (first | refine d_skip rfl z_g z_fp ?_ | (refine d_o [(1, _)] rfl z_g rfl z_su rfl q_move z_fp z_ss rfl ?_)); clear z_g; refine d_wit ?_; intro z_g; (first | refine d_skip rfl z_g z_fp ?_ | (refine d_pure (callOf_eq rfl rfl rfl (mlk_tmp z_lk (mlk_tmp z_lk mlk_nil))) (h41) rfl z_g z_ip rfl z_fp ?_)); clear z_g; refine d_wit ?_; intro z_g; (first | refine d_skip rfl z_g z_fp ?_ | (refine d_pure (callOf_eq rfl rfl rfl (mlk_tmp z_lk (mlk_tmp z_lk mlk_nil))) (h39) rfl z_g z_ip rfl z_fp ?_)); clear z_g; refine d_o [(34, _), (41, _)] rfl rfl rfl z_su rfl q_move z_fp z_ss rfl ?_; refine d_o [(42, _)] rfl rfl rfl z_su rfl q_move z_fp z_ss rfl ?_; refine d_wit ?_; intro z_g; (first | refine d_skip rfl z_g z_fp ?_ | (refine d_o [(8, _)] rfl z_g rfl z_su rfl q_move z_fp z_ss rfl ?_)); clear z_g; refine d_wit ?_; intro z_g; (first | refine d_skip rfl z_g z_fp ?_ | (refine d_o [(10, _)] rfl z_g rfl z_su rfl q_move z_fp z_ss rfl ?_)); clear z_g; refine d_wit ?_; intro z_g; (first | refine d_skip rfl z_g z_fp ?_ | (refine d_o [(44, _), (45, _)] rfl z_g rfl z_su rfl q_full z_fp z_ss rfl ?_)); clear z_g; refine d_o [(43, _), (46, _)] rfl rfl rfl z_su rfl q_move z_fp z_ss rfl ?_; refine d_o [(47, _)] rfl rfl rfl z_su rfl q_move z_fp z_ss rfl ?_; refine d_wit ?_; intro z_g; (first | refine d_skip rfl z_g z_fp ?_ | (refine d_o [(7, _)] rfl z_g rfl z_su rfl q_move z_fp z_ss rfl ?_)); clear z_g; refine d_wit ?_; intro z_g; (first | refine d_skip rfl z_g z_fp ?_ | (refine d_o [(9, _)] rfl z_g rfl z_su rfl q_move z_fp z_ss rfl ?_)); clear z_g; refine d_wit ?_; intro z_g; (first | refine d_skip rfl z_g z_fp ?_ | (refine d_pure (callOf_eq rfl rfl rfl (mlk_tmp z_lk (mlk_tmp z_lk mlk_nil))) (h25) rfl z_g z_ip rfl z_fp ?_)); clear z_g; refine d_o [(48, _), (51, _)] rfl rfl rfl z_su rfl q_move z_fp z_ss rfl ?_; refine d_o [(52, _)] rfl rfl rfl z_su rfl q_move z_fp z_ss rfl ?_; exact d_end z_mt z_sn)) z_su ?_; clear z_ex)
  (refine WpM.ret ?_; refine ⟨.inr rfl, Upd.done ?_⟩; (simp (maxSteps := 2000000) (disch := omega) [go_sem, -List.map_map, resV, resVs, resV1,]))
end Go.Proofs.Ytjjmedgibcffhaa
