/- Type and Writers, both ways. -/
import Derived.Test.YtjjmedgibcffhaaROp2
import Derived.Test.YtjjmedgibcffhaaRIx18
namespace Go.Proofs.Ytjjmedgibcffhaa
open Go.RowKit M
set_option linter.unusedSimpArgs false
set_option linter.unusedVariables false
def allOps (h : HistD) : List OpD := h.txns.flatMap (·.ops)
noncomputable def typeF (h : HistD) (key : Int) : Int := if checkB h = true then match (allOps h).find? (fun o => decide (o.key = key)) with | some o => tyOf o.kind | none => 0 else 0
theorem type_hit {h : HistD} {key : Int} {i k : Nat} (hi : i < h.txns.length) (hk : k < h.txns[i].ops.length) (hn : ∀ (q : Nat) (hq : q < h.txns.length), q < i → ∀ o ∈ h.txns[q].ops, o.key ≠ key) (hn2 : ∀ (r : Nat) (hr : r < h.txns[i].ops.length), r < k → h.txns[i].ops[r].key ≠ key) (he : h.txns[i].ops[k].key = key) :
    (allOps h).find? (fun o => decide (o.key = key)) = some h.txns[i].ops[k] := by
  have e1 : h.txns = h.txns.take i ++ h.txns[i] :: h.txns.drop (i + 1) := by rw [← List.drop_eq_getElem_cons hi, List.take_append_drop]
  have e2 : h.txns[i].ops = h.txns[i].ops.take k ++ h.txns[i].ops[k] :: h.txns[i].ops.drop (k + 1) := by rw [← List.drop_eq_getElem_cons hk, List.take_append_drop]
  have n1 : ((h.txns.take i).flatMap (·.ops)).find? (fun o => decide (o.key = key)) = none := by
    rw [List.find?_eq_none]
    intro o ho
    obtain ⟨t, ht, ho⟩ := List.mem_flatMap.1 ho
    obtain ⟨q, hq, rfl⟩ := List.mem_take_iff_getElem.1 ht
    simpa using hn q (by omega) (by omega) o ho
  have n2 : (h.txns[i].ops.take k).find? (fun o => decide (o.key = key)) = none := by
    rw [List.find?_eq_none]
    intro o ho
    obtain ⟨q, hq, rfl⟩ := List.mem_take_iff_getElem.1 ho
    simpa using hn2 q (by omega) (by omega)
  rw [allOps]
  conv => lhs; rw [e1]
  rw [List.flatMap_append, List.find?_append, n1, Option.none_or, List.flatMap_cons, List.find?_append]
  conv => lhs; rw [e2]
  rw [List.find?_append, n2, Option.none_or, List.find?_cons_of_pos (by simpa using he)]
  rfl
theorem type_miss {h : HistD} {key : Int} (hn : ∀ (q : Nat) (hq : q < h.txns.length), ∀ o ∈ h.txns[q].ops, o.key ≠ key) : (allOps h).find? (fun o => decide (o.key = key)) = none := by
  rw [List.find?_eq_none]
  intro o ho
  obtain ⟨t, ht, ho⟩ := List.mem_flatMap.1 ho
  obtain ⟨q, hq, rfl⟩ := List.getElem_of_mem ht
  simpa using hn q hq o ho
theorem checkSt_all {h : HistD} : ∀ {m : Nat} {b : Bk}, checkSt h m = some b → ∀ i, i < m → ∃ b0 b1, checkSt h i = some b0 ∧ stepT h i b0 = some b1
  | 0, b, _, i, hi => by omega
  | m + 1, b, hm, i, hi => by
    rw [checkSt] at hm
    cases hc : checkSt h m with
    | none => rw [hc] at hm; cases hm
    | some b0 =>
      rw [hc] at hm
      rcases Nat.lt_or_ge i m with h1 | h1
      · exact checkSt_all hc i h1
      · obtain rfl : i = m := by omega
        exact ⟨b0, b, hc, hm⟩
theorem checkB_ev {h : HistD} (hc : checkB h = true) {i : Nat} (hi : i < h.txns.length) : evOkB h.keys h.txns[i] = true := by
  rw [checkB, Bool.and_eq_true] at hc
  obtain ⟨b, hb⟩ := Option.isSome_iff_exists.1 hc.2
  obtain ⟨b0, b1, _, hs⟩ := checkSt_all hb i hi
  rw [stepT_get hi] at hs
  split at hs
  · rename_i hcond
    rw [Bool.and_eq_true] at hcond
    exact hcond.1
  · cases hs
theorem checkB_kind {h : HistD} (hc : checkB h = true) {i : Nat} (hi : i < h.txns.length) {o : OpD} (ho : o ∈ h.txns[i].ops) : 1 ≤ o.kind ∧ o.kind ≤ 8 := by
  have hev := checkB_ev hc hi
  rw [evOkB, Bool.and_eq_true] at hev
  obtain ⟨ha, he⟩ := hev
  have hw := (takeWhile_good (okKey h.keys.length) h.txns[i].ops (fun j hj => List.all_eq_true.1 ha _ (List.getElem_mem _))).1
  have := (eventOk_spec he).2.2.2 (callOf' h.keys o) (by simp only [evOf, hw]; exact List.mem_map_of_mem ho)
  exact callOk_kind this
set_option maxHeartbeats 8000000 in
theorem type34 (h : HistD) (hh : HistOk h) (key : Int) : PureC Try.prog 34 [.d (encHist h), .d (.int .i64 key)] (.d (.int .i64 (typeF h key))) := by
  intro S
  refine CallM.pure' (by rfl) (CallM.start (n := 35) Try.func34 rfl rfl (by simp) (by simp only [argL, Nat.reduceAdd] <;> rfl) ?_)
  intro hH
  obtain ⟨H, hHe⟩ : ∃ H, H = S.get := ⟨_, rfl⟩
  obtain ⟨n0, hne⟩ : ∃ n0, n0 = S.next := ⟨_, rfl⟩
  rw [← hHe, ← hne] at hH ⊢
  have hb := hh.b
  have hlen := hb.len
  have hck := check32 h hh
  cases hok : checkB h with
  | false =>
    rw [hok, errno_f] at hck
    have hr : typeF h key = 0 := by rw [typeF, hok]; rfl
    rw [hr]
    ((repeat refine WpM.seq ?_); have z_ex := (And.intro @encHist.eq_1 True.intro); refine WpM.regPE [] [(1, _), (2, _)] (by (refine s_b [(0, _)] ?_; refine s_m [] ?_; exact wpS_nil ⟨rfl, rfl⟩)) z_su ?_; clear z_ex)
    ((repeat refine WpM.seq ?_); have z_ex := True.intro; refine WpM.regPE [] [(1, _), (2, _), (11, _)] (by (refine s_l [(2, _)] ?_; refine s_pure (callOf_eq rfl rfl rfl (mlk_tmp z_lk mlk_nil)) (hck) rfl rfl z_ip z_fp ?_; refine s_q [(10, _)] ?_; exact wpS_nil ⟨rfl, rfl⟩)) z_su ?_; clear z_ex)
    ((repeat refine WpM.seq ?_); refine WpM.condT (by (simp (maxSteps := 2000000) (disch := omega) [go_sem, -List.map_map])) ?_)
    ((repeat refine WpM.seq ?_); have z_ex := True.intro; refine WpM.regPE [] [(4, _)] (by (refine s_m [] ?_; exact wpS_nil ⟨rfl, rfl⟩)) z_su ?_; clear z_ex)
    refine WpM.ret ?_
    exact ⟨.inr rfl, Upd.done ⟨_, (by (simp (maxSteps := 2000000) (disch := omega) [go_sem, -List.map_map, resV, resVs, resV1])), rfl, fun m k _ hk => by have := hH _ _ hk; (simp (maxSteps := 2000000) (disch := omega) [go_sem, -List.map_map, hk])⟩⟩
  | true =>
    rw [hok, errno_t] at hck
    ((repeat refine WpM.seq ?_); have z_ex := (And.intro @encHist.eq_1 True.intro); refine WpM.regPE [] [(1, _), (2, _)] (by (refine s_b [(0, _)] ?_; refine s_m [] ?_; exact wpS_nil ⟨rfl, rfl⟩)) z_su ?_; clear z_ex)
    ((repeat refine WpM.seq ?_); have z_ex := True.intro; refine WpM.regPE [] [(1, _), (2, _), (11, _)] (by (refine s_l [(2, _)] ?_; refine s_pure (callOf_eq rfl rfl rfl (mlk_tmp z_lk mlk_nil)) (hck) rfl rfl z_ip z_fp ?_; refine s_q [(10, _)] ?_; exact wpS_nil ⟨rfl, rfl⟩)) z_su ?_; clear z_ex)
    ((repeat refine WpM.seq ?_); refine WpM.condF (by (simp (maxSteps := 2000000) (disch := omega) [go_sem, -List.map_map])) ?_)
    refine WpM.skip ?_
    ((repeat refine WpM.seq ?_); have z_ex := True.intro; refine WpM.regPE [] [(1, _), (13, _), (14, _), (15, _)] (by (refine s_f [(2, _)] ?_; refine s_l [(12, _)] ?_; refine s_q [(13, _)] ?_; refine s_m [] ?_; exact wpS_nil ⟨rfl, rfl⟩)) z_su ?_; clear z_ex)
    ((repeat refine WpM.seq ?_); refine WpM.block ?_)
    refine WpM.loop (fun (i : Nat) fr S => i ≤ h.txns.length ∧ (∀ (q : Nat) (hq : q < h.txns.length), q < i → ∀ o ∈ h.txns[q].ops, o.key ≠ key) ∧ (∃ nx, n0 ≤ nx ∧ S = ⟨nx, [], H⟩) ∧ fr = frOf [(1, .d (.int .i64 key)), (13, .d (.sl (h.txns.map encTxn))), (14, .d (.int .i64 h.txns.length)), (15, .d (.int .i64 i))]) (fun i => h.txns.length - i) 0 (le_cut (n0 := n0) (n' := n0 + 9) (l' := []) hH (by (simp (maxSteps := 2000000) (disch := omega) [go_sem, -List.map_map])) (by (simp (maxSteps := 2000000) (disch := omega) [go_sem, -List.map_map])) (by (simp (maxSteps := 2000000) (disch := omega) [go_sem, -List.map_map]))) (Sub.le z_su) ⟨by omega, fun q _ hq => by omega, ⟨_, by omega, rfl⟩, rfl⟩ ?_
    rintro i fr S' ⟨hi, hn, ⟨nx, hnx, rfl⟩, rfl⟩
    ((repeat refine WpM.seq ?_); have z_ex := True.intro; refine WpM.regPE [] [(1, _), (13, _), (14, _), (15, _), (16, _)] (by (refine s_q [(14, _), (15, _)] ?_; exact wpS_nil ⟨rfl, rfl⟩)) z_su ?_; clear z_ex)
    by_cases hit : i < h.txns.length
    · ((repeat refine WpM.seq ?_); refine WpM.condT (by (simp (maxSteps := 2000000) (disch := omega) [go_sem, -List.map_map, hit])) ?_)
      refine WpM.skip ?_
      ((repeat refine WpM.seq ?_); refine WpM.block ?_)
      obtain ⟨t, ht⟩ : ∃ t, t = h.txns[i] := ⟨_, rfl⟩
      have hget : (h.txns.map encTxn)[i]? = some (encTxn t) := by simp [hit, ht]
      have hlt := (hb.txns t (ht ▸ List.getElem_mem _)).len
      ((repeat refine WpM.seq ?_); have z_ex := (And.intro @hget (And.intro @encTxn.eq_1 True.intro)); refine WpM.regPE [] [(1, _), (6, _), (13, _), (14, _), (15, _)] (by (refine s_q [(13, _), (15, _)] ?_; refine s_l [(17, _)] ?_; refine s_a [] ?_; refine s_s [(6, _), (18, _)] ?_; exact wpS_nil ⟨rfl, rfl⟩)) z_su ?_; clear z_ex)
      ((repeat refine WpM.seq ?_); have z_ex := True.intro; refine WpM.regPE [] [(1, _), (13, _), (14, _), (15, _), (20, _), (21, _), (22, _)] (by (refine s_f [(6, _)] ?_; refine s_l [(19, _)] ?_; refine s_q [(20, _)] ?_; refine s_m [] ?_; exact wpS_nil ⟨rfl, rfl⟩)) z_su ?_; clear z_ex)
      ((repeat refine WpM.seq ?_); refine WpM.block ?_)
      refine WpM.loop (fun (k : Nat) fr S => k ≤ t.ops.length ∧ (∀ (r : Nat) (hr : r < t.ops.length), r < k → t.ops[r].key ≠ key) ∧ (∃ nx, n0 ≤ nx ∧ S = ⟨nx, [], H⟩) ∧ fr = frOf [(1, .d (.int .i64 key)), (13, .d (.sl (h.txns.map encTxn))), (14, .d (.int .i64 h.txns.length)), (15, .d (.int .i64 i)), (20, .d (.sl (t.ops.map encOp))), (21, .d (.int .i64 t.ops.length)), (22, .d (.int .i64 k))]) (fun k => t.ops.length - k) 0 (le_cut (n0 := n0) (n' := nx + 9) (l' := []) hH (by (simp (maxSteps := 2000000) (disch := omega) [go_sem, -List.map_map]); omega) (by (simp (maxSteps := 2000000) (disch := omega) [go_sem, -List.map_map])) (by (simp (maxSteps := 2000000) (disch := omega) [go_sem, -List.map_map]))) (Sub.le z_su) ⟨by omega, fun q _ hq => by omega, ⟨_, by omega, rfl⟩, rfl⟩ ?_
      rintro k fr S' ⟨hk, hn2, ⟨nx2, hnx2, rfl⟩, rfl⟩
      ((repeat refine WpM.seq ?_); have z_ex := True.intro; refine WpM.regPE [] [(1, _), (13, _), (14, _), (15, _), (20, _), (21, _), (22, _), (23, _)] (by (refine s_q [(21, _), (22, _)] ?_; exact wpS_nil ⟨rfl, rfl⟩)) z_su ?_; clear z_ex)
      by_cases hkt : k < t.ops.length
      · ((repeat refine WpM.seq ?_); refine WpM.condT (by (simp (maxSteps := 2000000) (disch := omega) [go_sem, -List.map_map, hkt])) ?_)
        refine WpM.skip ?_
        ((repeat refine WpM.seq ?_); refine WpM.block ?_)
        obtain ⟨o, ho⟩ : ∃ o, o = t.ops[k] := ⟨_, rfl⟩
        have hgeto : (t.ops.map encOp)[k]? = some (encOp o) := by simp [hkt, ho]
        ((repeat refine WpM.seq ?_); have z_ex := (And.intro @hgeto (And.intro @encOp.eq_1 True.intro)); refine WpM.regPE [] [(1, _), (8, _), (13, _), (14, _), (15, _), (20, _), (21, _), (22, _)] (by (refine s_q [(20, _), (22, _)] ?_; refine s_l [(24, _)] ?_; refine s_a [] ?_; refine s_s [(8, _), (25, _)] ?_; exact wpS_nil ⟨rfl, rfl⟩)) z_su ?_; clear z_ex)
        by_cases he : o.key = key
        · obtain ⟨hk1, hk8⟩ := checkB_kind hok hit (o := o) (by rw [← ht, ho]; exact List.getElem_mem _)
          have hty := typeOf57 o.kind hk1 hk8
          have hr : typeF h key = tyOf o.kind := by
            subst ht
            rw [typeF, if_pos hok, type_hit hit hkt hn hn2 (by rw [← ho]; exact he), ho]
          rw [hr]
          ((repeat refine WpM.seq ?_); have z_ex := (And.intro @he True.intro); refine WpM.regPE [] [(1, _), (8, _), (13, _), (14, _), (15, _), (20, _), (21, _), (22, _), (29, _)] (by (refine s_f [(8, _)] ?_; refine s_l [(26, _)] ?_; refine s_m [(1, _)] ?_; refine s_q [(27, _), (28, _)] ?_; exact wpS_nil ⟨rfl, rfl⟩)) z_su ?_; clear z_ex)
          ((repeat refine WpM.seq ?_); refine WpM.condT (by (simp (maxSteps := 2000000) (disch := omega) [go_sem, -List.map_map, he])) ?_)
          ((repeat refine WpM.seq ?_); have z_ex := True.intro; refine WpM.regPE [] [(4, _)] (by (refine s_f [(8, _)] ?_; refine s_l [(30, _)] ?_; refine s_pure (callOf_eq rfl rfl rfl (mlk_tmp z_lk mlk_nil)) (hty) rfl rfl z_ip z_fp ?_; refine s_m [(32, _)] ?_; exact wpS_nil ⟨rfl, rfl⟩)) z_su ?_; clear z_ex)
          refine WpM.ret ?_
          exact ⟨.inr rfl, Upd.done ⟨_, (by (simp (maxSteps := 2000000) (disch := omega) [go_sem, -List.map_map, resV, resVs, resV1])), rfl, fun m k _ hk => by have := hH _ _ hk; (simp (maxSteps := 2000000) (disch := omega) [go_sem, -List.map_map, hk])⟩⟩
        · ((repeat refine WpM.seq ?_); have z_ex := (And.intro @he True.intro); refine WpM.regPE [] [(1, _), (8, _), (13, _), (14, _), (15, _), (20, _), (21, _), (22, _), (29, _)] (by (refine s_f [(8, _)] ?_; refine s_l [(26, _)] ?_; refine s_m [(1, _)] ?_; refine s_q [(27, _), (28, _)] ?_; exact wpS_nil ⟨rfl, rfl⟩)) z_su ?_; clear z_ex)
          ((repeat refine WpM.seq ?_); refine WpM.condF (by (simp (maxSteps := 2000000) (disch := omega) [go_sem, -List.map_map, he])) ?_)
          refine WpM.skip ?_
          ((repeat refine WpM.seq ?_); have z_ex := (And.intro @wrap_id True.intro); refine WpM.regPE [] [(1, _), (13, _), (14, _), (15, _), (20, _), (21, _), (22, _)] (by (refine s_q [(22, _)] ?_; refine s_m [(33, _)] ?_; exact wpS_nil ⟨rfl, rfl⟩)) z_su ?_; clear z_ex)
          have hn2' : ∀ (r : Nat) (hr : r < t.ops.length), r < k + 1 → t.ops[r].key ≠ key := fun r hr hlt => by
            rcases Nat.lt_or_ge r k with h1 | h1
            · exact hn2 r hr h1
            · obtain rfl : r = k := by omega
              rw [← ho]; exact he
          exact round_end (x' := k + 1) (le_cut (n0 := n0) (l' := []) hH (by (simp (maxSteps := 2000000) (disch := omega) [go_sem, -List.map_map]); omega) (Nat.le_refl _) (by (simp (maxSteps := 2000000) (disch := omega) [go_sem, -List.map_map]))) (Sub.le z_su) ⟨by omega, hn2', ⟨_, by omega, rfl⟩, rfl⟩ (by omega)
      · ((repeat refine WpM.seq ?_); refine WpM.condF (by (simp (maxSteps := 2000000) (disch := omega) [go_sem, -List.map_map, hkt])) ?_)
        (refine WpM.exit ?_; (repeat (with_reducible (first | refine thenM_exit ?_ | refine blockM_eq ?_ | refine blockM_ne (by decide) ?_))))
        have hn' : ∀ (q : Nat) (hq : q < h.txns.length), q < i + 1 → ∀ o ∈ h.txns[q].ops, o.key ≠ key := fun q hq hlt o ho => by
          rcases Nat.lt_or_ge q i with h1 | h1
          · exact hn q hq h1 o ho
          · obtain rfl : q = i := by omega
            rw [← ht] at ho
            obtain ⟨r, hr, rfl⟩ := List.getElem_of_mem ho
            exact hn2 r hr (by omega)
        ((repeat refine WpM.seq ?_); have z_ex := (And.intro @wrap_id True.intro); refine WpM.regPE [] [(1, _), (13, _), (14, _), (15, _)] (by (refine s_q [(15, _)] ?_; refine s_m [(34, _)] ?_; exact wpS_nil ⟨rfl, rfl⟩)) z_su ?_; clear z_ex)
        exact round_end (x' := i + 1) (St.Le.refl _) (Sub.le z_su) ⟨by omega, hn', ⟨_, by omega, rfl⟩, rfl⟩ (by omega)
    · ((repeat refine WpM.seq ?_); refine WpM.condF (by (simp (maxSteps := 2000000) (disch := omega) [go_sem, -List.map_map, hit])) ?_)
      (refine WpM.exit ?_; (repeat (with_reducible (first | refine thenM_exit ?_ | refine blockM_eq ?_ | refine blockM_ne (by decide) ?_))))
      have hr : typeF h key = 0 := by rw [typeF, if_pos hok, type_miss fun q hq => hn q hq (by omega)]
      rw [hr]
      ((repeat refine WpM.seq ?_); have z_ex := True.intro; refine WpM.regPE [] [(4, _)] (by (refine s_m [] ?_; exact wpS_nil ⟨rfl, rfl⟩)) z_su ?_; clear z_ex)
      refine WpM.ret ?_
      exact ⟨.inr rfl, Upd.done ⟨_, (by (simp (maxSteps := 2000000) (disch := omega) [go_sem, -List.map_map, resV, resVs, resV1])), rfl, fun m k _ hk => by have := hH _ _ hk; (simp (maxSteps := 2000000) (disch := omega) [go_sem, -List.map_map, hk])⟩⟩
end Go.Proofs.Ytjjmedgibcffhaa
