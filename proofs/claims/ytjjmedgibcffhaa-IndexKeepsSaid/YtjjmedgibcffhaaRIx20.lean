/- Writers, both ways; Type of the reference. -/
import Derived.Test.YtjjmedgibcffhaaROp2
import Derived.Test.YtjjmedgibcffhaaRIx19
namespace Go.Proofs.Ytjjmedgibcffhaa
open Go.RowKit M
set_option linter.unusedSimpArgs false
set_option linter.unusedVariables false
def writesB (h : HistD) (key : Int) (i : Nat) : Bool := match h.txns[i]? with | some t => decide (t.status ≠ 2) && decide (0 < (wroteL t.ops key).length) | none => false
def writersL (h : HistD) (key : Int) (n : Nat) : List Int := ((List.range n).filter (writesB h key)).map fun (i : Nat) => (i : Int)
noncomputable def writersF (h : HistD) (key : Int) : List Int := if checkB h = true then writersL h key h.txns.length else []
theorem writersL_step (h : HistD) (key : Int) (n : Nat) : writersL h key (n + 1) = writersL h key n ++ if writesB h key n then [(n : Int)] else [] := by
  rw [writersL, List.range_succ, List.filter_append, List.map_append]
  congr 1
  by_cases hp : writesB h key n = true
  · simp [hp]
  · simp [hp]
theorem writersL_len (h : HistD) (key : Int) (n : Nat) : (writersL h key n).length ≤ n := by
  have := List.length_filter_le (writesB h key) (List.range n)
  simpa [writersL] using this
set_option maxHeartbeats 8000000 in
theorem writers40 (h : HistD) (hh : HistOk h) (key : Int) : PureC Try.prog 40 [.d (encHist h), .d (.int .i64 key)] (.d (ints (writersF h key))) := by
  intro S
  refine CallM.pure' (by rfl) (CallM.start (n := 35) Try.func40 rfl rfl (by simp) (by simp only [argL, Nat.reduceAdd] <;> rfl) ?_)
  intro hH
  obtain ⟨H, hHe⟩ : ∃ H, H = S.get := ⟨_, rfl⟩
  obtain ⟨n0, hne⟩ : ∃ n0, n0 = S.next := ⟨_, rfl⟩
  rw [← hHe, ← hne] at hH ⊢
  have hb := hh.b
  have hlen := hb.len
  have hck := check32 h hh
  cases hok : checkB h with
  | false =>
    rw [hok, errno_f] at hck
    have hr : writersF h key = [] := by rw [writersF, hok]; rfl
    rw [hr]
    ((repeat refine WpM.seq ?_); have z_ex := (And.intro @encHist.eq_1 True.intro); refine WpM.regPE [] [(1, _), (2, _)] (by (refine s_b [(0, _)] ?_; refine s_m [] ?_; exact wpS_nil ⟨rfl, rfl⟩)) z_su ?_; clear z_ex)
    ((repeat refine WpM.seq ?_); have z_ex := True.intro; refine WpM.regPE [] [(1, _), (2, _), (10, _)] (by (refine s_l [(2, _)] ?_; refine s_pure (callOf_eq rfl rfl rfl (mlk_tmp z_lk mlk_nil)) (hck) rfl rfl z_ip z_fp ?_; refine s_q [(9, _)] ?_; exact wpS_nil ⟨rfl, rfl⟩)) z_su ?_; clear z_ex)
    ((repeat refine WpM.seq ?_); refine WpM.condT (by (simp (maxSteps := 2000000) (disch := omega) [go_sem, -List.map_map])) ?_)
    ((repeat refine WpM.seq ?_); have z_ex := True.intro; refine WpM.regPE [] [(4, _)] (by (refine s_m [] ?_; exact wpS_nil ⟨rfl, rfl⟩)) z_su ?_; clear z_ex)
    refine WpM.ret ?_
    refine ⟨.inr rfl, Upd.pureNil 4 (.inl (by (simp (maxSteps := 2000000) (disch := omega) [go_sem, -List.map_map]))) (Upd.done ⟨_, (by (simp (maxSteps := 2000000) (disch := omega) [go_sem, -List.map_map, resV, resVs, resV1, fset, ints])), rfl, fun m k _ hk => ?_⟩)⟩
    have := hH _ _ hk
    (simp (maxSteps := 2000000) (disch := omega) [go_sem, -List.map_map, hk])
  | true =>
    rw [hok, errno_t] at hck
    have hr : writersF h key = writersL h key h.txns.length := by rw [writersF, if_pos hok]
    rw [hr]
    ((repeat refine WpM.seq ?_); have z_ex := (And.intro @encHist.eq_1 True.intro); refine WpM.regPE [] [(1, _), (2, _)] (by (refine s_b [(0, _)] ?_; refine s_m [] ?_; exact wpS_nil ⟨rfl, rfl⟩)) z_su ?_; clear z_ex)
    ((repeat refine WpM.seq ?_); have z_ex := True.intro; refine WpM.regPE [] [(1, _), (2, _), (10, _)] (by (refine s_l [(2, _)] ?_; refine s_pure (callOf_eq rfl rfl rfl (mlk_tmp z_lk mlk_nil)) (hck) rfl rfl z_ip z_fp ?_; refine s_q [(9, _)] ?_; exact wpS_nil ⟨rfl, rfl⟩)) z_su ?_; clear z_ex)
    ((repeat refine WpM.seq ?_); refine WpM.condF (by (simp (maxSteps := 2000000) (disch := omega) [go_sem, -List.map_map])) ?_)
    refine WpM.skip ?_
    ((repeat refine WpM.seq ?_); have z_ex := True.intro; refine WpM.regPE [] [(1, _), (2, _), (5, _)] (by (refine s_m [] ?_; exact wpS_nil ⟨rfl, rfl⟩)) z_su ?_; clear z_ex)
    refine Upd.wp (Upd.ghost 5 1 (.inl (by (simp (maxSteps := 2000000) (disch := omega) [go_sem, -List.map_map]))) (Upd.done ?_))
    refine WpM.less (le_cut (n0 := n0) (n' := n0 + 6) (l' := [(n0, some (histBox h)), (n0 + 5, some (.row 1 []))]) hH (by (simp (maxSteps := 2000000) (disch := omega) [go_sem, -List.map_map])) (by (simp (maxSteps := 2000000) (disch := omega) [go_sem, -List.map_map])) (by (simp (maxSteps := 2000000) (disch := omega) [go_sem, -List.map_map, histBox, strs]))) (frLe_frOf (l := [(1, .d (.int .i64 key)), (2, .ptr n0 0), (5, .ms (n0 + 5) 1 0 0)]) (by (simp (maxSteps := 2000000) (disch := omega) [go_sem, -List.map_map]))) ?_
    ((repeat refine WpM.seq ?_); have z_ex := (And.intro @histBox.eq_1 True.intro); refine WpM.regPE [] [(1, _), (5, _), (12, _), (13, _), (14, _)] (by (refine s_f [(2, _)] ?_; refine s_l [(11, _)] ?_; refine s_q [(12, _)] ?_; refine s_m [] ?_; exact wpS_nil ⟨rfl, rfl⟩)) z_su ?_; clear z_ex)
    ((repeat refine WpM.seq ?_); refine WpM.block ?_)
    refine WpM.loop (fun (i : Nat) fr S => i ≤ h.txns.length ∧ ∃ nx nr ys, n0 ≤ nr ∧ nr < nx ∧ ys = intV (writersL h key i) ∧ fr = frOf [(1, .d (.int .i64 key)), (5, .ms nr 1 0 ys.length), (12, .d (.sl (h.txns.map encTxn))), (13, .d (.int .i64 h.txns.length)), (14, .d (.int .i64 i))] ∧ S = ⟨nx, [(nr, some (.row 1 ys))], H⟩) (fun i => h.txns.length - i) 0 (le_cut (n0 := n0) (n' := n0 + 12) (l' := [(n0 + 5, some (.row 1 []))]) hH (by (simp (maxSteps := 2000000) (disch := omega) [go_sem, -List.map_map])) (by (simp (maxSteps := 2000000) (disch := omega) [go_sem, -List.map_map])) (by (simp (maxSteps := 2000000) (disch := omega) [go_sem, -List.map_map]))) (Sub.le z_su) ⟨by omega, n0 + 12, n0 + 5, [], by omega, by omega, rfl, rfl, rfl⟩ ?_
    rintro i fr S' ⟨hi, nx, nr, ys, hnr, hnx, hys, rfl, rfl⟩
    have hyl : ys.length ≤ i := by have := writersL_len h key i; rw [hys, intV, List.length_map]; exact this
    ((repeat refine WpM.seq ?_); have z_ex := True.intro; refine WpM.regPE [] [(1, _), (5, _), (12, _), (13, _), (14, _), (15, _)] (by (refine s_q [(13, _), (14, _)] ?_; exact wpS_nil ⟨rfl, rfl⟩)) z_su ?_; clear z_ex)
    by_cases hit : i < h.txns.length
    · ((repeat refine WpM.seq ?_); refine WpM.condT (by (simp (maxSteps := 2000000) (disch := omega) [go_sem, -List.map_map, hit])) ?_)
      refine WpM.skip ?_
      ((repeat refine WpM.seq ?_); refine WpM.block ?_)
      obtain ⟨t, ht⟩ : ∃ t, t = h.txns[i] := ⟨_, rfl⟩
      have hget : (h.txns.map encTxn)[i]? = some (encTxn t) := by simp [hit, ht]
      have hwr := wrote58 t (hb.txns t (ht ▸ List.getElem_mem _)) key
      obtain ⟨wl, hwl⟩ : ∃ wl, wl = wroteL t.ops key := ⟨_, rfl⟩
      have hwb : writesB h key i = (decide (t.status ≠ 2) && decide (0 < wl.length)) := by rw [writesB, List.getElem?_eq_getElem hit, ← ht, hwl]
      rw [← hwl] at hwr
      have hstep := writersL_step h key i
      have no : writesB h key i = false → ys = intV (writersL h key (i + 1)) := fun hp => by rw [hstep, hp, hys]; simp [intV]
      ((repeat refine WpM.seq ?_); have z_ex := (And.intro @hget (And.intro @encTxn.eq_1 True.intro)); refine WpM.regPE [] [(1, _), (5, _), (6, _), (7, _), (12, _), (13, _), (14, _)] (by (refine s_m [(14, _)] ?_; refine s_q [(12, _), (14, _)] ?_; refine s_l [(17, _)] ?_; refine s_a [] ?_; refine s_m [(16, _)] ?_; refine s_s [(7, _), (18, _)] ?_; exact wpS_nil ⟨rfl, rfl⟩)) z_su ?_; clear z_ex)
      by_cases h2 : t.status = 2
      · have hp : writesB h key i = false := by rw [hwb]; simp [h2]
        ((repeat refine WpM.seq ?_); have z_ex := (And.intro @h2 True.intro); refine WpM.regPE [] [(1, _), (5, _), (6, _), (12, _), (13, _), (14, _), (28, _)] (by (refine s_f [(7, _)] ?_; refine s_l [(19, _)] ?_; refine s_q [(20, _)] ?_; refine s_m [(21, _)] ?_; refine s_wit ?_; intro z_g; (first | refine s_skip rfl z_g z_fp ?_ | (refine s_l [(7, _)] ?_ (hg := z_g))); clear z_g; refine s_wit ?_; intro z_g; (first | refine s_skip rfl z_g z_fp ?_ | (refine s_m [(1, _)] ?_ (hg := z_g))); clear z_g; refine s_wit ?_; intro z_g; (first | refine s_skip rfl z_g z_fp ?_ | (refine s_pure (callOf_eq rfl rfl rfl (mlk_tmp z_lk (mlk_tmp z_lk mlk_nil))) (?missing) rfl z_g z_ip z_fp ?_)); clear z_g; refine s_wit ?_; intro z_g; (first | refine s_skip rfl z_g z_fp ?_ | (refine s_q [(25, _)] ?_ (hg := z_g))); clear z_g; refine s_wit ?_; intro z_g; (first | refine s_skip rfl z_g z_fp ?_ | (refine s_q [(26, _)] ?_ (hg := z_g))); clear z_g; refine s_m [(22, _), (27, _)] ?_; exact wpS_nil ⟨rfl, rfl⟩)) z_su ?_; clear z_ex)
        ((repeat refine WpM.seq ?_); refine WpM.condF (by (simp (maxSteps := 2000000) (disch := omega) [go_sem, -List.map_map, h2])) ?_)
        refine WpM.skip ?_
        ((repeat refine WpM.seq ?_); have z_ex := (And.intro @wrap_id True.intro); refine WpM.regPE [] [(1, _), (5, _), (12, _), (13, _), (14, _)] (by (refine s_q [(14, _)] ?_; refine s_m [(33, _)] ?_; exact wpS_nil ⟨rfl, rfl⟩)) z_su ?_; clear z_ex)
        exact round_end (x' := i + 1) (le_cut (n0 := n0) (l' := [(nr, some (.row 1 ys))]) hH (by (simp (maxSteps := 2000000) (disch := omega) [go_sem, -List.map_map]); omega) (Nat.le_refl _) (by (simp (maxSteps := 2000000) (disch := omega) [go_sem, -List.map_map]))) (Sub.le z_su) ⟨by omega, _, nr, ys, hnr, by show nr < nx + _; omega, no hp, rfl, rfl⟩ (by omega)
      · by_cases h3 : 0 < wl.length
        · have hp : writesB h key i = true := by rw [hwb]; simp [h2]; omega
          have hys' : ys ++ [V.d (.int .i64 i)] = intV (writersL h key (i + 1)) := by rw [hstep, hp, hys]; simp [intV]
          have h3' : (0 : Int) < wl.length := by omega
          have h3'' : ¬ wl = [] := by rintro rfl; simp at h3
          ((repeat refine WpM.seq ?_); have z_ex := (And.intro @h2 (And.intro @ints.eq_1 (And.intro @h3' (And.intro @h3'' True.intro)))); refine WpM.regPE [] [(1, _), (5, _), (6, _), (12, _), (13, _), (14, _), (28, _)] (by (refine s_f [(7, _)] ?_; refine s_l [(19, _)] ?_; refine s_q [(20, _)] ?_; refine s_m [(21, _)] ?_; refine s_wit ?_; intro z_g; (first | refine s_skip rfl z_g z_fp ?_ | (refine s_l [(7, _)] ?_ (hg := z_g))); clear z_g; refine s_wit ?_; intro z_g; (first | refine s_skip rfl z_g z_fp ?_ | (refine s_m [(1, _)] ?_ (hg := z_g))); clear z_g; refine s_wit ?_; intro z_g; (first | refine s_skip rfl z_g z_fp ?_ | (refine s_pure (callOf_eq rfl rfl rfl (mlk_tmp z_lk (mlk_tmp z_lk mlk_nil))) (hwr) rfl z_g z_ip z_fp ?_)); clear z_g; refine s_wit ?_; intro z_g; (first | refine s_skip rfl z_g z_fp ?_ | (refine s_q [(25, _)] ?_ (hg := z_g))); clear z_g; refine s_wit ?_; intro z_g; (first | refine s_skip rfl z_g z_fp ?_ | (refine s_q [(26, _)] ?_ (hg := z_g))); clear z_g; refine s_m [(22, _), (27, _)] ?_; exact wpS_nil ⟨rfl, rfl⟩)) z_su ?_; clear z_ex)
          ((repeat refine WpM.seq ?_); refine WpM.condT (by (simp (maxSteps := 2000000) (disch := omega) [go_sem, -List.map_map, h2, h3, h3', h3''])) ?_)
          ((repeat refine WpM.seq ?_); have z_ex := True.intro; refine WpM.regPE [] [(1, _), (5, _), (12, _), (13, _), (14, _)] (by (refine s_m [(5, _)] ?_; refine s_m [(6, _)] ?_; refine s_q [(30, _)] ?_; refine s_q [(29, _), (31, _)] ?_; refine s_m [(32, _)] ?_; exact wpS_nil ⟨rfl, rfl⟩)) z_su ?_; clear z_ex)
          ((repeat refine WpM.seq ?_); have z_ex := (And.intro @wrap_id True.intro); refine WpM.regPE [] [(1, _), (5, _), (12, _), (13, _), (14, _)] (by (refine s_q [(14, _)] ?_; refine s_m [(33, _)] ?_; exact wpS_nil ⟨rfl, rfl⟩)) z_su ?_; clear z_ex)
          exact round_end (x' := i + 1) (le_cut (n0 := n0) (l' := [(nx + 19, some (.row 1 (ys ++ [V.d (.int .i64 i)])))]) hH (by (simp (maxSteps := 2000000) (disch := omega) [go_sem, -List.map_map]); omega) (Nat.le_refl _) (by (simp (maxSteps := 2000000) (disch := omega) [go_sem, -List.map_map]))) (frLe_frOf (by (simp (maxSteps := 2000000) (disch := omega) [go_sem, -List.map_map, wrap_id]))) ⟨by omega, nx + 23, nx + 19, _, by omega, by omega, hys', rfl, by (simp (maxSteps := 2000000) (disch := omega) [go_sem, -List.map_map])⟩ (by omega)
        · have h3' : wl.length = 0 := by omega
          have h3'' : wl = [] := List.eq_nil_of_length_eq_zero h3'
          have hp : writesB h key i = false := by rw [hwb, h3'']; simp
          ((repeat refine WpM.seq ?_); have z_ex := (And.intro @h2 (And.intro @ints.eq_1 (And.intro @h3' (And.intro @h3'' True.intro)))); refine WpM.regPE [] [(1, _), (5, _), (6, _), (12, _), (13, _), (14, _), (28, _)] (by (refine s_f [(7, _)] ?_; refine s_l [(19, _)] ?_; refine s_q [(20, _)] ?_; refine s_m [(21, _)] ?_; refine s_wit ?_; intro z_g; (first | refine s_skip rfl z_g z_fp ?_ | (refine s_l [(7, _)] ?_ (hg := z_g))); clear z_g; refine s_wit ?_; intro z_g; (first | refine s_skip rfl z_g z_fp ?_ | (refine s_m [(1, _)] ?_ (hg := z_g))); clear z_g; refine s_wit ?_; intro z_g; (first | refine s_skip rfl z_g z_fp ?_ | (refine s_pure (callOf_eq rfl rfl rfl (mlk_tmp z_lk (mlk_tmp z_lk mlk_nil))) (hwr) rfl z_g z_ip z_fp ?_)); clear z_g; refine s_wit ?_; intro z_g; (first | refine s_skip rfl z_g z_fp ?_ | (refine s_q [(25, _)] ?_ (hg := z_g))); clear z_g; refine s_wit ?_; intro z_g; (first | refine s_skip rfl z_g z_fp ?_ | (refine s_q [(26, _)] ?_ (hg := z_g))); clear z_g; refine s_m [(22, _), (27, _)] ?_; exact wpS_nil ⟨rfl, rfl⟩)) z_su ?_; clear z_ex)
          ((repeat refine WpM.seq ?_); refine WpM.condF (by (simp (maxSteps := 2000000) (disch := omega) [go_sem, -List.map_map, h2, h3', h3''])) ?_)
          refine WpM.skip ?_
          ((repeat refine WpM.seq ?_); have z_ex := (And.intro @wrap_id True.intro); refine WpM.regPE [] [(1, _), (5, _), (12, _), (13, _), (14, _)] (by (refine s_q [(14, _)] ?_; refine s_m [(33, _)] ?_; exact wpS_nil ⟨rfl, rfl⟩)) z_su ?_; clear z_ex)
          exact round_end (x' := i + 1) (le_cut (n0 := n0) (l' := [(nr, some (.row 1 ys))]) hH (by (simp (maxSteps := 2000000) (disch := omega) [go_sem, -List.map_map]); omega) (Nat.le_refl _) (by (simp (maxSteps := 2000000) (disch := omega) [go_sem, -List.map_map]))) (Sub.le z_su) ⟨by omega, _, nr, ys, hnr, by show nr < nx + _; omega, no hp, rfl, rfl⟩ (by omega)
    · ((repeat refine WpM.seq ?_); refine WpM.condF (by (simp (maxSteps := 2000000) (disch := omega) [go_sem, -List.map_map, hit])) ?_)
      (refine WpM.exit ?_; (repeat (with_reducible (first | refine thenM_exit ?_ | refine blockM_eq ?_ | refine blockM_ne (by decide) ?_))))
      obtain rfl : i = h.txns.length := by omega
      ((repeat refine WpM.seq ?_); have z_ex := True.intro; refine WpM.regPE [] [(4, _)] (by (refine s_m [(5, _)] ?_; refine s_m [(34, _)] ?_; exact wpS_nil ⟨rfl, rfl⟩)) z_su ?_; clear z_ex)
      refine WpM.ret ?_
      refine ⟨.inr rfl, Upd.freeze 4 (nm := nr) (sz := 1) (o := 0) (m := ys.length) (xs := ys) ((writersL h key h.txns.length).map (D.int .i64)) (by (simp (maxSteps := 2000000) (disch := omega) [go_sem, -List.map_map])) (by (simp (maxSteps := 2000000) (disch := omega) [go_sem, -List.map_map])) (by rw [List.drop_zero, List.take_length, hys, intV, List.map_map]; rfl) (by rw [hys, intV]; simp) (Upd.done ⟨_, (by (simp (maxSteps := 2000000) (disch := omega) [go_sem, -List.map_map, resV, resVs, resV1, fset, ints])), rfl, fun m k _ hk => ?_⟩)⟩
      have := hH _ _ hk
      (simp (maxSteps := 2000000) (disch := omega) [go_sem, -List.map_map, hk])
end Go.Proofs.Ytjjmedgibcffhaa
