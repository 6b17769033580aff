/- The last part of the texts that stand behind this law. -/
import Derived.Test.YtjjmedgibcffhaaZc11
/- assizelaw05.IndexWriters. -/
namespace Go.Proofs.Ytjjmedgibcffhaa
open Go.RowKit M
set_option linter.unusedSimpArgs false
set_option linter.unusedVariables false
theorem writersL_get (h : HistD) (key : Int) : ∀ (n j : Nat) (hj : j < (writersL h key n).length), ∃ i, i < n ∧ (writersL h key n)[j] = (i : Int) := by
  intro n j hj
  have : (writersL h key n)[j] ∈ writersL h key n := List.getElem_mem _
  simp only [writersL, List.mem_map, List.mem_filter, List.mem_range] at this
  obtain ⟨i, ⟨hi, _⟩, e⟩ := this
  exact ⟨i, hi, e.symm⟩
/-- What stands behind the first n writers. -/
theorem writersL_app (h : HistD) (key : Int) (n : Nat) : ∀ d, ∃ r, writersL h key (n + d) = writersL h key n ++ r ∧ ∀ x ∈ r, (n : Int) ≤ x
  | 0 => ⟨[], by simp, by simp⟩
  | d + 1 => by
    obtain ⟨r, h1, h2⟩ := writersL_app h key n d
    refine ⟨r ++ if writesB h key (n + d) then [((n + d : Nat) : Int)] else [], by rw [← Nat.add_assoc, writersL_step, h1, List.append_assoc], fun x hx => ?_⟩
    rcases List.mem_append.1 hx with hx | hx
    · exact h2 x hx
    · split at hx
      · simp at hx; omega
      · cases hx
theorem writersL_at (h : HistD) (key : Int) {i N : Nat} (hi : i < N) : (∃ x, (writersL h key N)[(writersL h key i).length]? = some x ∧ x = (i : Int)) ↔ writesB h key i = true := by
  obtain ⟨r, h1, h2⟩ := writersL_app h key (i + 1) (N - (i + 1))
  rw [show i + 1 + (N - (i + 1)) = N by omega, writersL_step] at h1
  rw [h1]
  by_cases hw : writesB h key i = true
  · simp [hw]
  · rw [if_neg hw, List.append_nil, List.getElem?_append_right (Nat.le_refl _), Nat.sub_self]
    constructor
    · rintro ⟨x, hx, rfl⟩
      have := h2 _ (List.mem_of_getElem? hx)
      omega
    · intro hw'
      exact absurd hw' hw
set_option maxHeartbeats 8000000 in
theorem law15 (h : HistD) (hh : HistOk h) (key : Int) : PureC Try.prog 15 [.d (encHist h), .d (.int .i64 key)] (.d (.bool true)) := by
  refine PureC.of (n := 67) Try.func15 rfl rfl (by simp) (by simp only [argL, Nat.reduceAdd] <;> rfl) rfl ?_
  intro n0 H hH
  have hlen := hh.b.len
  have h40 := writers40 h hh key
  have h32 := check32 h hh
  ((repeat refine WpM.seq ?_); have z_ex := (And.intro @encHist.eq_1 True.intro); refine WpM.regPE [] [(1, _), (2, _)] (by (refine s_o [(0, _)] rfl rfl rfl z_su rfl q_box z_fp z_ss ?_; refine s_o [] rfl rfl rfl z_su rfl q_move z_fp z_ss ?_; exact wpS_nil ⟨rfl, rfl⟩)) z_su ?_; clear z_ex)
  ((repeat refine WpM.seq ?_); have z_ex := True.intro; refine WpM.regPE [] [(1, _), (2, _), (12, _)] (by (refine s_pure (callOf_eq rfl rfl rfl mlk_nil) (alive27) rfl rfl z_ip z_fp ?_; refine s_o [(11, _)] rfl rfl rfl z_su rfl q_unOp z_fp z_ss ?_; exact wpS_nil ⟨rfl, rfl⟩)) z_su ?_; clear z_ex)
  ((repeat refine WpM.seq ?_); refine WpM.condF (by (simp (maxSteps := 2000000) (disch := omega) [go_sem, -List.map_map])) ?_)
  refine WpM.skip ?_
  cases hok : checkB h with
  | false =>
    rw [hok, errno_f] at h32
    rw [writersF, hok] at h40
    simp only [Bool.false_eq_true, if_false] at h40
    ((repeat refine WpM.seq ?_); have z_ex := True.intro; refine WpM.regPE [] [(1, _), (2, _), (5, _)] (by (refine s_o [(2, _)] rfl rfl rfl z_su rfl q_load z_fp z_ss ?_; refine s_o [(1, _)] rfl rfl rfl z_su rfl q_move z_fp z_ss ?_; refine s_pure (callOf_eq rfl rfl rfl (mlk_tmp z_lk (mlk_tmp z_lk mlk_nil))) (h40) rfl rfl z_ip z_fp ?_; refine s_o [(15, _)] rfl rfl rfl z_su rfl q_move z_fp z_ss ?_; exact wpS_nil ⟨rfl, rfl⟩)) z_su ?_; clear z_ex)
    ((repeat refine WpM.seq ?_); have z_ex := True.intro; refine WpM.regPE [] [(1, _), (2, _), (5, _), (18, _)] (by (refine s_o [(2, _)] rfl rfl rfl z_su rfl q_load z_fp z_ss ?_; refine s_pure (callOf_eq rfl rfl rfl (mlk_tmp z_lk mlk_nil)) (h32) rfl rfl z_ip z_fp ?_; refine s_o [(17, _)] rfl rfl rfl z_su rfl q_full z_fp z_ss ?_; exact wpS_nil ⟨rfl, rfl⟩)) z_su ?_; clear z_ex)
    ((repeat refine WpM.seq ?_); refine WpM.condT (by (simp (maxSteps := 2000000) (disch := omega) [go_sem, -List.map_map])) ?_)
    ((repeat refine WpM.seq ?_); have z_ex := (And.intro @ints.eq_1 True.intro); refine WpM.regPE [] [(4, _)] (by (refine s_o [(5, _)] rfl rfl rfl z_su rfl q_move z_fp z_ss ?_; refine s_o [(19, _)] rfl rfl rfl z_su rfl q_full z_fp z_ss ?_; refine s_o [(20, _)] rfl rfl rfl z_su rfl q_full z_fp z_ss ?_; refine s_o [(21, _)] rfl rfl rfl z_su rfl q_move z_fp z_ss ?_; exact wpS_nil ⟨rfl, rfl⟩)) z_su ?_; clear z_ex)
    (refine WpM.ret ?_; refine ⟨.inr rfl, Upd.done ?_⟩; (simp (maxSteps := 2000000) (disch := omega) [go_sem, -List.map_map, resV, resVs, resV1,]))
  | true =>
    rw [hok, errno_t] at h32
    rw [writersF, if_pos hok] at h40
    obtain ⟨W, hW⟩ : ∃ W, W = writersL h key h.txns.length := ⟨_, rfl⟩
    rw [← hW] at h40
    have hWl : W.length ≤ h.txns.length := by rw [hW]; exact writersL_len _ _ _
    ((repeat refine WpM.seq ?_); have z_ex := True.intro; refine WpM.regPE [] [(1, _), (2, _), (5, _)] (by (refine s_o [(2, _)] rfl rfl rfl z_su rfl q_load z_fp z_ss ?_; refine s_o [(1, _)] rfl rfl rfl z_su rfl q_move z_fp z_ss ?_; refine s_pure (callOf_eq rfl rfl rfl (mlk_tmp z_lk (mlk_tmp z_lk mlk_nil))) (h40) rfl rfl z_ip z_fp ?_; refine s_o [(15, _)] rfl rfl rfl z_su rfl q_move z_fp z_ss ?_; exact wpS_nil ⟨rfl, rfl⟩)) z_su ?_; clear z_ex)
    ((repeat refine WpM.seq ?_); have z_ex := True.intro; refine WpM.regPE [] [(1, _), (2, _), (5, _), (18, _)] (by (refine s_o [(2, _)] rfl rfl rfl z_su rfl q_load z_fp z_ss ?_; refine s_pure (callOf_eq rfl rfl rfl (mlk_tmp z_lk mlk_nil)) (h32) rfl rfl z_ip z_fp ?_; refine s_o [(17, _)] rfl rfl rfl z_su rfl q_full z_fp z_ss ?_; exact wpS_nil ⟨rfl, rfl⟩)) z_su ?_; clear z_ex)
    ((repeat refine WpM.seq ?_); refine WpM.condF (by (simp (maxSteps := 2000000) (disch := omega) [go_sem, -List.map_map])) ?_)
    refine WpM.skip ?_
    ((repeat refine WpM.seq ?_); have z_ex := True.intro; refine WpM.regPE [] [(1, _), (2, _), (5, _), (6, _)] (by (refine s_o [] rfl rfl rfl z_su rfl q_move z_fp z_ss ?_; exact wpS_nil ⟨rfl, rfl⟩)) z_su ?_; clear z_ex)
    ((repeat refine WpM.seq ?_); have z_ex := True.intro; refine WpM.regPE [] [(1, _), (2, _), (5, _), (6, _), (7, _)] (by (refine s_o [] rfl rfl rfl z_su rfl q_move z_fp z_ss ?_; exact wpS_nil ⟨rfl, rfl⟩)) z_su ?_; clear z_ex)
    ((repeat refine WpM.seq ?_); refine WpM.block ?_)
    refine WpM.loop (fun (i : Nat) fr S => i ≤ h.txns.length ∧ (∃ nx, n0 < nx ∧ S = ⟨nx, [(n0, some (histBox h))], H⟩) ∧ fr = frOf [(1, .d (.int .i64 key)), (2, .ptr n0 0), (5, .d (.sl (W.map (D.int .i64)))), (6, .d (.int .i64 (writersL h key i).length)), (7, .d (.int .i64 i))]) (fun i => h.txns.length - i) 0 (le_cut (n0 := n0) (n' := n0 + 12) (l' := [(n0, some (histBox h))]) hH (by (simp (maxSteps := 2000000) (disch := omega) [go_sem, -List.map_map])) (by (simp (maxSteps := 2000000) (disch := omega) [go_sem, -List.map_map])) (by (simp (maxSteps := 2000000) (disch := omega) [go_sem, -List.map_map, histBox, strs]))) (Sub.le z_su) ⟨by omega, ⟨_, by omega, rfl⟩, rfl⟩ ?_
    rintro i fr S' ⟨hi, ⟨nx, hnx, rfl⟩, rfl⟩
    ((repeat refine WpM.seq ?_); have z_ex := (And.intro @histBox.eq_1 True.intro); refine WpM.regPE [] [(1, _), (2, _), (5, _), (6, _), (7, _), (26, _)] (by (refine s_o [(7, _)] rfl rfl rfl z_su rfl q_move z_fp z_ss ?_; refine s_o [(2, _)] rfl rfl rfl z_su rfl q_fieldAddr z_fp z_ss ?_; refine s_o [(23, _)] rfl rfl rfl z_su rfl q_load z_fp z_ss ?_; refine s_o [(24, _)] rfl rfl rfl z_su rfl q_full z_fp z_ss ?_; refine s_o [(22, _), (25, _)] rfl rfl rfl z_su rfl q_full z_fp z_ss ?_; exact wpS_nil ⟨rfl, rfl⟩)) z_su ?_; clear z_ex)
    by_cases hit : i < h.txns.length
    · ((repeat refine WpM.seq ?_); refine WpM.condT (by (simp (maxSteps := 2000000) (disch := omega) [go_sem, -List.map_map, hit])) ?_)
      refine WpM.skip ?_
      ((repeat refine WpM.seq ?_); refine WpM.block ?_)
      obtain ⟨t, ht⟩ : ∃ t, t = h.txns[i] := ⟨_, rfl⟩
      have hget : (h.txns.map encTxn)[i]? = some (encTxn t) := by simp [hit, ht]
      have h36 := final36 h hh i key
      rw [finalV_good hit hok, ← ht] at h36
      obtain ⟨wl, hwl⟩ : ∃ wl, wl = wroteL t.ops key := ⟨_, rfl⟩
      rw [← hwl] at h36
      have hwb : writesB h key i = (decide (t.status ≠ 2) && decide (0 < wl.length)) := by rw [writesB, List.getElem?_eq_getElem hit, ← ht, hwl]
      have hstep := writersL_step h key i
      have hat := writersL_at h key hit
      rw [← hW] at hat
      obtain ⟨k, hk⟩ : ∃ k, k = (writersL h key i).length := ⟨_, rfl⟩
      rw [← hk] at hat ⊢
      have hkn : (writersL h key (i + 1)).length = if writesB h key i then k + 1 else k := by rw [hstep, hk]; split <;> simp
      ((repeat refine WpM.seq ?_); have z_ex := (And.intro @histBox.eq_1 True.intro); refine WpM.regPE [] [(1, _), (2, _), (5, _), (6, _), (7, _), (9, _)] (by (refine s_o [(2, _)] rfl rfl rfl z_su rfl q_load z_fp z_ss ?_; refine s_o [(7, _)] rfl rfl rfl z_su rfl q_move z_fp z_ss ?_; refine s_o [(1, _)] rfl rfl rfl z_su rfl q_move z_fp z_ss ?_; refine s_pure (callOf_eq rfl rfl rfl (mlk_tmp z_lk (mlk_tmp z_lk (mlk_tmp z_lk mlk_nil)))) (h36) rfl rfl z_ip z_fp ?_; refine s_o [(33, _)] rfl rfl rfl z_su rfl q_move z_fp z_ss ?_; refine s_o [(29, _)] rfl rfl rfl z_su rfl q_extract z_fp z_ss ?_; refine s_o [(29, _)] rfl rfl rfl z_su rfl q_extract z_fp z_ss ?_; refine s_o [(34, _)] rfl rfl rfl z_su rfl q_move z_fp z_ss ?_; refine s_o [(35, _)] rfl rfl rfl z_su rfl q_move z_fp z_ss ?_; exact wpS_nil ⟨rfl, rfl⟩)) z_su ?_; clear z_ex)
      have hge : ∀ x : Int, W[k]? = some x → (W.map (D.int .i64))[k]? = some (.int .i64 x) := fun x hx => by rw [List.getElem?_map, hx]; rfl
      by_cases hwB : writesB h key i = true
      · obtain ⟨x, hx, hxi⟩ := hat.2 hwB
        subst hxi
        have hkl : k < W.length := (List.getElem?_eq_some_iff.1 hx).1
        have hgk := hge _ hx
        rw [hwB] at hwb
        have hwb' := hwb.symm
        simp only [Bool.and_eq_true, decide_eq_true_eq] at hwb'
        obtain ⟨h2, h3⟩ := hwb'
        rw [if_pos hwB] at hkn
        ((repeat refine WpM.seq ?_); have z_ex := (And.intro @hkl (And.intro @hgk True.intro)); refine WpM.regPE [] [(1, _), (2, _), (5, _), (6, _), (7, _), (9, _), (10, _)] (by (refine s_o [(6, _)] rfl rfl rfl z_su rfl q_move z_fp z_ss ?_; refine s_o [(5, _)] rfl rfl rfl z_su rfl q_move z_fp z_ss ?_; refine s_o [(37, _)] rfl rfl rfl z_su rfl q_full z_fp z_ss ?_; refine s_o [(36, _), (38, _)] rfl rfl rfl z_su rfl q_full z_fp z_ss ?_; refine s_o [(39, _)] rfl rfl rfl z_su rfl q_move z_fp z_ss ?_; refine s_wit ?_; intro z_g; (first | refine s_skip rfl z_g z_fp ?_ | (refine s_o [(5, _)] rfl z_g rfl z_su rfl q_move z_fp z_ss ?_)); clear z_g; refine s_wit ?_; intro z_g; (first | refine s_skip rfl z_g z_fp ?_ | (refine s_o [(6, _)] rfl z_g rfl z_su rfl q_move z_fp z_ss ?_)); clear z_g; refine s_wit ?_; intro z_g; (first | refine s_skip rfl z_g z_fp ?_ | (refine s_o [(41, _), (42, _)] rfl z_g rfl z_su rfl q_full z_fp z_ss ?_)); clear z_g; refine s_wit ?_; intro z_g; (first | refine s_skip rfl z_g z_fp ?_ | (refine s_o [(43, _)] rfl z_g rfl z_su rfl q_load z_fp z_ss ?_)); clear z_g; refine s_wit ?_; intro z_g; (first | refine s_skip rfl z_g z_fp ?_ | (refine s_o [(7, _)] rfl z_g rfl z_su rfl q_move z_fp z_ss ?_)); clear z_g; refine s_wit ?_; intro z_g; (first | refine s_skip rfl z_g z_fp ?_ | (refine s_o [(44, _), (45, _)] rfl z_g rfl z_su rfl q_full z_fp z_ss ?_)); clear z_g; refine s_o [(40, _), (46, _)] rfl rfl rfl z_su rfl q_move z_fp z_ss ?_; refine s_o [(47, _)] rfl rfl rfl z_su rfl q_move z_fp z_ss ?_; exact wpS_nil ⟨rfl, rfl⟩)) z_su ?_; clear z_ex)
        ((repeat refine WpM.seq ?_); have z_ex := (And.intro @h3 (And.intro @h2 (And.intro @histBox.eq_1 (And.intro @hget (And.intro @hit (And.intro @encTxn.eq_1 True.intro)))))); refine WpM.regPE [] [(1, _), (2, _), (5, _), (6, _), (7, _), (10, _), (59, _)] (by (refine s_o [(10, _)] rfl rfl rfl z_su rfl q_move z_fp z_ss ?_; refine s_o [(9, _)] rfl rfl rfl z_su rfl q_move z_fp z_ss ?_; refine s_o [(49, _)] rfl rfl rfl z_su rfl q_move z_fp z_ss ?_; refine s_wit ?_; intro z_g; (first | refine s_skip rfl z_g z_fp ?_ | (refine s_o [(2, _)] rfl z_g rfl z_su rfl q_fieldAddr z_fp z_ss ?_)); clear z_g; refine s_wit ?_; intro z_g; (first | refine s_skip rfl z_g z_fp ?_ | (refine s_o [(51, _)] rfl z_g rfl z_su rfl q_load z_fp z_ss ?_)); clear z_g; refine s_wit ?_; intro z_g; (first | refine s_skip rfl z_g z_fp ?_ | (refine s_o [(7, _)] rfl z_g rfl z_su rfl q_move z_fp z_ss ?_)); clear z_g; refine s_wit ?_; intro z_g; (first | refine s_skip rfl z_g z_fp ?_ | (refine s_o [(52, _), (53, _)] rfl z_g rfl z_su rfl q_full z_fp z_ss ?_)); clear z_g; refine s_wit ?_; intro z_g; (first | refine s_skip rfl z_g z_fp ?_ | (refine s_o [(54, _)] rfl z_g rfl z_su rfl q_fieldAddr z_fp z_ss ?_)); clear z_g; refine s_wit ?_; intro z_g; (first | refine s_skip rfl z_g z_fp ?_ | (refine s_o [(55, _)] rfl z_g rfl z_su rfl q_load z_fp z_ss ?_)); clear z_g; refine s_wit ?_; intro z_g; (first | refine s_skip rfl z_g z_fp ?_ | (refine s_o [(56, _)] rfl z_g rfl z_su rfl q_full z_fp z_ss ?_)); clear z_g; refine s_o [(50, _), (57, _)] rfl rfl rfl z_su rfl q_move z_fp z_ss ?_; refine s_o [(48, _), (58, _)] rfl rfl rfl z_su rfl q_full z_fp z_ss ?_; exact wpS_nil ⟨rfl, rfl⟩)) z_su ?_; clear z_ex)
        ((repeat refine WpM.seq ?_); refine WpM.condF (by (simp (maxSteps := 2000000) (disch := omega) [go_sem, -List.map_map])) ?_)
        refine WpM.skip ?_
        ((repeat refine WpM.seq ?_); have z_ex := True.intro; refine WpM.regPE [] [(1, _), (2, _), (5, _), (6, _), (7, _), (60, _)] (by (refine s_o [(10, _)] rfl rfl rfl z_su rfl q_move z_fp z_ss ?_; exact wpS_nil ⟨rfl, rfl⟩)) z_su ?_; clear z_ex)
        ((repeat refine WpM.seq ?_); refine WpM.condT (by (simp (maxSteps := 2000000) (disch := omega) [go_sem, -List.map_map])) ?_)
        ((repeat refine WpM.seq ?_); have z_ex := (And.intro @wrap_id True.intro); refine WpM.regPE [] [(1, _), (2, _), (5, _), (6, _), (7, _)] (by (refine s_o [(6, _)] rfl rfl rfl z_su rfl q_move z_fp z_ss ?_; refine s_o [(61, _)] rfl rfl rfl z_su rfl q_full z_fp z_ss ?_; refine s_o [(62, _)] rfl rfl rfl z_su rfl q_move z_fp z_ss ?_; exact wpS_nil ⟨rfl, rfl⟩)) z_su ?_; clear z_ex)
        ((repeat refine WpM.seq ?_); have z_ex := (And.intro @wrap_id True.intro); refine WpM.regPE [] [(1, _), (2, _), (5, _), (6, _), (7, _)] (by (refine s_o [(7, _)] rfl rfl rfl z_su rfl q_move z_fp z_ss ?_; refine s_o [(27, _)] rfl rfl rfl z_su rfl q_full z_fp z_ss ?_; refine s_o [(28, _)] rfl rfl rfl z_su rfl q_move z_fp z_ss ?_; exact wpS_nil ⟨rfl, rfl⟩)) z_su ?_; clear z_ex)
        exact round_end (x' := i + 1) (St.Le.refl _) (Sub.le (l' := [(1, .d (.int .i64 key)), (2, .ptr n0 0), (5, .d (.sl (W.map (D.int .i64)))), (6, .d (.int .i64 ((k + 1 : Nat) : Int))), (7, .d (.int .i64 ((i + 1 : Nat) : Int)))]) z_su) ⟨by omega, ⟨_, by omega, rfl⟩, by rw [hkn]⟩ (by omega)
      · rw [if_neg hwB] at hkn
        have hwF : writesB h key i = false := by simpa using hwB
        have hcase : (∃ x, W[k]? = some x ∧ k < W.length ∧ x ≠ (i : Int)) ∨ ¬ k < W.length := by
          by_cases hkl : k < W.length
          · exact .inl ⟨W[k], by simp [hkl], hkl, fun e => hwB (hat.1 ⟨W[k], by simp [hkl], e⟩)⟩
          · exact .inr hkl
        by_cases h3 : 0 < wl.length
        · have h2 : t.status = 2 := by
            rw [hwF] at hwb
            by_cases h2 : t.status = 2
            · exact h2
            · simp [h2] at hwb
              rw [hwb] at h3
              simp at h3
          rcases hcase with ⟨x, hx, hkl, hxi⟩ | hkl
          · have hgk := hge _ hx
            ((repeat refine WpM.seq ?_); have z_ex := (And.intro @hkl (And.intro @hgk (And.intro @hxi True.intro))); refine WpM.regPE [] [(1, _), (2, _), (5, _), (6, _), (7, _), (9, _), (10, _)] (by (refine s_o [(6, _)] rfl rfl rfl z_su rfl q_move z_fp z_ss ?_; refine s_o [(5, _)] rfl rfl rfl z_su rfl q_move z_fp z_ss ?_; refine s_o [(37, _)] rfl rfl rfl z_su rfl q_full z_fp z_ss ?_; refine s_o [(36, _), (38, _)] rfl rfl rfl z_su rfl q_full z_fp z_ss ?_; refine s_o [(39, _)] rfl rfl rfl z_su rfl q_move z_fp z_ss ?_; refine s_wit ?_; intro z_g; (first | refine s_skip rfl z_g z_fp ?_ | (refine s_o [(5, _)] rfl z_g rfl z_su rfl q_move z_fp z_ss ?_)); clear z_g; refine s_wit ?_; intro z_g; (first | refine s_skip rfl z_g z_fp ?_ | (refine s_o [(6, _)] rfl z_g rfl z_su rfl q_move z_fp z_ss ?_)); clear z_g; refine s_wit ?_; intro z_g; (first | refine s_skip rfl z_g z_fp ?_ | (refine s_o [(41, _), (42, _)] rfl z_g rfl z_su rfl q_full z_fp z_ss ?_)); clear z_g; refine s_wit ?_; intro z_g; (first | refine s_skip rfl z_g z_fp ?_ | (refine s_o [(43, _)] rfl z_g rfl z_su rfl q_load z_fp z_ss ?_)); clear z_g; refine s_wit ?_; intro z_g; (first | refine s_skip rfl z_g z_fp ?_ | (refine s_o [(7, _)] rfl z_g rfl z_su rfl q_move z_fp z_ss ?_)); clear z_g; refine s_wit ?_; intro z_g; (first | refine s_skip rfl z_g z_fp ?_ | (refine s_o [(44, _), (45, _)] rfl z_g rfl z_su rfl q_full z_fp z_ss ?_)); clear z_g; refine s_o [(40, _), (46, _)] rfl rfl rfl z_su rfl q_move z_fp z_ss ?_; refine s_o [(47, _)] rfl rfl rfl z_su rfl q_move z_fp z_ss ?_; exact wpS_nil ⟨rfl, rfl⟩)) z_su ?_; clear z_ex)
            ((repeat refine WpM.seq ?_); have z_ex := (And.intro @h3 (And.intro @h2 (And.intro @histBox.eq_1 (And.intro @hget (And.intro @hit (And.intro @encTxn.eq_1 True.intro)))))); refine WpM.regPE [] [(1, _), (2, _), (5, _), (6, _), (7, _), (10, _), (59, _)] (by (refine s_o [(10, _)] rfl rfl rfl z_su rfl q_move z_fp z_ss ?_; refine s_o [(9, _)] rfl rfl rfl z_su rfl q_move z_fp z_ss ?_; refine s_o [(49, _)] rfl rfl rfl z_su rfl q_move z_fp z_ss ?_; refine s_wit ?_; intro z_g; (first | refine s_skip rfl z_g z_fp ?_ | (refine s_o [(2, _)] rfl z_g rfl z_su rfl q_fieldAddr z_fp z_ss ?_)); clear z_g; refine s_wit ?_; intro z_g; (first | refine s_skip rfl z_g z_fp ?_ | (refine s_o [(51, _)] rfl z_g rfl z_su rfl q_load z_fp z_ss ?_)); clear z_g; refine s_wit ?_; intro z_g; (first | refine s_skip rfl z_g z_fp ?_ | (refine s_o [(7, _)] rfl z_g rfl z_su rfl q_move z_fp z_ss ?_)); clear z_g; refine s_wit ?_; intro z_g; (first | refine s_skip rfl z_g z_fp ?_ | (refine s_o [(52, _), (53, _)] rfl z_g rfl z_su rfl q_full z_fp z_ss ?_)); clear z_g; refine s_wit ?_; intro z_g; (first | refine s_skip rfl z_g z_fp ?_ | (refine s_o [(54, _)] rfl z_g rfl z_su rfl q_fieldAddr z_fp z_ss ?_)); clear z_g; refine s_wit ?_; intro z_g; (first | refine s_skip rfl z_g z_fp ?_ | (refine s_o [(55, _)] rfl z_g rfl z_su rfl q_load z_fp z_ss ?_)); clear z_g; refine s_wit ?_; intro z_g; (first | refine s_skip rfl z_g z_fp ?_ | (refine s_o [(56, _)] rfl z_g rfl z_su rfl q_full z_fp z_ss ?_)); clear z_g; refine s_o [(50, _), (57, _)] rfl rfl rfl z_su rfl q_move z_fp z_ss ?_; refine s_o [(48, _), (58, _)] rfl rfl rfl z_su rfl q_full z_fp z_ss ?_; exact wpS_nil ⟨rfl, rfl⟩)) z_su ?_; clear z_ex)
            ((repeat refine WpM.seq ?_); refine WpM.condF (by (simp (maxSteps := 2000000) (disch := omega) [go_sem, -List.map_map])) ?_)
            refine WpM.skip ?_
            ((repeat refine WpM.seq ?_); have z_ex := True.intro; refine WpM.regPE [] [(1, _), (2, _), (5, _), (6, _), (7, _), (60, _)] (by (refine s_o [(10, _)] rfl rfl rfl z_su rfl q_move z_fp z_ss ?_; exact wpS_nil ⟨rfl, rfl⟩)) z_su ?_; clear z_ex)
            ((repeat refine WpM.seq ?_); refine WpM.condF (by (simp (maxSteps := 2000000) (disch := omega) [go_sem, -List.map_map])) ?_)
            refine WpM.skip ?_
            ((repeat refine WpM.seq ?_); have z_ex := (And.intro @wrap_id True.intro); refine WpM.regPE [] [(1, _), (2, _), (5, _), (6, _), (7, _)] (by (refine s_o [(7, _)] rfl rfl rfl z_su rfl q_move z_fp z_ss ?_; refine s_o [(27, _)] rfl rfl rfl z_su rfl q_full z_fp z_ss ?_; refine s_o [(28, _)] rfl rfl rfl z_su rfl q_move z_fp z_ss ?_; exact wpS_nil ⟨rfl, rfl⟩)) z_su ?_; clear z_ex)
            exact round_end (x' := i + 1) (St.Le.refl _) (Sub.le (l' := [(1, .d (.int .i64 key)), (2, .ptr n0 0), (5, .d (.sl (W.map (D.int .i64)))), (6, .d (.int .i64 ((k : Nat) : Int))), (7, .d (.int .i64 ((i + 1 : Nat) : Int)))]) z_su) ⟨by omega, ⟨_, by omega, rfl⟩, by rw [hkn]⟩ (by omega)
          · ((repeat refine WpM.seq ?_); have z_ex := (And.intro @hkl True.intro); refine WpM.regPE [] [(1, _), (2, _), (5, _), (6, _), (7, _), (9, _), (10, _)] (by (refine s_o [(6, _)] rfl rfl rfl z_su rfl q_move z_fp z_ss ?_; refine s_o [(5, _)] rfl rfl rfl z_su rfl q_move z_fp z_ss ?_; refine s_o [(37, _)] rfl rfl rfl z_su rfl q_full z_fp z_ss ?_; refine s_o [(36, _), (38, _)] rfl rfl rfl z_su rfl q_full z_fp z_ss ?_; refine s_o [(39, _)] rfl rfl rfl z_su rfl q_move z_fp z_ss ?_; refine s_wit ?_; intro z_g; (first | refine s_skip rfl z_g z_fp ?_ | (refine s_o [(5, _)] rfl z_g rfl z_su rfl q_move z_fp z_ss ?_)); clear z_g; refine s_wit ?_; intro z_g; (first | refine s_skip rfl z_g z_fp ?_ | (refine s_o [(6, _)] rfl z_g rfl z_su rfl q_move z_fp z_ss ?_)); clear z_g; refine s_wit ?_; intro z_g; (first | refine s_skip rfl z_g z_fp ?_ | (refine s_o [(41, _), (42, _)] rfl z_g rfl z_su rfl q_full z_fp z_ss ?_)); clear z_g; refine s_wit ?_; intro z_g; (first | refine s_skip rfl z_g z_fp ?_ | (refine s_o [(43, _)] rfl z_g rfl z_su rfl q_load z_fp z_ss ?_)); clear z_g; refine s_wit ?_; intro z_g; (first | refine s_skip rfl z_g z_fp ?_ | (refine s_o [(7, _)] rfl z_g rfl z_su rfl q_move z_fp z_ss ?_)); clear z_g; refine s_wit ?_; intro z_g; (first | refine s_skip rfl z_g z_fp ?_ | (refine s_o [(44, _), (45, _)] rfl z_g rfl z_su rfl q_full z_fp z_ss ?_)); clear z_g; refine s_o [(40, _), (46, _)] rfl rfl rfl z_su rfl q_move z_fp z_ss ?_; refine s_o [(47, _)] rfl rfl rfl z_su rfl q_move z_fp z_ss ?_; exact wpS_nil ⟨rfl, rfl⟩)) z_su ?_; clear z_ex)
            ((repeat refine WpM.seq ?_); have z_ex := (And.intro @h3 (And.intro @h2 (And.intro @histBox.eq_1 (And.intro @hget (And.intro @hit (And.intro @encTxn.eq_1 True.intro)))))); refine WpM.regPE [] [(1, _), (2, _), (5, _), (6, _), (7, _), (10, _), (59, _)] (by (refine s_o [(10, _)] rfl rfl rfl z_su rfl q_move z_fp z_ss ?_; refine s_o [(9, _)] rfl rfl rfl z_su rfl q_move z_fp z_ss ?_; refine s_o [(49, _)] rfl rfl rfl z_su rfl q_move z_fp z_ss ?_; refine s_wit ?_; intro z_g; (first | refine s_skip rfl z_g z_fp ?_ | (refine s_o [(2, _)] rfl z_g rfl z_su rfl q_fieldAddr z_fp z_ss ?_)); clear z_g; refine s_wit ?_; intro z_g; (first | refine s_skip rfl z_g z_fp ?_ | (refine s_o [(51, _)] rfl z_g rfl z_su rfl q_load z_fp z_ss ?_)); clear z_g; refine s_wit ?_; intro z_g; (first | refine s_skip rfl z_g z_fp ?_ | (refine s_o [(7, _)] rfl z_g rfl z_su rfl q_move z_fp z_ss ?_)); clear z_g; refine s_wit ?_; intro z_g; (first | refine s_skip rfl z_g z_fp ?_ | (refine s_o [(52, _), (53, _)] rfl z_g rfl z_su rfl q_full z_fp z_ss ?_)); clear z_g; refine s_wit ?_; intro z_g; (first | refine s_skip rfl z_g z_fp ?_ | (refine s_o [(54, _)] rfl z_g rfl z_su rfl q_fieldAddr z_fp z_ss ?_)); clear z_g; refine s_wit ?_; intro z_g; (first | refine s_skip rfl z_g z_fp ?_ | (refine s_o [(55, _)] rfl z_g rfl z_su rfl q_load z_fp z_ss ?_)); clear z_g; refine s_wit ?_; intro z_g; (first | refine s_skip rfl z_g z_fp ?_ | (refine s_o [(56, _)] rfl z_g rfl z_su rfl q_full z_fp z_ss ?_)); clear z_g; refine s_o [(50, _), (57, _)] rfl rfl rfl z_su rfl q_move z_fp z_ss ?_; refine s_o [(48, _), (58, _)] rfl rfl rfl z_su rfl q_full z_fp z_ss ?_; exact wpS_nil ⟨rfl, rfl⟩)) z_su ?_; clear z_ex)
            ((repeat refine WpM.seq ?_); refine WpM.condF (by (simp (maxSteps := 2000000) (disch := omega) [go_sem, -List.map_map])) ?_)
            refine WpM.skip ?_
            ((repeat refine WpM.seq ?_); have z_ex := True.intro; refine WpM.regPE [] [(1, _), (2, _), (5, _), (6, _), (7, _), (60, _)] (by (refine s_o [(10, _)] rfl rfl rfl z_su rfl q_move z_fp z_ss ?_; exact wpS_nil ⟨rfl, rfl⟩)) z_su ?_; clear z_ex)
            ((repeat refine WpM.seq ?_); refine WpM.condF (by (simp (maxSteps := 2000000) (disch := omega) [go_sem, -List.map_map])) ?_)
            refine WpM.skip ?_
            ((repeat refine WpM.seq ?_); have z_ex := (And.intro @wrap_id True.intro); refine WpM.regPE [] [(1, _), (2, _), (5, _), (6, _), (7, _)] (by (refine s_o [(7, _)] rfl rfl rfl z_su rfl q_move z_fp z_ss ?_; refine s_o [(27, _)] rfl rfl rfl z_su rfl q_full z_fp z_ss ?_; refine s_o [(28, _)] rfl rfl rfl z_su rfl q_move z_fp z_ss ?_; exact wpS_nil ⟨rfl, rfl⟩)) z_su ?_; clear z_ex)
            exact round_end (x' := i + 1) (St.Le.refl _) (Sub.le (l' := [(1, .d (.int .i64 key)), (2, .ptr n0 0), (5, .d (.sl (W.map (D.int .i64)))), (6, .d (.int .i64 ((k : Nat) : Int))), (7, .d (.int .i64 ((i + 1 : Nat) : Int)))]) z_su) ⟨by omega, ⟨_, by omega, rfl⟩, by rw [hkn]⟩ (by omega)
        · rcases hcase with ⟨x, hx, hkl, hxi⟩ | hkl
          · have hgk := hge _ hx
            ((repeat refine WpM.seq ?_); have z_ex := (And.intro @hkl (And.intro @hgk (And.intro @hxi True.intro))); refine WpM.regPE [] [(1, _), (2, _), (5, _), (6, _), (7, _), (9, _), (10, _)] (by (refine s_o [(6, _)] rfl rfl rfl z_su rfl q_move z_fp z_ss ?_; refine s_o [(5, _)] rfl rfl rfl z_su rfl q_move z_fp z_ss ?_; refine s_o [(37, _)] rfl rfl rfl z_su rfl q_full z_fp z_ss ?_; refine s_o [(36, _), (38, _)] rfl rfl rfl z_su rfl q_full z_fp z_ss ?_; refine s_o [(39, _)] rfl rfl rfl z_su rfl q_move z_fp z_ss ?_; refine s_wit ?_; intro z_g; (first | refine s_skip rfl z_g z_fp ?_ | (refine s_o [(5, _)] rfl z_g rfl z_su rfl q_move z_fp z_ss ?_)); clear z_g; refine s_wit ?_; intro z_g; (first | refine s_skip rfl z_g z_fp ?_ | (refine s_o [(6, _)] rfl z_g rfl z_su rfl q_move z_fp z_ss ?_)); clear z_g; refine s_wit ?_; intro z_g; (first | refine s_skip rfl z_g z_fp ?_ | (refine s_o [(41, _), (42, _)] rfl z_g rfl z_su rfl q_full z_fp z_ss ?_)); clear z_g; refine s_wit ?_; intro z_g; (first | refine s_skip rfl z_g z_fp ?_ | (refine s_o [(43, _)] rfl z_g rfl z_su rfl q_load z_fp z_ss ?_)); clear z_g; refine s_wit ?_; intro z_g; (first | refine s_skip rfl z_g z_fp ?_ | (refine s_o [(7, _)] rfl z_g rfl z_su rfl q_move z_fp z_ss ?_)); clear z_g; refine s_wit ?_; intro z_g; (first | refine s_skip rfl z_g z_fp ?_ | (refine s_o [(44, _), (45, _)] rfl z_g rfl z_su rfl q_full z_fp z_ss ?_)); clear z_g; refine s_o [(40, _), (46, _)] rfl rfl rfl z_su rfl q_move z_fp z_ss ?_; refine s_o [(47, _)] rfl rfl rfl z_su rfl q_move z_fp z_ss ?_; exact wpS_nil ⟨rfl, rfl⟩)) z_su ?_; clear z_ex)
            ((repeat refine WpM.seq ?_); have z_ex := (And.intro @h3 True.intro); refine WpM.regPE [] [(1, _), (2, _), (5, _), (6, _), (7, _), (10, _), (59, _)] (by (refine s_o [(10, _)] rfl rfl rfl z_su rfl q_move z_fp z_ss ?_; refine s_o [(9, _)] rfl rfl rfl z_su rfl q_move z_fp z_ss ?_; refine s_o [(49, _)] rfl rfl rfl z_su rfl q_move z_fp z_ss ?_; refine s_wit ?_; intro z_g; (first | refine s_skip rfl z_g z_fp ?_ | (refine s_o [(2, _)] rfl z_g rfl z_su rfl q_fieldAddr z_fp z_ss ?_)); clear z_g; refine s_wit ?_; intro z_g; (first | refine s_skip rfl z_g z_fp ?_ | (refine s_o [(51, _)] rfl z_g rfl z_su rfl q_load z_fp z_ss ?_)); clear z_g; refine s_wit ?_; intro z_g; (first | refine s_skip rfl z_g z_fp ?_ | (refine s_o [(7, _)] rfl z_g rfl z_su rfl q_move z_fp z_ss ?_)); clear z_g; refine s_wit ?_; intro z_g; (first | refine s_skip rfl z_g z_fp ?_ | (refine s_o [(52, _), (53, _)] rfl z_g rfl z_su rfl q_full z_fp z_ss ?_)); clear z_g; refine s_wit ?_; intro z_g; (first | refine s_skip rfl z_g z_fp ?_ | (refine s_o [(54, _)] rfl z_g rfl z_su rfl q_fieldAddr z_fp z_ss ?_)); clear z_g; refine s_wit ?_; intro z_g; (first | refine s_skip rfl z_g z_fp ?_ | (refine s_o [(55, _)] rfl z_g rfl z_su rfl q_load z_fp z_ss ?_)); clear z_g; refine s_wit ?_; intro z_g; (first | refine s_skip rfl z_g z_fp ?_ | (refine s_o [(56, _)] rfl z_g rfl z_su rfl q_full z_fp z_ss ?_)); clear z_g; refine s_o [(50, _), (57, _)] rfl rfl rfl z_su rfl q_move z_fp z_ss ?_; refine s_o [(48, _), (58, _)] rfl rfl rfl z_su rfl q_full z_fp z_ss ?_; exact wpS_nil ⟨rfl, rfl⟩)) z_su ?_; clear z_ex)
            ((repeat refine WpM.seq ?_); refine WpM.condF (by (simp (maxSteps := 2000000) (disch := omega) [go_sem, -List.map_map])) ?_)
            refine WpM.skip ?_
            ((repeat refine WpM.seq ?_); have z_ex := True.intro; refine WpM.regPE [] [(1, _), (2, _), (5, _), (6, _), (7, _), (60, _)] (by (refine s_o [(10, _)] rfl rfl rfl z_su rfl q_move z_fp z_ss ?_; exact wpS_nil ⟨rfl, rfl⟩)) z_su ?_; clear z_ex)
            ((repeat refine WpM.seq ?_); refine WpM.condF (by (simp (maxSteps := 2000000) (disch := omega) [go_sem, -List.map_map])) ?_)
            refine WpM.skip ?_
            ((repeat refine WpM.seq ?_); have z_ex := (And.intro @wrap_id True.intro); refine WpM.regPE [] [(1, _), (2, _), (5, _), (6, _), (7, _)] (by (refine s_o [(7, _)] rfl rfl rfl z_su rfl q_move z_fp z_ss ?_; refine s_o [(27, _)] rfl rfl rfl z_su rfl q_full z_fp z_ss ?_; refine s_o [(28, _)] rfl rfl rfl z_su rfl q_move z_fp z_ss ?_; exact wpS_nil ⟨rfl, rfl⟩)) z_su ?_; clear z_ex)
            exact round_end (x' := i + 1) (St.Le.refl _) (Sub.le (l' := [(1, .d (.int .i64 key)), (2, .ptr n0 0), (5, .d (.sl (W.map (D.int .i64)))), (6, .d (.int .i64 ((k : Nat) : Int))), (7, .d (.int .i64 ((i + 1 : Nat) : Int)))]) z_su) ⟨by omega, ⟨_, by omega, rfl⟩, by rw [hkn]⟩ (by omega)
          · ((repeat refine WpM.seq ?_); have z_ex := (And.intro @hkl True.intro); refine WpM.regPE [] [(1, _), (2, _), (5, _), (6, _), (7, _), (9, _), (10, _)] (by (refine s_o [(6, _)] rfl rfl rfl z_su rfl q_move z_fp z_ss ?_; refine s_o [(5, _)] rfl rfl rfl z_su rfl q_move z_fp z_ss ?_; refine s_o [(37, _)] rfl rfl rfl z_su rfl q_full z_fp z_ss ?_; refine s_o [(36, _), (38, _)] rfl rfl rfl z_su rfl q_full z_fp z_ss ?_; refine s_o [(39, _)] rfl rfl rfl z_su rfl q_move z_fp z_ss ?_; refine s_wit ?_; intro z_g; (first | refine s_skip rfl z_g z_fp ?_ | (refine s_o [(5, _)] rfl z_g rfl z_su rfl q_move z_fp z_ss ?_)); clear z_g; refine s_wit ?_; intro z_g; (first | refine s_skip rfl z_g z_fp ?_ | (refine s_o [(6, _)] rfl z_g rfl z_su rfl q_move z_fp z_ss ?_)); clear z_g; refine s_wit ?_; intro z_g; (first | refine s_skip rfl z_g z_fp ?_ | (refine s_o [(41, _), (42, _)] rfl z_g rfl z_su rfl q_full z_fp z_ss ?_)); clear z_g; refine s_wit ?_; intro z_g; (first | refine s_skip rfl z_g z_fp ?_ | (refine s_o [(43, _)] rfl z_g rfl z_su rfl q_load z_fp z_ss ?_)); clear z_g; refine s_wit ?_; intro z_g; (first | refine s_skip rfl z_g z_fp ?_ | (refine s_o [(7, _)] rfl z_g rfl z_su rfl q_move z_fp z_ss ?_)); clear z_g; refine s_wit ?_; intro z_g; (first | refine s_skip rfl z_g z_fp ?_ | (refine s_o [(44, _), (45, _)] rfl z_g rfl z_su rfl q_full z_fp z_ss ?_)); clear z_g; refine s_o [(40, _), (46, _)] rfl rfl rfl z_su rfl q_move z_fp z_ss ?_; refine s_o [(47, _)] rfl rfl rfl z_su rfl q_move z_fp z_ss ?_; exact wpS_nil ⟨rfl, rfl⟩)) z_su ?_; clear z_ex)
            ((repeat refine WpM.seq ?_); have z_ex := (And.intro @h3 True.intro); refine WpM.regPE [] [(1, _), (2, _), (5, _), (6, _), (7, _), (10, _), (59, _)] (by (refine s_o [(10, _)] rfl rfl rfl z_su rfl q_move z_fp z_ss ?_; refine s_o [(9, _)] rfl rfl rfl z_su rfl q_move z_fp z_ss ?_; refine s_o [(49, _)] rfl rfl rfl z_su rfl q_move z_fp z_ss ?_; refine s_wit ?_; intro z_g; (first | refine s_skip rfl z_g z_fp ?_ | (refine s_o [(2, _)] rfl z_g rfl z_su rfl q_fieldAddr z_fp z_ss ?_)); clear z_g; refine s_wit ?_; intro z_g; (first | refine s_skip rfl z_g z_fp ?_ | (refine s_o [(51, _)] rfl z_g rfl z_su rfl q_load z_fp z_ss ?_)); clear z_g; refine s_wit ?_; intro z_g; (first | refine s_skip rfl z_g z_fp ?_ | (refine s_o [(7, _)] rfl z_g rfl z_su rfl q_move z_fp z_ss ?_)); clear z_g; refine s_wit ?_; intro z_g; (first | refine s_skip rfl z_g z_fp ?_ | (refine s_o [(52, _), (53, _)] rfl z_g rfl z_su rfl q_full z_fp z_ss ?_)); clear z_g; refine s_wit ?_; intro z_g; (first | refine s_skip rfl z_g z_fp ?_ | (refine s_o [(54, _)] rfl z_g rfl z_su rfl q_fieldAddr z_fp z_ss ?_)); clear z_g; refine s_wit ?_; intro z_g; (first | refine s_skip rfl z_g z_fp ?_ | (refine s_o [(55, _)] rfl z_g rfl z_su rfl q_load z_fp z_ss ?_)); clear z_g; refine s_wit ?_; intro z_g; (first | refine s_skip rfl z_g z_fp ?_ | (refine s_o [(56, _)] rfl z_g rfl z_su rfl q_full z_fp z_ss ?_)); clear z_g; refine s_o [(50, _), (57, _)] rfl rfl rfl z_su rfl q_move z_fp z_ss ?_; refine s_o [(48, _), (58, _)] rfl rfl rfl z_su rfl q_full z_fp z_ss ?_; exact wpS_nil ⟨rfl, rfl⟩)) z_su ?_; clear z_ex)
            ((repeat refine WpM.seq ?_); refine WpM.condF (by (simp (maxSteps := 2000000) (disch := omega) [go_sem, -List.map_map])) ?_)
            refine WpM.skip ?_
            ((repeat refine WpM.seq ?_); have z_ex := True.intro; refine WpM.regPE [] [(1, _), (2, _), (5, _), (6, _), (7, _), (60, _)] (by (refine s_o [(10, _)] rfl rfl rfl z_su rfl q_move z_fp z_ss ?_; exact wpS_nil ⟨rfl, rfl⟩)) z_su ?_; clear z_ex)
            ((repeat refine WpM.seq ?_); refine WpM.condF (by (simp (maxSteps := 2000000) (disch := omega) [go_sem, -List.map_map])) ?_)
            refine WpM.skip ?_
            ((repeat refine WpM.seq ?_); have z_ex := (And.intro @wrap_id True.intro); refine WpM.regPE [] [(1, _), (2, _), (5, _), (6, _), (7, _)] (by (refine s_o [(7, _)] rfl rfl rfl z_su rfl q_move z_fp z_ss ?_; refine s_o [(27, _)] rfl rfl rfl z_su rfl q_full z_fp z_ss ?_; refine s_o [(28, _)] rfl rfl rfl z_su rfl q_move z_fp z_ss ?_; exact wpS_nil ⟨rfl, rfl⟩)) z_su ?_; clear z_ex)
            exact round_end (x' := i + 1) (St.Le.refl _) (Sub.le (l' := [(1, .d (.int .i64 key)), (2, .ptr n0 0), (5, .d (.sl (W.map (D.int .i64)))), (6, .d (.int .i64 ((k : Nat) : Int))), (7, .d (.int .i64 ((i + 1 : Nat) : Int)))]) z_su) ⟨by omega, ⟨_, by omega, rfl⟩, by rw [hkn]⟩ (by omega)
    · ((repeat refine WpM.seq ?_); refine WpM.condF (by (simp (maxSteps := 2000000) (disch := omega) [go_sem, -List.map_map, hit])) ?_)
      (refine WpM.exit ?_; (repeat (with_reducible (first | refine thenM_exit ?_ | refine blockM_eq ?_ | refine blockM_ne (by decide) ?_))))
      obtain rfl : i = h.txns.length := by omega
      rw [← hW]
      ((repeat refine WpM.seq ?_); have z_ex := True.intro; refine WpM.regPE [] [(4, _)] (by (refine s_o [(6, _)] rfl rfl rfl z_su rfl q_move z_fp z_ss ?_; refine s_o [(5, _)] rfl rfl rfl z_su rfl q_move z_fp z_ss ?_; refine s_o [(64, _)] rfl rfl rfl z_su rfl q_full z_fp z_ss ?_; refine s_o [(63, _), (65, _)] rfl rfl rfl z_su rfl q_full z_fp z_ss ?_; refine s_o [(66, _)] rfl rfl rfl z_su rfl q_move z_fp z_ss ?_; exact wpS_nil ⟨rfl, rfl⟩)) z_su ?_; clear z_ex)
      (refine WpM.ret ?_; refine ⟨.inr rfl, Upd.done ?_⟩; (simp (maxSteps := 2000000) (disch := omega) [go_sem, -List.map_map, resV, resVs, resV1,]))
end Go.Proofs.Ytjjmedgibcffhaa
